-- printed by a program of this session (xprint, turned from the kit's print) for this claim
import Derived.Test.YtlgoindmpejgcaaProg
import Derived.Test.YtlgoindmpejgcaaXOpens
import Derived.Below
import Derived.Deep.Draws
import Derived.Deep.AppendLies
import Derived.Maps.AppendAt
import Derived.OwnWalk
import Derived.Laws.BytesArg
import Derived.Laws.MakeOwn
import Derived.Laws.OwnMore
import Derived.Deep.OwnRows
import Derived.Tactics
import Derived.Lib.ConvBytes
import Derived.Laws.Slices
import Derived.WalkKit
import Derived.KernelRfl
import Derived.RowKit3
import Derived.Deep.LoopGhost
import Derived.Deep.QuietTactic
import Derived.BigQuiet
import Derived.WideLaws
import Derived.Deep.DeepCutAuto
import Derived.Deep.CutBlock
import Derived.Deep.RegionHeld3
import Derived.Laws.Rows
import Derived.Lib.AppendStr
import Derived.ArgAppend
import Derived.Laws.IdiomCopy
import Derived.OrdersHeld
import Derived.Laws.BitsLemmas
import Derived.RowKit
import Derived.Test.YtlgoindmpejgcaaWWords
import Derived.Test.YtlgoindmpejgcaaWLast
import Derived.Test.YtlgoindmpejgcaaWTab
import Derived.Test.YtlgoindmpejgcaaWFour
import Derived.Test.YtlgoindmpejgcaaWQPut
import Derived.Test.YtlgoindmpejgcaaWApart
import Derived.Test.YtlgoindmpejgcaaWArr
import Derived.Test.YtlgoindmpejgcaaWZeros
import Derived.Test.YtlgoindmpejgcaaWFoot
import Derived.Test.YtlgoindmpejgcaaWKept
import Derived.Test.YtlgoindmpejgcaaWShare
import Derived.Test.YtlgoindmpejgcaaWN
import Derived.Test.YtlgoindmpejgcaaWFootNe
import Derived.Test.YtlgoindmpejgcaaWAt
import Derived.Test.YtlgoindmpejgcaaWEqStruct
import Derived.Test.YtlgoindmpejgcaaWRepsOne
import Derived.Test.YtlgoindmpejgcaaWInv
import Derived.Test.YtlgoindmpejgcaaWInvWords
import Derived.Test.YtlgoindmpejgcaaWGuard
import Derived.Test.YtlgoindmpejgcaaWNEv
import Derived.Test.YtlgoindmpejgcaaWMore
namespace Go.Proofs.Ytlgoindmpejgcaa.XWidest
open Go.RowKit Go.Proofs.YtlgoindmpejgcaaW.PrintWords Go.Proofs.YtlgoindmpejgcaaW.PrintLast Go.Proofs.YtlgoindmpejgcaaW.PrintMore
attribute [local go_sem] max2_int min2_int max_two min_two max_three min_three max_four min_four   -- for this text's walks alone
set_option linter.unusedVariables false
set_option linter.unusedSimpArgs false



def errW : Option Int → Value
  | none => .nilIface
  | some c => .iface 0 (.int .i64 c)
theorem errW_none : errW none = .nilIface := rfl
theorem errW_some (c : Int) : errW (some c) = .iface 0 (.int .i64 c) := rfl

theorem info51 : (Try.prog.info? 51).map (fun i => (i.zero, i.size, i.bytes)) = some (some (.agg #[(.slice none 0 0)]), 1, 24) := by kernel_rfl
theorem info90 : (Try.prog.info? 90).map (fun i => (i.zero, i.size, i.bytes)) = some (some (.agg #[(.int .i64 0), (.int .i64 0), (.slice none 0 0)]), 3, 40) := by kernel_rfl
theorem info111 : (Try.prog.info? 111).map (fun i => (i.zero, i.size, i.bytes)) = some (some (.agg #[(.bool false), (.int .i64 0), (.int .i64 0), (.slice none 0 0), (.int .i64 0), (.int .i64 0), (.slice none 0 0)]), 7, 88) := by kernel_rfl
-- the values' own types
/-! #### struct type 81, nested in itself -/
structure L_Term where
  f0 : Int
  f1 : Int
  f2 : (List L_Term)
def zL_Term : L_Term := ⟨(0 : Int), (0 : Int), ([] : List L_Term)⟩
def F81 (d : Kd L_Term) : Kd L_Term := Kd.iso (Kd.pair (Kd.int .i64) (Kd.pair (Kd.int .i64) (Kd.slice 81 d))) (fun x : L_Term => (x.f0, x.f1, x.f2))
theorem mono81 : Kd.Mono F81 := Kd.mono_iso _ (Kd.mono_pair (Kd.mono_const _) (Kd.mono_pair (Kd.mono_const _) (Kd.mono_slice 81 Kd.mono_id)))
theorem sub81 : Kd.Sub F81 [81] := Kd.sub_iso _ (Kd.sub_pair (Kd.sub_const _ (by decide)) (Kd.sub_pair (Kd.sub_const _ (by decide)) (Kd.sub_slice 81 (by decide) Kd.sub_id)))
theorem sz81 : ∀ n, (Kd.upto F81 3 [81] n).sz = 3 := Kd.upto_sz (fun _ => rfl)
def k81 : Kd L_Term := Kd.fix F81 3 [81] sz81 (Kd.upto_E sub81)
theorem k81_open {w : World} {x : L_Term} {cs : List Value} (h : k81.K w x cs) : ∃ A2 c2, cs = [.int .i64 x.f0, .int .i64 x.f1, .slice A2 x.f2.length c2] ∧ x.f2.length ≤ c2 ∧ k81.C w A2 x.f2.length x.f2 := by
  obtain ⟨n, h⟩ := h
  cases n with
  | zero => exact h.elim
  | succ n =>
    obtain ⟨_, _, rfl, rfl, ⟨_, _, rfl, rfl, ⟨A2, c2, rfl, l2, g2⟩⟩⟩ := h
    exact ⟨A2, c2, rfl, l2, Kd.fix_C g2⟩
theorem k81_openM {w : World} {base : Nat} {ok : Nat → Prop} {x : L_Term} {cs : List Value} (h : k81.M w base ok x cs) : ∃ v2, cs = [.int .i64 x.f0, .int .i64 x.f1, v2] ∧ k81.R 81 w base ok v2 x.f2 := by
  obtain ⟨n, h⟩ := h
  cases n with
  | zero => exact h.elim
  | succ n =>
    obtain ⟨_, _, rfl, rfl, ⟨_, _, rfl, rfl, ⟨v2, rfl, g2⟩⟩⟩ := h
    exact ⟨v2, rfl, Kd.fix_R g2⟩
theorem k81_mk (w : World) (x : L_Term) {A2 : Option Addr} {c2 : Nat} (l2 : x.f2.length ≤ c2) (g2 : k81.C w A2 x.f2.length x.f2) : k81.K w x [.int .i64 x.f0, .int .i64 x.f1, .slice A2 x.f2.length c2] := by
  obtain ⟨n2, q2⟩ := Kd.fix_C_back mono81 g2
  have r2 := Kd.upto_C_le mono81 sz81 (show n2 ≤ n2 by omega) q2
  exact ⟨n2 + 1, ⟨[.int .i64 x.f0], [.int .i64 x.f1, .slice A2 x.f2.length c2], rfl, rfl, ⟨[.int .i64 x.f1], [.slice A2 x.f2.length c2], rfl, rfl, ⟨A2, c2, rfl, l2, r2⟩⟩⟩⟩
theorem k81_mkM (w : World) (base : Nat) (ok : Nat → Prop) (x : L_Term) {v2 : Value} (g2 : k81.R 81 w base ok v2 x.f2) : k81.M w base ok x [.int .i64 x.f0, .int .i64 x.f1, v2] := by
  obtain ⟨n2, q2⟩ := Kd.fix_R_back mono81 g2
  have r2 := Kd.upto_R_le mono81 sz81 (show n2 ≤ n2 by omega) q2
  exact ⟨n2 + 1, ⟨[.int .i64 x.f0], [.int .i64 x.f1, v2], rfl, rfl, ⟨[.int .i64 x.f1], [v2], rfl, rfl, ⟨v2, rfl, r2⟩⟩⟩⟩
def rd_L_Term (xs : List L_Term) (i : Int) : L_Term := xs.getD i.toNat zL_Term
theorem at_T81 {w : World} {A : Option Addr} {n : Nat} {xs : List L_Term} (h : Kd.C k81 w A n xs) (i : Int) (h0 : 0 ≤ i) (h1 : i < n) : ∃ ad A2 c2, A = some ad ∧ w.cell? (ad.add (i.toNat * 3)) = some (.int .i64 (rd_L_Term xs i).f0) ∧ w.cell? ⟨(ad.add (i.toNat * 3)).block, (ad.add (i.toNat * 3)).off + 1, none⟩ = some (.int .i64 (rd_L_Term xs i).f1) ∧ w.cell? ⟨(ad.add (i.toNat * 3)).block, (ad.add (i.toNat * 3)).off + 2, none⟩ = some (.slice A2 (rd_L_Term xs i).f2.length c2) ∧ (rd_L_Term xs i).f2.length ≤ c2 ∧ k81.C w A2 (rd_L_Term xs i).f2.length (rd_L_Term xs i).f2 := by
  obtain ⟨ad, c, e, _, hK, hc0⟩ := Kd.C_get h zL_Term i h0 h1
  have hc : ∀ j u, c[j]? = some u → w.cell? (ad.add (i.toNat * 3 + j)) = some u := hc0
  obtain ⟨A2, c2, rfl, l2, g2⟩ := k81_open hK
  exact ⟨ad, A2, c2, e, hc 0 _ rfl, by rw [← add_field _ _ 1 (by omega)]; exact hc 1 _ rfl, by rw [← add_field _ _ 2 (by omega)]; exact hc 2 _ rfl, l2, g2⟩

/-! #### struct type 129 -/
structure L_Lit where
  f0 : Bool
  f1 : L_Term
  f2 : L_Term
def zL_Lit : L_Lit := ⟨false, zL_Term, zL_Term⟩
def k129 : Kd L_Lit := Kd.iso (Kd.pair Kd.bool (Kd.pair k81 k81)) (fun x : L_Lit => (x.f0, x.f1, x.f2))
theorem k129_open {w : World} {x : L_Lit} {cs : List Value} (h : k129.K w x cs) : ∃ A3 c3 A6 c6, cs = [.bool x.f0, .int .i64 x.f1.f0, .int .i64 x.f1.f1, .slice A3 x.f1.f2.length c3, .int .i64 x.f2.f0, .int .i64 x.f2.f1, .slice A6 x.f2.f2.length c6] ∧ x.f1.f2.length ≤ c3 ∧ k81.C w A3 x.f1.f2.length x.f1.f2 ∧ x.f2.f2.length ≤ c6 ∧ k81.C w A6 x.f2.f2.length x.f2.f2 := by
  obtain ⟨_, _, rfl, rfl, ⟨_, _, rfl, s1, s4⟩⟩ := h
  obtain ⟨A3, c3, rfl, l3, g3⟩ := k81_open s1
  obtain ⟨A6, c6, rfl, l6, g6⟩ := k81_open s4
  exact ⟨A3, c3, A6, c6, rfl, l3, g3, l6, g6⟩
theorem k129_openM {w : World} {base : Nat} {ok : Nat → Prop} {x : L_Lit} {cs : List Value} (h : k129.M w base ok x cs) : ∃ v3 v6, cs = [.bool x.f0, .int .i64 x.f1.f0, .int .i64 x.f1.f1, v3, .int .i64 x.f2.f0, .int .i64 x.f2.f1, v6] ∧ k81.R 81 w base ok v3 x.f1.f2 ∧ k81.R 81 w base ok v6 x.f2.f2 := by
  obtain ⟨_, _, rfl, rfl, ⟨_, _, rfl, s1, s4⟩⟩ := h
  obtain ⟨v3, rfl, g3⟩ := k81_openM s1
  obtain ⟨v6, rfl, g6⟩ := k81_openM s4
  exact ⟨v3, v6, rfl, g3, g6⟩
theorem k129_mk (w : World) (x : L_Lit) {A3 : Option Addr} {c3 : Nat} (l3 : x.f1.f2.length ≤ c3) (g3 : k81.C w A3 x.f1.f2.length x.f1.f2) {A6 : Option Addr} {c6 : Nat} (l6 : x.f2.f2.length ≤ c6) (g6 : k81.C w A6 x.f2.f2.length x.f2.f2) : k129.K w x [.bool x.f0, .int .i64 x.f1.f0, .int .i64 x.f1.f1, .slice A3 x.f1.f2.length c3, .int .i64 x.f2.f0, .int .i64 x.f2.f1, .slice A6 x.f2.f2.length c6] := ⟨[.bool x.f0], [.int .i64 x.f1.f0, .int .i64 x.f1.f1, .slice A3 x.f1.f2.length c3, .int .i64 x.f2.f0, .int .i64 x.f2.f1, .slice A6 x.f2.f2.length c6], rfl, rfl, ⟨[.int .i64 x.f1.f0, .int .i64 x.f1.f1, .slice A3 x.f1.f2.length c3], [.int .i64 x.f2.f0, .int .i64 x.f2.f1, .slice A6 x.f2.f2.length c6], rfl, (k81_mk w x.f1 l3 g3), (k81_mk w x.f2 l6 g6)⟩⟩
theorem k129_mkM (w : World) (base : Nat) (ok : Nat → Prop) (x : L_Lit) {v3 : Value} (g3 : k81.R 81 w base ok v3 x.f1.f2) {v6 : Value} (g6 : k81.R 81 w base ok v6 x.f2.f2) : k129.M w base ok x [.bool x.f0, .int .i64 x.f1.f0, .int .i64 x.f1.f1, v3, .int .i64 x.f2.f0, .int .i64 x.f2.f1, v6] := ⟨[.bool x.f0], [.int .i64 x.f1.f0, .int .i64 x.f1.f1, v3, .int .i64 x.f2.f0, .int .i64 x.f2.f1, v6], rfl, rfl, ⟨[.int .i64 x.f1.f0, .int .i64 x.f1.f1, v3], [.int .i64 x.f2.f0, .int .i64 x.f2.f1, v6], rfl, (k81_mkM w base ok x.f1 g3), (k81_mkM w base ok x.f2 g6)⟩⟩
def rd_L_Lit (xs : List L_Lit) (i : Int) : L_Lit := xs.getD i.toNat zL_Lit
theorem at_T129 {w : World} {A : Option Addr} {n : Nat} {xs : List L_Lit} (h : Kd.C k129 w A n xs) (i : Int) (h0 : 0 ≤ i) (h1 : i < n) : ∃ ad A3 c3 A6 c6, A = some ad ∧ w.cell? (ad.add (i.toNat * 7)) = some (.bool (rd_L_Lit xs i).f0) ∧ w.cell? ⟨(ad.add (i.toNat * 7)).block, (ad.add (i.toNat * 7)).off + 1, none⟩ = some (.int .i64 (rd_L_Lit xs i).f1.f0) ∧ w.cell? ⟨(ad.add (i.toNat * 7)).block, (ad.add (i.toNat * 7)).off + 2, none⟩ = some (.int .i64 (rd_L_Lit xs i).f1.f1) ∧ w.cell? ⟨(ad.add (i.toNat * 7)).block, (ad.add (i.toNat * 7)).off + 3, none⟩ = some (.slice A3 (rd_L_Lit xs i).f1.f2.length c3) ∧ w.cell? ⟨(ad.add (i.toNat * 7)).block, (ad.add (i.toNat * 7)).off + 4, none⟩ = some (.int .i64 (rd_L_Lit xs i).f2.f0) ∧ w.cell? ⟨(ad.add (i.toNat * 7)).block, (ad.add (i.toNat * 7)).off + 5, none⟩ = some (.int .i64 (rd_L_Lit xs i).f2.f1) ∧ w.cell? ⟨(ad.add (i.toNat * 7)).block, (ad.add (i.toNat * 7)).off + 6, none⟩ = some (.slice A6 (rd_L_Lit xs i).f2.f2.length c6) ∧ (rd_L_Lit xs i).f1.f2.length ≤ c3 ∧ k81.C w A3 (rd_L_Lit xs i).f1.f2.length (rd_L_Lit xs i).f1.f2 ∧ (rd_L_Lit xs i).f2.f2.length ≤ c6 ∧ k81.C w A6 (rd_L_Lit xs i).f2.f2.length (rd_L_Lit xs i).f2.f2 := by
  obtain ⟨ad, c, e, _, hK, hc0⟩ := Kd.C_get h zL_Lit i h0 h1
  have hc : ∀ j u, c[j]? = some u → w.cell? (ad.add (i.toNat * 7 + j)) = some u := hc0
  obtain ⟨A3, c3, A6, c6, rfl, l3, g3, l6, g6⟩ := k129_open hK
  exact ⟨ad, A3, c3, A6, c6, e, hc 0 _ rfl, by rw [← add_field _ _ 1 (by omega)]; exact hc 1 _ rfl, by rw [← add_field _ _ 2 (by omega)]; exact hc 2 _ rfl, by rw [← add_field _ _ 3 (by omega)]; exact hc 3 _ rfl, by rw [← add_field _ _ 4 (by omega)]; exact hc 4 _ rfl, by rw [← add_field _ _ 5 (by omega)]; exact hc 5 _ rfl, by rw [← add_field _ _ 6 (by omega)]; exact hc 6 _ rfl, l3, g3, l6, g6⟩

def rd_Ls_L_Lit (xs : List (List L_Lit)) (i : Int) : (List L_Lit) := xs.getD i.toNat ([] : List L_Lit)
theorem at_L4 {w : World} {A : Option Addr} {n : Nat} {xs : List (List L_Lit)} (h : Kd.C (Kd.slice 129 k129) w A n xs) (i : Int) (h0 : 0 ≤ i) (h1 : i < n) : ∃ ad A0 c0, A = some ad ∧ w.cell? (ad.add i.toNat) = some (.slice A0 (rd_Ls_L_Lit xs i).length c0) ∧ (rd_Ls_L_Lit xs i).length ≤ c0 ∧ k129.C w A0 (rd_Ls_L_Lit xs i).length (rd_Ls_L_Lit xs i) := by
  obtain ⟨ad, c, e, _, hK, hc0⟩ := Kd.C_get h ([] : List L_Lit) i h0 h1
  have hc : ∀ j u, c[j]? = some u → w.cell? (ad.add (i.toNat * 1 + j)) = some u := hc0
  obtain ⟨A0, c0, rfl, l0, g0⟩ := hK
  exact ⟨ad, A0, c0, e, by have hq := hc 0 _ rfl; rwa [Nat.mul_one, Nat.add_zero] at hq, l0, g0⟩

/-! #### struct type 46 -/
structure L_Clause where
  f0 : (List L_Lit)
def zL_Clause : L_Clause := ⟨([] : List L_Lit)⟩
def k46 : Kd L_Clause := Kd.iso (Kd.slice 129 k129) (fun x : L_Clause => x.f0)
theorem k46_open {w : World} {x : L_Clause} {cs : List Value} (h : k46.K w x cs) : ∃ A0 c0, cs = [.slice A0 x.f0.length c0] ∧ x.f0.length ≤ c0 ∧ k129.C w A0 x.f0.length x.f0 := by
  obtain ⟨A0, c0, rfl, l0, g0⟩ := h
  exact ⟨A0, c0, rfl, l0, g0⟩
theorem k46_openM {w : World} {base : Nat} {ok : Nat → Prop} {x : L_Clause} {cs : List Value} (h : k46.M w base ok x cs) : ∃ v0, cs = [v0] ∧ k129.R 129 w base ok v0 x.f0 := by
  obtain ⟨v0, rfl, g0⟩ := h
  exact ⟨v0, rfl, g0⟩
theorem k46_mk (w : World) (x : L_Clause) {A0 : Option Addr} {c0 : Nat} (l0 : x.f0.length ≤ c0) (g0 : k129.C w A0 x.f0.length x.f0) : k46.K w x [.slice A0 x.f0.length c0] := ⟨A0, c0, rfl, l0, g0⟩
theorem k46_mkM (w : World) (base : Nat) (ok : Nat → Prop) (x : L_Clause) {v0 : Value} (g0 : k129.R 129 w base ok v0 x.f0) : k46.M w base ok x [v0] := ⟨v0, rfl, g0⟩
def rd_L_Clause (xs : List L_Clause) (i : Int) : L_Clause := xs.getD i.toNat zL_Clause
theorem at_T46 {w : World} {A : Option Addr} {n : Nat} {xs : List L_Clause} (h : Kd.C k46 w A n xs) (i : Int) (h0 : 0 ≤ i) (h1 : i < n) : ∃ ad A0 c0, A = some ad ∧ w.cell? (ad.add i.toNat) = some (.slice A0 (rd_L_Clause xs i).f0.length c0) ∧ (rd_L_Clause xs i).f0.length ≤ c0 ∧ k129.C w A0 (rd_L_Clause xs i).f0.length (rd_L_Clause xs i).f0 := by
  obtain ⟨ad, c, e, _, hK, hc0⟩ := Kd.C_get h zL_Clause i h0 h1
  have hc : ∀ j u, c[j]? = some u → w.cell? (ad.add (i.toNat * 1 + j)) = some u := hc0
  obtain ⟨A0, c0, rfl, l0, g0⟩ := k46_open hK
  exact ⟨ad, A0, c0, e, by have hq := hc 0 _ rfl; rwa [Nat.mul_one, Nat.add_zero] at hq, l0, g0⟩

/-! #### struct type 90, nested in itself -/
structure I_Term where
  f0 : Int
  f1 : Int
  f2 : (List I_Term)
def zI_Term : I_Term := ⟨(0 : Int), (0 : Int), ([] : List I_Term)⟩
def F90 (d : Kd I_Term) : Kd I_Term := Kd.iso (Kd.pair (Kd.int .i64) (Kd.pair (Kd.int .i64) (Kd.slice 90 d))) (fun x : I_Term => (x.f0, x.f1, x.f2))
theorem mono90 : Kd.Mono F90 := Kd.mono_iso _ (Kd.mono_pair (Kd.mono_const _) (Kd.mono_pair (Kd.mono_const _) (Kd.mono_slice 90 Kd.mono_id)))
theorem sub90 : Kd.Sub F90 [90] := Kd.sub_iso _ (Kd.sub_pair (Kd.sub_const _ (by decide)) (Kd.sub_pair (Kd.sub_const _ (by decide)) (Kd.sub_slice 90 (by decide) Kd.sub_id)))
theorem sz90 : ∀ n, (Kd.upto F90 3 [90] n).sz = 3 := Kd.upto_sz (fun _ => rfl)
def k90 : Kd I_Term := Kd.fix F90 3 [90] sz90 (Kd.upto_E sub90)
theorem k90_open {w : World} {x : I_Term} {cs : List Value} (h : k90.K w x cs) : ∃ A2 c2, cs = [.int .i64 x.f0, .int .i64 x.f1, .slice A2 x.f2.length c2] ∧ x.f2.length ≤ c2 ∧ k90.C w A2 x.f2.length x.f2 := by
  obtain ⟨n, h⟩ := h
  cases n with
  | zero => exact h.elim
  | succ n =>
    obtain ⟨_, _, rfl, rfl, ⟨_, _, rfl, rfl, ⟨A2, c2, rfl, l2, g2⟩⟩⟩ := h
    exact ⟨A2, c2, rfl, l2, Kd.fix_C g2⟩
theorem k90_openM {w : World} {base : Nat} {ok : Nat → Prop} {x : I_Term} {cs : List Value} (h : k90.M w base ok x cs) : ∃ v2, cs = [.int .i64 x.f0, .int .i64 x.f1, v2] ∧ k90.R 90 w base ok v2 x.f2 := by
  obtain ⟨n, h⟩ := h
  cases n with
  | zero => exact h.elim
  | succ n =>
    obtain ⟨_, _, rfl, rfl, ⟨_, _, rfl, rfl, ⟨v2, rfl, g2⟩⟩⟩ := h
    exact ⟨v2, rfl, Kd.fix_R g2⟩
theorem k90_mk (w : World) (x : I_Term) {A2 : Option Addr} {c2 : Nat} (l2 : x.f2.length ≤ c2) (g2 : k90.C w A2 x.f2.length x.f2) : k90.K w x [.int .i64 x.f0, .int .i64 x.f1, .slice A2 x.f2.length c2] := by
  obtain ⟨n2, q2⟩ := Kd.fix_C_back mono90 g2
  have r2 := Kd.upto_C_le mono90 sz90 (show n2 ≤ n2 by omega) q2
  exact ⟨n2 + 1, ⟨[.int .i64 x.f0], [.int .i64 x.f1, .slice A2 x.f2.length c2], rfl, rfl, ⟨[.int .i64 x.f1], [.slice A2 x.f2.length c2], rfl, rfl, ⟨A2, c2, rfl, l2, r2⟩⟩⟩⟩
theorem k90_mkM (w : World) (base : Nat) (ok : Nat → Prop) (x : I_Term) {v2 : Value} (g2 : k90.R 90 w base ok v2 x.f2) : k90.M w base ok x [.int .i64 x.f0, .int .i64 x.f1, v2] := by
  obtain ⟨n2, q2⟩ := Kd.fix_R_back mono90 g2
  have r2 := Kd.upto_R_le mono90 sz90 (show n2 ≤ n2 by omega) q2
  exact ⟨n2 + 1, ⟨[.int .i64 x.f0], [.int .i64 x.f1, v2], rfl, rfl, ⟨[.int .i64 x.f1], [v2], rfl, rfl, ⟨v2, rfl, r2⟩⟩⟩⟩
def rd_I_Term (xs : List I_Term) (i : Int) : I_Term := xs.getD i.toNat zI_Term
theorem at_T90 {w : World} {A : Option Addr} {n : Nat} {xs : List I_Term} (h : Kd.C k90 w A n xs) (i : Int) (h0 : 0 ≤ i) (h1 : i < n) : ∃ ad A2 c2, A = some ad ∧ w.cell? (ad.add (i.toNat * 3)) = some (.int .i64 (rd_I_Term xs i).f0) ∧ w.cell? ⟨(ad.add (i.toNat * 3)).block, (ad.add (i.toNat * 3)).off + 1, none⟩ = some (.int .i64 (rd_I_Term xs i).f1) ∧ w.cell? ⟨(ad.add (i.toNat * 3)).block, (ad.add (i.toNat * 3)).off + 2, none⟩ = some (.slice A2 (rd_I_Term xs i).f2.length c2) ∧ (rd_I_Term xs i).f2.length ≤ c2 ∧ k90.C w A2 (rd_I_Term xs i).f2.length (rd_I_Term xs i).f2 := by
  obtain ⟨ad, c, e, _, hK, hc0⟩ := Kd.C_get h zI_Term i h0 h1
  have hc : ∀ j u, c[j]? = some u → w.cell? (ad.add (i.toNat * 3 + j)) = some u := hc0
  obtain ⟨A2, c2, rfl, l2, g2⟩ := k90_open hK
  exact ⟨ad, A2, c2, e, hc 0 _ rfl, by rw [← add_field _ _ 1 (by omega)]; exact hc 1 _ rfl, by rw [← add_field _ _ 2 (by omega)]; exact hc 2 _ rfl, l2, g2⟩

/-! #### struct type 111 -/
structure I_Lit where
  f0 : Bool
  f1 : I_Term
  f2 : I_Term
def zI_Lit : I_Lit := ⟨false, zI_Term, zI_Term⟩
def k111 : Kd I_Lit := Kd.iso (Kd.pair Kd.bool (Kd.pair k90 k90)) (fun x : I_Lit => (x.f0, x.f1, x.f2))
theorem k111_open {w : World} {x : I_Lit} {cs : List Value} (h : k111.K w x cs) : ∃ A3 c3 A6 c6, cs = [.bool x.f0, .int .i64 x.f1.f0, .int .i64 x.f1.f1, .slice A3 x.f1.f2.length c3, .int .i64 x.f2.f0, .int .i64 x.f2.f1, .slice A6 x.f2.f2.length c6] ∧ x.f1.f2.length ≤ c3 ∧ k90.C w A3 x.f1.f2.length x.f1.f2 ∧ x.f2.f2.length ≤ c6 ∧ k90.C w A6 x.f2.f2.length x.f2.f2 := by
  obtain ⟨_, _, rfl, rfl, ⟨_, _, rfl, s1, s4⟩⟩ := h
  obtain ⟨A3, c3, rfl, l3, g3⟩ := k90_open s1
  obtain ⟨A6, c6, rfl, l6, g6⟩ := k90_open s4
  exact ⟨A3, c3, A6, c6, rfl, l3, g3, l6, g6⟩
theorem k111_openM {w : World} {base : Nat} {ok : Nat → Prop} {x : I_Lit} {cs : List Value} (h : k111.M w base ok x cs) : ∃ v3 v6, cs = [.bool x.f0, .int .i64 x.f1.f0, .int .i64 x.f1.f1, v3, .int .i64 x.f2.f0, .int .i64 x.f2.f1, v6] ∧ k90.R 90 w base ok v3 x.f1.f2 ∧ k90.R 90 w base ok v6 x.f2.f2 := by
  obtain ⟨_, _, rfl, rfl, ⟨_, _, rfl, s1, s4⟩⟩ := h
  obtain ⟨v3, rfl, g3⟩ := k90_openM s1
  obtain ⟨v6, rfl, g6⟩ := k90_openM s4
  exact ⟨v3, v6, rfl, g3, g6⟩
theorem k111_mk (w : World) (x : I_Lit) {A3 : Option Addr} {c3 : Nat} (l3 : x.f1.f2.length ≤ c3) (g3 : k90.C w A3 x.f1.f2.length x.f1.f2) {A6 : Option Addr} {c6 : Nat} (l6 : x.f2.f2.length ≤ c6) (g6 : k90.C w A6 x.f2.f2.length x.f2.f2) : k111.K w x [.bool x.f0, .int .i64 x.f1.f0, .int .i64 x.f1.f1, .slice A3 x.f1.f2.length c3, .int .i64 x.f2.f0, .int .i64 x.f2.f1, .slice A6 x.f2.f2.length c6] := ⟨[.bool x.f0], [.int .i64 x.f1.f0, .int .i64 x.f1.f1, .slice A3 x.f1.f2.length c3, .int .i64 x.f2.f0, .int .i64 x.f2.f1, .slice A6 x.f2.f2.length c6], rfl, rfl, ⟨[.int .i64 x.f1.f0, .int .i64 x.f1.f1, .slice A3 x.f1.f2.length c3], [.int .i64 x.f2.f0, .int .i64 x.f2.f1, .slice A6 x.f2.f2.length c6], rfl, (k90_mk w x.f1 l3 g3), (k90_mk w x.f2 l6 g6)⟩⟩
theorem k111_mkM (w : World) (base : Nat) (ok : Nat → Prop) (x : I_Lit) {v3 : Value} (g3 : k90.R 90 w base ok v3 x.f1.f2) {v6 : Value} (g6 : k90.R 90 w base ok v6 x.f2.f2) : k111.M w base ok x [.bool x.f0, .int .i64 x.f1.f0, .int .i64 x.f1.f1, v3, .int .i64 x.f2.f0, .int .i64 x.f2.f1, v6] := ⟨[.bool x.f0], [.int .i64 x.f1.f0, .int .i64 x.f1.f1, v3, .int .i64 x.f2.f0, .int .i64 x.f2.f1, v6], rfl, rfl, ⟨[.int .i64 x.f1.f0, .int .i64 x.f1.f1, v3], [.int .i64 x.f2.f0, .int .i64 x.f2.f1, v6], rfl, (k90_mkM w base ok x.f1 g3), (k90_mkM w base ok x.f2 g6)⟩⟩
def rd_I_Lit (xs : List I_Lit) (i : Int) : I_Lit := xs.getD i.toNat zI_Lit
theorem at_T111 {w : World} {A : Option Addr} {n : Nat} {xs : List I_Lit} (h : Kd.C k111 w A n xs) (i : Int) (h0 : 0 ≤ i) (h1 : i < n) : ∃ ad A3 c3 A6 c6, A = some ad ∧ w.cell? (ad.add (i.toNat * 7)) = some (.bool (rd_I_Lit xs i).f0) ∧ w.cell? ⟨(ad.add (i.toNat * 7)).block, (ad.add (i.toNat * 7)).off + 1, none⟩ = some (.int .i64 (rd_I_Lit xs i).f1.f0) ∧ w.cell? ⟨(ad.add (i.toNat * 7)).block, (ad.add (i.toNat * 7)).off + 2, none⟩ = some (.int .i64 (rd_I_Lit xs i).f1.f1) ∧ w.cell? ⟨(ad.add (i.toNat * 7)).block, (ad.add (i.toNat * 7)).off + 3, none⟩ = some (.slice A3 (rd_I_Lit xs i).f1.f2.length c3) ∧ w.cell? ⟨(ad.add (i.toNat * 7)).block, (ad.add (i.toNat * 7)).off + 4, none⟩ = some (.int .i64 (rd_I_Lit xs i).f2.f0) ∧ w.cell? ⟨(ad.add (i.toNat * 7)).block, (ad.add (i.toNat * 7)).off + 5, none⟩ = some (.int .i64 (rd_I_Lit xs i).f2.f1) ∧ w.cell? ⟨(ad.add (i.toNat * 7)).block, (ad.add (i.toNat * 7)).off + 6, none⟩ = some (.slice A6 (rd_I_Lit xs i).f2.f2.length c6) ∧ (rd_I_Lit xs i).f1.f2.length ≤ c3 ∧ k90.C w A3 (rd_I_Lit xs i).f1.f2.length (rd_I_Lit xs i).f1.f2 ∧ (rd_I_Lit xs i).f2.f2.length ≤ c6 ∧ k90.C w A6 (rd_I_Lit xs i).f2.f2.length (rd_I_Lit xs i).f2.f2 := by
  obtain ⟨ad, c, e, _, hK, hc0⟩ := Kd.C_get h zI_Lit i h0 h1
  have hc : ∀ j u, c[j]? = some u → w.cell? (ad.add (i.toNat * 7 + j)) = some u := hc0
  obtain ⟨A3, c3, A6, c6, rfl, l3, g3, l6, g6⟩ := k111_open hK
  exact ⟨ad, A3, c3, A6, c6, e, hc 0 _ rfl, by rw [← add_field _ _ 1 (by omega)]; exact hc 1 _ rfl, by rw [← add_field _ _ 2 (by omega)]; exact hc 2 _ rfl, by rw [← add_field _ _ 3 (by omega)]; exact hc 3 _ rfl, by rw [← add_field _ _ 4 (by omega)]; exact hc 4 _ rfl, by rw [← add_field _ _ 5 (by omega)]; exact hc 5 _ rfl, by rw [← add_field _ _ 6 (by omega)]; exact hc 6 _ rfl, l3, g3, l6, g6⟩

def rd_Ls_I_Lit (xs : List (List I_Lit)) (i : Int) : (List I_Lit) := xs.getD i.toNat ([] : List I_Lit)
theorem at_L8 {w : World} {A : Option Addr} {n : Nat} {xs : List (List I_Lit)} (h : Kd.C (Kd.slice 111 k111) w A n xs) (i : Int) (h0 : 0 ≤ i) (h1 : i < n) : ∃ ad A0 c0, A = some ad ∧ w.cell? (ad.add i.toNat) = some (.slice A0 (rd_Ls_I_Lit xs i).length c0) ∧ (rd_Ls_I_Lit xs i).length ≤ c0 ∧ k111.C w A0 (rd_Ls_I_Lit xs i).length (rd_Ls_I_Lit xs i) := by
  obtain ⟨ad, c, e, _, hK, hc0⟩ := Kd.C_get h ([] : List I_Lit) i h0 h1
  have hc : ∀ j u, c[j]? = some u → w.cell? (ad.add (i.toNat * 1 + j)) = some u := hc0
  obtain ⟨A0, c0, rfl, l0, g0⟩ := hK
  exact ⟨ad, A0, c0, e, by have hq := hc 0 _ rfl; rwa [Nat.mul_one, Nat.add_zero] at hq, l0, g0⟩

/-! #### struct type 51 -/
structure I_Clause where
  f0 : (List I_Lit)
def zI_Clause : I_Clause := ⟨([] : List I_Lit)⟩
def k51 : Kd I_Clause := Kd.iso (Kd.slice 111 k111) (fun x : I_Clause => x.f0)
theorem k51_open {w : World} {x : I_Clause} {cs : List Value} (h : k51.K w x cs) : ∃ A0 c0, cs = [.slice A0 x.f0.length c0] ∧ x.f0.length ≤ c0 ∧ k111.C w A0 x.f0.length x.f0 := by
  obtain ⟨A0, c0, rfl, l0, g0⟩ := h
  exact ⟨A0, c0, rfl, l0, g0⟩
theorem k51_openM {w : World} {base : Nat} {ok : Nat → Prop} {x : I_Clause} {cs : List Value} (h : k51.M w base ok x cs) : ∃ v0, cs = [v0] ∧ k111.R 111 w base ok v0 x.f0 := by
  obtain ⟨v0, rfl, g0⟩ := h
  exact ⟨v0, rfl, g0⟩
theorem k51_mk (w : World) (x : I_Clause) {A0 : Option Addr} {c0 : Nat} (l0 : x.f0.length ≤ c0) (g0 : k111.C w A0 x.f0.length x.f0) : k51.K w x [.slice A0 x.f0.length c0] := ⟨A0, c0, rfl, l0, g0⟩
theorem k51_mkM (w : World) (base : Nat) (ok : Nat → Prop) (x : I_Clause) {v0 : Value} (g0 : k111.R 111 w base ok v0 x.f0) : k51.M w base ok x [v0] := ⟨v0, rfl, g0⟩
def rd_I_Clause (xs : List I_Clause) (i : Int) : I_Clause := xs.getD i.toNat zI_Clause
theorem at_T51 {w : World} {A : Option Addr} {n : Nat} {xs : List I_Clause} (h : Kd.C k51 w A n xs) (i : Int) (h0 : 0 ≤ i) (h1 : i < n) : ∃ ad A0 c0, A = some ad ∧ w.cell? (ad.add i.toNat) = some (.slice A0 (rd_I_Clause xs i).f0.length c0) ∧ (rd_I_Clause xs i).f0.length ≤ c0 ∧ k111.C w A0 (rd_I_Clause xs i).f0.length (rd_I_Clause xs i).f0 := by
  obtain ⟨ad, c, e, _, hK, hc0⟩ := Kd.C_get h zI_Clause i h0 h1
  have hc : ∀ j u, c[j]? = some u → w.cell? (ad.add (i.toNat * 1 + j)) = some u := hc0
  obtain ⟨A0, c0, rfl, l0, g0⟩ := k51_open hK
  exact ⟨ad, A0, c0, e, by have hq := hc 0 _ rfl; rwa [Nat.mul_one, Nat.add_zero] at hq, l0, g0⟩

def rd_Ls_L_Clause (xs : List (List L_Clause)) (i : Int) : (List L_Clause) := xs.getD i.toNat ([] : List L_Clause)
theorem at_L10 {w : World} {A : Option Addr} {n : Nat} {xs : List (List L_Clause)} (h : Kd.C (Kd.slice 46 k46) w A n xs) (i : Int) (h0 : 0 ≤ i) (h1 : i < n) : ∃ ad A0 c0, A = some ad ∧ w.cell? (ad.add i.toNat) = some (.slice A0 (rd_Ls_L_Clause xs i).length c0) ∧ (rd_Ls_L_Clause xs i).length ≤ c0 ∧ k46.C w A0 (rd_Ls_L_Clause xs i).length (rd_Ls_L_Clause xs i) := by
  obtain ⟨ad, c, e, _, hK, hc0⟩ := Kd.C_get h ([] : List L_Clause) i h0 h1
  have hc : ∀ j u, c[j]? = some u → w.cell? (ad.add (i.toNat * 1 + j)) = some u := hc0
  obtain ⟨A0, c0, rfl, l0, g0⟩ := hK
  exact ⟨ad, A0, c0, e, by have hq := hc 0 _ rfl; rwa [Nat.mul_one, Nat.add_zero] at hq, l0, g0⟩

def rd_Ls_L_Term (xs : List (List L_Term)) (i : Int) : (List L_Term) := xs.getD i.toNat ([] : List L_Term)
theorem at_L11 {w : World} {A : Option Addr} {n : Nat} {xs : List (List L_Term)} (h : Kd.C (Kd.slice 81 k81) w A n xs) (i : Int) (h0 : 0 ≤ i) (h1 : i < n) : ∃ ad A0 c0, A = some ad ∧ w.cell? (ad.add i.toNat) = some (.slice A0 (rd_Ls_L_Term xs i).length c0) ∧ (rd_Ls_L_Term xs i).length ≤ c0 ∧ k81.C w A0 (rd_Ls_L_Term xs i).length (rd_Ls_L_Term xs i) := by
  obtain ⟨ad, c, e, _, hK, hc0⟩ := Kd.C_get h ([] : List L_Term) i h0 h1
  have hc : ∀ j u, c[j]? = some u → w.cell? (ad.add (i.toNat * 1 + j)) = some u := hc0
  obtain ⟨A0, c0, rfl, l0, g0⟩ := hK
  exact ⟨ad, A0, c0, e, by have hq := hc 0 _ rfl; rwa [Nat.mul_one, Nat.add_zero] at hq, l0, g0⟩

end Go.Proofs.Ytlgoindmpejgcaa.XWidest
