-- printed by a program of this session (xprint, turned from the kit's print) for this claim
import Derived.Test.YtejfjfhopapaaaaProg
import Derived.Test.YtejfjfhopapaaaaVDeepOf
import Derived.Below
import Derived.Deep.Draws
import Derived.Deep.AppendLies
import Derived.Maps.AppendAt
import Derived.OwnWalk
import Derived.Laws.BytesArg
import Derived.Laws.MakeOwn
import Derived.Laws.OwnMore
import Derived.Deep.OwnRows
import Derived.Tactics
import Derived.Lib.ConvBytes
import Derived.Laws.Slices
import Derived.WalkKit
import Derived.KernelRfl
import Derived.RowKit3
import Derived.Deep.LoopGhost
import Derived.Deep.QuietTactic
import Derived.BigQuiet
import Derived.WideLaws
import Derived.Deep.DeepCutAuto
import Derived.Deep.CutBlock
import Derived.Deep.RegionHeld3
import Derived.Laws.Rows
import Derived.Lib.AppendStr
import Derived.ArgAppend
import Derived.Laws.IdiomCopy
import Derived.OrdersHeld
import Derived.Laws.BitsLemmas
import Derived.RowKit
import Derived.Shelf.Spec.SlicesInsert
import Derived.Shelf.Spec.SlicesInsertGrow
namespace Go.Proofs.Ytejfjfhopapaaaa.XDeepOf
open Go.RowKit Go.Proofs.Ytejfjfhopapaaaa.XOpens Go.Proofs.YtejfjfhopapaaaaW.PrintWords Go.Proofs.YtejfjfhopapaaaaW.PrintLast Go.Proofs.YtejfjfhopapaaaaW.PrintMore
attribute [local go_sem] max2_int min2_int max_two min_two max_three min_three max_four min_four   -- for this text's walks alone
set_option linter.unusedVariables false
set_option linter.unusedSimpArgs false



def errW : Option Int → Value
  | none => .nilIface
  | some c => .iface 0 (.int .i64 c)
theorem errW_none : errW none = .nilIface := rfl
theorem errW_some (c : Int) : errW (some c) = .iface 0 (.int .i64 c) := rfl

theorem info3 : (Try.prog.info? 3).map (fun i => (i.zero, i.size, i.bytes)) = some (some (.int .i64 0), 1, 8) := by kernel_rfl
theorem info33 : (Try.prog.info? 33).map (fun i => (i.zero, i.size, i.bytes)) = some (some (.agg #[(.int .i64 0), (.int .i64 0), (.slice none 0 0)]), 3, 40) := by kernel_rfl
theorem info107 : (Try.prog.info? 107).map (fun i => (i.zero, i.size, i.bytes)) = some (some (.agg #[(.int .i64 0), (.int .i64 0), (.int .i64 0), (.slice none 0 0)]), 4, 48) := by kernel_rfl
theorem info120 : (Try.prog.info? 120).map (fun i => (i.zero, i.size, i.bytes)) = some (some (.agg #[(.bool false), (.int .i64 0), (.int .i64 0), (.slice none 0 0), (.int .i64 0), (.int .i64 0), (.slice none 0 0)]), 7, 88) := by kernel_rfl
theorem info193 : (Try.prog.info? 193).map (fun i => (i.zero, i.size, i.bytes)) = some (some (.agg #[(.int .i64 0), (.int .i64 0), (.int .i64 0), (.int .i64 0), (.int .i64 0), (.bool false), (.bool false), (.slice none 0 0), (.bool false), (.slice none 0 0), (.slice none 0 0)]), 11, 128) := by kernel_rfl
-- the values' own types
/-! #### struct type 25, nested in itself -/
structure L_Term where
  f0 : Int
  f1 : Int
  f2 : (List L_Term)
def zL_Term : L_Term := ⟨(0 : Int), (0 : Int), ([] : List L_Term)⟩
def F25 (d : Kd L_Term) : Kd L_Term := Kd.iso (Kd.pair (Kd.int .i64) (Kd.pair (Kd.int .i64) (Kd.slice 25 d))) (fun x : L_Term => (x.f0, x.f1, x.f2))
theorem mono25 : Kd.Mono F25 := Kd.mono_iso _ (Kd.mono_pair (Kd.mono_const _) (Kd.mono_pair (Kd.mono_const _) (Kd.mono_slice 25 Kd.mono_id)))
theorem sub25 : Kd.Sub F25 [25] := Kd.sub_iso _ (Kd.sub_pair (Kd.sub_const _ (by decide)) (Kd.sub_pair (Kd.sub_const _ (by decide)) (Kd.sub_slice 25 (by decide) Kd.sub_id)))
theorem sz25 : ∀ n, (Kd.upto F25 3 [25] n).sz = 3 := Kd.upto_sz (fun _ => rfl)
def k25 : Kd L_Term := Kd.fix F25 3 [25] sz25 (Kd.upto_E sub25)
theorem k25_open {w : World} {x : L_Term} {cs : List Value} (h : k25.K w x cs) : ∃ A2 c2, cs = [.int .i64 x.f0, .int .i64 x.f1, .slice A2 x.f2.length c2] ∧ x.f2.length ≤ c2 ∧ k25.C w A2 x.f2.length x.f2 := by
  obtain ⟨n, h⟩ := h
  cases n with
  | zero => exact h.elim
  | succ n =>
    obtain ⟨_, _, rfl, rfl, ⟨_, _, rfl, rfl, ⟨A2, c2, rfl, l2, g2⟩⟩⟩ := h
    exact ⟨A2, c2, rfl, l2, Kd.fix_C g2⟩
theorem k25_openM {w : World} {base : Nat} {ok : Nat → Prop} {x : L_Term} {cs : List Value} (h : k25.M w base ok x cs) : ∃ v2, cs = [.int .i64 x.f0, .int .i64 x.f1, v2] ∧ k25.R 25 w base ok v2 x.f2 := by
  obtain ⟨n, h⟩ := h
  cases n with
  | zero => exact h.elim
  | succ n =>
    obtain ⟨_, _, rfl, rfl, ⟨_, _, rfl, rfl, ⟨v2, rfl, g2⟩⟩⟩ := h
    exact ⟨v2, rfl, Kd.fix_R g2⟩
theorem k25_mk (w : World) (x : L_Term) {A2 : Option Addr} {c2 : Nat} (l2 : x.f2.length ≤ c2) (g2 : k25.C w A2 x.f2.length x.f2) : k25.K w x [.int .i64 x.f0, .int .i64 x.f1, .slice A2 x.f2.length c2] := by
  obtain ⟨n2, q2⟩ := Kd.fix_C_back mono25 g2
  have r2 := Kd.upto_C_le mono25 sz25 (show n2 ≤ n2 by omega) q2
  exact ⟨n2 + 1, ⟨[.int .i64 x.f0], [.int .i64 x.f1, .slice A2 x.f2.length c2], rfl, rfl, ⟨[.int .i64 x.f1], [.slice A2 x.f2.length c2], rfl, rfl, ⟨A2, c2, rfl, l2, r2⟩⟩⟩⟩
theorem k25_mkM (w : World) (base : Nat) (ok : Nat → Prop) (x : L_Term) {v2 : Value} (g2 : k25.R 25 w base ok v2 x.f2) : k25.M w base ok x [.int .i64 x.f0, .int .i64 x.f1, v2] := by
  obtain ⟨n2, q2⟩ := Kd.fix_R_back mono25 g2
  have r2 := Kd.upto_R_le mono25 sz25 (show n2 ≤ n2 by omega) q2
  exact ⟨n2 + 1, ⟨[.int .i64 x.f0], [.int .i64 x.f1, v2], rfl, rfl, ⟨[.int .i64 x.f1], [v2], rfl, rfl, ⟨v2, rfl, r2⟩⟩⟩⟩
def rd_L_Term (xs : List L_Term) (i : Int) : L_Term := xs.getD i.toNat zL_Term
theorem at_T25 {w : World} {A : Option Addr} {n : Nat} {xs : List L_Term} (h : Kd.C k25 w A n xs) (i : Int) (h0 : 0 ≤ i) (h1 : i < n) : ∃ ad A2 c2, A = some ad ∧ w.cell? (ad.add (i.toNat * 3)) = some (.int .i64 (rd_L_Term xs i).f0) ∧ w.cell? ⟨(ad.add (i.toNat * 3)).block, (ad.add (i.toNat * 3)).off + 1, none⟩ = some (.int .i64 (rd_L_Term xs i).f1) ∧ w.cell? ⟨(ad.add (i.toNat * 3)).block, (ad.add (i.toNat * 3)).off + 2, none⟩ = some (.slice A2 (rd_L_Term xs i).f2.length c2) ∧ (rd_L_Term xs i).f2.length ≤ c2 ∧ k25.C w A2 (rd_L_Term xs i).f2.length (rd_L_Term xs i).f2 := by
  obtain ⟨ad, c, e, _, hK, hc0⟩ := Kd.C_get h zL_Term i h0 h1
  have hc : ∀ j u, c[j]? = some u → w.cell? (ad.add (i.toNat * 3 + j)) = some u := hc0
  obtain ⟨A2, c2, rfl, l2, g2⟩ := k25_open hK
  exact ⟨ad, A2, c2, e, hc 0 _ rfl, by rw [← add_field _ _ 1 (by omega)]; exact hc 1 _ rfl, by rw [← add_field _ _ 2 (by omega)]; exact hc 2 _ rfl, l2, g2⟩

/-! #### struct type 273 -/
structure L_Bind where
  f0 : Int
  f1 : L_Term
def zL_Bind : L_Bind := ⟨(0 : Int), zL_Term⟩
def k273 : Kd L_Bind := Kd.iso (Kd.pair (Kd.int .i64) k25) (fun x : L_Bind => (x.f0, x.f1))
theorem k273_open {w : World} {x : L_Bind} {cs : List Value} (h : k273.K w x cs) : ∃ A3 c3, cs = [.int .i64 x.f0, .int .i64 x.f1.f0, .int .i64 x.f1.f1, .slice A3 x.f1.f2.length c3] ∧ x.f1.f2.length ≤ c3 ∧ k25.C w A3 x.f1.f2.length x.f1.f2 := by
  obtain ⟨_, _, rfl, rfl, s1⟩ := h
  obtain ⟨A3, c3, rfl, l3, g3⟩ := k25_open s1
  exact ⟨A3, c3, rfl, l3, g3⟩
theorem k273_openM {w : World} {base : Nat} {ok : Nat → Prop} {x : L_Bind} {cs : List Value} (h : k273.M w base ok x cs) : ∃ v3, cs = [.int .i64 x.f0, .int .i64 x.f1.f0, .int .i64 x.f1.f1, v3] ∧ k25.R 25 w base ok v3 x.f1.f2 := by
  obtain ⟨_, _, rfl, rfl, s1⟩ := h
  obtain ⟨v3, rfl, g3⟩ := k25_openM s1
  exact ⟨v3, rfl, g3⟩
theorem k273_mk (w : World) (x : L_Bind) {A3 : Option Addr} {c3 : Nat} (l3 : x.f1.f2.length ≤ c3) (g3 : k25.C w A3 x.f1.f2.length x.f1.f2) : k273.K w x [.int .i64 x.f0, .int .i64 x.f1.f0, .int .i64 x.f1.f1, .slice A3 x.f1.f2.length c3] := ⟨[.int .i64 x.f0], [.int .i64 x.f1.f0, .int .i64 x.f1.f1, .slice A3 x.f1.f2.length c3], rfl, rfl, (k25_mk w x.f1 l3 g3)⟩
theorem k273_mkM (w : World) (base : Nat) (ok : Nat → Prop) (x : L_Bind) {v3 : Value} (g3 : k25.R 25 w base ok v3 x.f1.f2) : k273.M w base ok x [.int .i64 x.f0, .int .i64 x.f1.f0, .int .i64 x.f1.f1, v3] := ⟨[.int .i64 x.f0], [.int .i64 x.f1.f0, .int .i64 x.f1.f1, v3], rfl, rfl, (k25_mkM w base ok x.f1 g3)⟩
def rd_L_Bind (xs : List L_Bind) (i : Int) : L_Bind := xs.getD i.toNat zL_Bind
theorem at_T273 {w : World} {A : Option Addr} {n : Nat} {xs : List L_Bind} (h : Kd.C k273 w A n xs) (i : Int) (h0 : 0 ≤ i) (h1 : i < n) : ∃ ad A3 c3, A = some ad ∧ w.cell? (ad.add (i.toNat * 4)) = some (.int .i64 (rd_L_Bind xs i).f0) ∧ w.cell? ⟨(ad.add (i.toNat * 4)).block, (ad.add (i.toNat * 4)).off + 1, none⟩ = some (.int .i64 (rd_L_Bind xs i).f1.f0) ∧ w.cell? ⟨(ad.add (i.toNat * 4)).block, (ad.add (i.toNat * 4)).off + 2, none⟩ = some (.int .i64 (rd_L_Bind xs i).f1.f1) ∧ w.cell? ⟨(ad.add (i.toNat * 4)).block, (ad.add (i.toNat * 4)).off + 3, none⟩ = some (.slice A3 (rd_L_Bind xs i).f1.f2.length c3) ∧ (rd_L_Bind xs i).f1.f2.length ≤ c3 ∧ k25.C w A3 (rd_L_Bind xs i).f1.f2.length (rd_L_Bind xs i).f1.f2 := by
  obtain ⟨ad, c, e, _, hK, hc0⟩ := Kd.C_get h zL_Bind i h0 h1
  have hc : ∀ j u, c[j]? = some u → w.cell? (ad.add (i.toNat * 4 + j)) = some u := hc0
  obtain ⟨A3, c3, rfl, l3, g3⟩ := k273_open hK
  exact ⟨ad, A3, c3, e, hc 0 _ rfl, by rw [← add_field _ _ 1 (by omega)]; exact hc 1 _ rfl, by rw [← add_field _ _ 2 (by omega)]; exact hc 2 _ rfl, by rw [← add_field _ _ 3 (by omega)]; exact hc 3 _ rfl, l3, g3⟩

/-! #### struct type 139 -/
structure L_Lit where
  f0 : Bool
  f1 : L_Term
  f2 : L_Term
def zL_Lit : L_Lit := ⟨false, zL_Term, zL_Term⟩
def k139 : Kd L_Lit := Kd.iso (Kd.pair Kd.bool (Kd.pair k25 k25)) (fun x : L_Lit => (x.f0, x.f1, x.f2))
theorem k139_open {w : World} {x : L_Lit} {cs : List Value} (h : k139.K w x cs) : ∃ A3 c3 A6 c6, cs = [.bool x.f0, .int .i64 x.f1.f0, .int .i64 x.f1.f1, .slice A3 x.f1.f2.length c3, .int .i64 x.f2.f0, .int .i64 x.f2.f1, .slice A6 x.f2.f2.length c6] ∧ x.f1.f2.length ≤ c3 ∧ k25.C w A3 x.f1.f2.length x.f1.f2 ∧ x.f2.f2.length ≤ c6 ∧ k25.C w A6 x.f2.f2.length x.f2.f2 := by
  obtain ⟨_, _, rfl, rfl, ⟨_, _, rfl, s1, s4⟩⟩ := h
  obtain ⟨A3, c3, rfl, l3, g3⟩ := k25_open s1
  obtain ⟨A6, c6, rfl, l6, g6⟩ := k25_open s4
  exact ⟨A3, c3, A6, c6, rfl, l3, g3, l6, g6⟩
theorem k139_openM {w : World} {base : Nat} {ok : Nat → Prop} {x : L_Lit} {cs : List Value} (h : k139.M w base ok x cs) : ∃ v3 v6, cs = [.bool x.f0, .int .i64 x.f1.f0, .int .i64 x.f1.f1, v3, .int .i64 x.f2.f0, .int .i64 x.f2.f1, v6] ∧ k25.R 25 w base ok v3 x.f1.f2 ∧ k25.R 25 w base ok v6 x.f2.f2 := by
  obtain ⟨_, _, rfl, rfl, ⟨_, _, rfl, s1, s4⟩⟩ := h
  obtain ⟨v3, rfl, g3⟩ := k25_openM s1
  obtain ⟨v6, rfl, g6⟩ := k25_openM s4
  exact ⟨v3, v6, rfl, g3, g6⟩
theorem k139_mk (w : World) (x : L_Lit) {A3 : Option Addr} {c3 : Nat} (l3 : x.f1.f2.length ≤ c3) (g3 : k25.C w A3 x.f1.f2.length x.f1.f2) {A6 : Option Addr} {c6 : Nat} (l6 : x.f2.f2.length ≤ c6) (g6 : k25.C w A6 x.f2.f2.length x.f2.f2) : k139.K w x [.bool x.f0, .int .i64 x.f1.f0, .int .i64 x.f1.f1, .slice A3 x.f1.f2.length c3, .int .i64 x.f2.f0, .int .i64 x.f2.f1, .slice A6 x.f2.f2.length c6] := ⟨[.bool x.f0], [.int .i64 x.f1.f0, .int .i64 x.f1.f1, .slice A3 x.f1.f2.length c3, .int .i64 x.f2.f0, .int .i64 x.f2.f1, .slice A6 x.f2.f2.length c6], rfl, rfl, ⟨[.int .i64 x.f1.f0, .int .i64 x.f1.f1, .slice A3 x.f1.f2.length c3], [.int .i64 x.f2.f0, .int .i64 x.f2.f1, .slice A6 x.f2.f2.length c6], rfl, (k25_mk w x.f1 l3 g3), (k25_mk w x.f2 l6 g6)⟩⟩
theorem k139_mkM (w : World) (base : Nat) (ok : Nat → Prop) (x : L_Lit) {v3 : Value} (g3 : k25.R 25 w base ok v3 x.f1.f2) {v6 : Value} (g6 : k25.R 25 w base ok v6 x.f2.f2) : k139.M w base ok x [.bool x.f0, .int .i64 x.f1.f0, .int .i64 x.f1.f1, v3, .int .i64 x.f2.f0, .int .i64 x.f2.f1, v6] := ⟨[.bool x.f0], [.int .i64 x.f1.f0, .int .i64 x.f1.f1, v3, .int .i64 x.f2.f0, .int .i64 x.f2.f1, v6], rfl, rfl, ⟨[.int .i64 x.f1.f0, .int .i64 x.f1.f1, v3], [.int .i64 x.f2.f0, .int .i64 x.f2.f1, v6], rfl, (k25_mkM w base ok x.f1 g3), (k25_mkM w base ok x.f2 g6)⟩⟩
def rd_L_Lit (xs : List L_Lit) (i : Int) : L_Lit := xs.getD i.toNat zL_Lit
theorem at_T139 {w : World} {A : Option Addr} {n : Nat} {xs : List L_Lit} (h : Kd.C k139 w A n xs) (i : Int) (h0 : 0 ≤ i) (h1 : i < n) : ∃ ad A3 c3 A6 c6, A = some ad ∧ w.cell? (ad.add (i.toNat * 7)) = some (.bool (rd_L_Lit xs i).f0) ∧ w.cell? ⟨(ad.add (i.toNat * 7)).block, (ad.add (i.toNat * 7)).off + 1, none⟩ = some (.int .i64 (rd_L_Lit xs i).f1.f0) ∧ w.cell? ⟨(ad.add (i.toNat * 7)).block, (ad.add (i.toNat * 7)).off + 2, none⟩ = some (.int .i64 (rd_L_Lit xs i).f1.f1) ∧ w.cell? ⟨(ad.add (i.toNat * 7)).block, (ad.add (i.toNat * 7)).off + 3, none⟩ = some (.slice A3 (rd_L_Lit xs i).f1.f2.length c3) ∧ w.cell? ⟨(ad.add (i.toNat * 7)).block, (ad.add (i.toNat * 7)).off + 4, none⟩ = some (.int .i64 (rd_L_Lit xs i).f2.f0) ∧ w.cell? ⟨(ad.add (i.toNat * 7)).block, (ad.add (i.toNat * 7)).off + 5, none⟩ = some (.int .i64 (rd_L_Lit xs i).f2.f1) ∧ w.cell? ⟨(ad.add (i.toNat * 7)).block, (ad.add (i.toNat * 7)).off + 6, none⟩ = some (.slice A6 (rd_L_Lit xs i).f2.f2.length c6) ∧ (rd_L_Lit xs i).f1.f2.length ≤ c3 ∧ k25.C w A3 (rd_L_Lit xs i).f1.f2.length (rd_L_Lit xs i).f1.f2 ∧ (rd_L_Lit xs i).f2.f2.length ≤ c6 ∧ k25.C w A6 (rd_L_Lit xs i).f2.f2.length (rd_L_Lit xs i).f2.f2 := by
  obtain ⟨ad, c, e, _, hK, hc0⟩ := Kd.C_get h zL_Lit i h0 h1
  have hc : ∀ j u, c[j]? = some u → w.cell? (ad.add (i.toNat * 7 + j)) = some u := hc0
  obtain ⟨A3, c3, A6, c6, rfl, l3, g3, l6, g6⟩ := k139_open hK
  exact ⟨ad, A3, c3, A6, c6, e, hc 0 _ rfl, by rw [← add_field _ _ 1 (by omega)]; exact hc 1 _ rfl, by rw [← add_field _ _ 2 (by omega)]; exact hc 2 _ rfl, by rw [← add_field _ _ 3 (by omega)]; exact hc 3 _ rfl, by rw [← add_field _ _ 4 (by omega)]; exact hc 4 _ rfl, by rw [← add_field _ _ 5 (by omega)]; exact hc 5 _ rfl, by rw [← add_field _ _ 6 (by omega)]; exact hc 6 _ rfl, l3, g3, l6, g6⟩

def rd_Ls_i64 (xs : List (List Int)) (i : Int) : (List Int) := xs.getD i.toNat ([] : List Int)
theorem at_L5 {w : World} {A : Option Addr} {n : Nat} {xs : List (List Int)} (h : Kd.C (Kd.slice 3 (Kd.int .i64)) w A n xs) (i : Int) (h0 : 0 ≤ i) (h1 : i < n) : ∃ ad A0 c0, A = some ad ∧ w.cell? (ad.add i.toNat) = some (.slice A0 (rd_Ls_i64 xs i).length c0) ∧ (rd_Ls_i64 xs i).length ≤ c0 ∧ (Kd.int .i64).C w A0 (rd_Ls_i64 xs i).length (rd_Ls_i64 xs i) := by
  obtain ⟨ad, c, e, _, hK, hc0⟩ := Kd.C_get h ([] : List Int) i h0 h1
  have hc : ∀ j u, c[j]? = some u → w.cell? (ad.add (i.toNat * 1 + j)) = some u := hc0
  obtain ⟨A0, c0, rfl, l0, g0⟩ := hK
  exact ⟨ad, A0, c0, e, by have hq := hc 0 _ rfl; rwa [Nat.mul_one, Nat.add_zero] at hq, l0, g0⟩

def rd_Ls_L_Bind (xs : List (List L_Bind)) (i : Int) : (List L_Bind) := xs.getD i.toNat ([] : List L_Bind)
theorem at_L6 {w : World} {A : Option Addr} {n : Nat} {xs : List (List L_Bind)} (h : Kd.C (Kd.slice 273 k273) w A n xs) (i : Int) (h0 : 0 ≤ i) (h1 : i < n) : ∃ ad A0 c0, A = some ad ∧ w.cell? (ad.add i.toNat) = some (.slice A0 (rd_Ls_L_Bind xs i).length c0) ∧ (rd_Ls_L_Bind xs i).length ≤ c0 ∧ k273.C w A0 (rd_Ls_L_Bind xs i).length (rd_Ls_L_Bind xs i) := by
  obtain ⟨ad, c, e, _, hK, hc0⟩ := Kd.C_get h ([] : List L_Bind) i h0 h1
  have hc : ∀ j u, c[j]? = some u → w.cell? (ad.add (i.toNat * 1 + j)) = some u := hc0
  obtain ⟨A0, c0, rfl, l0, g0⟩ := hK
  exact ⟨ad, A0, c0, e, by have hq := hc 0 _ rfl; rwa [Nat.mul_one, Nat.add_zero] at hq, l0, g0⟩

def rd_Ls_L_Lit (xs : List (List L_Lit)) (i : Int) : (List L_Lit) := xs.getD i.toNat ([] : List L_Lit)
theorem at_L7 {w : World} {A : Option Addr} {n : Nat} {xs : List (List L_Lit)} (h : Kd.C (Kd.slice 139 k139) w A n xs) (i : Int) (h0 : 0 ≤ i) (h1 : i < n) : ∃ ad A0 c0, A = some ad ∧ w.cell? (ad.add i.toNat) = some (.slice A0 (rd_Ls_L_Lit xs i).length c0) ∧ (rd_Ls_L_Lit xs i).length ≤ c0 ∧ k139.C w A0 (rd_Ls_L_Lit xs i).length (rd_Ls_L_Lit xs i) := by
  obtain ⟨ad, c, e, _, hK, hc0⟩ := Kd.C_get h ([] : List L_Lit) i h0 h1
  have hc : ∀ j u, c[j]? = some u → w.cell? (ad.add (i.toNat * 1 + j)) = some u := hc0
  obtain ⟨A0, c0, rfl, l0, g0⟩ := hK
  exact ⟨ad, A0, c0, e, by have hq := hc 0 _ rfl; rwa [Nat.mul_one, Nat.add_zero] at hq, l0, g0⟩

/-! #### struct type 187 -/
structure L_Clause where
  f0 : (List L_Lit)
def zL_Clause : L_Clause := ⟨([] : List L_Lit)⟩
def k187 : Kd L_Clause := Kd.iso (Kd.slice 139 k139) (fun x : L_Clause => x.f0)
theorem k187_open {w : World} {x : L_Clause} {cs : List Value} (h : k187.K w x cs) : ∃ A0 c0, cs = [.slice A0 x.f0.length c0] ∧ x.f0.length ≤ c0 ∧ k139.C w A0 x.f0.length x.f0 := by
  obtain ⟨A0, c0, rfl, l0, g0⟩ := h
  exact ⟨A0, c0, rfl, l0, g0⟩
theorem k187_openM {w : World} {base : Nat} {ok : Nat → Prop} {x : L_Clause} {cs : List Value} (h : k187.M w base ok x cs) : ∃ v0, cs = [v0] ∧ k139.R 139 w base ok v0 x.f0 := by
  obtain ⟨v0, rfl, g0⟩ := h
  exact ⟨v0, rfl, g0⟩
theorem k187_mk (w : World) (x : L_Clause) {A0 : Option Addr} {c0 : Nat} (l0 : x.f0.length ≤ c0) (g0 : k139.C w A0 x.f0.length x.f0) : k187.K w x [.slice A0 x.f0.length c0] := ⟨A0, c0, rfl, l0, g0⟩
theorem k187_mkM (w : World) (base : Nat) (ok : Nat → Prop) (x : L_Clause) {v0 : Value} (g0 : k139.R 139 w base ok v0 x.f0) : k187.M w base ok x [v0] := ⟨v0, rfl, g0⟩
def rd_L_Clause (xs : List L_Clause) (i : Int) : L_Clause := xs.getD i.toNat zL_Clause
theorem at_T187 {w : World} {A : Option Addr} {n : Nat} {xs : List L_Clause} (h : Kd.C k187 w A n xs) (i : Int) (h0 : 0 ≤ i) (h1 : i < n) : ∃ ad A0 c0, A = some ad ∧ w.cell? (ad.add i.toNat) = some (.slice A0 (rd_L_Clause xs i).f0.length c0) ∧ (rd_L_Clause xs i).f0.length ≤ c0 ∧ k139.C w A0 (rd_L_Clause xs i).f0.length (rd_L_Clause xs i).f0 := by
  obtain ⟨ad, c, e, _, hK, hc0⟩ := Kd.C_get h zL_Clause i h0 h1
  have hc : ∀ j u, c[j]? = some u → w.cell? (ad.add (i.toNat * 1 + j)) = some u := hc0
  obtain ⟨A0, c0, rfl, l0, g0⟩ := k187_open hK
  exact ⟨ad, A0, c0, e, by have hq := hc 0 _ rfl; rwa [Nat.mul_one, Nat.add_zero] at hq, l0, g0⟩

/-! #### struct type 189 -/
structure L_Step where
  f0 : Int
  f1 : Int
  f2 : Int
  f3 : Int
  f4 : Int
  f5 : Bool
  f6 : Bool
  f7 : (List Int)
  f8 : Bool
  f9 : (List L_Bind)
  f10 : L_Clause
def zL_Step : L_Step := ⟨(0 : Int), (0 : Int), (0 : Int), (0 : Int), (0 : Int), false, false, ([] : List Int), false, ([] : List L_Bind), zL_Clause⟩
def k189 : Kd L_Step := Kd.iso (Kd.pair (Kd.int .i64) (Kd.pair (Kd.int .i64) (Kd.pair (Kd.int .i64) (Kd.pair (Kd.int .i64) (Kd.pair (Kd.int .i64) (Kd.pair Kd.bool (Kd.pair Kd.bool (Kd.pair (Kd.slice 3 (Kd.int .i64)) (Kd.pair Kd.bool (Kd.pair (Kd.slice 273 k273) k187)))))))))) (fun x : L_Step => (x.f0, x.f1, x.f2, x.f3, x.f4, x.f5, x.f6, x.f7, x.f8, x.f9, x.f10))
theorem k189_open {w : World} {x : L_Step} {cs : List Value} (h : k189.K w x cs) : ∃ A7 c7 A9 c9 A10 c10, cs = [.int .i64 x.f0, .int .i64 x.f1, .int .i64 x.f2, .int .i64 x.f3, .int .i64 x.f4, .bool x.f5, .bool x.f6, .slice A7 x.f7.length c7, .bool x.f8, .slice A9 x.f9.length c9, .slice A10 x.f10.f0.length c10] ∧ x.f7.length ≤ c7 ∧ (Kd.int .i64).C w A7 x.f7.length x.f7 ∧ x.f9.length ≤ c9 ∧ k273.C w A9 x.f9.length x.f9 ∧ x.f10.f0.length ≤ c10 ∧ k139.C w A10 x.f10.f0.length x.f10.f0 := by
  obtain ⟨_, _, rfl, rfl, ⟨_, _, rfl, rfl, ⟨_, _, rfl, rfl, ⟨_, _, rfl, rfl, ⟨_, _, rfl, rfl, ⟨_, _, rfl, rfl, ⟨_, _, rfl, rfl, ⟨_, _, rfl, ⟨A7, c7, rfl, l7, g7⟩, ⟨_, _, rfl, rfl, ⟨_, _, rfl, ⟨A9, c9, rfl, l9, g9⟩, s10⟩⟩⟩⟩⟩⟩⟩⟩⟩⟩ := h
  obtain ⟨A10, c10, rfl, l10, g10⟩ := k187_open s10
  exact ⟨A7, c7, A9, c9, A10, c10, rfl, l7, g7, l9, g9, l10, g10⟩
theorem k189_openM {w : World} {base : Nat} {ok : Nat → Prop} {x : L_Step} {cs : List Value} (h : k189.M w base ok x cs) : ∃ v7 v9 v10, cs = [.int .i64 x.f0, .int .i64 x.f1, .int .i64 x.f2, .int .i64 x.f3, .int .i64 x.f4, .bool x.f5, .bool x.f6, v7, .bool x.f8, v9, v10] ∧ (Kd.int .i64).R 3 w base ok v7 x.f7 ∧ k273.R 273 w base ok v9 x.f9 ∧ k139.R 139 w base ok v10 x.f10.f0 := by
  obtain ⟨_, _, rfl, rfl, ⟨_, _, rfl, rfl, ⟨_, _, rfl, rfl, ⟨_, _, rfl, rfl, ⟨_, _, rfl, rfl, ⟨_, _, rfl, rfl, ⟨_, _, rfl, rfl, ⟨_, _, rfl, ⟨v7, rfl, g7⟩, ⟨_, _, rfl, rfl, ⟨_, _, rfl, ⟨v9, rfl, g9⟩, s10⟩⟩⟩⟩⟩⟩⟩⟩⟩⟩ := h
  obtain ⟨v10, rfl, g10⟩ := k187_openM s10
  exact ⟨v7, v9, v10, rfl, g7, g9, g10⟩
theorem k189_mk (w : World) (x : L_Step) {A7 : Option Addr} {c7 : Nat} (l7 : x.f7.length ≤ c7) (g7 : (Kd.int .i64).C w A7 x.f7.length x.f7) {A9 : Option Addr} {c9 : Nat} (l9 : x.f9.length ≤ c9) (g9 : k273.C w A9 x.f9.length x.f9) {A10 : Option Addr} {c10 : Nat} (l10 : x.f10.f0.length ≤ c10) (g10 : k139.C w A10 x.f10.f0.length x.f10.f0) : k189.K w x [.int .i64 x.f0, .int .i64 x.f1, .int .i64 x.f2, .int .i64 x.f3, .int .i64 x.f4, .bool x.f5, .bool x.f6, .slice A7 x.f7.length c7, .bool x.f8, .slice A9 x.f9.length c9, .slice A10 x.f10.f0.length c10] := ⟨[.int .i64 x.f0], [.int .i64 x.f1, .int .i64 x.f2, .int .i64 x.f3, .int .i64 x.f4, .bool x.f5, .bool x.f6, .slice A7 x.f7.length c7, .bool x.f8, .slice A9 x.f9.length c9, .slice A10 x.f10.f0.length c10], rfl, rfl, ⟨[.int .i64 x.f1], [.int .i64 x.f2, .int .i64 x.f3, .int .i64 x.f4, .bool x.f5, .bool x.f6, .slice A7 x.f7.length c7, .bool x.f8, .slice A9 x.f9.length c9, .slice A10 x.f10.f0.length c10], rfl, rfl, ⟨[.int .i64 x.f2], [.int .i64 x.f3, .int .i64 x.f4, .bool x.f5, .bool x.f6, .slice A7 x.f7.length c7, .bool x.f8, .slice A9 x.f9.length c9, .slice A10 x.f10.f0.length c10], rfl, rfl, ⟨[.int .i64 x.f3], [.int .i64 x.f4, .bool x.f5, .bool x.f6, .slice A7 x.f7.length c7, .bool x.f8, .slice A9 x.f9.length c9, .slice A10 x.f10.f0.length c10], rfl, rfl, ⟨[.int .i64 x.f4], [.bool x.f5, .bool x.f6, .slice A7 x.f7.length c7, .bool x.f8, .slice A9 x.f9.length c9, .slice A10 x.f10.f0.length c10], rfl, rfl, ⟨[.bool x.f5], [.bool x.f6, .slice A7 x.f7.length c7, .bool x.f8, .slice A9 x.f9.length c9, .slice A10 x.f10.f0.length c10], rfl, rfl, ⟨[.bool x.f6], [.slice A7 x.f7.length c7, .bool x.f8, .slice A9 x.f9.length c9, .slice A10 x.f10.f0.length c10], rfl, rfl, ⟨[.slice A7 x.f7.length c7], [.bool x.f8, .slice A9 x.f9.length c9, .slice A10 x.f10.f0.length c10], rfl, ⟨A7, c7, rfl, l7, g7⟩, ⟨[.bool x.f8], [.slice A9 x.f9.length c9, .slice A10 x.f10.f0.length c10], rfl, rfl, ⟨[.slice A9 x.f9.length c9], [.slice A10 x.f10.f0.length c10], rfl, ⟨A9, c9, rfl, l9, g9⟩, (k187_mk w x.f10 l10 g10)⟩⟩⟩⟩⟩⟩⟩⟩⟩⟩
theorem k189_mkM (w : World) (base : Nat) (ok : Nat → Prop) (x : L_Step) {v7 : Value} (g7 : (Kd.int .i64).R 3 w base ok v7 x.f7) {v9 : Value} (g9 : k273.R 273 w base ok v9 x.f9) {v10 : Value} (g10 : k139.R 139 w base ok v10 x.f10.f0) : k189.M w base ok x [.int .i64 x.f0, .int .i64 x.f1, .int .i64 x.f2, .int .i64 x.f3, .int .i64 x.f4, .bool x.f5, .bool x.f6, v7, .bool x.f8, v9, v10] := ⟨[.int .i64 x.f0], [.int .i64 x.f1, .int .i64 x.f2, .int .i64 x.f3, .int .i64 x.f4, .bool x.f5, .bool x.f6, v7, .bool x.f8, v9, v10], rfl, rfl, ⟨[.int .i64 x.f1], [.int .i64 x.f2, .int .i64 x.f3, .int .i64 x.f4, .bool x.f5, .bool x.f6, v7, .bool x.f8, v9, v10], rfl, rfl, ⟨[.int .i64 x.f2], [.int .i64 x.f3, .int .i64 x.f4, .bool x.f5, .bool x.f6, v7, .bool x.f8, v9, v10], rfl, rfl, ⟨[.int .i64 x.f3], [.int .i64 x.f4, .bool x.f5, .bool x.f6, v7, .bool x.f8, v9, v10], rfl, rfl, ⟨[.int .i64 x.f4], [.bool x.f5, .bool x.f6, v7, .bool x.f8, v9, v10], rfl, rfl, ⟨[.bool x.f5], [.bool x.f6, v7, .bool x.f8, v9, v10], rfl, rfl, ⟨[.bool x.f6], [v7, .bool x.f8, v9, v10], rfl, rfl, ⟨[v7], [.bool x.f8, v9, v10], rfl, ⟨v7, rfl, g7⟩, ⟨[.bool x.f8], [v9, v10], rfl, rfl, ⟨[v9], [v10], rfl, ⟨v9, rfl, g9⟩, (k187_mkM w base ok x.f10 g10)⟩⟩⟩⟩⟩⟩⟩⟩⟩⟩
def rd_L_Step (xs : List L_Step) (i : Int) : L_Step := xs.getD i.toNat zL_Step
theorem at_T189 {w : World} {A : Option Addr} {n : Nat} {xs : List L_Step} (h : Kd.C k189 w A n xs) (i : Int) (h0 : 0 ≤ i) (h1 : i < n) : ∃ ad A7 c7 A9 c9 A10 c10, A = some ad ∧ w.cell? (ad.add (i.toNat * 11)) = some (.int .i64 (rd_L_Step xs i).f0) ∧ w.cell? ⟨(ad.add (i.toNat * 11)).block, (ad.add (i.toNat * 11)).off + 1, none⟩ = some (.int .i64 (rd_L_Step xs i).f1) ∧ w.cell? ⟨(ad.add (i.toNat * 11)).block, (ad.add (i.toNat * 11)).off + 2, none⟩ = some (.int .i64 (rd_L_Step xs i).f2) ∧ w.cell? ⟨(ad.add (i.toNat * 11)).block, (ad.add (i.toNat * 11)).off + 3, none⟩ = some (.int .i64 (rd_L_Step xs i).f3) ∧ w.cell? ⟨(ad.add (i.toNat * 11)).block, (ad.add (i.toNat * 11)).off + 4, none⟩ = some (.int .i64 (rd_L_Step xs i).f4) ∧ w.cell? ⟨(ad.add (i.toNat * 11)).block, (ad.add (i.toNat * 11)).off + 5, none⟩ = some (.bool (rd_L_Step xs i).f5) ∧ w.cell? ⟨(ad.add (i.toNat * 11)).block, (ad.add (i.toNat * 11)).off + 6, none⟩ = some (.bool (rd_L_Step xs i).f6) ∧ w.cell? ⟨(ad.add (i.toNat * 11)).block, (ad.add (i.toNat * 11)).off + 7, none⟩ = some (.slice A7 (rd_L_Step xs i).f7.length c7) ∧ w.cell? ⟨(ad.add (i.toNat * 11)).block, (ad.add (i.toNat * 11)).off + 8, none⟩ = some (.bool (rd_L_Step xs i).f8) ∧ w.cell? ⟨(ad.add (i.toNat * 11)).block, (ad.add (i.toNat * 11)).off + 9, none⟩ = some (.slice A9 (rd_L_Step xs i).f9.length c9) ∧ w.cell? ⟨(ad.add (i.toNat * 11)).block, (ad.add (i.toNat * 11)).off + 10, none⟩ = some (.slice A10 (rd_L_Step xs i).f10.f0.length c10) ∧ (rd_L_Step xs i).f7.length ≤ c7 ∧ (Kd.int .i64).C w A7 (rd_L_Step xs i).f7.length (rd_L_Step xs i).f7 ∧ (rd_L_Step xs i).f9.length ≤ c9 ∧ k273.C w A9 (rd_L_Step xs i).f9.length (rd_L_Step xs i).f9 ∧ (rd_L_Step xs i).f10.f0.length ≤ c10 ∧ k139.C w A10 (rd_L_Step xs i).f10.f0.length (rd_L_Step xs i).f10.f0 := by
  obtain ⟨ad, c, e, _, hK, hc0⟩ := Kd.C_get h zL_Step i h0 h1
  have hc : ∀ j u, c[j]? = some u → w.cell? (ad.add (i.toNat * 11 + j)) = some u := hc0
  obtain ⟨A7, c7, A9, c9, A10, c10, rfl, l7, g7, l9, g9, l10, g10⟩ := k189_open hK
  exact ⟨ad, A7, c7, A9, c9, A10, c10, e, hc 0 _ rfl, by rw [← add_field _ _ 1 (by omega)]; exact hc 1 _ rfl, by rw [← add_field _ _ 2 (by omega)]; exact hc 2 _ rfl, by rw [← add_field _ _ 3 (by omega)]; exact hc 3 _ rfl, by rw [← add_field _ _ 4 (by omega)]; exact hc 4 _ rfl, by rw [← add_field _ _ 5 (by omega)]; exact hc 5 _ rfl, by rw [← add_field _ _ 6 (by omega)]; exact hc 6 _ rfl, by rw [← add_field _ _ 7 (by omega)]; exact hc 7 _ rfl, by rw [← add_field _ _ 8 (by omega)]; exact hc 8 _ rfl, by rw [← add_field _ _ 9 (by omega)]; exact hc 9 _ rfl, by rw [← add_field _ _ 10 (by omega)]; exact hc 10 _ rfl, l7, g7, l9, g9, l10, g10⟩

/-! #### struct type 33, nested in itself -/
structure I_Term where
  f0 : Int
  f1 : Int
  f2 : (List I_Term)
def zI_Term : I_Term := ⟨(0 : Int), (0 : Int), ([] : List I_Term)⟩
def F33 (d : Kd I_Term) : Kd I_Term := Kd.iso (Kd.pair (Kd.int .i64) (Kd.pair (Kd.int .i64) (Kd.slice 33 d))) (fun x : I_Term => (x.f0, x.f1, x.f2))
theorem mono33 : Kd.Mono F33 := Kd.mono_iso _ (Kd.mono_pair (Kd.mono_const _) (Kd.mono_pair (Kd.mono_const _) (Kd.mono_slice 33 Kd.mono_id)))
theorem sub33 : Kd.Sub F33 [33] := Kd.sub_iso _ (Kd.sub_pair (Kd.sub_const _ (by decide)) (Kd.sub_pair (Kd.sub_const _ (by decide)) (Kd.sub_slice 33 (by decide) Kd.sub_id)))
theorem sz33 : ∀ n, (Kd.upto F33 3 [33] n).sz = 3 := Kd.upto_sz (fun _ => rfl)
def k33 : Kd I_Term := Kd.fix F33 3 [33] sz33 (Kd.upto_E sub33)
theorem k33_open {w : World} {x : I_Term} {cs : List Value} (h : k33.K w x cs) : ∃ A2 c2, cs = [.int .i64 x.f0, .int .i64 x.f1, .slice A2 x.f2.length c2] ∧ x.f2.length ≤ c2 ∧ k33.C w A2 x.f2.length x.f2 := by
  obtain ⟨n, h⟩ := h
  cases n with
  | zero => exact h.elim
  | succ n =>
    obtain ⟨_, _, rfl, rfl, ⟨_, _, rfl, rfl, ⟨A2, c2, rfl, l2, g2⟩⟩⟩ := h
    exact ⟨A2, c2, rfl, l2, Kd.fix_C g2⟩
theorem k33_openM {w : World} {base : Nat} {ok : Nat → Prop} {x : I_Term} {cs : List Value} (h : k33.M w base ok x cs) : ∃ v2, cs = [.int .i64 x.f0, .int .i64 x.f1, v2] ∧ k33.R 33 w base ok v2 x.f2 := by
  obtain ⟨n, h⟩ := h
  cases n with
  | zero => exact h.elim
  | succ n =>
    obtain ⟨_, _, rfl, rfl, ⟨_, _, rfl, rfl, ⟨v2, rfl, g2⟩⟩⟩ := h
    exact ⟨v2, rfl, Kd.fix_R g2⟩
theorem k33_mk (w : World) (x : I_Term) {A2 : Option Addr} {c2 : Nat} (l2 : x.f2.length ≤ c2) (g2 : k33.C w A2 x.f2.length x.f2) : k33.K w x [.int .i64 x.f0, .int .i64 x.f1, .slice A2 x.f2.length c2] := by
  obtain ⟨n2, q2⟩ := Kd.fix_C_back mono33 g2
  have r2 := Kd.upto_C_le mono33 sz33 (show n2 ≤ n2 by omega) q2
  exact ⟨n2 + 1, ⟨[.int .i64 x.f0], [.int .i64 x.f1, .slice A2 x.f2.length c2], rfl, rfl, ⟨[.int .i64 x.f1], [.slice A2 x.f2.length c2], rfl, rfl, ⟨A2, c2, rfl, l2, r2⟩⟩⟩⟩
theorem k33_mkM (w : World) (base : Nat) (ok : Nat → Prop) (x : I_Term) {v2 : Value} (g2 : k33.R 33 w base ok v2 x.f2) : k33.M w base ok x [.int .i64 x.f0, .int .i64 x.f1, v2] := by
  obtain ⟨n2, q2⟩ := Kd.fix_R_back mono33 g2
  have r2 := Kd.upto_R_le mono33 sz33 (show n2 ≤ n2 by omega) q2
  exact ⟨n2 + 1, ⟨[.int .i64 x.f0], [.int .i64 x.f1, v2], rfl, rfl, ⟨[.int .i64 x.f1], [v2], rfl, rfl, ⟨v2, rfl, r2⟩⟩⟩⟩
def rd_I_Term (xs : List I_Term) (i : Int) : I_Term := xs.getD i.toNat zI_Term
theorem at_T33 {w : World} {A : Option Addr} {n : Nat} {xs : List I_Term} (h : Kd.C k33 w A n xs) (i : Int) (h0 : 0 ≤ i) (h1 : i < n) : ∃ ad A2 c2, A = some ad ∧ w.cell? (ad.add (i.toNat * 3)) = some (.int .i64 (rd_I_Term xs i).f0) ∧ w.cell? ⟨(ad.add (i.toNat * 3)).block, (ad.add (i.toNat * 3)).off + 1, none⟩ = some (.int .i64 (rd_I_Term xs i).f1) ∧ w.cell? ⟨(ad.add (i.toNat * 3)).block, (ad.add (i.toNat * 3)).off + 2, none⟩ = some (.slice A2 (rd_I_Term xs i).f2.length c2) ∧ (rd_I_Term xs i).f2.length ≤ c2 ∧ k33.C w A2 (rd_I_Term xs i).f2.length (rd_I_Term xs i).f2 := by
  obtain ⟨ad, c, e, _, hK, hc0⟩ := Kd.C_get h zI_Term i h0 h1
  have hc : ∀ j u, c[j]? = some u → w.cell? (ad.add (i.toNat * 3 + j)) = some u := hc0
  obtain ⟨A2, c2, rfl, l2, g2⟩ := k33_open hK
  exact ⟨ad, A2, c2, e, hc 0 _ rfl, by rw [← add_field _ _ 1 (by omega)]; exact hc 1 _ rfl, by rw [← add_field _ _ 2 (by omega)]; exact hc 2 _ rfl, l2, g2⟩

/-! #### struct type 107 -/
structure I_Bind where
  f0 : Int
  f1 : I_Term
def zI_Bind : I_Bind := ⟨(0 : Int), zI_Term⟩
def k107 : Kd I_Bind := Kd.iso (Kd.pair (Kd.int .i64) k33) (fun x : I_Bind => (x.f0, x.f1))
theorem k107_open {w : World} {x : I_Bind} {cs : List Value} (h : k107.K w x cs) : ∃ A3 c3, cs = [.int .i64 x.f0, .int .i64 x.f1.f0, .int .i64 x.f1.f1, .slice A3 x.f1.f2.length c3] ∧ x.f1.f2.length ≤ c3 ∧ k33.C w A3 x.f1.f2.length x.f1.f2 := by
  obtain ⟨_, _, rfl, rfl, s1⟩ := h
  obtain ⟨A3, c3, rfl, l3, g3⟩ := k33_open s1
  exact ⟨A3, c3, rfl, l3, g3⟩
theorem k107_openM {w : World} {base : Nat} {ok : Nat → Prop} {x : I_Bind} {cs : List Value} (h : k107.M w base ok x cs) : ∃ v3, cs = [.int .i64 x.f0, .int .i64 x.f1.f0, .int .i64 x.f1.f1, v3] ∧ k33.R 33 w base ok v3 x.f1.f2 := by
  obtain ⟨_, _, rfl, rfl, s1⟩ := h
  obtain ⟨v3, rfl, g3⟩ := k33_openM s1
  exact ⟨v3, rfl, g3⟩
theorem k107_mk (w : World) (x : I_Bind) {A3 : Option Addr} {c3 : Nat} (l3 : x.f1.f2.length ≤ c3) (g3 : k33.C w A3 x.f1.f2.length x.f1.f2) : k107.K w x [.int .i64 x.f0, .int .i64 x.f1.f0, .int .i64 x.f1.f1, .slice A3 x.f1.f2.length c3] := ⟨[.int .i64 x.f0], [.int .i64 x.f1.f0, .int .i64 x.f1.f1, .slice A3 x.f1.f2.length c3], rfl, rfl, (k33_mk w x.f1 l3 g3)⟩
theorem k107_mkM (w : World) (base : Nat) (ok : Nat → Prop) (x : I_Bind) {v3 : Value} (g3 : k33.R 33 w base ok v3 x.f1.f2) : k107.M w base ok x [.int .i64 x.f0, .int .i64 x.f1.f0, .int .i64 x.f1.f1, v3] := ⟨[.int .i64 x.f0], [.int .i64 x.f1.f0, .int .i64 x.f1.f1, v3], rfl, rfl, (k33_mkM w base ok x.f1 g3)⟩
def rd_I_Bind (xs : List I_Bind) (i : Int) : I_Bind := xs.getD i.toNat zI_Bind
theorem at_T107 {w : World} {A : Option Addr} {n : Nat} {xs : List I_Bind} (h : Kd.C k107 w A n xs) (i : Int) (h0 : 0 ≤ i) (h1 : i < n) : ∃ ad A3 c3, A = some ad ∧ w.cell? (ad.add (i.toNat * 4)) = some (.int .i64 (rd_I_Bind xs i).f0) ∧ w.cell? ⟨(ad.add (i.toNat * 4)).block, (ad.add (i.toNat * 4)).off + 1, none⟩ = some (.int .i64 (rd_I_Bind xs i).f1.f0) ∧ w.cell? ⟨(ad.add (i.toNat * 4)).block, (ad.add (i.toNat * 4)).off + 2, none⟩ = some (.int .i64 (rd_I_Bind xs i).f1.f1) ∧ w.cell? ⟨(ad.add (i.toNat * 4)).block, (ad.add (i.toNat * 4)).off + 3, none⟩ = some (.slice A3 (rd_I_Bind xs i).f1.f2.length c3) ∧ (rd_I_Bind xs i).f1.f2.length ≤ c3 ∧ k33.C w A3 (rd_I_Bind xs i).f1.f2.length (rd_I_Bind xs i).f1.f2 := by
  obtain ⟨ad, c, e, _, hK, hc0⟩ := Kd.C_get h zI_Bind i h0 h1
  have hc : ∀ j u, c[j]? = some u → w.cell? (ad.add (i.toNat * 4 + j)) = some u := hc0
  obtain ⟨A3, c3, rfl, l3, g3⟩ := k107_open hK
  exact ⟨ad, A3, c3, e, hc 0 _ rfl, by rw [← add_field _ _ 1 (by omega)]; exact hc 1 _ rfl, by rw [← add_field _ _ 2 (by omega)]; exact hc 2 _ rfl, by rw [← add_field _ _ 3 (by omega)]; exact hc 3 _ rfl, l3, g3⟩

/-! #### struct type 120 -/
structure I_Lit where
  f0 : Bool
  f1 : I_Term
  f2 : I_Term
def zI_Lit : I_Lit := ⟨false, zI_Term, zI_Term⟩
def k120 : Kd I_Lit := Kd.iso (Kd.pair Kd.bool (Kd.pair k33 k33)) (fun x : I_Lit => (x.f0, x.f1, x.f2))
theorem k120_open {w : World} {x : I_Lit} {cs : List Value} (h : k120.K w x cs) : ∃ A3 c3 A6 c6, cs = [.bool x.f0, .int .i64 x.f1.f0, .int .i64 x.f1.f1, .slice A3 x.f1.f2.length c3, .int .i64 x.f2.f0, .int .i64 x.f2.f1, .slice A6 x.f2.f2.length c6] ∧ x.f1.f2.length ≤ c3 ∧ k33.C w A3 x.f1.f2.length x.f1.f2 ∧ x.f2.f2.length ≤ c6 ∧ k33.C w A6 x.f2.f2.length x.f2.f2 := by
  obtain ⟨_, _, rfl, rfl, ⟨_, _, rfl, s1, s4⟩⟩ := h
  obtain ⟨A3, c3, rfl, l3, g3⟩ := k33_open s1
  obtain ⟨A6, c6, rfl, l6, g6⟩ := k33_open s4
  exact ⟨A3, c3, A6, c6, rfl, l3, g3, l6, g6⟩
theorem k120_openM {w : World} {base : Nat} {ok : Nat → Prop} {x : I_Lit} {cs : List Value} (h : k120.M w base ok x cs) : ∃ v3 v6, cs = [.bool x.f0, .int .i64 x.f1.f0, .int .i64 x.f1.f1, v3, .int .i64 x.f2.f0, .int .i64 x.f2.f1, v6] ∧ k33.R 33 w base ok v3 x.f1.f2 ∧ k33.R 33 w base ok v6 x.f2.f2 := by
  obtain ⟨_, _, rfl, rfl, ⟨_, _, rfl, s1, s4⟩⟩ := h
  obtain ⟨v3, rfl, g3⟩ := k33_openM s1
  obtain ⟨v6, rfl, g6⟩ := k33_openM s4
  exact ⟨v3, v6, rfl, g3, g6⟩
theorem k120_mk (w : World) (x : I_Lit) {A3 : Option Addr} {c3 : Nat} (l3 : x.f1.f2.length ≤ c3) (g3 : k33.C w A3 x.f1.f2.length x.f1.f2) {A6 : Option Addr} {c6 : Nat} (l6 : x.f2.f2.length ≤ c6) (g6 : k33.C w A6 x.f2.f2.length x.f2.f2) : k120.K w x [.bool x.f0, .int .i64 x.f1.f0, .int .i64 x.f1.f1, .slice A3 x.f1.f2.length c3, .int .i64 x.f2.f0, .int .i64 x.f2.f1, .slice A6 x.f2.f2.length c6] := ⟨[.bool x.f0], [.int .i64 x.f1.f0, .int .i64 x.f1.f1, .slice A3 x.f1.f2.length c3, .int .i64 x.f2.f0, .int .i64 x.f2.f1, .slice A6 x.f2.f2.length c6], rfl, rfl, ⟨[.int .i64 x.f1.f0, .int .i64 x.f1.f1, .slice A3 x.f1.f2.length c3], [.int .i64 x.f2.f0, .int .i64 x.f2.f1, .slice A6 x.f2.f2.length c6], rfl, (k33_mk w x.f1 l3 g3), (k33_mk w x.f2 l6 g6)⟩⟩
theorem k120_mkM (w : World) (base : Nat) (ok : Nat → Prop) (x : I_Lit) {v3 : Value} (g3 : k33.R 33 w base ok v3 x.f1.f2) {v6 : Value} (g6 : k33.R 33 w base ok v6 x.f2.f2) : k120.M w base ok x [.bool x.f0, .int .i64 x.f1.f0, .int .i64 x.f1.f1, v3, .int .i64 x.f2.f0, .int .i64 x.f2.f1, v6] := ⟨[.bool x.f0], [.int .i64 x.f1.f0, .int .i64 x.f1.f1, v3, .int .i64 x.f2.f0, .int .i64 x.f2.f1, v6], rfl, rfl, ⟨[.int .i64 x.f1.f0, .int .i64 x.f1.f1, v3], [.int .i64 x.f2.f0, .int .i64 x.f2.f1, v6], rfl, (k33_mkM w base ok x.f1 g3), (k33_mkM w base ok x.f2 g6)⟩⟩
def rd_I_Lit (xs : List I_Lit) (i : Int) : I_Lit := xs.getD i.toNat zI_Lit
theorem at_T120 {w : World} {A : Option Addr} {n : Nat} {xs : List I_Lit} (h : Kd.C k120 w A n xs) (i : Int) (h0 : 0 ≤ i) (h1 : i < n) : ∃ ad A3 c3 A6 c6, A = some ad ∧ w.cell? (ad.add (i.toNat * 7)) = some (.bool (rd_I_Lit xs i).f0) ∧ w.cell? ⟨(ad.add (i.toNat * 7)).block, (ad.add (i.toNat * 7)).off + 1, none⟩ = some (.int .i64 (rd_I_Lit xs i).f1.f0) ∧ w.cell? ⟨(ad.add (i.toNat * 7)).block, (ad.add (i.toNat * 7)).off + 2, none⟩ = some (.int .i64 (rd_I_Lit xs i).f1.f1) ∧ w.cell? ⟨(ad.add (i.toNat * 7)).block, (ad.add (i.toNat * 7)).off + 3, none⟩ = some (.slice A3 (rd_I_Lit xs i).f1.f2.length c3) ∧ w.cell? ⟨(ad.add (i.toNat * 7)).block, (ad.add (i.toNat * 7)).off + 4, none⟩ = some (.int .i64 (rd_I_Lit xs i).f2.f0) ∧ w.cell? ⟨(ad.add (i.toNat * 7)).block, (ad.add (i.toNat * 7)).off + 5, none⟩ = some (.int .i64 (rd_I_Lit xs i).f2.f1) ∧ w.cell? ⟨(ad.add (i.toNat * 7)).block, (ad.add (i.toNat * 7)).off + 6, none⟩ = some (.slice A6 (rd_I_Lit xs i).f2.f2.length c6) ∧ (rd_I_Lit xs i).f1.f2.length ≤ c3 ∧ k33.C w A3 (rd_I_Lit xs i).f1.f2.length (rd_I_Lit xs i).f1.f2 ∧ (rd_I_Lit xs i).f2.f2.length ≤ c6 ∧ k33.C w A6 (rd_I_Lit xs i).f2.f2.length (rd_I_Lit xs i).f2.f2 := by
  obtain ⟨ad, c, e, _, hK, hc0⟩ := Kd.C_get h zI_Lit i h0 h1
  have hc : ∀ j u, c[j]? = some u → w.cell? (ad.add (i.toNat * 7 + j)) = some u := hc0
  obtain ⟨A3, c3, A6, c6, rfl, l3, g3, l6, g6⟩ := k120_open hK
  exact ⟨ad, A3, c3, A6, c6, e, hc 0 _ rfl, by rw [← add_field _ _ 1 (by omega)]; exact hc 1 _ rfl, by rw [← add_field _ _ 2 (by omega)]; exact hc 2 _ rfl, by rw [← add_field _ _ 3 (by omega)]; exact hc 3 _ rfl, by rw [← add_field _ _ 4 (by omega)]; exact hc 4 _ rfl, by rw [← add_field _ _ 5 (by omega)]; exact hc 5 _ rfl, by rw [← add_field _ _ 6 (by omega)]; exact hc 6 _ rfl, l3, g3, l6, g6⟩

def rd_Ls_I_Bind (xs : List (List I_Bind)) (i : Int) : (List I_Bind) := xs.getD i.toNat ([] : List I_Bind)
theorem at_L13 {w : World} {A : Option Addr} {n : Nat} {xs : List (List I_Bind)} (h : Kd.C (Kd.slice 107 k107) w A n xs) (i : Int) (h0 : 0 ≤ i) (h1 : i < n) : ∃ ad A0 c0, A = some ad ∧ w.cell? (ad.add i.toNat) = some (.slice A0 (rd_Ls_I_Bind xs i).length c0) ∧ (rd_Ls_I_Bind xs i).length ≤ c0 ∧ k107.C w A0 (rd_Ls_I_Bind xs i).length (rd_Ls_I_Bind xs i) := by
  obtain ⟨ad, c, e, _, hK, hc0⟩ := Kd.C_get h ([] : List I_Bind) i h0 h1
  have hc : ∀ j u, c[j]? = some u → w.cell? (ad.add (i.toNat * 1 + j)) = some u := hc0
  obtain ⟨A0, c0, rfl, l0, g0⟩ := hK
  exact ⟨ad, A0, c0, e, by have hq := hc 0 _ rfl; rwa [Nat.mul_one, Nat.add_zero] at hq, l0, g0⟩

def rd_Ls_I_Lit (xs : List (List I_Lit)) (i : Int) : (List I_Lit) := xs.getD i.toNat ([] : List I_Lit)
theorem at_L14 {w : World} {A : Option Addr} {n : Nat} {xs : List (List I_Lit)} (h : Kd.C (Kd.slice 120 k120) w A n xs) (i : Int) (h0 : 0 ≤ i) (h1 : i < n) : ∃ ad A0 c0, A = some ad ∧ w.cell? (ad.add i.toNat) = some (.slice A0 (rd_Ls_I_Lit xs i).length c0) ∧ (rd_Ls_I_Lit xs i).length ≤ c0 ∧ k120.C w A0 (rd_Ls_I_Lit xs i).length (rd_Ls_I_Lit xs i) := by
  obtain ⟨ad, c, e, _, hK, hc0⟩ := Kd.C_get h ([] : List I_Lit) i h0 h1
  have hc : ∀ j u, c[j]? = some u → w.cell? (ad.add (i.toNat * 1 + j)) = some u := hc0
  obtain ⟨A0, c0, rfl, l0, g0⟩ := hK
  exact ⟨ad, A0, c0, e, by have hq := hc 0 _ rfl; rwa [Nat.mul_one, Nat.add_zero] at hq, l0, g0⟩

/-! #### struct type 74 -/
structure I_Clause where
  f0 : (List I_Lit)
def zI_Clause : I_Clause := ⟨([] : List I_Lit)⟩
def k74 : Kd I_Clause := Kd.iso (Kd.slice 120 k120) (fun x : I_Clause => x.f0)
theorem k74_open {w : World} {x : I_Clause} {cs : List Value} (h : k74.K w x cs) : ∃ A0 c0, cs = [.slice A0 x.f0.length c0] ∧ x.f0.length ≤ c0 ∧ k120.C w A0 x.f0.length x.f0 := by
  obtain ⟨A0, c0, rfl, l0, g0⟩ := h
  exact ⟨A0, c0, rfl, l0, g0⟩
theorem k74_openM {w : World} {base : Nat} {ok : Nat → Prop} {x : I_Clause} {cs : List Value} (h : k74.M w base ok x cs) : ∃ v0, cs = [v0] ∧ k120.R 120 w base ok v0 x.f0 := by
  obtain ⟨v0, rfl, g0⟩ := h
  exact ⟨v0, rfl, g0⟩
theorem k74_mk (w : World) (x : I_Clause) {A0 : Option Addr} {c0 : Nat} (l0 : x.f0.length ≤ c0) (g0 : k120.C w A0 x.f0.length x.f0) : k74.K w x [.slice A0 x.f0.length c0] := ⟨A0, c0, rfl, l0, g0⟩
theorem k74_mkM (w : World) (base : Nat) (ok : Nat → Prop) (x : I_Clause) {v0 : Value} (g0 : k120.R 120 w base ok v0 x.f0) : k74.M w base ok x [v0] := ⟨v0, rfl, g0⟩
def rd_I_Clause (xs : List I_Clause) (i : Int) : I_Clause := xs.getD i.toNat zI_Clause
theorem at_T74 {w : World} {A : Option Addr} {n : Nat} {xs : List I_Clause} (h : Kd.C k74 w A n xs) (i : Int) (h0 : 0 ≤ i) (h1 : i < n) : ∃ ad A0 c0, A = some ad ∧ w.cell? (ad.add i.toNat) = some (.slice A0 (rd_I_Clause xs i).f0.length c0) ∧ (rd_I_Clause xs i).f0.length ≤ c0 ∧ k120.C w A0 (rd_I_Clause xs i).f0.length (rd_I_Clause xs i).f0 := by
  obtain ⟨ad, c, e, _, hK, hc0⟩ := Kd.C_get h zI_Clause i h0 h1
  have hc : ∀ j u, c[j]? = some u → w.cell? (ad.add (i.toNat * 1 + j)) = some u := hc0
  obtain ⟨A0, c0, rfl, l0, g0⟩ := k74_open hK
  exact ⟨ad, A0, c0, e, by have hq := hc 0 _ rfl; rwa [Nat.mul_one, Nat.add_zero] at hq, l0, g0⟩

/-! #### struct type 193 -/
structure I_Step where
  f0 : Int
  f1 : Int
  f2 : Int
  f3 : Int
  f4 : Int
  f5 : Bool
  f6 : Bool
  f7 : (List Int)
  f8 : Bool
  f9 : (List I_Bind)
  f10 : I_Clause
def zI_Step : I_Step := ⟨(0 : Int), (0 : Int), (0 : Int), (0 : Int), (0 : Int), false, false, ([] : List Int), false, ([] : List I_Bind), zI_Clause⟩
def k193 : Kd I_Step := Kd.iso (Kd.pair (Kd.int .i64) (Kd.pair (Kd.int .i64) (Kd.pair (Kd.int .i64) (Kd.pair (Kd.int .i64) (Kd.pair (Kd.int .i64) (Kd.pair Kd.bool (Kd.pair Kd.bool (Kd.pair (Kd.slice 3 (Kd.int .i64)) (Kd.pair Kd.bool (Kd.pair (Kd.slice 107 k107) k74)))))))))) (fun x : I_Step => (x.f0, x.f1, x.f2, x.f3, x.f4, x.f5, x.f6, x.f7, x.f8, x.f9, x.f10))
theorem k193_open {w : World} {x : I_Step} {cs : List Value} (h : k193.K w x cs) : ∃ A7 c7 A9 c9 A10 c10, cs = [.int .i64 x.f0, .int .i64 x.f1, .int .i64 x.f2, .int .i64 x.f3, .int .i64 x.f4, .bool x.f5, .bool x.f6, .slice A7 x.f7.length c7, .bool x.f8, .slice A9 x.f9.length c9, .slice A10 x.f10.f0.length c10] ∧ x.f7.length ≤ c7 ∧ (Kd.int .i64).C w A7 x.f7.length x.f7 ∧ x.f9.length ≤ c9 ∧ k107.C w A9 x.f9.length x.f9 ∧ x.f10.f0.length ≤ c10 ∧ k120.C w A10 x.f10.f0.length x.f10.f0 := by
  obtain ⟨_, _, rfl, rfl, ⟨_, _, rfl, rfl, ⟨_, _, rfl, rfl, ⟨_, _, rfl, rfl, ⟨_, _, rfl, rfl, ⟨_, _, rfl, rfl, ⟨_, _, rfl, rfl, ⟨_, _, rfl, ⟨A7, c7, rfl, l7, g7⟩, ⟨_, _, rfl, rfl, ⟨_, _, rfl, ⟨A9, c9, rfl, l9, g9⟩, s10⟩⟩⟩⟩⟩⟩⟩⟩⟩⟩ := h
  obtain ⟨A10, c10, rfl, l10, g10⟩ := k74_open s10
  exact ⟨A7, c7, A9, c9, A10, c10, rfl, l7, g7, l9, g9, l10, g10⟩
theorem k193_openM {w : World} {base : Nat} {ok : Nat → Prop} {x : I_Step} {cs : List Value} (h : k193.M w base ok x cs) : ∃ v7 v9 v10, cs = [.int .i64 x.f0, .int .i64 x.f1, .int .i64 x.f2, .int .i64 x.f3, .int .i64 x.f4, .bool x.f5, .bool x.f6, v7, .bool x.f8, v9, v10] ∧ (Kd.int .i64).R 3 w base ok v7 x.f7 ∧ k107.R 107 w base ok v9 x.f9 ∧ k120.R 120 w base ok v10 x.f10.f0 := by
  obtain ⟨_, _, rfl, rfl, ⟨_, _, rfl, rfl, ⟨_, _, rfl, rfl, ⟨_, _, rfl, rfl, ⟨_, _, rfl, rfl, ⟨_, _, rfl, rfl, ⟨_, _, rfl, rfl, ⟨_, _, rfl, ⟨v7, rfl, g7⟩, ⟨_, _, rfl, rfl, ⟨_, _, rfl, ⟨v9, rfl, g9⟩, s10⟩⟩⟩⟩⟩⟩⟩⟩⟩⟩ := h
  obtain ⟨v10, rfl, g10⟩ := k74_openM s10
  exact ⟨v7, v9, v10, rfl, g7, g9, g10⟩
theorem k193_mk (w : World) (x : I_Step) {A7 : Option Addr} {c7 : Nat} (l7 : x.f7.length ≤ c7) (g7 : (Kd.int .i64).C w A7 x.f7.length x.f7) {A9 : Option Addr} {c9 : Nat} (l9 : x.f9.length ≤ c9) (g9 : k107.C w A9 x.f9.length x.f9) {A10 : Option Addr} {c10 : Nat} (l10 : x.f10.f0.length ≤ c10) (g10 : k120.C w A10 x.f10.f0.length x.f10.f0) : k193.K w x [.int .i64 x.f0, .int .i64 x.f1, .int .i64 x.f2, .int .i64 x.f3, .int .i64 x.f4, .bool x.f5, .bool x.f6, .slice A7 x.f7.length c7, .bool x.f8, .slice A9 x.f9.length c9, .slice A10 x.f10.f0.length c10] := ⟨[.int .i64 x.f0], [.int .i64 x.f1, .int .i64 x.f2, .int .i64 x.f3, .int .i64 x.f4, .bool x.f5, .bool x.f6, .slice A7 x.f7.length c7, .bool x.f8, .slice A9 x.f9.length c9, .slice A10 x.f10.f0.length c10], rfl, rfl, ⟨[.int .i64 x.f1], [.int .i64 x.f2, .int .i64 x.f3, .int .i64 x.f4, .bool x.f5, .bool x.f6, .slice A7 x.f7.length c7, .bool x.f8, .slice A9 x.f9.length c9, .slice A10 x.f10.f0.length c10], rfl, rfl, ⟨[.int .i64 x.f2], [.int .i64 x.f3, .int .i64 x.f4, .bool x.f5, .bool x.f6, .slice A7 x.f7.length c7, .bool x.f8, .slice A9 x.f9.length c9, .slice A10 x.f10.f0.length c10], rfl, rfl, ⟨[.int .i64 x.f3], [.int .i64 x.f4, .bool x.f5, .bool x.f6, .slice A7 x.f7.length c7, .bool x.f8, .slice A9 x.f9.length c9, .slice A10 x.f10.f0.length c10], rfl, rfl, ⟨[.int .i64 x.f4], [.bool x.f5, .bool x.f6, .slice A7 x.f7.length c7, .bool x.f8, .slice A9 x.f9.length c9, .slice A10 x.f10.f0.length c10], rfl, rfl, ⟨[.bool x.f5], [.bool x.f6, .slice A7 x.f7.length c7, .bool x.f8, .slice A9 x.f9.length c9, .slice A10 x.f10.f0.length c10], rfl, rfl, ⟨[.bool x.f6], [.slice A7 x.f7.length c7, .bool x.f8, .slice A9 x.f9.length c9, .slice A10 x.f10.f0.length c10], rfl, rfl, ⟨[.slice A7 x.f7.length c7], [.bool x.f8, .slice A9 x.f9.length c9, .slice A10 x.f10.f0.length c10], rfl, ⟨A7, c7, rfl, l7, g7⟩, ⟨[.bool x.f8], [.slice A9 x.f9.length c9, .slice A10 x.f10.f0.length c10], rfl, rfl, ⟨[.slice A9 x.f9.length c9], [.slice A10 x.f10.f0.length c10], rfl, ⟨A9, c9, rfl, l9, g9⟩, (k74_mk w x.f10 l10 g10)⟩⟩⟩⟩⟩⟩⟩⟩⟩⟩
theorem k193_mkM (w : World) (base : Nat) (ok : Nat → Prop) (x : I_Step) {v7 : Value} (g7 : (Kd.int .i64).R 3 w base ok v7 x.f7) {v9 : Value} (g9 : k107.R 107 w base ok v9 x.f9) {v10 : Value} (g10 : k120.R 120 w base ok v10 x.f10.f0) : k193.M w base ok x [.int .i64 x.f0, .int .i64 x.f1, .int .i64 x.f2, .int .i64 x.f3, .int .i64 x.f4, .bool x.f5, .bool x.f6, v7, .bool x.f8, v9, v10] := ⟨[.int .i64 x.f0], [.int .i64 x.f1, .int .i64 x.f2, .int .i64 x.f3, .int .i64 x.f4, .bool x.f5, .bool x.f6, v7, .bool x.f8, v9, v10], rfl, rfl, ⟨[.int .i64 x.f1], [.int .i64 x.f2, .int .i64 x.f3, .int .i64 x.f4, .bool x.f5, .bool x.f6, v7, .bool x.f8, v9, v10], rfl, rfl, ⟨[.int .i64 x.f2], [.int .i64 x.f3, .int .i64 x.f4, .bool x.f5, .bool x.f6, v7, .bool x.f8, v9, v10], rfl, rfl, ⟨[.int .i64 x.f3], [.int .i64 x.f4, .bool x.f5, .bool x.f6, v7, .bool x.f8, v9, v10], rfl, rfl, ⟨[.int .i64 x.f4], [.bool x.f5, .bool x.f6, v7, .bool x.f8, v9, v10], rfl, rfl, ⟨[.bool x.f5], [.bool x.f6, v7, .bool x.f8, v9, v10], rfl, rfl, ⟨[.bool x.f6], [v7, .bool x.f8, v9, v10], rfl, rfl, ⟨[v7], [.bool x.f8, v9, v10], rfl, ⟨v7, rfl, g7⟩, ⟨[.bool x.f8], [v9, v10], rfl, rfl, ⟨[v9], [v10], rfl, ⟨v9, rfl, g9⟩, (k74_mkM w base ok x.f10 g10)⟩⟩⟩⟩⟩⟩⟩⟩⟩⟩
def rd_I_Step (xs : List I_Step) (i : Int) : I_Step := xs.getD i.toNat zI_Step
theorem at_T193 {w : World} {A : Option Addr} {n : Nat} {xs : List I_Step} (h : Kd.C k193 w A n xs) (i : Int) (h0 : 0 ≤ i) (h1 : i < n) : ∃ ad A7 c7 A9 c9 A10 c10, A = some ad ∧ w.cell? (ad.add (i.toNat * 11)) = some (.int .i64 (rd_I_Step xs i).f0) ∧ w.cell? ⟨(ad.add (i.toNat * 11)).block, (ad.add (i.toNat * 11)).off + 1, none⟩ = some (.int .i64 (rd_I_Step xs i).f1) ∧ w.cell? ⟨(ad.add (i.toNat * 11)).block, (ad.add (i.toNat * 11)).off + 2, none⟩ = some (.int .i64 (rd_I_Step xs i).f2) ∧ w.cell? ⟨(ad.add (i.toNat * 11)).block, (ad.add (i.toNat * 11)).off + 3, none⟩ = some (.int .i64 (rd_I_Step xs i).f3) ∧ w.cell? ⟨(ad.add (i.toNat * 11)).block, (ad.add (i.toNat * 11)).off + 4, none⟩ = some (.int .i64 (rd_I_Step xs i).f4) ∧ w.cell? ⟨(ad.add (i.toNat * 11)).block, (ad.add (i.toNat * 11)).off + 5, none⟩ = some (.bool (rd_I_Step xs i).f5) ∧ w.cell? ⟨(ad.add (i.toNat * 11)).block, (ad.add (i.toNat * 11)).off + 6, none⟩ = some (.bool (rd_I_Step xs i).f6) ∧ w.cell? ⟨(ad.add (i.toNat * 11)).block, (ad.add (i.toNat * 11)).off + 7, none⟩ = some (.slice A7 (rd_I_Step xs i).f7.length c7) ∧ w.cell? ⟨(ad.add (i.toNat * 11)).block, (ad.add (i.toNat * 11)).off + 8, none⟩ = some (.bool (rd_I_Step xs i).f8) ∧ w.cell? ⟨(ad.add (i.toNat * 11)).block, (ad.add (i.toNat * 11)).off + 9, none⟩ = some (.slice A9 (rd_I_Step xs i).f9.length c9) ∧ w.cell? ⟨(ad.add (i.toNat * 11)).block, (ad.add (i.toNat * 11)).off + 10, none⟩ = some (.slice A10 (rd_I_Step xs i).f10.f0.length c10) ∧ (rd_I_Step xs i).f7.length ≤ c7 ∧ (Kd.int .i64).C w A7 (rd_I_Step xs i).f7.length (rd_I_Step xs i).f7 ∧ (rd_I_Step xs i).f9.length ≤ c9 ∧ k107.C w A9 (rd_I_Step xs i).f9.length (rd_I_Step xs i).f9 ∧ (rd_I_Step xs i).f10.f0.length ≤ c10 ∧ k120.C w A10 (rd_I_Step xs i).f10.f0.length (rd_I_Step xs i).f10.f0 := by
  obtain ⟨ad, c, e, _, hK, hc0⟩ := Kd.C_get h zI_Step i h0 h1
  have hc : ∀ j u, c[j]? = some u → w.cell? (ad.add (i.toNat * 11 + j)) = some u := hc0
  obtain ⟨A7, c7, A9, c9, A10, c10, rfl, l7, g7, l9, g9, l10, g10⟩ := k193_open hK
  exact ⟨ad, A7, c7, A9, c9, A10, c10, e, hc 0 _ rfl, by rw [← add_field _ _ 1 (by omega)]; exact hc 1 _ rfl, by rw [← add_field _ _ 2 (by omega)]; exact hc 2 _ rfl, by rw [← add_field _ _ 3 (by omega)]; exact hc 3 _ rfl, by rw [← add_field _ _ 4 (by omega)]; exact hc 4 _ rfl, by rw [← add_field _ _ 5 (by omega)]; exact hc 5 _ rfl, by rw [← add_field _ _ 6 (by omega)]; exact hc 6 _ rfl, by rw [← add_field _ _ 7 (by omega)]; exact hc 7 _ rfl, by rw [← add_field _ _ 8 (by omega)]; exact hc 8 _ rfl, by rw [← add_field _ _ 9 (by omega)]; exact hc 9 _ rfl, by rw [← add_field _ _ 10 (by omega)]; exact hc 10 _ rfl, l7, g7, l9, g9, l10, g10⟩

def rd_Ls_L_Step (xs : List (List L_Step)) (i : Int) : (List L_Step) := xs.getD i.toNat ([] : List L_Step)
theorem at_L17 {w : World} {A : Option Addr} {n : Nat} {xs : List (List L_Step)} (h : Kd.C (Kd.slice 189 k189) w A n xs) (i : Int) (h0 : 0 ≤ i) (h1 : i < n) : ∃ ad A0 c0, A = some ad ∧ w.cell? (ad.add i.toNat) = some (.slice A0 (rd_Ls_L_Step xs i).length c0) ∧ (rd_Ls_L_Step xs i).length ≤ c0 ∧ k189.C w A0 (rd_Ls_L_Step xs i).length (rd_Ls_L_Step xs i) := by
  obtain ⟨ad, c, e, _, hK, hc0⟩ := Kd.C_get h ([] : List L_Step) i h0 h1
  have hc : ∀ j u, c[j]? = some u → w.cell? (ad.add (i.toNat * 1 + j)) = some u := hc0
  obtain ⟨A0, c0, rfl, l0, g0⟩ := hK
  exact ⟨ad, A0, c0, e, by have hq := hc 0 _ rfl; rwa [Nat.mul_one, Nat.add_zero] at hq, l0, g0⟩

def rd_Ls_L_Term (xs : List (List L_Term)) (i : Int) : (List L_Term) := xs.getD i.toNat ([] : List L_Term)
theorem at_L18 {w : World} {A : Option Addr} {n : Nat} {xs : List (List L_Term)} (h : Kd.C (Kd.slice 25 k25) w A n xs) (i : Int) (h0 : 0 ≤ i) (h1 : i < n) : ∃ ad A0 c0, A = some ad ∧ w.cell? (ad.add i.toNat) = some (.slice A0 (rd_Ls_L_Term xs i).length c0) ∧ (rd_Ls_L_Term xs i).length ≤ c0 ∧ k25.C w A0 (rd_Ls_L_Term xs i).length (rd_Ls_L_Term xs i) := by
  obtain ⟨ad, c, e, _, hK, hc0⟩ := Kd.C_get h ([] : List L_Term) i h0 h1
  have hc : ∀ j u, c[j]? = some u → w.cell? (ad.add (i.toNat * 1 + j)) = some u := hc0
  obtain ⟨A0, c0, rfl, l0, g0⟩ := hK
  exact ⟨ad, A0, c0, e, by have hq := hc 0 _ rfl; rwa [Nat.mul_one, Nat.add_zero] at hq, l0, g0⟩

end Go.Proofs.Ytejfjfhopapaaaa.XDeepOf
