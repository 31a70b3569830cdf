-- printed by a program of this session (xprint, turned from the kit's print) for this claim
import Derived.Test.YtlgoindmpejgcaaProg
import Derived.Test.YtlgoindmpejgcaaXOpens
import Derived.Below
import Derived.Deep.Draws
import Derived.Deep.AppendLies
import Derived.Maps.AppendAt
import Derived.OwnWalk
import Derived.Laws.BytesArg
import Derived.Laws.MakeOwn
import Derived.Laws.OwnMore
import Derived.Deep.OwnRows
import Derived.Tactics
import Derived.Lib.ConvBytes
import Derived.Laws.Slices
import Derived.WalkKit
import Derived.KernelRfl
import Derived.RowKit3
import Derived.Deep.LoopGhost
import Derived.Deep.QuietTactic
import Derived.BigQuiet
import Derived.WideLaws
import Derived.Deep.DeepCutAuto
import Derived.Deep.CutBlock
import Derived.Deep.RegionHeld3
import Derived.Laws.Rows
import Derived.Lib.AppendStr
import Derived.ArgAppend
import Derived.Laws.IdiomCopy
import Derived.OrdersHeld
import Derived.Laws.BitsLemmas
import Derived.RowKit
import Derived.Test.YtlgoindmpejgcaaWWords
import Derived.Test.YtlgoindmpejgcaaWLast
import Derived.Test.YtlgoindmpejgcaaWTab
import Derived.Test.YtlgoindmpejgcaaWFour
import Derived.Test.YtlgoindmpejgcaaWQPut
import Derived.Test.YtlgoindmpejgcaaWApart
import Derived.Test.YtlgoindmpejgcaaWArr
import Derived.Test.YtlgoindmpejgcaaWZeros
import Derived.Test.YtlgoindmpejgcaaWFoot
import Derived.Test.YtlgoindmpejgcaaWKept
import Derived.Test.YtlgoindmpejgcaaWShare
import Derived.Test.YtlgoindmpejgcaaWN
import Derived.Test.YtlgoindmpejgcaaWFootNe
import Derived.Test.YtlgoindmpejgcaaWAt
import Derived.Test.YtlgoindmpejgcaaWEqStruct
import Derived.Test.YtlgoindmpejgcaaWRepsOne
import Derived.Test.YtlgoindmpejgcaaWInv
import Derived.Test.YtlgoindmpejgcaaWInvWords
import Derived.Test.YtlgoindmpejgcaaWGuard
import Derived.Test.YtlgoindmpejgcaaWNEv
import Derived.Test.YtlgoindmpejgcaaWMore
namespace Go.Proofs.Ytlgoindmpejgcaa.XLeastFirst
open Go.RowKit Go.Proofs.YtlgoindmpejgcaaW.PrintWords Go.Proofs.YtlgoindmpejgcaaW.PrintLast Go.Proofs.YtlgoindmpejgcaaW.PrintMore
attribute [local go_sem] max2_int min2_int max_two min_two max_three min_three max_four min_four   -- for this text's walks alone
set_option linter.unusedVariables false
set_option linter.unusedSimpArgs false



def errW : Option Int → Value
  | none => .nilIface
  | some c => .iface 0 (.int .i64 c)
theorem errW_none : errW none = .nilIface := rfl
theorem errW_some (c : Int) : errW (some c) = .iface 0 (.int .i64 c) := rfl

theorem info25 : (Try.prog.info? 25).map (fun i => (i.zero, i.size, i.bytes)) = some (some (.agg #[(.int .i64 0), (.int .i64 0)]), 2, 16) := by kernel_rfl
-- the values' own types
/-! #### struct type 25 -/
structure I_Job where
  f0 : Int
  f1 : Int
def zI_Job : I_Job := ⟨(0 : Int), (0 : Int)⟩
def k25 : Kd I_Job := Kd.iso (Kd.pair (Kd.int .i64) (Kd.int .i64)) (fun x : I_Job => (x.f0, x.f1))
theorem k25_open {w : World} {x : I_Job} {cs : List Value} (h : k25.K w x cs) : cs = [.int .i64 x.f0, .int .i64 x.f1] := by
  obtain ⟨_, _, rfl, rfl, rfl⟩ := h
  exact rfl
theorem k25_openM {w : World} {base : Nat} {ok : Nat → Prop} {x : I_Job} {cs : List Value} (h : k25.M w base ok x cs) : cs = [.int .i64 x.f0, .int .i64 x.f1] := by
  obtain ⟨_, _, rfl, rfl, rfl⟩ := h
  exact rfl
theorem k25_mk (w : World) (x : I_Job)  : k25.K w x [.int .i64 x.f0, .int .i64 x.f1] := ⟨[.int .i64 x.f0], [.int .i64 x.f1], rfl, rfl, rfl⟩
theorem k25_mkM (w : World) (base : Nat) (ok : Nat → Prop) (x : I_Job)  : k25.M w base ok x [.int .i64 x.f0, .int .i64 x.f1] := ⟨[.int .i64 x.f0], [.int .i64 x.f1], rfl, rfl, rfl⟩
def rd_I_Job (xs : List I_Job) (i : Int) : I_Job := xs.getD i.toNat zI_Job
theorem at_T25 {w : World} {A : Option Addr} {n : Nat} {xs : List I_Job} (h : Kd.C k25 w A n xs) (i : Int) (h0 : 0 ≤ i) (h1 : i < n) : ∃ ad , A = some ad ∧ w.cell? (ad.add (i.toNat * 2)) = some (.int .i64 (rd_I_Job xs i).f0) ∧ w.cell? ⟨(ad.add (i.toNat * 2)).block, (ad.add (i.toNat * 2)).off + 1, none⟩ = some (.int .i64 (rd_I_Job xs i).f1) := by
  obtain ⟨ad, c, e, _, hK, hc0⟩ := Kd.C_get h zI_Job i h0 h1
  have hc : ∀ j u, c[j]? = some u → w.cell? (ad.add (i.toNat * 2 + j)) = some u := hc0
  obtain rfl := k25_open hK
  exact ⟨ad, e, hc 0 _ rfl, by rw [← add_field _ _ 1 (by omega)]; exact hc 1 _ rfl⟩

end Go.Proofs.Ytlgoindmpejgcaa.XLeastFirst
