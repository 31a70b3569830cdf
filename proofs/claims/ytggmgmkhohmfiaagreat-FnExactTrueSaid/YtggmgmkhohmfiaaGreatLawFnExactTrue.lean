/- The law's row: printed by a program of this claim's session. -/
import Derived.Test.YtggmgmkhohmfiaaGreatRows
import Derived.Test.YtggmgmkhohmfiaaGreatGExactTrue1
import Derived.Test.YtggmgmkhohmfiaaGreatPureFnExactTrue
import Derived.WalkKit
import Derived.ProofKit
import Derived.OpenShut
import Derived.ShutString
import Derived.ChangeOld
import Derived.Below
import Derived.SizedLaws
namespace Go.Proofs.YtggmgmkhohmfiaaGreat.fnExactTrue
open Go.ChangeShapes Go.WideShapes Go.ChangeAt Go.RowKit Go.Proofs.YtggmgmkhohmfiaaGreat.PE
open Go.ChangeMaps (open_string shut_string)
set_option linter.unusedVariables false
theorem own : ownKnob Tryz.prog.godebug = none := by kernel_rfl
theorem laidOut : laidOutB Tryz.prog = true := by kernel_rfl
set_option maxRecDepth 100000 in
theorem lifted (os : Os) (started : os.Started) (H : Type) (enc : TypeId × Value → H) :
    ReturnsInHanded {} Tryz.checked os 4 .any (Rows.fnExactTrueSpec.pre6 enc Tryz.prog Tryz.f4 Rows.fnExactTrueRow.domain false) (Rows.fnExactTrueSpec.post enc Tryz.prog Tryz.f4 false true false false) := by
  refine returnsInHanded_of_change_sized (C := Tryz.checked) own started (by kernel_rfl) Tryz.func4
    (ChangeSpec.witness6 (enc := enc) (C := Tryz.checked) false ⟨#[], #[.slice none 0 0, .agg #[.int .i64 0, .slice none 0 0], .agg #[.slice none 0 0]], []⟩ 8 (by kernel_rfl) (by kernel_rfl) (by kernel_rfl) (by kernel_rfl)) ?_
  intro W base args ds gs before hval0 hW hcnd hsz0 _
  have hval : ∀ (j : Nat) t v, Tryz.f4.params[j]? = some t → args[j]? = some v → Value.okWide Tryz.prog W .any base t v := hval0
  have hW' := hW
  obtain ⟨p, q, hA0, hV, rfl, hfz, hnd⟩ := hW
  have hA : DataW.TrodAll enc Tryz.prog W 0 (fun _ => true) true Tryz.f4.params.toList args.toList ds p := hA0
  rw [Tryz.params4] at hA hval
  obtain ⟨v0, vs0, d0, ds0, p0, q0, hargs, rfl, rfl, h0, r0⟩ := trodAll_cons hA
  obtain ⟨v1, vs1, d1, ds1, p1, q1, rfl, rfl, rfl, h1, r1⟩ := trodAll_cons r0
  obtain ⟨v2, vs2, d2, ds2, p2, q2, rfl, rfl, rfl, h2, r2⟩ := trodAll_cons r1
  obtain ⟨rfl, rfl, rfl⟩ := trodAll_nil r2
  obtain rfl : args = #[v0, v1, v2] := by cases args; simp_all
  obtain ⟨rfl, rfl⟩ := trodVars_none hV
  have k0 := h0
  have lt0 : ∀ x ∈ p0, x.block < W.heap.size := by obtain ⟨m, hm⟩ := k0; exact DataW.trod_lt m _ _ _ hm
  obtain ⟨b0, len0, cap0, rfl⟩ := okWide_slice Tryz.underlying22 (hval 0 22 v0 rfl rfl)
  obtain ⟨fuel0, hf0⟩ := h0
  obtain ⟨x0, kx0, w0⟩ := ((opens_slice tbl Tryz.underlying22 (by kernel_rfl) (by kernel_rfl) (fun m_ hm_ => (opens_L_Sym_120 _))) : Opens enc Tryz.prog TT W 22 (.lst (.st 0)) (fun a => (a.length ≤ maxLen ∧ ∀ y ∈ a, Wf_L_Sym y)) fuel0) _ _ hf0
  have k1 := h1
  have lt1 : ∀ x ∈ p1, x.block < W.heap.size := by obtain ⟨m, hm⟩ := k1; exact DataW.trod_lt m _ _ _ hm
  obtain ⟨cs1, rfl, _⟩ := okWide_struct Tryz.underlying46 (hval 1 46 v1 rfl rfl)
  obtain ⟨fuel1, hf1⟩ := h1
  obtain ⟨x1, kx1, w1⟩ := ((opens_L_World_46 _) : Opens enc Tryz.prog TT W 46 (.st 8) (fun a => Wf_L_World a) fuel1) _ _ hf1
  have ky1 : RepF (E0 TT W (fun b => b < W.heap.size)) (.agg ((cellsE TT (.st 8) x1).map FV.d)) (.agg cs1) := rep_agg kx1
  have k2 := h2
  have lt2 : ∀ x ∈ p2, x.block < W.heap.size := by obtain ⟨m, hm⟩ := k2; exact DataW.trod_lt m _ _ _ hm
  obtain ⟨cs2, rfl, _⟩ := okWide_struct Tryz.underlying28 (hval 2 28 v2 rfl rfl)
  obtain ⟨fuel2, hf2⟩ := h2
  obtain ⟨x2, kx2, w2⟩ := ((opens_L_Clause_28 _) : Opens enc Tryz.prog TT W 28 (.st 3) (fun a => Wf_L_Clause a) fuel2) _ _ hf2
  have ky2 : RepF (E0 TT W (fun b => b < W.heap.size)) (.agg ((cellsE TT (.st 3) x2).map FV.d)) (.agg cs2) := rep_agg kx2
  clear hA0 hval0 hsz0
  obtain ⟨k, hk⟩ := Pure.FnExactTrue x0 x1 x2 w0 w1 w2
  refine (law_calls (laws_FnExactTrue.ok k) (x := (x0, x1.f0, x1.f1, x2.f0)) (r := true) (cargs := [.slice b0 len0 cap0, .agg cs1, .agg cs2]) hk (repL_cons (rep_one kx0) (repL_cons (ky1) (repL_cons (ky2) (repL_nil))))).mono fun e W' ⟨he, bel⟩ => ?_
  subst he
  exact ⟨_, rfl, _, _, _, [], _, [], hW', trodAll_mk1 (shut_bool Tryz.underlying4 _), (trodAll_cons_mk (Below.trod laidOut (by kernel_rfl) (of_decide_eq_true (by kernel_rfl)) k0 bel lt0) (trodAll_cons_mk (Below.trod laidOut (by kernel_rfl) (of_decide_eq_true (by kernel_rfl)) k1 bel lt1) (trodAll_cons_mk (Below.trod laidOut (by kernel_rfl) (of_decide_eq_true (by kernel_rfl)) k2 bel lt2) trodAll_mk0))), rfl, bel.frame _, fun h => by cases h⟩
theorem closed_ : joinedFacts Tryz.prog 4 Tryz.f4 Rows.fnExactTrueSpec Rows.fnExactTrueRow = true := by kernel_rfl
theorem over : Rows.fnExactTrueRow.holds Tryz.pinned (OpenSpec.ofChange Rows.fnExactTrueSpec) :=
  OpenClaim.holds_of_wide 4 Tryz.f4 rfl rfl rfl rfl rfl rfl rfl ⟨rfl, rfl, rfl, rfl, rfl⟩ rfl rfl rfl rfl rfl (by kernel_rfl) Tryz.func4 closed_
    (of_decide_eq_true (by kernel_rfl)) (by unfold Func.isWrapper; first | (rw [if_pos (by decide +kernel)]; kernel_rfl) | (rw [if_neg (by decide +kernel)]; exact ⟨rfl, rfl⟩))
    (fun os started H enc _ => lifted os started H enc)
theorem proved : Rows.FnExactTrueSaid := over
#print axioms proved
end Go.Proofs.YtggmgmkhohmfiaaGreat.fnExactTrue
namespace Go.Proofs.YtggmgmkhohmfiaaGreat
/-- The row, under a short name, for the claim. -/
theorem fnExactTrue_holds : Rows.FnExactTrueSaid := fnExactTrue.proved
end Go.Proofs.YtggmgmkhohmfiaaGreat
