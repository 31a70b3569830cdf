/- The program's Horn returns what the reference's returns, for all arguments. -/
import Derived.Test.YtlgoindmpejgcaaXHornh
namespace Go.Proofs.Ytlgoindmpejgcaa.Pure
open Go.RowKit Go.Proofs.Ytlgoindmpejgcaa.XHorn Go.Proofs.Ytlgoindmpejgcaa.XPure Go.Proofs.YtlgoindmpejgcaaW.PrintWords Go.Proofs.YtlgoindmpejgcaaW.PrintLast Go.Proofs.YtlgoindmpejgcaaW.PrintMore
set_option linter.unusedVariables false
set_option linter.unusedSimpArgs false
/-! #### kinds of clauses -/
def signs (l : List I_Lit) : Int := l.foldl (fun n x => wrap64 (n + if x.f0 = true then 1 else 0)) 0
theorem wrap_zero : ∀ n : Int, (wrap64 (n + 0)) = wrap64 n := fun n => by rw [Int.add_zero]
theorem wrap_wrap (n : Int) : wrap64 (wrap64 n) = wrap64 n := by unfold wrap64; omega
theorem signs_range (n : Int) : -9223372036854775808 ≤ wrap64 n ∧ wrap64 n ≤ 9223372036854775807 := by unfold wrap64; omega
theorem specSigns_ev (l : List I_Lit) (hl : l.length ≤ maxLen) : Ev (fun k => spec_Signs.f k l) (signs l, wrap64 ((l.length : Int) - signs l)) := by
  unfold spec_Signs.f
  exact fold_index l zI_Lit hl (fun k s i => spec_Signs.l0 k s i l) (fun _ x s => (spec_l1Bit.f x.f0).bind fun t => some (wrap64 (s + t))) (fun _ s => some (s, wrap64 ((l.length : Int) - s)))
    (fun k s i => by simp only [spec_Signs.l0, rd_I_Lit, Option.bind_assoc, Option.bind_some]) (fun n x => wrap64 (n + if x.f0 = true then 1 else 0)) (fun _ => True)
    (fun x _ s _ => ⟨Ev.cst (by unfold spec_l1Bit.f; split <;> rfl), trivial⟩) 0 trivial _ (fun _ => Ev.some)
theorem implSigns_ev (l : List I_Lit) (hl : l.length ≤ maxLen) : Ev (fun k => impl_Signs.f k l) (signs l, wrap64 ((l.length : Int) - signs l)) := by
  unfold impl_Signs.f
  exact fold_range l zI_Lit hl (fun k s i => impl_Signs.l0 k s l (l.length : Int) i l) (fun _ x s => if x.f0 = true then some (wrap64 (s + 1)) else some s) (fun _ s => some (s, wrap64 ((l.length : Int) - s)))
    (fun k s i => by simp only [impl_Signs.l0, rd_I_Lit, ite_bind, Option.bind_some] <;> rfl) (fun n x => wrap64 (n + if x.f0 = true then 1 else 0)) (fun n => wrap64 n = n)
    (fun x _ s hs => ⟨Ev.cst (by split <;> simp [hs]), wrap_wrap _⟩) 0 (wrap_id (by omega) (by omega)) _ (fun _ => Ev.some)

theorem clause_len {x : L_Clause} (h : sz_Clause x ≤ 1048576) : (cv_Clause x).f0.length ≤ maxLen := by
  have e1 := el_cv_Clause x
  have hm : maxLen = 9223372036854775807 := rfl
  simp only [el_Clause, el_LitS] at e1
  omega
theorem specHorn_ev (l : List I_Lit) (hl : l.length ≤ maxLen) : Ev (fun k => spec_Horn.f k l) (decide (signs l ≤ 1)) := by
  unfold spec_Horn.f
  exact Ev.bind (specSigns_ev l hl) Ev.some
theorem implHorn_ev (l : List I_Lit) (hl : l.length ≤ maxLen) : Ev (fun k => impl_Horn.f k l) (decide (signs l ≤ 1)) := by
  unfold impl_Horn.f
  exact Ev.bind (implSigns_ev l hl) Ev.some
theorem FnExactHorn : laws_FnExactHorn.Pure := by
  intro l hw
  refine Ev.rounds (g := fun k => laws_FnExactHorn.f k l) ?_
  unfold laws_FnExactHorn.f
  have hw' : Wf_L_Clause ⟨l⟩ := hw
  refine law_sz (by omega) (by omega) (szClause_ev ⟨l⟩ hw' 1048576 (by omega) (by omega)) fun q q0 q1 hs => ?_
  have hm : maxLen = 9223372036854775807 := rfl
  have he := el_cv_Clause ⟨l⟩
  refine Ev.bind (toClause_ev ⟨l⟩ hs) (Ev.bind (specHorn_ev _ (clause_len hs)) (Ev.bind (toClause_ev ⟨l⟩ hs) (Ev.bind (implHorn_ev _ (clause_len hs)) (Ev.ite_neg (by simp) ?_))))
  exact Ev.bind (toClause_ev ⟨l⟩ hs) (Ev.bind (eqClause_ev (cv_Clause ⟨l⟩) (by omega)) (Ev.ite_pos rfl Ev.some))
end Go.Proofs.Ytlgoindmpejgcaa.Pure
