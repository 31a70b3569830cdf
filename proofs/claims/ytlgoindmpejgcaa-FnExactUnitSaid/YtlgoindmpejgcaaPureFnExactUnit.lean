/- The program's Unit returns what the reference's returns, for all arguments. -/
import Derived.Test.YtlgoindmpejgcaaXUnith
namespace Go.Proofs.Ytlgoindmpejgcaa.Pure
open Go.RowKit Go.Proofs.Ytlgoindmpejgcaa.XUnit Go.Proofs.Ytlgoindmpejgcaa.XPure Go.Proofs.YtlgoindmpejgcaaW.PrintWords Go.Proofs.YtlgoindmpejgcaaW.PrintLast Go.Proofs.YtlgoindmpejgcaaW.PrintMore
set_option linter.unusedVariables false
set_option linter.unusedSimpArgs false
theorem clause_len {x : L_Clause} (h : sz_Clause x ≤ 1048576) : (cv_Clause x).f0.length ≤ maxLen := by
  have e1 := el_cv_Clause x
  have hm : maxLen = 9223372036854775807 := rfl
  simp only [el_Clause, el_LitS] at e1
  omega
theorem FnExactUnit : laws_FnExactUnit.Pure := by
  intro l hw
  refine Ev.rounds (g := fun k => laws_FnExactUnit.f k l) ?_
  unfold laws_FnExactUnit.f
  have hw' : Wf_L_Clause ⟨l⟩ := hw
  refine law_sz (by omega) (by omega) (szClause_ev ⟨l⟩ hw' 1048576 (by omega) (by omega)) fun q q0 q1 hs => ?_
  have hm : maxLen = 9223372036854775807 := rfl
  have he := el_cv_Clause ⟨l⟩
  refine Ev.bind (toClause_ev ⟨l⟩ hs) (Ev.bind (Ev.cst rfl) (Ev.bind (toClause_ev ⟨l⟩ hs) (Ev.bind (Ev.cst rfl) (Ev.ite_neg (by simp) ?_))))
  exact Ev.bind (toClause_ev ⟨l⟩ hs) (Ev.bind (eqClause_ev (cv_Clause ⟨l⟩) (by omega)) (Ev.ite_pos rfl Ev.some))
end Go.Proofs.Ytlgoindmpejgcaa.Pure
