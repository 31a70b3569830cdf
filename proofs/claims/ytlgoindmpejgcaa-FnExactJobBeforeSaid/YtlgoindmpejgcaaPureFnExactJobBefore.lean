/- The program's JobBefore returns what the reference's returns, for all arguments. -/
import Derived.Test.YtlgoindmpejgcaaXJobBeforeh
namespace Go.Proofs.Ytlgoindmpejgcaa.Pure
open Go.RowKit Go.Proofs.Ytlgoindmpejgcaa.XJobBefore Go.Proofs.Ytlgoindmpejgcaa.XPure Go.Proofs.YtlgoindmpejgcaaW.PrintWords Go.Proofs.YtlgoindmpejgcaaW.PrintLast Go.Proofs.YtlgoindmpejgcaaW.PrintMore
set_option linter.unusedVariables false
set_option linter.unusedSimpArgs false
theorem FnExactJobBefore : laws_FnExactJobBefore.Pure := by
  intro a b c d _ _ _ _
  have h : ∀ x : Option Bool, (∃ v, x = some v) → (x.bind fun s => x.bind fun t => if (t != s) = true then some false else some true) = some true := by
    rintro x ⟨v, rfl⟩
    simp
  refine Eq.trans ?_ (h (spec_JobBefore.f a b c d) ?_)
  · simp only [laws_FnExactJobBefore.f, laws_toJob.f, spec_JobBefore.f, impl_JobBefore.f, Option.bind_some]
  · unfold spec_JobBefore.f
    split
    · exact ⟨_, rfl⟩
    · split <;> exact ⟨_, rfl⟩
end Go.Proofs.Ytlgoindmpejgcaa.Pure
