/- What the harness of the laws comes to: sizes, copies, comparisons, for the mirrored types. -/
import Derived.Test.YtlgoindmpejgcaaXJobBeforex
import Derived.Test.YtlgoindmpejgcaaXPure
namespace Go.Proofs.Ytlgoindmpejgcaa.Pure
open Go.RowKit Go.Proofs.Ytlgoindmpejgcaa.XJobBefore Go.Proofs.Ytlgoindmpejgcaa.XPure Go.Proofs.YtlgoindmpejgcaaW.PrintWords Go.Proofs.YtlgoindmpejgcaaW.PrintLast
set_option linter.unusedVariables false
set_option linter.unusedSimpArgs false
def sz_Job (x : L_Job) : Nat := 0
def cv_Job (x : L_Job) : I_Job := ⟨x.f0, x.f1⟩
theorem toJob_ev (x : L_Job) : Ev (fun _ => laws_toJob.f (x.f0) (x.f1)) ((cv_Job x).f0, (cv_Job x).f1) := by
  unfold laws_toJob.f
  exact Ev.some
end Go.Proofs.Ytlgoindmpejgcaa.Pure
