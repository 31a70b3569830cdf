/- What the harness of the laws comes to: sizes, copies, comparisons, for the mirrored types. -/
import Derived.Test.YtlgoindmpejgcaaXLeastFirstx
import Derived.Test.YtlgoindmpejgcaaXPure
namespace Go.Proofs.Ytlgoindmpejgcaa.Pure
open Go.RowKit Go.Proofs.Ytlgoindmpejgcaa.XLeastFirst Go.Proofs.Ytlgoindmpejgcaa.XPure Go.Proofs.YtlgoindmpejgcaaW.PrintWords Go.Proofs.YtlgoindmpejgcaaW.PrintLast
set_option linter.unusedVariables false
set_option linter.unusedSimpArgs false

end Go.Proofs.Ytlgoindmpejgcaa.Pure
