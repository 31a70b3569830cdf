-- printed by a program of this session (xprint, turned from the kit's print) for this claim
import Derived.Test.YtlgoindmpejgcaaXQueueOkx0
import Derived.Test.YtlgoindmpejgcaaXQueueOkx1
import Derived.Test.YtlgoindmpejgcaaXQueueOkx2
import Derived.Test.YtlgoindmpejgcaaXQueueOkx3
namespace Go.Proofs.Ytlgoindmpejgcaa.XQueueOk
open Go.RowKit Go.Proofs.YtlgoindmpejgcaaW.PrintWords Go.Proofs.YtlgoindmpejgcaaW.PrintLast Go.Proofs.YtlgoindmpejgcaaW.PrintMore
attribute [local go_sem] max2_int min2_int max_two min_two max_three min_three max_four min_four   -- for this text's walks alone
set_option linter.unusedVariables false
set_option linter.unusedSimpArgs false

end Go.Proofs.Ytlgoindmpejgcaa.XQueueOk
