-- printed by a program of this session (xprint, turned from the kit's print) for this claim
import Derived.Test.YtlgoindmpejgcaaXQueuePutx0
import Derived.Test.YtlgoindmpejgcaaXQueuePutx1
import Derived.Test.YtlgoindmpejgcaaXQueuePutx2
import Derived.Test.YtlgoindmpejgcaaXQueuePutx3
import Derived.Test.YtlgoindmpejgcaaXQueuePutx4
import Derived.Test.YtlgoindmpejgcaaXQueuePutx5
import Derived.Test.YtlgoindmpejgcaaXQueuePutx6
import Derived.Test.YtlgoindmpejgcaaXQueuePutx7
import Derived.Test.YtlgoindmpejgcaaXQueuePutx8
namespace Go.Proofs.Ytlgoindmpejgcaa.XQueuePut
open Go.RowKit Go.Proofs.YtlgoindmpejgcaaW.PrintWords Go.Proofs.YtlgoindmpejgcaaW.PrintLast Go.Proofs.YtlgoindmpejgcaaW.PrintMore
attribute [local go_sem] max2_int min2_int max_two min_two max_three min_three max_four min_four   -- for this text's walks alone
set_option linter.unusedVariables false
set_option linter.unusedSimpArgs false

end Go.Proofs.Ytlgoindmpejgcaa.XQueuePut
