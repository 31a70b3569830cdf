-- printed by a program of this session (xprint, turned from the kit's print) for this claim
import Derived.Test.YtlgoindmpejgcaaXFingerx0
import Derived.Test.YtlgoindmpejgcaaXFingerx1
import Derived.Test.YtlgoindmpejgcaaXFingerx2
import Derived.Test.YtlgoindmpejgcaaXFingerx3
import Derived.Test.YtlgoindmpejgcaaXFingerx4
import Derived.Test.YtlgoindmpejgcaaXFingerx5
import Derived.Test.YtlgoindmpejgcaaXFingerx6
namespace Go.Proofs.Ytlgoindmpejgcaa.XFinger
open Go.RowKit Go.Proofs.Ytlgoindmpejgcaa.XOpens Go.Proofs.YtlgoindmpejgcaaW.PrintWords Go.Proofs.YtlgoindmpejgcaaW.PrintLast Go.Proofs.YtlgoindmpejgcaaW.PrintMore
attribute [local go_sem] max2_int min2_int max_two min_two max_three min_three max_four min_four   -- for this text's walks alone
set_option linter.unusedVariables false
set_option linter.unusedSimpArgs false

end Go.Proofs.Ytlgoindmpejgcaa.XFinger
