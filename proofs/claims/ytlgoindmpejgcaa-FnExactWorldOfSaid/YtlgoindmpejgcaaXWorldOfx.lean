-- printed by a program of this session (xprint, turned from the kit's print) for this claim
import Derived.Test.YtlgoindmpejgcaaXWorldOfx0
import Derived.Test.YtlgoindmpejgcaaXWorldOfx1
import Derived.Test.YtlgoindmpejgcaaXWorldOfx2
import Derived.Test.YtlgoindmpejgcaaXWorldOfx3
namespace Go.Proofs.Ytlgoindmpejgcaa.XWorldOf
open Go.RowKit Go.Proofs.Ytlgoindmpejgcaa.XOpens Go.Proofs.YtlgoindmpejgcaaW.PrintWords Go.Proofs.YtlgoindmpejgcaaW.PrintLast Go.Proofs.YtlgoindmpejgcaaW.PrintMore
attribute [local go_sem] max2_int min2_int max_two min_two max_three min_three max_four min_four   -- for this text's walks alone
set_option linter.unusedVariables false
set_option linter.unusedSimpArgs false

end Go.Proofs.Ytlgoindmpejgcaa.XWorldOf
