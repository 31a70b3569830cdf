-- printed by a program of this session (xprint, turned from the kit's print) for this claim
import Derived.Test.YtcboagkbcoihjaaXCloseOkx0
import Derived.Test.YtcboagkbcoihjaaXCloseOkx1
import Derived.Test.YtcboagkbcoihjaaXCloseOkx2
import Derived.Test.YtcboagkbcoihjaaXCloseOkx3
import Derived.Test.YtcboagkbcoihjaaXCloseOkx4
import Derived.Test.YtcboagkbcoihjaaXCloseOkx5
import Derived.Test.YtcboagkbcoihjaaXCloseOkx6
import Derived.Test.YtcboagkbcoihjaaXCloseOkx7
import Derived.Test.YtcboagkbcoihjaaXCloseOkx8
import Derived.Test.YtcboagkbcoihjaaXCloseOkx9
import Derived.Test.YtcboagkbcoihjaaXCloseOkx10
import Derived.Test.YtcboagkbcoihjaaXCloseOkx11
import Derived.Test.YtcboagkbcoihjaaXCloseOkx12
import Derived.Test.YtcboagkbcoihjaaXCloseOkx13
namespace Go.Proofs.Ytcboagkbcoihjaa.XCloseOk
open Go.RowKit Go.Proofs.Ytcboagkbcoihjaa.XOpens Go.Proofs.YtcboagkbcoihjaaW.PrintWords Go.Proofs.YtcboagkbcoihjaaW.PrintLast Go.Proofs.YtcboagkbcoihjaaW.PrintMore
attribute [local go_sem] max2_int min2_int max_two min_two max_three min_three max_four min_four   -- for this text's walks alone
set_option linter.unusedVariables false
set_option linter.unusedSimpArgs false

end Go.Proofs.Ytcboagkbcoihjaa.XCloseOk
