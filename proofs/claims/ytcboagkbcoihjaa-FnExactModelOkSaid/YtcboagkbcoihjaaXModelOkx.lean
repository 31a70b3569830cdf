-- printed by a program of this session (xprint, turned from the kit's print) for this claim
import Derived.Test.YtcboagkbcoihjaaXModelOkx0
import Derived.Test.YtcboagkbcoihjaaXModelOkx1
import Derived.Test.YtcboagkbcoihjaaXModelOkx2
import Derived.Test.YtcboagkbcoihjaaXModelOkx3
import Derived.Test.YtcboagkbcoihjaaXModelOkx4
import Derived.Test.YtcboagkbcoihjaaXModelOkx5
import Derived.Test.YtcboagkbcoihjaaXModelOkx6
import Derived.Test.YtcboagkbcoihjaaXModelOkx7
import Derived.Test.YtcboagkbcoihjaaXModelOkx8
import Derived.Test.YtcboagkbcoihjaaXModelOkx9
import Derived.Test.YtcboagkbcoihjaaXModelOkx10
namespace Go.Proofs.Ytcboagkbcoihjaa.XModelOk
open Go.RowKit Go.Proofs.YtcboagkbcoihjaaW.PrintWords Go.Proofs.YtcboagkbcoihjaaW.PrintLast Go.Proofs.YtcboagkbcoihjaaW.PrintMore
attribute [local go_sem] max2_int min2_int max_two min_two max_three min_three max_four min_four   -- for this text's walks alone
set_option linter.unusedVariables false
set_option linter.unusedSimpArgs false

end Go.Proofs.Ytcboagkbcoihjaa.XModelOk
