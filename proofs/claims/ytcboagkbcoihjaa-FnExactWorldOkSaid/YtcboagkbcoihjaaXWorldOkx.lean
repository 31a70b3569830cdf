-- printed by a program of this session (xprint, turned from the kit's print) for this claim
import Derived.Test.YtcboagkbcoihjaaXWorldOkx0
import Derived.Test.YtcboagkbcoihjaaXWorldOkx1
import Derived.Test.YtcboagkbcoihjaaXWorldOkx2
import Derived.Test.YtcboagkbcoihjaaXWorldOkx3
import Derived.Test.YtcboagkbcoihjaaXWorldOkx4
import Derived.Test.YtcboagkbcoihjaaXWorldOkx5
import Derived.Test.YtcboagkbcoihjaaXWorldOkx6
import Derived.Test.YtcboagkbcoihjaaXWorldOkx7
import Derived.Test.YtcboagkbcoihjaaXWorldOkx8
import Derived.Test.YtcboagkbcoihjaaXWorldOkx9
import Derived.Test.YtcboagkbcoihjaaXWorldOkx10
import Derived.Test.YtcboagkbcoihjaaXWorldOkx11
namespace Go.Proofs.Ytcboagkbcoihjaa.XWorldOk
open Go.RowKit Go.Proofs.YtcboagkbcoihjaaW.PrintWords Go.Proofs.YtcboagkbcoihjaaW.PrintLast Go.Proofs.YtcboagkbcoihjaaW.PrintMore
attribute [local go_sem] max2_int min2_int max_two min_two max_three min_three max_four min_four   -- for this text's walks alone
set_option linter.unusedVariables false
set_option linter.unusedSimpArgs false

end Go.Proofs.Ytcboagkbcoihjaa.XWorldOk
