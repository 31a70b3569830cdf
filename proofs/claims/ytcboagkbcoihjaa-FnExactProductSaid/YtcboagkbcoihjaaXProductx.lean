-- printed by a program of this session (xprint, turned from the kit's print) for this claim
import Derived.Test.YtcboagkbcoihjaaXProductx0
import Derived.Test.YtcboagkbcoihjaaXProductx1
import Derived.Test.YtcboagkbcoihjaaXProductx2
import Derived.Test.YtcboagkbcoihjaaXProductx3
import Derived.Test.YtcboagkbcoihjaaXProductx4
import Derived.Test.YtcboagkbcoihjaaXProductx5
import Derived.Test.YtcboagkbcoihjaaXProductx6
import Derived.Test.YtcboagkbcoihjaaXProductx7
import Derived.Test.YtcboagkbcoihjaaXProductx8
import Derived.Test.YtcboagkbcoihjaaXProductx9
import Derived.Test.YtcboagkbcoihjaaXProductx10
import Derived.Test.YtcboagkbcoihjaaXProductx11
namespace Go.Proofs.Ytcboagkbcoihjaa.XProduct
open Go.RowKit Go.Proofs.Ytcboagkbcoihjaa.XOpens Go.Proofs.YtcboagkbcoihjaaW.PrintWords Go.Proofs.YtcboagkbcoihjaaW.PrintLast Go.Proofs.YtcboagkbcoihjaaW.PrintMore
attribute [local go_sem] max2_int min2_int max_two min_two max_three min_three max_four min_four   -- for this text's walks alone
set_option linter.unusedVariables false
set_option linter.unusedSimpArgs false

end Go.Proofs.Ytcboagkbcoihjaa.XProduct
