-- printed by a program of this session (xprint, turned from the kit's print) for this claim
import Derived.Test.YtcboagkbcoihjaaXMayMatchx0
import Derived.Test.YtcboagkbcoihjaaXMayMatchx1
import Derived.Test.YtcboagkbcoihjaaXMayMatchx2
import Derived.Test.YtcboagkbcoihjaaXMayMatchx3
import Derived.Test.YtcboagkbcoihjaaXMayMatchx4
import Derived.Test.YtcboagkbcoihjaaXMayMatchx5
import Derived.Test.YtcboagkbcoihjaaXMayMatchx6
import Derived.Test.YtcboagkbcoihjaaXMayMatchx7
import Derived.Test.YtcboagkbcoihjaaXMayMatchx8
namespace Go.Proofs.Ytcboagkbcoihjaa.XMayMatch
open Go.RowKit Go.Proofs.YtcboagkbcoihjaaW.PrintWords Go.Proofs.YtcboagkbcoihjaaW.PrintLast Go.Proofs.YtcboagkbcoihjaaW.PrintMore
attribute [local go_sem] max2_int min2_int max_two min_two max_three min_three max_four min_four   -- for this text's walks alone
set_option linter.unusedVariables false
set_option linter.unusedSimpArgs false

end Go.Proofs.Ytcboagkbcoihjaa.XMayMatch
