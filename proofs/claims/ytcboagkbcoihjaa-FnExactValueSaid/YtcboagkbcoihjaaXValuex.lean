-- printed by a program of this session (xprint, turned from the kit's print) for this claim
import Derived.Test.YtcboagkbcoihjaaXValuex0
import Derived.Test.YtcboagkbcoihjaaXValuex1
import Derived.Test.YtcboagkbcoihjaaXValuex2
import Derived.Test.YtcboagkbcoihjaaXValuex3
import Derived.Test.YtcboagkbcoihjaaXValuex4
import Derived.Test.YtcboagkbcoihjaaXValuex5
import Derived.Test.YtcboagkbcoihjaaXValuex6
import Derived.Test.YtcboagkbcoihjaaXValuex7
import Derived.Test.YtcboagkbcoihjaaXValuex8
import Derived.Test.YtcboagkbcoihjaaXValuex9
import Derived.Test.YtcboagkbcoihjaaXValuex10
import Derived.Test.YtcboagkbcoihjaaXValuex11
import Derived.Test.YtcboagkbcoihjaaXValuex12
import Derived.Test.YtcboagkbcoihjaaXValuex13
import Derived.Test.YtcboagkbcoihjaaXValuex14
import Derived.Test.YtcboagkbcoihjaaXValuex15
namespace Go.Proofs.Ytcboagkbcoihjaa.XValue
open Go.RowKit Go.Proofs.Ytcboagkbcoihjaa.XOpens Go.Proofs.YtcboagkbcoihjaaW.PrintWords Go.Proofs.YtcboagkbcoihjaaW.PrintLast Go.Proofs.YtcboagkbcoihjaaW.PrintMore
attribute [local go_sem] max2_int min2_int max_two min_two max_three min_three max_four min_four   -- for this text's walks alone
set_option linter.unusedVariables false
set_option linter.unusedSimpArgs false

end Go.Proofs.Ytcboagkbcoihjaa.XValue
