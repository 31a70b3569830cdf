-- printed by a program of this session (xprint, turned from the kit's print) for this claim
import Derived.Test.YtcboagkbcoihjaaXSubworldx0
import Derived.Test.YtcboagkbcoihjaaXSubworldx1
import Derived.Test.YtcboagkbcoihjaaXSubworldx2
import Derived.Test.YtcboagkbcoihjaaXSubworldx3
import Derived.Test.YtcboagkbcoihjaaXSubworldx4
import Derived.Test.YtcboagkbcoihjaaXSubworldx5
import Derived.Test.YtcboagkbcoihjaaXSubworldx6
import Derived.Test.YtcboagkbcoihjaaXSubworldx7
import Derived.Test.YtcboagkbcoihjaaXSubworldx8
import Derived.Test.YtcboagkbcoihjaaXSubworldx9
import Derived.Test.YtcboagkbcoihjaaXSubworldx10
import Derived.Test.YtcboagkbcoihjaaXSubworldx11
namespace Go.Proofs.Ytcboagkbcoihjaa.XSubworld
open Go.RowKit Go.Proofs.Ytcboagkbcoihjaa.XOpens Go.Proofs.YtcboagkbcoihjaaW.PrintWords Go.Proofs.YtcboagkbcoihjaaW.PrintLast Go.Proofs.YtcboagkbcoihjaaW.PrintMore
attribute [local go_sem] max2_int min2_int max_two min_two max_three min_three max_four min_four   -- for this text's walks alone
set_option linter.unusedVariables false
set_option linter.unusedSimpArgs false

end Go.Proofs.Ytcboagkbcoihjaa.XSubworld
