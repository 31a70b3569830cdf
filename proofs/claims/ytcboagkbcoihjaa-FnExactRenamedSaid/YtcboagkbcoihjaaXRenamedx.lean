-- printed by a program of this session (xprint, turned from the kit's print) for this claim
import Derived.Test.YtcboagkbcoihjaaXRenamedx0
import Derived.Test.YtcboagkbcoihjaaXRenamedx1
import Derived.Test.YtcboagkbcoihjaaXRenamedx2
import Derived.Test.YtcboagkbcoihjaaXRenamedx3
import Derived.Test.YtcboagkbcoihjaaXRenamedx4
import Derived.Test.YtcboagkbcoihjaaXRenamedx5
import Derived.Test.YtcboagkbcoihjaaXRenamedx6
import Derived.Test.YtcboagkbcoihjaaXRenamedx7
import Derived.Test.YtcboagkbcoihjaaXRenamedx8
import Derived.Test.YtcboagkbcoihjaaXRenamedx9
import Derived.Test.YtcboagkbcoihjaaXRenamedx10
import Derived.Test.YtcboagkbcoihjaaXRenamedx11
namespace Go.Proofs.Ytcboagkbcoihjaa.XRenamed
open Go.RowKit Go.Proofs.Ytcboagkbcoihjaa.XOpens Go.Proofs.YtcboagkbcoihjaaW.PrintWords Go.Proofs.YtcboagkbcoihjaaW.PrintLast Go.Proofs.YtcboagkbcoihjaaW.PrintMore
attribute [local go_sem] max2_int min2_int max_two min_two max_three min_three max_four min_four   -- for this text's walks alone
set_option linter.unusedVariables false
set_option linter.unusedSimpArgs false

end Go.Proofs.Ytcboagkbcoihjaa.XRenamed
