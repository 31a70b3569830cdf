-- printed by a program of this session (xprint, turned from the kit's print) for this claim
import Derived.Test.YtcboagkbcoihjaaXMeansx0
import Derived.Test.YtcboagkbcoihjaaXMeansx1
import Derived.Test.YtcboagkbcoihjaaXMeansx2
import Derived.Test.YtcboagkbcoihjaaXMeansx3
import Derived.Test.YtcboagkbcoihjaaXMeansx4
import Derived.Test.YtcboagkbcoihjaaXMeansx5
import Derived.Test.YtcboagkbcoihjaaXMeansx6
import Derived.Test.YtcboagkbcoihjaaXMeansx7
import Derived.Test.YtcboagkbcoihjaaXMeansx8
import Derived.Test.YtcboagkbcoihjaaXMeansx9
import Derived.Test.YtcboagkbcoihjaaXMeansx10
import Derived.Test.YtcboagkbcoihjaaXMeansx11
import Derived.Test.YtcboagkbcoihjaaXMeansx12
import Derived.Test.YtcboagkbcoihjaaXMeansx13
import Derived.Test.YtcboagkbcoihjaaXMeansx14
import Derived.Test.YtcboagkbcoihjaaXMeansx15
namespace Go.Proofs.Ytcboagkbcoihjaa.XMeans
open Go.RowKit Go.Proofs.Ytcboagkbcoihjaa.XOpens Go.Proofs.YtcboagkbcoihjaaW.PrintWords Go.Proofs.YtcboagkbcoihjaaW.PrintLast Go.Proofs.YtcboagkbcoihjaaW.PrintMore
attribute [local go_sem] max2_int min2_int max_two min_two max_three min_three max_four min_four   -- for this text's walks alone
set_option linter.unusedVariables false
set_option linter.unusedSimpArgs false

end Go.Proofs.Ytcboagkbcoihjaa.XMeans
