-- printed by a program of this session (xprint, turned from the kit's print) for this claim
import Derived.Test.YtcboagkbcoihjaaXMayUnifyx0
import Derived.Test.YtcboagkbcoihjaaXMayUnifyx1
import Derived.Test.YtcboagkbcoihjaaXMayUnifyx2
import Derived.Test.YtcboagkbcoihjaaXMayUnifyx3
import Derived.Test.YtcboagkbcoihjaaXMayUnifyx4
import Derived.Test.YtcboagkbcoihjaaXMayUnifyx5
import Derived.Test.YtcboagkbcoihjaaXMayUnifyx6
import Derived.Test.YtcboagkbcoihjaaXMayUnifyx7
import Derived.Test.YtcboagkbcoihjaaXMayUnifyx8
import Derived.Test.YtcboagkbcoihjaaXMayUnifyx9
namespace Go.Proofs.Ytcboagkbcoihjaa.XMayUnify
open Go.RowKit Go.Proofs.YtcboagkbcoihjaaW.PrintWords Go.Proofs.YtcboagkbcoihjaaW.PrintLast Go.Proofs.YtcboagkbcoihjaaW.PrintMore
attribute [local go_sem] max2_int min2_int max_two min_two max_three min_three max_four min_four   -- for this text's walks alone
set_option linter.unusedVariables false
set_option linter.unusedSimpArgs false

end Go.Proofs.Ytcboagkbcoihjaa.XMayUnify
