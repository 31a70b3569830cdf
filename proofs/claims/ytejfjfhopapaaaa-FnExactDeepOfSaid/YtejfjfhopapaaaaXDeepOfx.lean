-- printed by a program of this session (xprint, turned from the kit's print) for this claim
import Derived.Test.YtejfjfhopapaaaaXDeepOfx0
import Derived.Test.YtejfjfhopapaaaaXDeepOfx1
import Derived.Test.YtejfjfhopapaaaaXDeepOfx2
import Derived.Test.YtejfjfhopapaaaaXDeepOfx3
import Derived.Test.YtejfjfhopapaaaaXDeepOfx4
import Derived.Test.YtejfjfhopapaaaaXDeepOfx5
import Derived.Test.YtejfjfhopapaaaaXDeepOfx6
import Derived.Test.YtejfjfhopapaaaaXDeepOfx7
import Derived.Test.YtejfjfhopapaaaaXDeepOfx8
import Derived.Test.YtejfjfhopapaaaaXDeepOfx9
namespace Go.Proofs.Ytejfjfhopapaaaa.XDeepOf
open Go.RowKit Go.Proofs.Ytejfjfhopapaaaa.XOpens Go.Proofs.YtejfjfhopapaaaaW.PrintWords Go.Proofs.YtejfjfhopapaaaaW.PrintLast Go.Proofs.YtejfjfhopapaaaaW.PrintMore
attribute [local go_sem] max2_int min2_int max_two min_two max_three min_three max_four min_four   -- for this text's walks alone
set_option linter.unusedVariables false
set_option linter.unusedSimpArgs false

end Go.Proofs.Ytejfjfhopapaaaa.XDeepOf
