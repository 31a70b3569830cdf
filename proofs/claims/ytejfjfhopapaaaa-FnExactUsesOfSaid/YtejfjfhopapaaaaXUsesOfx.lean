-- printed by a program of this session (xprint, turned from the kit's print) for this claim
import Derived.Test.YtejfjfhopapaaaaXUsesOfx0
import Derived.Test.YtejfjfhopapaaaaXUsesOfx1
import Derived.Test.YtejfjfhopapaaaaXUsesOfx2
import Derived.Test.YtejfjfhopapaaaaXUsesOfx3
import Derived.Test.YtejfjfhopapaaaaXUsesOfx4
import Derived.Test.YtejfjfhopapaaaaXUsesOfx5
import Derived.Test.YtejfjfhopapaaaaXUsesOfx6
import Derived.Test.YtejfjfhopapaaaaXUsesOfx7
import Derived.Test.YtejfjfhopapaaaaXUsesOfx8
import Derived.Test.YtejfjfhopapaaaaXUsesOfx9
namespace Go.Proofs.Ytejfjfhopapaaaa.XUsesOf
open Go.RowKit Go.Proofs.Ytejfjfhopapaaaa.XOpens Go.Proofs.YtejfjfhopapaaaaW.PrintWords Go.Proofs.YtejfjfhopapaaaaW.PrintLast Go.Proofs.YtejfjfhopapaaaaW.PrintMore
attribute [local go_sem] max2_int min2_int max_two min_two max_three min_three max_four min_four   -- for this text's walks alone
set_option linter.unusedVariables false
set_option linter.unusedSimpArgs false

end Go.Proofs.Ytejfjfhopapaaaa.XUsesOf
