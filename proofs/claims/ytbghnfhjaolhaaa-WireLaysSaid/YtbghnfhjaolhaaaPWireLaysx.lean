-- Written by a program of this session, in the form of the kit's print, some functions by hand (N.B. not a file of print.sh's).
import Derived.Test.YtbghnfhjaolhaaaPWireLaysx0
import Derived.Test.YtbghnfhjaolhaaaPWireLaysx1
import Derived.Test.YtbghnfhjaolhaaaPWireLaysx2
import Derived.Test.YtbghnfhjaolhaaaPWireLaysx3
import Derived.Test.YtbghnfhjaolhaaaPWireLaysx4
import Derived.Test.YtbghnfhjaolhaaaPWireLaysx5
import Derived.Test.YtbghnfhjaolhaaaPWireLaysx6
import Derived.Test.YtbghnfhjaolhaaaPWireLaysx7
import Derived.Test.YtbghnfhjaolhaaaPWireLaysx8
import Derived.Test.YtbghnfhjaolhaaaPWireLaysx9
import Derived.Test.YtbghnfhjaolhaaaPWireLaysx10
import Derived.Test.YtbghnfhjaolhaaaPWireLaysx11
import Derived.Test.YtbghnfhjaolhaaaPWireLaysx12
import Derived.Test.YtbghnfhjaolhaaaPWireLaysx13
import Derived.Test.YtbghnfhjaolhaaaPWireLaysx14
import Derived.Test.YtbghnfhjaolhaaaPWireLaysx15
import Derived.Test.YtbghnfhjaolhaaaPWireLaysx16
import Derived.Test.YtbghnfhjaolhaaaPWireLaysx17
import Derived.Test.YtbghnfhjaolhaaaPWireLaysx18
import Derived.Test.YtbghnfhjaolhaaaPWireLaysx19
import Derived.Test.YtbghnfhjaolhaaaPWireLaysx20
import Derived.Test.YtbghnfhjaolhaaaPWireLaysx21
import Derived.Test.YtbghnfhjaolhaaaPWireLaysx22
import Derived.Test.YtbghnfhjaolhaaaPWireLaysx23
import Derived.Test.YtbghnfhjaolhaaaPWireLaysx24
namespace Go.Proofs.Ytbghnfhjaolhaaa.PWireLays
open Go.RowKit Go.Proofs.YtbghnfhjaolhaaaW.PrintWords Go.Proofs.YtbghnfhjaolhaaaW.PrintLast Go.Proofs.YtbghnfhjaolhaaaW.PrintMore Go.Proofs.YtbghnfhjaolhaaaM
attribute [local go_sem] max2_int min2_int max_two min_two max_three min_three max_four min_four   -- for this text's walks alone
set_option linter.unusedVariables false
set_option linter.unusedSimpArgs false

end Go.Proofs.Ytbghnfhjaolhaaa.PWireLays
