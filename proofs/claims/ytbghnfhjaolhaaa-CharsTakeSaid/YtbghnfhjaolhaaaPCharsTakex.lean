-- Written by a program of this session, in the form of the kit's print, some functions by hand (N.B. not a file of print.sh's).
import Derived.Test.YtbghnfhjaolhaaaPCharsTakex0
import Derived.Test.YtbghnfhjaolhaaaPCharsTakex1
import Derived.Test.YtbghnfhjaolhaaaPCharsTakex2
import Derived.Test.YtbghnfhjaolhaaaPCharsTakex3
import Derived.Test.YtbghnfhjaolhaaaPCharsTakex4
import Derived.Test.YtbghnfhjaolhaaaPCharsTakex5
import Derived.Test.YtbghnfhjaolhaaaPCharsTakex6
import Derived.Test.YtbghnfhjaolhaaaPCharsTakex7
import Derived.Test.YtbghnfhjaolhaaaPCharsTakex8
import Derived.Test.YtbghnfhjaolhaaaPCharsTakex9
import Derived.Test.YtbghnfhjaolhaaaPCharsTakex10
import Derived.Test.YtbghnfhjaolhaaaPCharsTakex11
import Derived.Test.YtbghnfhjaolhaaaPCharsTakex12
namespace Go.Proofs.Ytbghnfhjaolhaaa.PCharsTake
open Go.RowKit Go.Proofs.YtbghnfhjaolhaaaW.PrintWords Go.Proofs.YtbghnfhjaolhaaaW.PrintLast Go.Proofs.YtbghnfhjaolhaaaW.PrintMore Go.Proofs.YtbghnfhjaolhaaaM
attribute [local go_sem] max2_int min2_int max_two min_two max_three min_three max_four min_four   -- for this text's walks alone
set_option linter.unusedVariables false
set_option linter.unusedSimpArgs false

end Go.Proofs.Ytbghnfhjaolhaaa.PCharsTake
