-- Written by a program of this session, in the form of the kit's print, some functions by hand (N.B. not a file of print.sh's).
import Derived.Test.YtmekenfndmimhaaPClockGoesx0
import Derived.Test.YtmekenfndmimhaaPClockGoesx1
import Derived.Test.YtmekenfndmimhaaPClockGoesx2
import Derived.Test.YtmekenfndmimhaaPClockGoesx3
import Derived.Test.YtmekenfndmimhaaPClockGoesx4
import Derived.Test.YtmekenfndmimhaaPClockGoesx5
import Derived.Test.YtmekenfndmimhaaPClockGoesx6
import Derived.Test.YtmekenfndmimhaaPClockGoesx7
import Derived.Test.YtmekenfndmimhaaPClockGoesx8
import Derived.Test.YtmekenfndmimhaaPClockGoesx9
namespace Go.Proofs.Ytmekenfndmimhaa.PClockGoes
open Go.RowKit Go.Proofs.YtmekenfndmimhaaW.PrintWords Go.Proofs.YtmekenfndmimhaaW.PrintLast Go.Proofs.YtmekenfndmimhaaW.PrintMore Go.Proofs.YtmekenfndmimhaaM
attribute [local go_sem] max2_int min2_int max_two min_two max_three min_three max_four min_four   -- for this text's walks alone
set_option linter.unusedVariables false
set_option linter.unusedSimpArgs false

end Go.Proofs.Ytmekenfndmimhaa.PClockGoes
