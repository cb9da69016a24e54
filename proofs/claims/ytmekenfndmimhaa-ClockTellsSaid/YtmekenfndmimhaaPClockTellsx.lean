-- Written by a program of this session, in the form of the kit's print, some functions by hand (N.B. not a file of print.sh's).
import Derived.Test.YtmekenfndmimhaaPClockTellsx0
import Derived.Test.YtmekenfndmimhaaPClockTellsx1
import Derived.Test.YtmekenfndmimhaaPClockTellsx2
import Derived.Test.YtmekenfndmimhaaPClockTellsx3
import Derived.Test.YtmekenfndmimhaaPClockTellsx4
import Derived.Test.YtmekenfndmimhaaPClockTellsx5
import Derived.Test.YtmekenfndmimhaaPClockTellsx6
import Derived.Test.YtmekenfndmimhaaPClockTellsx7
import Derived.Test.YtmekenfndmimhaaPClockTellsx8
import Derived.Test.YtmekenfndmimhaaPClockTellsx9
import Derived.Test.YtmekenfndmimhaaPClockTellsx10
import Derived.Test.YtmekenfndmimhaaPClockTellsx11
import Derived.Test.YtmekenfndmimhaaPClockTellsx12
import Derived.Test.YtmekenfndmimhaaPClockTellsx13
import Derived.Test.YtmekenfndmimhaaPClockTellsx14
namespace Go.Proofs.Ytmekenfndmimhaa.PClockTells
open Go.RowKit Go.Proofs.YtmekenfndmimhaaW.PrintWords Go.Proofs.YtmekenfndmimhaaW.PrintLast Go.Proofs.YtmekenfndmimhaaW.PrintMore Go.Proofs.YtmekenfndmimhaaM
attribute [local go_sem] max2_int min2_int max_two min_two max_three min_three max_four min_four   -- for this text's walks alone
set_option linter.unusedVariables false
set_option linter.unusedSimpArgs false

end Go.Proofs.Ytmekenfndmimhaa.PClockTells
