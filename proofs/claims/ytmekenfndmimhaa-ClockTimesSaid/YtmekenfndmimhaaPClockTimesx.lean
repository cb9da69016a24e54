-- Written by a program of this session, in the form of the kit's print, some functions by hand (N.B. not a file of print.sh's).
import Derived.Test.YtmekenfndmimhaaPClockTimesx0
import Derived.Test.YtmekenfndmimhaaPClockTimesx1
import Derived.Test.YtmekenfndmimhaaPClockTimesx2
import Derived.Test.YtmekenfndmimhaaPClockTimesx3
import Derived.Test.YtmekenfndmimhaaPClockTimesx4
import Derived.Test.YtmekenfndmimhaaPClockTimesx5
import Derived.Test.YtmekenfndmimhaaPClockTimesx6
import Derived.Test.YtmekenfndmimhaaPClockTimesx7
import Derived.Test.YtmekenfndmimhaaPClockTimesx8
import Derived.Test.YtmekenfndmimhaaPClockTimesx9
import Derived.Test.YtmekenfndmimhaaPClockTimesx10
import Derived.Test.YtmekenfndmimhaaPClockTimesx11
import Derived.Test.YtmekenfndmimhaaPClockTimesx12
namespace Go.Proofs.Ytmekenfndmimhaa.PClockTimes
open Go.RowKit Go.Proofs.YtmekenfndmimhaaW.PrintWords Go.Proofs.YtmekenfndmimhaaW.PrintLast Go.Proofs.YtmekenfndmimhaaW.PrintMore Go.Proofs.YtmekenfndmimhaaM
attribute [local go_sem] max2_int min2_int max_two min_two max_three min_three max_four min_four   -- for this text's walks alone
set_option linter.unusedVariables false
set_option linter.unusedSimpArgs false

end Go.Proofs.Ytmekenfndmimhaa.PClockTimes
