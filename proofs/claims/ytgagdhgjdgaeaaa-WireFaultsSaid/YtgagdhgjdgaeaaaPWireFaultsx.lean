-- Written by a program of this session, in the form of the kit's print, some functions by hand (N.B. not a file of print.sh's).
import Derived.Test.YtgagdhgjdgaeaaaPWireFaultsx0
import Derived.Test.YtgagdhgjdgaeaaaPWireFaultsx1
import Derived.Test.YtgagdhgjdgaeaaaPWireFaultsx2
import Derived.Test.YtgagdhgjdgaeaaaPWireFaultsx3
import Derived.Test.YtgagdhgjdgaeaaaPWireFaultsx4
import Derived.Test.YtgagdhgjdgaeaaaPWireFaultsx5
import Derived.Test.YtgagdhgjdgaeaaaPWireFaultsx6
import Derived.Test.YtgagdhgjdgaeaaaPWireFaultsx7
import Derived.Test.YtgagdhgjdgaeaaaPWireFaultsx8
import Derived.Test.YtgagdhgjdgaeaaaPWireFaultsx9
namespace Go.Proofs.Ytgagdhgjdgaeaaa.PWireFaults
open Go.RowKit Go.Proofs.YtgagdhgjdgaeaaaW.PrintWords Go.Proofs.YtgagdhgjdgaeaaaW.PrintLast Go.Proofs.YtgagdhgjdgaeaaaW.PrintMore Go.Proofs.YtgagdhgjdgaeaaaM
attribute [local go_sem] max2_int min2_int max_two min_two max_three min_three max_four min_four   -- for this text's walks alone
set_option linter.unusedVariables false
set_option linter.unusedSimpArgs false

end Go.Proofs.Ytgagdhgjdgaeaaa.PWireFaults
