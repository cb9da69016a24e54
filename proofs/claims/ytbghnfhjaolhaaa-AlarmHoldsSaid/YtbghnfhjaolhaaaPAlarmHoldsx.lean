-- Written by a program of this session, in the form of the kit's print, some functions by hand (N.B. not a file of print.sh's).
import Derived.Test.YtbghnfhjaolhaaaPAlarmHoldsx0
import Derived.Test.YtbghnfhjaolhaaaPAlarmHoldsx1
import Derived.Test.YtbghnfhjaolhaaaPAlarmHoldsx2
import Derived.Test.YtbghnfhjaolhaaaPAlarmHoldsx3
import Derived.Test.YtbghnfhjaolhaaaPAlarmHoldsx4
import Derived.Test.YtbghnfhjaolhaaaPAlarmHoldsx5
import Derived.Test.YtbghnfhjaolhaaaPAlarmHoldsx6
import Derived.Test.YtbghnfhjaolhaaaPAlarmHoldsx7
import Derived.Test.YtbghnfhjaolhaaaPAlarmHoldsx8
namespace Go.Proofs.Ytbghnfhjaolhaaa.PAlarmHolds
open Go.RowKit Go.Proofs.YtbghnfhjaolhaaaW.PrintWords Go.Proofs.YtbghnfhjaolhaaaW.PrintLast Go.Proofs.YtbghnfhjaolhaaaW.PrintMore Go.Proofs.YtbghnfhjaolhaaaM
attribute [local go_sem] max2_int min2_int max_two min_two max_three min_three max_four min_four   -- for this text's walks alone
set_option linter.unusedVariables false
set_option linter.unusedSimpArgs false

end Go.Proofs.Ytbghnfhjaolhaaa.PAlarmHolds
