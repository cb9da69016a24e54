-- Written by a program of this session, in the form of the kit's print, some functions by hand (N.B. not a file of print.sh's).
import Derived.Test.YtbghnfhjaolhaaaPAlarmStepsx0
import Derived.Test.YtbghnfhjaolhaaaPAlarmStepsx1
import Derived.Test.YtbghnfhjaolhaaaPAlarmStepsx2
import Derived.Test.YtbghnfhjaolhaaaPAlarmStepsx3
import Derived.Test.YtbghnfhjaolhaaaPAlarmStepsx4
import Derived.Test.YtbghnfhjaolhaaaPAlarmStepsx5
import Derived.Test.YtbghnfhjaolhaaaPAlarmStepsx6
import Derived.Test.YtbghnfhjaolhaaaPAlarmStepsx7
import Derived.Test.YtbghnfhjaolhaaaPAlarmStepsx8
import Derived.Test.YtbghnfhjaolhaaaPAlarmStepsx9
import Derived.Test.YtbghnfhjaolhaaaPAlarmStepsx10
import Derived.Test.YtbghnfhjaolhaaaPAlarmStepsx11
import Derived.Test.YtbghnfhjaolhaaaPAlarmStepsx12
import Derived.Test.YtbghnfhjaolhaaaPAlarmStepsx13
import Derived.Test.YtbghnfhjaolhaaaPAlarmStepsx14
import Derived.Test.YtbghnfhjaolhaaaPAlarmStepsx15
import Derived.Test.YtbghnfhjaolhaaaPAlarmStepsx16
import Derived.Test.YtbghnfhjaolhaaaPAlarmStepsx17
namespace Go.Proofs.Ytbghnfhjaolhaaa.PAlarmSteps
open Go.RowKit Go.Proofs.YtbghnfhjaolhaaaW.PrintWords Go.Proofs.YtbghnfhjaolhaaaW.PrintLast Go.Proofs.YtbghnfhjaolhaaaW.PrintMore Go.Proofs.YtbghnfhjaolhaaaM
attribute [local go_sem] max2_int min2_int max_two min_two max_three min_three max_four min_four   -- for this text's walks alone
set_option linter.unusedVariables false
set_option linter.unusedSimpArgs false

end Go.Proofs.Ytbghnfhjaolhaaa.PAlarmSteps
