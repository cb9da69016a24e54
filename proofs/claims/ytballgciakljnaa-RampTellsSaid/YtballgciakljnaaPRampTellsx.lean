-- Written by a program of this session, in the form of the kit's print, some functions by hand (N.B. not a file of print.sh's).
import Derived.Test.YtballgciakljnaaPRampTellsx0
import Derived.Test.YtballgciakljnaaPRampTellsx1
import Derived.Test.YtballgciakljnaaPRampTellsx2
import Derived.Test.YtballgciakljnaaPRampTellsx3
import Derived.Test.YtballgciakljnaaPRampTellsx4
import Derived.Test.YtballgciakljnaaPRampTellsx5
import Derived.Test.YtballgciakljnaaPRampTellsx6
import Derived.Test.YtballgciakljnaaPRampTellsx7
import Derived.Test.YtballgciakljnaaPRampTellsx8
import Derived.Test.YtballgciakljnaaPRampTellsx9
import Derived.Test.YtballgciakljnaaPRampTellsx10
import Derived.Test.YtballgciakljnaaPRampTellsx11
import Derived.Test.YtballgciakljnaaPRampTellsx12
import Derived.Test.YtballgciakljnaaPRampTellsx13
import Derived.Test.YtballgciakljnaaPRampTellsx14
import Derived.Test.YtballgciakljnaaPRampTellsx15
import Derived.Test.YtballgciakljnaaPRampTellsx16
namespace Go.Proofs.Ytballgciakljnaa.PRampTells
open Go.RowKit Go.Proofs.YtballgciakljnaaW.PrintWords Go.Proofs.YtballgciakljnaaW.PrintLast Go.Proofs.YtballgciakljnaaW.PrintMore Go.Proofs.YtballgciakljnaaM
attribute [local go_sem] max2_int min2_int max_two min_two max_three min_three max_four min_four   -- for this text's walks alone
set_option linter.unusedVariables false
set_option linter.unusedSimpArgs false

end Go.Proofs.Ytballgciakljnaa.PRampTells
