-- Written by a program of this session, in the form of the kit's print, some functions by hand (N.B. not a file of print.sh's).
import Derived.Test.YtballgciakljnaaPTextTellsx0
import Derived.Test.YtballgciakljnaaPTextTellsx1
import Derived.Test.YtballgciakljnaaPTextTellsx2
import Derived.Test.YtballgciakljnaaPTextTellsx3
import Derived.Test.YtballgciakljnaaPTextTellsx4
import Derived.Test.YtballgciakljnaaPTextTellsx5
import Derived.Test.YtballgciakljnaaPTextTellsx6
import Derived.Test.YtballgciakljnaaPTextTellsx7
import Derived.Test.YtballgciakljnaaPTextTellsx8
import Derived.Test.YtballgciakljnaaPTextTellsx9
import Derived.Test.YtballgciakljnaaPTextTellsx10
import Derived.Test.YtballgciakljnaaPTextTellsx11
import Derived.Test.YtballgciakljnaaPTextTellsx12
import Derived.Test.YtballgciakljnaaPTextTellsx13
import Derived.Test.YtballgciakljnaaPTextTellsx14
import Derived.Test.YtballgciakljnaaPTextTellsx15
import Derived.Test.YtballgciakljnaaPTextTellsx16
import Derived.Test.YtballgciakljnaaPTextTellsx17
import Derived.Test.YtballgciakljnaaPTextTellsx18
import Derived.Test.YtballgciakljnaaPTextTellsx19
import Derived.Test.YtballgciakljnaaPTextTellsx20
import Derived.Test.YtballgciakljnaaPTextTellsx21
import Derived.Test.YtballgciakljnaaPTextTellsx22
namespace Go.Proofs.Ytballgciakljnaa.PTextTells
open Go.RowKit Go.Proofs.YtballgciakljnaaW.PrintWords Go.Proofs.YtballgciakljnaaW.PrintLast Go.Proofs.YtballgciakljnaaW.PrintMore Go.Proofs.YtballgciakljnaaM
attribute [local go_sem] max2_int min2_int max_two min_two max_three min_three max_four min_four   -- for this text's walks alone
set_option linter.unusedVariables false
set_option linter.unusedSimpArgs false

end Go.Proofs.Ytballgciakljnaa.PTextTells
