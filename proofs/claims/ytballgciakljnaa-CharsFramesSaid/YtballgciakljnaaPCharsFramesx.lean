-- Written by a program of this session, in the form of the kit's print, some functions by hand (N.B. not a file of print.sh's).
import Derived.Test.YtballgciakljnaaPCharsFramesx0
import Derived.Test.YtballgciakljnaaPCharsFramesx1
import Derived.Test.YtballgciakljnaaPCharsFramesx2
import Derived.Test.YtballgciakljnaaPCharsFramesx3
import Derived.Test.YtballgciakljnaaPCharsFramesx4
import Derived.Test.YtballgciakljnaaPCharsFramesx5
import Derived.Test.YtballgciakljnaaPCharsFramesx6
import Derived.Test.YtballgciakljnaaPCharsFramesx7
import Derived.Test.YtballgciakljnaaPCharsFramesx8
import Derived.Test.YtballgciakljnaaPCharsFramesx9
import Derived.Test.YtballgciakljnaaPCharsFramesx10
import Derived.Test.YtballgciakljnaaPCharsFramesx11
import Derived.Test.YtballgciakljnaaPCharsFramesx12
namespace Go.Proofs.Ytballgciakljnaa.PCharsFrames
open Go.RowKit Go.Proofs.YtballgciakljnaaW.PrintWords Go.Proofs.YtballgciakljnaaW.PrintLast Go.Proofs.YtballgciakljnaaW.PrintMore Go.Proofs.YtballgciakljnaaM
attribute [local go_sem] max2_int min2_int max_two min_two max_three min_three max_four min_four   -- for this text's walks alone
set_option linter.unusedVariables false
set_option linter.unusedSimpArgs false

end Go.Proofs.Ytballgciakljnaa.PCharsFrames
