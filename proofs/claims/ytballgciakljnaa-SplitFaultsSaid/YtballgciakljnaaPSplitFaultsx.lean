-- Written by a program of this session, in the form of the kit's print, some functions by hand (N.B. not a file of print.sh's).
import Derived.Test.YtballgciakljnaaPSplitFaultsx0
import Derived.Test.YtballgciakljnaaPSplitFaultsx1
import Derived.Test.YtballgciakljnaaPSplitFaultsx2
import Derived.Test.YtballgciakljnaaPSplitFaultsx3
import Derived.Test.YtballgciakljnaaPSplitFaultsx4
import Derived.Test.YtballgciakljnaaPSplitFaultsx5
import Derived.Test.YtballgciakljnaaPSplitFaultsx6
import Derived.Test.YtballgciakljnaaPSplitFaultsx7
import Derived.Test.YtballgciakljnaaPSplitFaultsx8
import Derived.Test.YtballgciakljnaaPSplitFaultsx9
namespace Go.Proofs.Ytballgciakljnaa.PSplitFaults
open Go.RowKit Go.Proofs.YtballgciakljnaaW.PrintWords Go.Proofs.YtballgciakljnaaW.PrintLast Go.Proofs.YtballgciakljnaaW.PrintMore Go.Proofs.YtballgciakljnaaM
attribute [local go_sem] max2_int min2_int max_two min_two max_three min_three max_four min_four   -- for this text's walks alone
set_option linter.unusedVariables false
set_option linter.unusedSimpArgs false

end Go.Proofs.Ytballgciakljnaa.PSplitFaults
