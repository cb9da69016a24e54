-- Written by a program of this session, in the form of the kit's print, some functions by hand (N.B. not a file of print.sh's).
import Derived.Test.YtballgciakljnaaPRampLastx0
import Derived.Test.YtballgciakljnaaPRampLastx1
import Derived.Test.YtballgciakljnaaPRampLastx2
import Derived.Test.YtballgciakljnaaPRampLastx3
import Derived.Test.YtballgciakljnaaPRampLastx4
import Derived.Test.YtballgciakljnaaPRampLastx5
import Derived.Test.YtballgciakljnaaPRampLastx6
import Derived.Test.YtballgciakljnaaPRampLastx7
import Derived.Test.YtballgciakljnaaPRampLastx8
import Derived.Test.YtballgciakljnaaPRampLastx9
import Derived.Test.YtballgciakljnaaPRampLastx10
import Derived.Test.YtballgciakljnaaPRampLastx11
import Derived.Test.YtballgciakljnaaPRampLastx12
import Derived.Test.YtballgciakljnaaPRampLastx13
namespace Go.Proofs.Ytballgciakljnaa.PRampLast
open Go.RowKit Go.Proofs.YtballgciakljnaaW.PrintWords Go.Proofs.YtballgciakljnaaW.PrintLast Go.Proofs.YtballgciakljnaaW.PrintMore Go.Proofs.YtballgciakljnaaM
attribute [local go_sem] max2_int min2_int max_two min_two max_three min_three max_four min_four   -- for this text's walks alone
set_option linter.unusedVariables false
set_option linter.unusedSimpArgs false

end Go.Proofs.Ytballgciakljnaa.PRampLast
