-- Written by a program of this session, in the form of the kit's print, some functions by hand (N.B. not a file of print.sh's).
import Derived.Test.YtballgciakljnaaPTextBackx0
import Derived.Test.YtballgciakljnaaPTextBackx1
import Derived.Test.YtballgciakljnaaPTextBackx2
import Derived.Test.YtballgciakljnaaPTextBackx3
import Derived.Test.YtballgciakljnaaPTextBackx4
import Derived.Test.YtballgciakljnaaPTextBackx5
import Derived.Test.YtballgciakljnaaPTextBackx6
import Derived.Test.YtballgciakljnaaPTextBackx7
import Derived.Test.YtballgciakljnaaPTextBackx8
import Derived.Test.YtballgciakljnaaPTextBackx9
import Derived.Test.YtballgciakljnaaPTextBackx10
import Derived.Test.YtballgciakljnaaPTextBackx11
import Derived.Test.YtballgciakljnaaPTextBackx12
import Derived.Test.YtballgciakljnaaPTextBackx13
namespace Go.Proofs.Ytballgciakljnaa.PTextBack
open Go.RowKit Go.Proofs.YtballgciakljnaaW.PrintWords Go.Proofs.YtballgciakljnaaW.PrintLast Go.Proofs.YtballgciakljnaaW.PrintMore Go.Proofs.YtballgciakljnaaM
attribute [local go_sem] max2_int min2_int max_two min_two max_three min_three max_four min_four   -- for this text's walks alone
set_option linter.unusedVariables false
set_option linter.unusedSimpArgs false

end Go.Proofs.Ytballgciakljnaa.PTextBack
