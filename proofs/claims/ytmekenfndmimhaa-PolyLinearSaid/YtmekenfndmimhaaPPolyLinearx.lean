-- Written by a program of this session, in the form of the kit's print, some functions by hand (N.B. not a file of print.sh's).
import Derived.Test.YtmekenfndmimhaaPPolyLinearx0
import Derived.Test.YtmekenfndmimhaaPPolyLinearx1
import Derived.Test.YtmekenfndmimhaaPPolyLinearx2
import Derived.Test.YtmekenfndmimhaaPPolyLinearx3
import Derived.Test.YtmekenfndmimhaaPPolyLinearx4
import Derived.Test.YtmekenfndmimhaaPPolyLinearx5
import Derived.Test.YtmekenfndmimhaaPPolyLinearx6
import Derived.Test.YtmekenfndmimhaaPPolyLinearx7
import Derived.Test.YtmekenfndmimhaaPPolyLinearx8
import Derived.Test.YtmekenfndmimhaaPPolyLinearx9
namespace Go.Proofs.Ytmekenfndmimhaa.PPolyLinear
open Go.RowKit Go.Proofs.YtmekenfndmimhaaW.PrintWords Go.Proofs.YtmekenfndmimhaaW.PrintLast Go.Proofs.YtmekenfndmimhaaW.PrintMore Go.Proofs.YtmekenfndmimhaaM
attribute [local go_sem] max2_int min2_int max_two min_two max_three min_three max_four min_four   -- for this text's walks alone
set_option linter.unusedVariables false
set_option linter.unusedSimpArgs false

end Go.Proofs.Ytmekenfndmimhaa.PPolyLinear
