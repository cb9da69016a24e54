-- Written by a program of this session, in the form of the kit's print, some functions by hand (N.B. not a file of print.sh's).
import Derived.Test.YtbaodollggbcoaaPCrcOddx0
import Derived.Test.YtbaodollggbcoaaPCrcOddx1
import Derived.Test.YtbaodollggbcoaaPCrcOddx2
import Derived.Test.YtbaodollggbcoaaPCrcOddx3
import Derived.Test.YtbaodollggbcoaaPCrcOddx4
import Derived.Test.YtbaodollggbcoaaPCrcOddx5
import Derived.Test.YtbaodollggbcoaaPCrcOddx6
import Derived.Test.YtbaodollggbcoaaPCrcOddx7
import Derived.Test.YtbaodollggbcoaaPCrcOddx8
import Derived.Test.YtbaodollggbcoaaPCrcOddx9
import Derived.Test.YtbaodollggbcoaaPCrcOddx10
import Derived.Test.YtbaodollggbcoaaPCrcOddx11
import Derived.Test.YtbaodollggbcoaaPCrcOddx12
import Derived.Test.YtbaodollggbcoaaPCrcOddx13
import Derived.Test.YtbaodollggbcoaaPCrcOddx14
import Derived.Test.YtbaodollggbcoaaPCrcOddx15
namespace Go.Proofs.Ytbaodollggbcoaa.PCrcOdd
open Go.RowKit Go.Proofs.YtbaodollggbcoaaW.PrintWords Go.Proofs.YtbaodollggbcoaaW.PrintLast Go.Proofs.YtbaodollggbcoaaW.PrintMore Go.Proofs.YtbaodollggbcoaaM
attribute [local go_sem] max2_int min2_int max_two min_two max_three min_three max_four min_four   -- for this text's walks alone
set_option linter.unusedVariables false
set_option linter.unusedSimpArgs false

end Go.Proofs.Ytbaodollggbcoaa.PCrcOdd
