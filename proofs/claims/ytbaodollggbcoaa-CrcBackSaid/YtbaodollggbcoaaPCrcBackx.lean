-- Written by a program of this session, in the form of the kit's print, some functions by hand (N.B. not a file of print.sh's).
import Derived.Test.YtbaodollggbcoaaPCrcBackx0
import Derived.Test.YtbaodollggbcoaaPCrcBackx1
import Derived.Test.YtbaodollggbcoaaPCrcBackx2
import Derived.Test.YtbaodollggbcoaaPCrcBackx3
import Derived.Test.YtbaodollggbcoaaPCrcBackx4
import Derived.Test.YtbaodollggbcoaaPCrcBackx5
import Derived.Test.YtbaodollggbcoaaPCrcBackx6
import Derived.Test.YtbaodollggbcoaaPCrcBackx7
import Derived.Test.YtbaodollggbcoaaPCrcBackx8
import Derived.Test.YtbaodollggbcoaaPCrcBackx9
import Derived.Test.YtbaodollggbcoaaPCrcBackx10
import Derived.Test.YtbaodollggbcoaaPCrcBackx11
import Derived.Test.YtbaodollggbcoaaPCrcBackx12
import Derived.Test.YtbaodollggbcoaaPCrcBackx13
import Derived.Test.YtbaodollggbcoaaPCrcBackx14
import Derived.Test.YtbaodollggbcoaaPCrcBackx15
import Derived.Test.YtbaodollggbcoaaPCrcBackx16
namespace Go.Proofs.Ytbaodollggbcoaa.PCrcBack
open Go.RowKit Go.Proofs.YtbaodollggbcoaaW.PrintWords Go.Proofs.YtbaodollggbcoaaW.PrintLast Go.Proofs.YtbaodollggbcoaaW.PrintMore Go.Proofs.YtbaodollggbcoaaM
attribute [local go_sem] max2_int min2_int max_two min_two max_three min_three max_four min_four   -- for this text's walks alone
set_option linter.unusedVariables false
set_option linter.unusedSimpArgs false

end Go.Proofs.Ytbaodollggbcoaa.PCrcBack
