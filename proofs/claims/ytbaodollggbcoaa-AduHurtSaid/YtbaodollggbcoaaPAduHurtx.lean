-- Written by a program of this session, in the form of the kit's print, some functions by hand (N.B. not a file of print.sh's).
import Derived.Test.YtbaodollggbcoaaPAduHurtx0
import Derived.Test.YtbaodollggbcoaaPAduHurtx1
import Derived.Test.YtbaodollggbcoaaPAduHurtx2
import Derived.Test.YtbaodollggbcoaaPAduHurtx3
import Derived.Test.YtbaodollggbcoaaPAduHurtx4
import Derived.Test.YtbaodollggbcoaaPAduHurtx5
import Derived.Test.YtbaodollggbcoaaPAduHurtx6
import Derived.Test.YtbaodollggbcoaaPAduHurtx7
import Derived.Test.YtbaodollggbcoaaPAduHurtx8
import Derived.Test.YtbaodollggbcoaaPAduHurtx9
import Derived.Test.YtbaodollggbcoaaPAduHurtx10
import Derived.Test.YtbaodollggbcoaaPAduHurtx11
import Derived.Test.YtbaodollggbcoaaPAduHurtx12
import Derived.Test.YtbaodollggbcoaaPAduHurtx13
import Derived.Test.YtbaodollggbcoaaPAduHurtx14
import Derived.Test.YtbaodollggbcoaaPAduHurtx15
namespace Go.Proofs.Ytbaodollggbcoaa.PAduHurt
open Go.RowKit Go.Proofs.YtbaodollggbcoaaW.PrintWords Go.Proofs.YtbaodollggbcoaaW.PrintLast Go.Proofs.YtbaodollggbcoaaW.PrintMore Go.Proofs.YtbaodollggbcoaaM
attribute [local go_sem] max2_int min2_int max_two min_two max_three min_three max_four min_four   -- for this text's walks alone
set_option linter.unusedVariables false
set_option linter.unusedSimpArgs false

end Go.Proofs.Ytbaodollggbcoaa.PAduHurt
