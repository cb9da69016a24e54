-- Written by a program of this session, in the form of the kit's print, some functions by hand (N.B. not a file of print.sh's).
import Derived.Test.YtbaodollggbcoaaPAduBackx0
import Derived.Test.YtbaodollggbcoaaPAduBackx1
import Derived.Test.YtbaodollggbcoaaPAduBackx2
import Derived.Test.YtbaodollggbcoaaPAduBackx3
import Derived.Test.YtbaodollggbcoaaPAduBackx4
import Derived.Test.YtbaodollggbcoaaPAduBackx5
import Derived.Test.YtbaodollggbcoaaPAduBackx6
import Derived.Test.YtbaodollggbcoaaPAduBackx7
import Derived.Test.YtbaodollggbcoaaPAduBackx8
import Derived.Test.YtbaodollggbcoaaPAduBackx9
import Derived.Test.YtbaodollggbcoaaPAduBackx10
import Derived.Test.YtbaodollggbcoaaPAduBackx11
import Derived.Test.YtbaodollggbcoaaPAduBackx12
import Derived.Test.YtbaodollggbcoaaPAduBackx13
import Derived.Test.YtbaodollggbcoaaPAduBackx14
namespace Go.Proofs.Ytbaodollggbcoaa.PAduBack
open Go.RowKit Go.Proofs.YtbaodollggbcoaaW.PrintWords Go.Proofs.YtbaodollggbcoaaW.PrintLast Go.Proofs.YtbaodollggbcoaaW.PrintMore Go.Proofs.YtbaodollggbcoaaM
attribute [local go_sem] max2_int min2_int max_two min_two max_three min_three max_four min_four   -- for this text's walks alone
set_option linter.unusedVariables false
set_option linter.unusedSimpArgs false

end Go.Proofs.Ytbaodollggbcoaa.PAduBack
