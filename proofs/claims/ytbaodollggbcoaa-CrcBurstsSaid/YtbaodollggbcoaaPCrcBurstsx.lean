-- Written by a program of this session, in the form of the kit's print, some functions by hand (N.B. not a file of print.sh's).
import Derived.Test.YtbaodollggbcoaaPCrcBurstsx0
import Derived.Test.YtbaodollggbcoaaPCrcBurstsx1
import Derived.Test.YtbaodollggbcoaaPCrcBurstsx2
import Derived.Test.YtbaodollggbcoaaPCrcBurstsx3
import Derived.Test.YtbaodollggbcoaaPCrcBurstsx4
import Derived.Test.YtbaodollggbcoaaPCrcBurstsx5
import Derived.Test.YtbaodollggbcoaaPCrcBurstsx6
import Derived.Test.YtbaodollggbcoaaPCrcBurstsx7
import Derived.Test.YtbaodollggbcoaaPCrcBurstsx8
import Derived.Test.YtbaodollggbcoaaPCrcBurstsx9
import Derived.Test.YtbaodollggbcoaaPCrcBurstsx10
import Derived.Test.YtbaodollggbcoaaPCrcBurstsx11
import Derived.Test.YtbaodollggbcoaaPCrcBurstsx12
import Derived.Test.YtbaodollggbcoaaPCrcBurstsx13
import Derived.Test.YtbaodollggbcoaaPCrcBurstsx14
import Derived.Test.YtbaodollggbcoaaPCrcBurstsx15
namespace Go.Proofs.Ytbaodollggbcoaa.PCrcBursts
open Go.RowKit Go.Proofs.YtbaodollggbcoaaW.PrintWords Go.Proofs.YtbaodollggbcoaaW.PrintLast Go.Proofs.YtbaodollggbcoaaW.PrintMore Go.Proofs.YtbaodollggbcoaaM
attribute [local go_sem] max2_int min2_int max_two min_two max_three min_three max_four min_four   -- for this text's walks alone
set_option linter.unusedVariables false
set_option linter.unusedSimpArgs false

end Go.Proofs.Ytbaodollggbcoaa.PCrcBursts
