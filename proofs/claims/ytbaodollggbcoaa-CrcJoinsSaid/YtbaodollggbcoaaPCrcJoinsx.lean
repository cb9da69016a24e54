-- Written by a program of this session, in the form of the kit's print, some functions by hand (N.B. not a file of print.sh's).
import Derived.Test.YtbaodollggbcoaaPCrcJoinsx0
import Derived.Test.YtbaodollggbcoaaPCrcJoinsx1
import Derived.Test.YtbaodollggbcoaaPCrcJoinsx2
import Derived.Test.YtbaodollggbcoaaPCrcJoinsx3
import Derived.Test.YtbaodollggbcoaaPCrcJoinsx4
import Derived.Test.YtbaodollggbcoaaPCrcJoinsx5
import Derived.Test.YtbaodollggbcoaaPCrcJoinsx6
import Derived.Test.YtbaodollggbcoaaPCrcJoinsx7
import Derived.Test.YtbaodollggbcoaaPCrcJoinsx8
import Derived.Test.YtbaodollggbcoaaPCrcJoinsx9
import Derived.Test.YtbaodollggbcoaaPCrcJoinsx10
import Derived.Test.YtbaodollggbcoaaPCrcJoinsx11
import Derived.Test.YtbaodollggbcoaaPCrcJoinsx12
import Derived.Test.YtbaodollggbcoaaPCrcJoinsx13
import Derived.Test.YtbaodollggbcoaaPCrcJoinsx14
import Derived.Test.YtbaodollggbcoaaPCrcJoinsx15
import Derived.Test.YtbaodollggbcoaaPCrcJoinsx16
import Derived.Test.YtbaodollggbcoaaPCrcJoinsx17
namespace Go.Proofs.Ytbaodollggbcoaa.PCrcJoins
open Go.RowKit Go.Proofs.YtbaodollggbcoaaW.PrintWords Go.Proofs.YtbaodollggbcoaaW.PrintLast Go.Proofs.YtbaodollggbcoaaW.PrintMore Go.Proofs.YtbaodollggbcoaaM
attribute [local go_sem] max2_int min2_int max_two min_two max_three min_three max_four min_four   -- for this text's walks alone
set_option linter.unusedVariables false
set_option linter.unusedSimpArgs false

end Go.Proofs.Ytbaodollggbcoaa.PCrcJoins
