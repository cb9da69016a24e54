-- Written by a program of this session, in the form of the kit's print, some functions by hand (N.B. not a file of print.sh's).
import Derived.Test.YtbaodollggbcoaaPAduTellsx0
import Derived.Test.YtbaodollggbcoaaPAduTellsx1
import Derived.Test.YtbaodollggbcoaaPAduTellsx2
import Derived.Test.YtbaodollggbcoaaPAduTellsx3
import Derived.Test.YtbaodollggbcoaaPAduTellsx4
import Derived.Test.YtbaodollggbcoaaPAduTellsx5
import Derived.Test.YtbaodollggbcoaaPAduTellsx6
import Derived.Test.YtbaodollggbcoaaPAduTellsx7
import Derived.Test.YtbaodollggbcoaaPAduTellsx8
import Derived.Test.YtbaodollggbcoaaPAduTellsx9
import Derived.Test.YtbaodollggbcoaaPAduTellsx10
import Derived.Test.YtbaodollggbcoaaPAduTellsx11
import Derived.Test.YtbaodollggbcoaaPAduTellsx12
import Derived.Test.YtbaodollggbcoaaPAduTellsx13
import Derived.Test.YtbaodollggbcoaaPAduTellsx14
import Derived.Test.YtbaodollggbcoaaPAduTellsx15
import Derived.Test.YtbaodollggbcoaaPAduTellsx16
import Derived.Test.YtbaodollggbcoaaPAduTellsx17
import Derived.Test.YtbaodollggbcoaaPAduTellsx18
import Derived.Test.YtbaodollggbcoaaPAduTellsx19
import Derived.Test.YtbaodollggbcoaaPAduTellsx20
import Derived.Test.YtbaodollggbcoaaPAduTellsx21
import Derived.Test.YtbaodollggbcoaaPAduTellsx22
namespace Go.Proofs.Ytbaodollggbcoaa.PAduTells
open Go.RowKit Go.Proofs.YtbaodollggbcoaaW.PrintWords Go.Proofs.YtbaodollggbcoaaW.PrintLast Go.Proofs.YtbaodollggbcoaaW.PrintMore Go.Proofs.YtbaodollggbcoaaM
attribute [local go_sem] max2_int min2_int max_two min_two max_three min_three max_four min_four   -- for this text's walks alone
set_option linter.unusedVariables false
set_option linter.unusedSimpArgs false

end Go.Proofs.Ytbaodollggbcoaa.PAduTells
