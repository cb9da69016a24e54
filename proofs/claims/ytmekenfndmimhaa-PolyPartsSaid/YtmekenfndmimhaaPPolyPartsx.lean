-- Written by a program of this session, in the form of the kit's print, some functions by hand (N.B. not a file of print.sh's).
import Derived.Test.YtmekenfndmimhaaPPolyPartsx0
import Derived.Test.YtmekenfndmimhaaPPolyPartsx1
import Derived.Test.YtmekenfndmimhaaPPolyPartsx2
import Derived.Test.YtmekenfndmimhaaPPolyPartsx3
import Derived.Test.YtmekenfndmimhaaPPolyPartsx4
import Derived.Test.YtmekenfndmimhaaPPolyPartsx5
import Derived.Test.YtmekenfndmimhaaPPolyPartsx6
import Derived.Test.YtmekenfndmimhaaPPolyPartsx7
import Derived.Test.YtmekenfndmimhaaPPolyPartsx8
import Derived.Test.YtmekenfndmimhaaPPolyPartsx9
namespace Go.Proofs.Ytmekenfndmimhaa.PPolyParts
open Go.RowKit Go.Proofs.YtmekenfndmimhaaW.PrintWords Go.Proofs.YtmekenfndmimhaaW.PrintLast Go.Proofs.YtmekenfndmimhaaW.PrintMore Go.Proofs.YtmekenfndmimhaaM
attribute [local go_sem] max2_int min2_int max_two min_two max_three min_three max_four min_four   -- for this text's walks alone
set_option linter.unusedVariables false
set_option linter.unusedSimpArgs false

end Go.Proofs.Ytmekenfndmimhaa.PPolyParts
