-- Written by a program of this session, in the form of the kit's print, some functions by hand (N.B. not a file of print.sh's).
import Derived.Test.YtmekenfndmimhaaPCrcTellsx0
import Derived.Test.YtmekenfndmimhaaPCrcTellsx1
import Derived.Test.YtmekenfndmimhaaPCrcTellsx2
import Derived.Test.YtmekenfndmimhaaPCrcTellsx3
import Derived.Test.YtmekenfndmimhaaPCrcTellsx4
import Derived.Test.YtmekenfndmimhaaPCrcTellsx5
import Derived.Test.YtmekenfndmimhaaPCrcTellsx6
import Derived.Test.YtmekenfndmimhaaPCrcTellsx7
import Derived.Test.YtmekenfndmimhaaPCrcTellsx8
import Derived.Test.YtmekenfndmimhaaPCrcTellsx9
import Derived.Test.YtmekenfndmimhaaPCrcTellsx10
import Derived.Test.YtmekenfndmimhaaPCrcTellsx11
import Derived.Test.YtmekenfndmimhaaPCrcTellsx12
import Derived.Test.YtmekenfndmimhaaPCrcTellsx13
import Derived.Test.YtmekenfndmimhaaPCrcTellsx14
import Derived.Test.YtmekenfndmimhaaPCrcTellsx15
import Derived.Test.YtmekenfndmimhaaPCrcTellsx16
import Derived.Test.YtmekenfndmimhaaPCrcTellsx17
import Derived.Test.YtmekenfndmimhaaPCrcTellsx18
namespace Go.Proofs.Ytmekenfndmimhaa.PCrcTells
open Go.RowKit Go.Proofs.YtmekenfndmimhaaW.PrintWords Go.Proofs.YtmekenfndmimhaaW.PrintLast Go.Proofs.YtmekenfndmimhaaW.PrintMore Go.Proofs.YtmekenfndmimhaaM
attribute [local go_sem] max2_int min2_int max_two min_two max_three min_three max_four min_four   -- for this text's walks alone
set_option linter.unusedVariables false
set_option linter.unusedSimpArgs false

end Go.Proofs.Ytmekenfndmimhaa.PCrcTells
