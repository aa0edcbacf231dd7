-- Printed by a program of this session over the kit's print; functions that the print does not take stand here by hand.
import Derived.Test.YtdmndbehfdnneaaHFnCodesx0
import Derived.Test.YtdmndbehfdnneaaHFnCodesx1
import Derived.Test.YtdmndbehfdnneaaHFnCodesx2
import Derived.Test.YtdmndbehfdnneaaHFnCodesx3
import Derived.Test.YtdmndbehfdnneaaHFnCodesx4
import Derived.Test.YtdmndbehfdnneaaHFnCodesx5
import Derived.Test.YtdmndbehfdnneaaHFnCodesx6
import Derived.Test.YtdmndbehfdnneaaHFnCodesx7
import Derived.Test.YtdmndbehfdnneaaHFnCodesx8
import Derived.Test.YtdmndbehfdnneaaHFnCodesx9
import Derived.Test.YtdmndbehfdnneaaHFnCodesx10
import Derived.Test.YtdmndbehfdnneaaHFnCodesx11
import Derived.Test.YtdmndbehfdnneaaHFnCodesx12
namespace Go.Proofs.Ytdmndbehfdnneaa.HFnCodes
open Go.RowKit Go.Proofs.YtdmndbehfdnneaaW.PrintWords Go.Proofs.YtdmndbehfdnneaaW.PrintLast Go.Proofs.YtdmndbehfdnneaaW.PrintMore
attribute [local go_sem] max2_int min2_int max_two min_two max_three min_three max_four min_four   -- for this text's walks alone
set_option linter.unusedVariables false
set_option linter.unusedSimpArgs false

end Go.Proofs.Ytdmndbehfdnneaa.HFnCodes
