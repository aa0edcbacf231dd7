-- Printed by a program of this session over the kit's print; functions that the print does not take stand here by hand.
import Derived.Test.YtdmndbehfdnneaaHFnExactMeetMasksx0
import Derived.Test.YtdmndbehfdnneaaHFnExactMeetMasksx1
import Derived.Test.YtdmndbehfdnneaaHFnExactMeetMasksx2
import Derived.Test.YtdmndbehfdnneaaHFnExactMeetMasksx3
import Derived.Test.YtdmndbehfdnneaaHFnExactMeetMasksx4
import Derived.Test.YtdmndbehfdnneaaHFnExactMeetMasksx5
import Derived.Test.YtdmndbehfdnneaaHFnExactMeetMasksx6
import Derived.Test.YtdmndbehfdnneaaHFnExactMeetMasksx7
import Derived.Test.YtdmndbehfdnneaaHFnExactMeetMasksx8
import Derived.Test.YtdmndbehfdnneaaHFnExactMeetMasksx9
import Derived.Test.YtdmndbehfdnneaaHFnExactMeetMasksx10
import Derived.Test.YtdmndbehfdnneaaHFnExactMeetMasksx11
import Derived.Test.YtdmndbehfdnneaaHFnExactMeetMasksx12
import Derived.Test.YtdmndbehfdnneaaHFnExactMeetMasksx13
import Derived.Test.YtdmndbehfdnneaaHFnExactMeetMasksx14
namespace Go.Proofs.Ytdmndbehfdnneaa.HFnExactMeetMasks
open Go.RowKit Go.Proofs.YtdmndbehfdnneaaW.PrintWords Go.Proofs.YtdmndbehfdnneaaW.PrintLast Go.Proofs.YtdmndbehfdnneaaW.PrintMore
attribute [local go_sem] max2_int min2_int max_two min_two max_three min_three max_four min_four   -- for this text's walks alone
set_option linter.unusedVariables false
set_option linter.unusedSimpArgs false

end Go.Proofs.Ytdmndbehfdnneaa.HFnExactMeetMasks
