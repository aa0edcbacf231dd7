-- Printed by a program of this session over the kit's print; functions that the print does not take stand here by hand.
import Derived.Test.YtdmndbehfdnneaaHFnExactSideOfx0
import Derived.Test.YtdmndbehfdnneaaHFnExactSideOfx1
import Derived.Test.YtdmndbehfdnneaaHFnExactSideOfx2
import Derived.Test.YtdmndbehfdnneaaHFnExactSideOfx3
import Derived.Test.YtdmndbehfdnneaaHFnExactSideOfx4
import Derived.Test.YtdmndbehfdnneaaHFnExactSideOfx5
import Derived.Test.YtdmndbehfdnneaaHFnExactSideOfx6
import Derived.Test.YtdmndbehfdnneaaHFnExactSideOfx7
import Derived.Test.YtdmndbehfdnneaaHFnExactSideOfx8
import Derived.Test.YtdmndbehfdnneaaHFnExactSideOfx9
import Derived.Test.YtdmndbehfdnneaaHFnExactSideOfx10
import Derived.Test.YtdmndbehfdnneaaHFnExactSideOfx11
import Derived.Test.YtdmndbehfdnneaaHFnExactSideOfx12
import Derived.Test.YtdmndbehfdnneaaHFnExactSideOfx13
import Derived.Test.YtdmndbehfdnneaaHFnExactSideOfx14
import Derived.Test.YtdmndbehfdnneaaHFnExactSideOfx15
import Derived.Test.YtdmndbehfdnneaaHFnExactSideOfx16
import Derived.Test.YtdmndbehfdnneaaHFnExactSideOfx17
import Derived.Test.YtdmndbehfdnneaaHFnExactSideOfx18
import Derived.Test.YtdmndbehfdnneaaHFnExactSideOfx19
import Derived.Test.YtdmndbehfdnneaaHFnExactSideOfx20
import Derived.Test.YtdmndbehfdnneaaHFnExactSideOfx21
namespace Go.Proofs.Ytdmndbehfdnneaa.HFnExactSideOf
open Go.RowKit Go.Proofs.YtdmndbehfdnneaaW.PrintWords Go.Proofs.YtdmndbehfdnneaaW.PrintLast Go.Proofs.YtdmndbehfdnneaaW.PrintMore
attribute [local go_sem] max2_int min2_int max_two min_two max_three min_three max_four min_four   -- for this text's walks alone
set_option linter.unusedVariables false
set_option linter.unusedSimpArgs false

end Go.Proofs.Ytdmndbehfdnneaa.HFnExactSideOf
