-- Printed by a program of this session over the kit's print; functions that the print does not take stand here by hand.
import Derived.Test.YtdmndbehfdnneaaHFnFixedx0
import Derived.Test.YtdmndbehfdnneaaHFnFixedx1
import Derived.Test.YtdmndbehfdnneaaHFnFixedx2
import Derived.Test.YtdmndbehfdnneaaHFnFixedx3
import Derived.Test.YtdmndbehfdnneaaHFnFixedx4
import Derived.Test.YtdmndbehfdnneaaHFnFixedx5
import Derived.Test.YtdmndbehfdnneaaHFnFixedx6
import Derived.Test.YtdmndbehfdnneaaHFnFixedx7
import Derived.Test.YtdmndbehfdnneaaHFnFixedx8
import Derived.Test.YtdmndbehfdnneaaHFnFixedx9
import Derived.Test.YtdmndbehfdnneaaHFnFixedx10
import Derived.Test.YtdmndbehfdnneaaHFnFixedx11
import Derived.Test.YtdmndbehfdnneaaHFnFixedx12
import Derived.Test.YtdmndbehfdnneaaHFnFixedx13
import Derived.Test.YtdmndbehfdnneaaHFnFixedx14
import Derived.Test.YtdmndbehfdnneaaHFnFixedx15
import Derived.Test.YtdmndbehfdnneaaHFnFixedx16
import Derived.Test.YtdmndbehfdnneaaHFnFixedx17
import Derived.Test.YtdmndbehfdnneaaHFnFixedx18
import Derived.Test.YtdmndbehfdnneaaHFnFixedx19
import Derived.Test.YtdmndbehfdnneaaHFnFixedx20
import Derived.Test.YtdmndbehfdnneaaHFnFixedx21
namespace Go.Proofs.Ytdmndbehfdnneaa.HFnFixed
open Go.RowKit Go.Proofs.YtdmndbehfdnneaaW.PrintWords Go.Proofs.YtdmndbehfdnneaaW.PrintLast Go.Proofs.YtdmndbehfdnneaaW.PrintMore
attribute [local go_sem] max2_int min2_int max_two min_two max_three min_three max_four min_four   -- for this text's walks alone
set_option linter.unusedVariables false
set_option linter.unusedSimpArgs false

end Go.Proofs.Ytdmndbehfdnneaa.HFnFixed
