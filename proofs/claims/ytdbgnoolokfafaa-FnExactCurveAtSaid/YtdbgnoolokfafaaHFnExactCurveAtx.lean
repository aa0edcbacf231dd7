-- Printed by a program of this session over the kit's print; functions that the print does not take stand here by hand.
import Derived.Test.YtdbgnoolokfafaaHFnExactCurveAtx0
import Derived.Test.YtdbgnoolokfafaaHFnExactCurveAtx1
import Derived.Test.YtdbgnoolokfafaaHFnExactCurveAtx2
import Derived.Test.YtdbgnoolokfafaaHFnExactCurveAtx3
import Derived.Test.YtdbgnoolokfafaaHFnExactCurveAtx4
import Derived.Test.YtdbgnoolokfafaaHFnExactCurveAtx5
import Derived.Test.YtdbgnoolokfafaaHFnExactCurveAtx6
import Derived.Test.YtdbgnoolokfafaaHFnExactCurveAtx7
import Derived.Test.YtdbgnoolokfafaaHFnExactCurveAtx8
import Derived.Test.YtdbgnoolokfafaaHFnExactCurveAtx9
namespace Go.Proofs.Ytdbgnoolokfafaa.HFnExactCurveAt
open Go.RowKit Go.Proofs.YtdbgnoolokfafaaW.PrintWords Go.Proofs.YtdbgnoolokfafaaW.PrintLast Go.Proofs.YtdbgnoolokfafaaW.PrintMore
attribute [local go_sem] max2_int min2_int max_two min_two max_three min_three max_four min_four   -- for this text's walks alone
set_option linter.unusedVariables false
set_option linter.unusedSimpArgs false

end Go.Proofs.Ytdbgnoolokfafaa.HFnExactCurveAt
