-- Printed by a program of this session over the kit's print; functions that the print does not take stand here by hand.
import Derived.Test.YtdbgnoolokfafaaHFnExactRectOfx0
import Derived.Test.YtdbgnoolokfafaaHFnExactRectOfx1
import Derived.Test.YtdbgnoolokfafaaHFnExactRectOfx2
import Derived.Test.YtdbgnoolokfafaaHFnExactRectOfx3
import Derived.Test.YtdbgnoolokfafaaHFnExactRectOfx4
import Derived.Test.YtdbgnoolokfafaaHFnExactRectOfx5
import Derived.Test.YtdbgnoolokfafaaHFnExactRectOfx6
import Derived.Test.YtdbgnoolokfafaaHFnExactRectOfx7
import Derived.Test.YtdbgnoolokfafaaHFnExactRectOfx8
import Derived.Test.YtdbgnoolokfafaaHFnExactRectOfx9
import Derived.Test.YtdbgnoolokfafaaHFnExactRectOfx10
import Derived.Test.YtdbgnoolokfafaaHFnExactRectOfx11
import Derived.Test.YtdbgnoolokfafaaHFnExactRectOfx12
import Derived.Test.YtdbgnoolokfafaaHFnExactRectOfx13
import Derived.Test.YtdbgnoolokfafaaHFnExactRectOfx14
import Derived.Test.YtdbgnoolokfafaaHFnExactRectOfx15
import Derived.Test.YtdbgnoolokfafaaHFnExactRectOfx16
import Derived.Test.YtdbgnoolokfafaaHFnExactRectOfx17
import Derived.Test.YtdbgnoolokfafaaHFnExactRectOfx18
namespace Go.Proofs.Ytdbgnoolokfafaa.HFnExactRectOf
open Go.RowKit Go.Proofs.YtdbgnoolokfafaaW.PrintWords Go.Proofs.YtdbgnoolokfafaaW.PrintLast Go.Proofs.YtdbgnoolokfafaaW.PrintMore
attribute [local go_sem] max2_int min2_int max_two min_two max_three min_three max_four min_four   -- for this text's walks alone
set_option linter.unusedVariables false
set_option linter.unusedSimpArgs false

end Go.Proofs.Ytdbgnoolokfafaa.HFnExactRectOf
