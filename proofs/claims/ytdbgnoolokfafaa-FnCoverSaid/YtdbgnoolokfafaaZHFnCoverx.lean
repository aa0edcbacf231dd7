-- Printed by a program of this session over the kit's print; functions that the print does not take stand here by hand.
import Derived.Test.YtdbgnoolokfafaaZHFnCoverx0
import Derived.Test.YtdbgnoolokfafaaZHFnCoverx1
import Derived.Test.YtdbgnoolokfafaaZHFnCoverx2
import Derived.Test.YtdbgnoolokfafaaZHFnCoverx3
import Derived.Test.YtdbgnoolokfafaaZHFnCoverx4
import Derived.Test.YtdbgnoolokfafaaZHFnCoverx5
import Derived.Test.YtdbgnoolokfafaaZHFnCoverx6
import Derived.Test.YtdbgnoolokfafaaZHFnCoverx7
import Derived.Test.YtdbgnoolokfafaaZHFnCoverx8
import Derived.Test.YtdbgnoolokfafaaZHFnCoverx9
import Derived.Test.YtdbgnoolokfafaaZHFnCoverx10
import Derived.Test.YtdbgnoolokfafaaZHFnCoverx11
import Derived.Test.YtdbgnoolokfafaaZHFnCoverx12
import Derived.Test.YtdbgnoolokfafaaZHFnCoverx13
import Derived.Test.YtdbgnoolokfafaaZHFnCoverx14
import Derived.Test.YtdbgnoolokfafaaZHFnCoverx15
import Derived.Test.YtdbgnoolokfafaaZHFnCoverx16
import Derived.Test.YtdbgnoolokfafaaZHFnCoverx17
import Derived.Test.YtdbgnoolokfafaaZHFnCoverx18
import Derived.Test.YtdbgnoolokfafaaZHFnCoverx19
import Derived.Test.YtdbgnoolokfafaaZHFnCoverx20
import Derived.Test.YtdbgnoolokfafaaZHFnCoverx21
import Derived.Test.YtdbgnoolokfafaaZHFnCoverx22
import Derived.Test.YtdbgnoolokfafaaZHFnCoverx23
import Derived.Test.YtdbgnoolokfafaaZHFnCoverx24
import Derived.Test.YtdbgnoolokfafaaZHFnCoverx25
import Derived.Test.YtdbgnoolokfafaaZHFnCoverx26
namespace Go.Proofs.Ytdbgnoolokfafaa.HFnCover
open Go.RowKit Go.Proofs.YtdbgnoolokfafaaW.PrintWords Go.Proofs.YtdbgnoolokfafaaW.PrintLast Go.Proofs.YtdbgnoolokfafaaW.PrintMore
attribute [local go_sem] max2_int min2_int max_two min_two max_three min_three max_four min_four   -- for this text's walks alone
set_option linter.unusedVariables false
set_option linter.unusedSimpArgs false
end Go.Proofs.Ytdbgnoolokfafaa.HFnCover
