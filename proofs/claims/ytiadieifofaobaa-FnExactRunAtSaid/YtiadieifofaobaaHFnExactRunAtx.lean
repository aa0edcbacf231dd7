-- Printed by a program of this session over the kit's print; functions that the print does not take stand here by hand.
import Derived.Test.YtiadieifofaobaaHFnExactRunAtx0
import Derived.Test.YtiadieifofaobaaHFnExactRunAtx1
import Derived.Test.YtiadieifofaobaaHFnExactRunAtx2
import Derived.Test.YtiadieifofaobaaHFnExactRunAtx3
import Derived.Test.YtiadieifofaobaaHFnExactRunAtx4
import Derived.Test.YtiadieifofaobaaHFnExactRunAtx5
import Derived.Test.YtiadieifofaobaaHFnExactRunAtx6
import Derived.Test.YtiadieifofaobaaHFnExactRunAtx7
import Derived.Test.YtiadieifofaobaaHFnExactRunAtx8
import Derived.Test.YtiadieifofaobaaHFnExactRunAtx9
import Derived.Test.YtiadieifofaobaaHFnExactRunAtx10
import Derived.Test.YtiadieifofaobaaHFnExactRunAtx11
import Derived.Test.YtiadieifofaobaaHFnExactRunAtx12
import Derived.Test.YtiadieifofaobaaHFnExactRunAtx13
namespace Go.Proofs.Ytiadieifofaobaa.HFnExactRunAt
open Go.RowKit Go.Proofs.YtiadieifofaobaaW.PrintWords Go.Proofs.YtiadieifofaobaaW.PrintLast Go.Proofs.YtiadieifofaobaaW.PrintMore
attribute [local go_sem] max2_int min2_int max_two min_two max_three min_three max_four min_four   -- for this text's walks alone
set_option linter.unusedVariables false
set_option linter.unusedSimpArgs false

end Go.Proofs.Ytiadieifofaobaa.HFnExactRunAt
