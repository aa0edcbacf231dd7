-- Printed by a program of this session over the kit's print; functions that the print does not take stand here by hand.
import Derived.Test.YtiadieifofaobaaYHFnTintsx0
import Derived.Test.YtiadieifofaobaaYHFnTintsx1
import Derived.Test.YtiadieifofaobaaYHFnTintsx2
import Derived.Test.YtiadieifofaobaaYHFnTintsx3
import Derived.Test.YtiadieifofaobaaYHFnTintsx4
import Derived.Test.YtiadieifofaobaaYHFnTintsx5
import Derived.Test.YtiadieifofaobaaYHFnTintsx6
import Derived.Test.YtiadieifofaobaaYHFnTintsx7
import Derived.Test.YtiadieifofaobaaYHFnTintsx8
import Derived.Test.YtiadieifofaobaaYHFnTintsx9
import Derived.Test.YtiadieifofaobaaYHFnTintsx10
import Derived.Test.YtiadieifofaobaaYHFnTintsx11
import Derived.Test.YtiadieifofaobaaYHFnTintsx12
import Derived.Test.YtiadieifofaobaaYHFnTintsx13
import Derived.Test.YtiadieifofaobaaYHFnTintsx14
import Derived.Test.YtiadieifofaobaaYHFnTintsx15
import Derived.Test.YtiadieifofaobaaYHFnTintsx16
import Derived.Test.YtiadieifofaobaaYHFnTintsx17
import Derived.Test.YtiadieifofaobaaYHFnTintsx18
import Derived.Test.YtiadieifofaobaaYHFnTintsx19
namespace Go.Proofs.Ytiadieifofaobaa.HFnTints
open Go.RowKit Go.Proofs.YtiadieifofaobaaW.PrintWords Go.Proofs.YtiadieifofaobaaW.PrintLast Go.Proofs.YtiadieifofaobaaW.PrintMore
attribute [local go_sem] max2_int min2_int max_two min_two max_three min_three max_four min_four   -- for this text's walks alone
set_option linter.unusedVariables false
set_option linter.unusedSimpArgs false
end Go.Proofs.Ytiadieifofaobaa.HFnTints
