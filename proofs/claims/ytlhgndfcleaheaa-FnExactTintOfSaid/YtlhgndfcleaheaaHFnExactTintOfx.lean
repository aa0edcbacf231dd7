-- Printed by a program of this session over the kit's print; functions that the print does not take stand here by hand.
import Derived.Test.YtlhgndfcleaheaaHFnExactTintOfx0
import Derived.Test.YtlhgndfcleaheaaHFnExactTintOfx1
import Derived.Test.YtlhgndfcleaheaaHFnExactTintOfx2
import Derived.Test.YtlhgndfcleaheaaHFnExactTintOfx3
import Derived.Test.YtlhgndfcleaheaaHFnExactTintOfx4
import Derived.Test.YtlhgndfcleaheaaHFnExactTintOfx5
import Derived.Test.YtlhgndfcleaheaaHFnExactTintOfx6
namespace Go.Proofs.Ytlhgndfcleaheaa.HFnExactTintOf
open Go.RowKit Go.Proofs.YtlhgndfcleaheaaW.PrintWords Go.Proofs.YtlhgndfcleaheaaW.PrintLast Go.Proofs.YtlhgndfcleaheaaW.PrintMore
attribute [local go_sem] max2_int min2_int max_two min_two max_three min_three max_four min_four   -- for this text's walks alone
set_option linter.unusedVariables false
set_option linter.unusedSimpArgs false

end Go.Proofs.Ytlhgndfcleaheaa.HFnExactTintOf
