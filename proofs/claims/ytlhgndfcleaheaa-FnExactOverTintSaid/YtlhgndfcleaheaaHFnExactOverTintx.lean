-- Printed by a program of this session over the kit's print; functions that the print does not take stand here by hand.
import Derived.Test.YtlhgndfcleaheaaHFnExactOverTintx0
import Derived.Test.YtlhgndfcleaheaaHFnExactOverTintx1
import Derived.Test.YtlhgndfcleaheaaHFnExactOverTintx2
import Derived.Test.YtlhgndfcleaheaaHFnExactOverTintx3
import Derived.Test.YtlhgndfcleaheaaHFnExactOverTintx4
import Derived.Test.YtlhgndfcleaheaaHFnExactOverTintx5
import Derived.Test.YtlhgndfcleaheaaHFnExactOverTintx6
import Derived.Test.YtlhgndfcleaheaaHFnExactOverTintx7
import Derived.Test.YtlhgndfcleaheaaHFnExactOverTintx8
namespace Go.Proofs.Ytlhgndfcleaheaa.HFnExactOverTint
open Go.RowKit Go.Proofs.YtlhgndfcleaheaaW.PrintWords Go.Proofs.YtlhgndfcleaheaaW.PrintLast Go.Proofs.YtlhgndfcleaheaaW.PrintMore
attribute [local go_sem] max2_int min2_int max_two min_two max_three min_three max_four min_four   -- for this text's walks alone
set_option linter.unusedVariables false
set_option linter.unusedSimpArgs false

end Go.Proofs.Ytlhgndfcleaheaa.HFnExactOverTint
