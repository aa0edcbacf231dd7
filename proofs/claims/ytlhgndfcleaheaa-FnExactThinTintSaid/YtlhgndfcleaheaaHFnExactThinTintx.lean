-- Printed by a program of this session over the kit's print; functions that the print does not take stand here by hand.
import Derived.Test.YtlhgndfcleaheaaHFnExactThinTintx0
import Derived.Test.YtlhgndfcleaheaaHFnExactThinTintx1
import Derived.Test.YtlhgndfcleaheaaHFnExactThinTintx2
import Derived.Test.YtlhgndfcleaheaaHFnExactThinTintx3
import Derived.Test.YtlhgndfcleaheaaHFnExactThinTintx4
import Derived.Test.YtlhgndfcleaheaaHFnExactThinTintx5
import Derived.Test.YtlhgndfcleaheaaHFnExactThinTintx6
import Derived.Test.YtlhgndfcleaheaaHFnExactThinTintx7
import Derived.Test.YtlhgndfcleaheaaHFnExactThinTintx8
import Derived.Test.YtlhgndfcleaheaaHFnExactThinTintx9
namespace Go.Proofs.Ytlhgndfcleaheaa.HFnExactThinTint
open Go.RowKit Go.Proofs.YtlhgndfcleaheaaW.PrintWords Go.Proofs.YtlhgndfcleaheaaW.PrintLast Go.Proofs.YtlhgndfcleaheaaW.PrintMore
attribute [local go_sem] max2_int min2_int max_two min_two max_three min_three max_four min_four   -- for this text's walks alone
set_option linter.unusedVariables false
set_option linter.unusedSimpArgs false

end Go.Proofs.Ytlhgndfcleaheaa.HFnExactThinTint
