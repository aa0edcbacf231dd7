/- Tints that are good, asked by both sides. -/
import Derived.Test.YtlhgndfcleaheaaInFnExactOverTint
namespace Go.Proofs.Ytlhgndfcleaheaa.HFnExactOverTint
open Go.RowKit Go.Proofs.YtlhgndfcleaheaaW.PrintWords Go.Proofs.YtlhgndfcleaheaaW.PrintLast Go.Proofs.Ytlhgndfcleaheaa.Plain
set_option linter.unusedSimpArgs false
set_option linter.unusedVariables false

/-- A tint is good. -/
def goodTint (r g b a : Int) : Bool := decide (0 ≤ a ∧ a ≤ 255) && decide (0 ≤ r ∧ r ≤ a) && decide (0 ≤ g ∧ g ≤ a) && decide (0 ≤ b ∧ b ≤ a)
theorem specGoodTint (r g b a : Int) : spec_GoodTint.f r g b a = some (goodTint r g b a) := by
  unfold spec_GoodTint.f goodTint
  simp only [in_, Option.bind_some, decide_eq_true_eq]
  by_cases h1 : 0 ≤ a ∧ a ≤ 255
  · by_cases h2 : 0 ≤ r ∧ r ≤ a
    · by_cases h3 : 0 ≤ g ∧ g ≤ a
      · simp only [if_pos h1, if_pos h2, if_pos h3, decide_eq_true h1, decide_eq_true h2, decide_eq_true h3, Bool.true_and]
      · simp only [if_pos h1, if_pos h2, if_neg h3, decide_eq_false h3, Bool.and_false, Bool.false_and]
    · simp only [if_pos h1, if_neg h2, decide_eq_false h2, Bool.and_false, Bool.false_and]
  · simp only [if_neg h1, decide_eq_false h1, Bool.false_and]
theorem implGoodTint (r g b a : Int) : impl_GoodTint.f r g b a = some (goodTint r g b a) := specGoodTint r g b a

end Go.Proofs.Ytlhgndfcleaheaa.HFnExactOverTint
