/- A tint made thinner, by both sides. -/
import Derived.Test.YtlhgndfcleaheaaTintFnExactThinTint
import Derived.Test.YtlhgndfcleaheaaNum
namespace Go.Proofs.Ytlhgndfcleaheaa.HFnExactThinTint
open Go.RowKit Go.Proofs.YtlhgndfcleaheaaW.PrintWords Go.Proofs.YtlhgndfcleaheaaW.PrintLast Go.Proofs.Ytlhgndfcleaheaa.Plain
set_option linter.unusedSimpArgs false
set_option linter.unusedVariables false

/-- One number of a tint made thinner. -/
def thin1 (x p : Int) : Int := (x * p + 128) / 256
theorem thin1_wrap {x p : Int} (hx : 0 ≤ x) (hx1 : x ≤ 255) (hp : 0 ≤ p) (hp1 : p ≤ 256) : wrap64 (Int.tdiv (wrap64 ((wrap64 (x * p)) + 128)) 256) = thin1 x p := by
  have h1 : 0 ≤ x * p := Int.mul_nonneg hx hp
  have h2 : x * p ≤ 255 * 256 := Int.mul_le_mul (by omega) (by omega) (by omega) (by omega)
  rw [wrap_id (n := x * p) (by omega) (by omega), wrap_id (n := x * p + 128) (by omega) (by omega), tdiv_nn (by omega), wrap_id (by omega) (by omega)]
  rfl
theorem thin_good_of {r g b a : Int} (h : goodTint r g b a = true) : (0 ≤ a ∧ a ≤ 255) ∧ (0 ≤ r ∧ r ≤ a) ∧ (0 ≤ g ∧ g ≤ a) ∧ 0 ≤ b ∧ b ≤ a := by
  simp only [goodTint, Bool.and_eq_true, decide_eq_true_eq] at h
  exact ⟨h.1.1.1, h.1.1.2, h.1.2, h.2⟩
def thinTint (r g b a p : Int) : Int × Int × Int × Int × Bool := if goodTint r g b a = true then (if 0 ≤ p ∧ p ≤ 256 then (thin1 r p, thin1 g p, thin1 b p, thin1 a p, true) else (0, 0, 0, 0, false)) else (0, 0, 0, 0, false)
theorem specThin (r g b a p : Int) : spec_ThinTint.f r g b a p = some (thinTint r g b a p) := by
  unfold spec_ThinTint.f spec_l12Part.f thinTint
  simp only [specGoodTint, in_, Option.bind_some, decide_eq_true_eq]
  cases h1 : goodTint r g b a
  · rfl
  by_cases h2 : 0 ≤ p ∧ p ≤ 256
  · have g1 := thin_good_of h1
    simp only [if_true, if_pos h2, spec_l12Thin.f, Option.bind_some]
    rw [thin1_wrap (by omega) (by omega) (by omega) (by omega), thin1_wrap (by omega) (by omega) (by omega) (by omega), thin1_wrap (by omega) (by omega) (by omega) (by omega), thin1_wrap (by omega) (by omega) (by omega) (by omega)]
  · simp only [if_true, if_neg h2]
theorem implThin (r g b a p : Int) : impl_ThinTint.f r g b a p = some (thinTint r g b a p) := by
  unfold impl_ThinTint.f impl_isShare.f thinTint
  simp only [implGoodTint, within_, Option.bind_some, decide_eq_true_eq]
  cases h1 : goodTint r g b a
  · rfl
  by_cases h2 : 0 ≤ p ∧ p ≤ 256
  · simp only [if_true, if_pos h2]; rfl
  · simp only [if_true, if_neg h2]

end Go.Proofs.Ytlhgndfcleaheaa.HFnExactThinTint
