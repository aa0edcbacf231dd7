/- A tint over another one, by both sides. -/
import Derived.Test.YtlhgndfcleaheaaTintFnExactOverTint
import Derived.Test.YtlhgndfcleaheaaNum
namespace Go.Proofs.Ytlhgndfcleaheaa.HFnExactOverTint
open Go.RowKit Go.Proofs.YtlhgndfcleaheaaW.PrintWords Go.Proofs.YtlhgndfcleaheaaW.PrintLast Go.Proofs.Ytlhgndfcleaheaa.Plain
set_option linter.unusedSimpArgs false
set_option linter.unusedVariables false

/-- One number of a tint over another one. -/
def over1 (x y a : Int) : Int := x + (y * (255 - a) + 127) / 255
theorem over1_wrap {x y a : Int} (hx : 0 ≤ x) (hx1 : x ≤ 255) (hy : 0 ≤ y) (hy1 : y ≤ 255) (ha : 0 ≤ a) (ha1 : a ≤ 255) :
    wrap64 (x + (wrap64 (Int.tdiv (wrap64 ((wrap64 (y * (wrap64 (255 - a)))) + 127)) 255))) = over1 x y a := by
  have h1 : 0 ≤ y * (255 - a) := Int.mul_nonneg hy (by omega)
  have h2 : y * (255 - a) ≤ 255 * 255 := Int.mul_le_mul (by omega) (by omega) (by omega) (by omega)
  rw [wrap_id (n := 255 - a) (by omega) (by omega), wrap_id (n := y * (255 - a)) (by omega) (by omega), wrap_id (n := y * (255 - a) + 127) (by omega) (by omega), tdiv_nn (by omega), wrap_id (n := (y * (255 - a) + 127) / 255) (by omega) (by omega), wrap_id (by omega) (by omega)]
  rfl
theorem good_of {r g b a : Int} (h : goodTint r g b a = true) : (0 ≤ a ∧ a ≤ 255) ∧ (0 ≤ r ∧ r ≤ a) ∧ (0 ≤ g ∧ g ≤ a) ∧ 0 ≤ b ∧ b ≤ a := by
  simp only [goodTint, Bool.and_eq_true, decide_eq_true_eq] at h
  exact ⟨h.1.1.1, h.1.1.2, h.1.2, h.2⟩
def overTint (r g b a r' g' b' a' : Int) : Int × Int × Int × Int × Bool := if goodTint r g b a = true then (if goodTint r' g' b' a' = true then (over1 r r' a, over1 g g' a, over1 b b' a, over1 a a' a, true) else (0, 0, 0, 0, false)) else (0, 0, 0, 0, false)
theorem specOver (r g b a r' g' b' a' : Int) : spec_OverTint.f r g b a r' g' b' a' = some (overTint r g b a r' g' b' a') := by
  unfold spec_OverTint.f overTint
  simp only [specGoodTint, Option.bind_some]
  cases h1 : goodTint r g b a
  · rfl
  cases h2 : goodTint r' g' b' a'
  · rfl
  have g1 := good_of h1
  have g2 := good_of h2
  simp only [if_true, spec_l12Over.f, Option.bind_some]
  rw [over1_wrap (by omega) (by omega) (by omega) (by omega) (by omega) (by omega), over1_wrap (by omega) (by omega) (by omega) (by omega) (by omega) (by omega), over1_wrap (by omega) (by omega) (by omega) (by omega) (by omega) (by omega), over1_wrap (by omega) (by omega) (by omega) (by omega) (by omega) (by omega)]
theorem implOver (r g b a r' g' b' a' : Int) : impl_OverTint.f r g b a r' g' b' a' = some (overTint r g b a r' g' b' a') := by
  unfold impl_OverTint.f overTint
  simp only [implGoodTint, Option.bind_some]
  cases h1 : goodTint r g b a
  · rfl
  cases h2 : goodTint r' g' b' a'
  · rfl
  rfl

end Go.Proofs.Ytlhgndfcleaheaa.HFnExactOverTint
