/- More facts on numbers: quotients, squares, roots. -/
import Derived.Test.YtdbgnoolokfafaaPlain
namespace Go.Proofs.Ytdbgnoolokfafaa.Plain
open Go.RowKit Go.Proofs.YtdbgnoolokfafaaW.PrintWords Go.Proofs.YtdbgnoolokfafaaW.PrintLast

theorem tdiv_nn {a : Int} (h : 0 ≤ a) (b : Int) : Int.tdiv a b = a / b := Int.tdiv_eq_ediv_of_nonneg h
theorem tmod_nn {a : Int} (h : 0 ≤ a) (b : Int) : Int.tmod a b = a % b := Int.tmod_eq_emod_of_nonneg h
theorem sq_le {a b : Int} (h0 : 0 ≤ a) (h : a ≤ b) : a * a ≤ b * b := Int.mul_le_mul h h h0 (by omega)
theorem sq_bound {a b : Int} (h0 : -b ≤ a) (h : a ≤ b) : 0 ≤ a * a ∧ a * a ≤ b * b := by
  rcases (by omega : 0 ≤ a ∨ a < 0) with h1 | h1
  · exact ⟨Int.mul_nonneg h1 h1, sq_le h1 h⟩
  · have e : a * a = (-a) * (-a) := by rw [Int.neg_mul_neg]
    rw [e]
    exact ⟨Int.mul_nonneg (by omega) (by omega), sq_le (by omega) (by omega)⟩
/-- A root is one number alone. -/
theorem root_one {n r s : Int} (hr0 : 0 ≤ r) (hs0 : 0 ≤ s) (h1 : r * r ≤ n) (h2 : n < (r + 1) * (r + 1)) (h3 : s * s ≤ n) (h4 : n < (s + 1) * (s + 1)) : r = s := by
  rcases (by omega : r < s ∨ r = s ∨ s < r) with h | h | h
  · have := sq_le (a := r + 1) (b := s) (by omega) (by omega); omega
  · exact h
  · have := sq_le (a := s + 1) (b := r) (by omega) (by omega); omega

end Go.Proofs.Ytdbgnoolokfafaa.Plain
