/- Points of lines, counted. -/
import Derived.Test.YtdbgnoolokfafaaHFnExactEllipseOfx
import Derived.Test.YtdbgnoolokfafaaSteps
namespace Go.Proofs.Ytdbgnoolokfafaa.HFnExactEllipseOf
open Go.RowKit Go.Proofs.YtdbgnoolokfafaaW.PrintWords Go.Proofs.YtdbgnoolokfafaaW.PrintLast Go.Proofs.Ytdbgnoolokfafaa.Plain
set_option linter.unusedSimpArgs false
set_option linter.unusedVariables false

/-- How many points a line has. -/
def pts (l : List S83) (i : Nat) : Nat := (l.getD i z83).f0.length
theorem sum_same {n m : Nat → Nat} {j : Nat} (h : ∀ i, i < j → n i = m i) : sumTo n j = sumTo m j := by
  induction j with
  | zero => rfl
  | succ j ih => simp only [sumTo]; rw [ih (fun i hi => h i (by omega)), h j (by omega)]
theorem le_sum (n : Nat → Nat) {i j : Nat} (h : i < j) : n i ≤ sumTo n j := Nat.le_trans (by show n i ≤ sumTo n i + n i; omega) (sumTo_le n (show i + 1 ≤ j from h))

end Go.Proofs.Ytdbgnoolokfafaa.HFnExactEllipseOf
