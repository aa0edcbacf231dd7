/- Quotients rounded down, numbers that are fixed, by both sides. -/
import Derived.Test.YtdbgnoolokfafaaFixMFnExactEllipseOf
namespace Go.Proofs.Ytdbgnoolokfafaa.HFnExactEllipseOf
open Go.RowKit Go.Proofs.YtdbgnoolokfafaaW.PrintWords Go.Proofs.YtdbgnoolokfafaaW.PrintLast Go.Proofs.Ytdbgnoolokfafaa.Plain
set_option linter.unusedSimpArgs false
set_option linter.unusedVariables false

theorem specDown {a b : Int} (hb : 0 < b) (h0 : -9223372036854775807 ≤ a) (h1 : a ≤ 9223372036854775807) : spec_l1Down.f a b = some (a / b) := by
  unfold spec_l1Down.f
  have s := tdiv_small hb h0 h1
  rw [if_neg (by omega), wrap_id (n := Int.tdiv a b) (by omega) (by omega)]
  have e := down_num a hb
  rcases (by omega : 0 ≤ a ∨ a < 0) with h | h
  · have e1 : Int.tdiv a b = a / b := tdiv_nn h b
    have e2 : decide (a < 0) = decide (b < 0) := by rw [decide_eq_false (by omega), decide_eq_false (by omega)]
    rw [e2, if_neg (c := (decide (b < 0) != decide (b < 0)) = true) (by simp), e1]
    split <;> rfl
  · have e1 := (tdiv_neg_num h b).2
    have e0 := Int.emod_nonneg (-a) (by omega : b ≠ 0)
    rw [decide_eq_true h, decide_eq_false (by omega : ¬ b < 0), if_pos (c := (true != false) = true) rfl]
    split
    · rename_i hz
      rw [if_neg (by omega)] at e
      rw [e]
    · rename_i hz
      rw [if_pos (by omega)] at e
      have h2 := Int.ediv_nonneg (by omega : 0 ≤ -a) (by omega : 0 ≤ b)
      rw [wrap_id (by omega) (by omega), e]

theorem areFixed_ev (l : List Int) (hl : l.length ≤ 1048576) : Ev (fun k => impl_areFixed.f k l) (l.all fixed) := by
  unfold impl_areFixed.f
  exact all_ev fixed l 0 (by omega) (fun k i => impl_areFixed.l0 k l l.length i) (fun k i hi => by
    show impl_areFixed.l0 (k + 1) l _ i = _
    rw [impl_areFixed.l0, if_pos (by omega), if_pos (by omega), if_pos (by omega)]
    unfold impl_GoodFixed.f
    simp only [within_, Option.bind_some]
    rfl) (fun k => by
    show impl_areFixed.l0 (k + 1) _ _ _ = _
    rw [impl_areFixed.l0, if_neg (by omega)])
theorem fixMul_bd (a b : Int) : -1099511627776 ≤ fixMul a b ∧ fixMul a b ≤ 1099511627776 := by
  unfold fixMul
  split <;> omega

end Go.Proofs.Ytdbgnoolokfafaa.HFnExactEllipseOf
