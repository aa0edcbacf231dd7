/- Affine maps that are good, and quotients rounded down, by both sides. -/
import Derived.Test.YtdmndbehfdnneaaFixFnExactViewAffine
namespace Go.Proofs.Ytdmndbehfdnneaa.HFnExactViewAffine
open Go.RowKit Go.Proofs.Ytdmndbehfdnneaa.HFnExactViewAffine Go.Proofs.YtdmndbehfdnneaaW.PrintWords Go.Proofs.YtdmndbehfdnneaaW.PrintLast Go.Proofs.Ytdmndbehfdnneaa.Plain
set_option linter.unusedSimpArgs false
set_option linter.unusedVariables false

theorem specDown {a b : Int} (hb : 0 < b) (h0 : -9223372036854775807 ≤ a) (h1 : a ≤ 9223372036854775807) : spec_l1Down.f a b = some (a / b) := by
  unfold spec_l1Down.f
  have s := tdiv_small hb h0 h1
  rw [if_neg (by omega), wrap_id (n := Int.tdiv a b) (by omega) (by omega)]
  have e := down_num a hb
  rcases (by omega : 0 ≤ a ∨ a < 0) with h | h
  · have e1 : Int.tdiv a b = a / b := tdiv_nn h b
    have e2 : decide (a < 0) = decide (b < 0) := by rw [decide_eq_false (by omega), decide_eq_false (by omega)]
    rw [e2, if_neg (c := (decide (b < 0) != decide (b < 0)) = true) (by simp), e1]
    split <;> rfl
  · have e1 := (tdiv_neg_num h b).2
    have e0 := Int.emod_nonneg (-a) (by omega : b ≠ 0)
    rw [decide_eq_true h, decide_eq_false (by omega : ¬ b < 0), if_pos (c := (true != false) = true) rfl]
    split
    · rename_i hz
      rw [if_neg (by omega)] at e
      rw [e]
    · rename_i hz
      rw [if_pos (by omega)] at e
      have h2 := Int.ediv_nonneg (by omega : 0 ≤ -a) (by omega : 0 ≤ b)
      rw [wrap_id (by omega) (by omega), e]

def goodAffine (a b c d e f : Int) : Bool := [a, b, c, d, e, f].all fun x => decide (-4294967296 ≤ x ∧ x ≤ 4294967296)
theorem specGoodAffine (a b c d e f : Int) : Ev (fun k => spec_GoodAffine.f k a b c d e f) (goodAffine a b c d e f) := by
  have h := all_ev (fun x : Int => decide (-4294967296 ≤ x ∧ x ≤ 4294967296)) [a, b, c, d, e, f] 0 (by simp) (fun k i => spec_GoodAffine.l0 k [a, b, c, d, e, f] ([a, b, c, d, e, f].length : Int) i) (fun k i hi => by
    show spec_GoodAffine.l0 (k + 1) [a, b, c, d, e, f] _ i = _
    rw [spec_GoodAffine.l0, if_pos (by omega), if_pos (by omega), if_pos (by omega), in_]; rfl) (fun k => by
    show spec_GoodAffine.l0 (k + 1) _ _ _ = _
    rw [spec_GoodAffine.l0, if_neg (by omega)])
  exact h
theorem implGoodAffine (a b c d e f : Int) : Ev (fun k => impl_GoodAffine.f k a b c d e f) (goodAffine a b c d e f) := by
  have h := all_ev (fun x : Int => decide (-4294967296 ≤ x ∧ x ≤ 4294967296)) [a, b, c, d, e, f] 0 (by simp) (fun k i => impl_GoodAffine.l0 k [a, b, c, d, e, f] ([a, b, c, d, e, f].length : Int) i) (fun k i hi => by
    show impl_GoodAffine.l0 (k + 1) [a, b, c, d, e, f] _ i = _
    rw [impl_GoodAffine.l0, if_pos (by omega), if_pos (by omega), if_pos (by omega), within_]; rfl) (fun k => by
    show impl_GoodAffine.l0 (k + 1) _ _ _ = _
    rw [impl_GoodAffine.l0, if_neg (by omega)])
  exact h
theorem areFixed_ev (l : List Int) (hl : l.length ≤ 1048576) : Ev (fun k => impl_areFixed.f k l) (l.all fixed) := by
  unfold impl_areFixed.f
  exact all_ev fixed l 0 (by omega) (fun k i => impl_areFixed.l0 k l l.length i) (fun k i hi => by
    show impl_areFixed.l0 (k + 1) l _ i = _
    rw [impl_areFixed.l0, if_pos (by omega), if_pos (by omega), if_pos (by omega)]
    unfold impl_GoodFixed.f
    simp only [within_, Option.bind_some]
    rfl) (fun k => by
    show impl_areFixed.l0 (k + 1) _ _ _ = _
    rw [impl_areFixed.l0, if_neg (by omega)])
theorem fixMul_bd (a b : Int) : -1099511627776 ≤ fixMul a b ∧ fixMul a b ≤ 1099511627776 := by
  unfold fixMul
  split <;> omega
theorem fixDiv_bd (a b : Int) : -1099511627776 ≤ fixDiv a b ∧ fixDiv a b ≤ 1099511627776 := by
  unfold fixDiv
  repeat' split
  all_goals omega

end Go.Proofs.Ytdmndbehfdnneaa.HFnExactViewAffine
