/- Masks: asked by both sides, copied and compared. -/
import Derived.Test.YtdmndbehfdnneaaHFnExactMeetMasksx
import Derived.Test.YtdmndbehfdnneaaInFnExactMeetMasks
import Derived.Test.YtdmndbehfdnneaaIntsFnExactMeetMasks
import Derived.Test.YtdmndbehfdnneaaEqIntsFnExactMeetMasks
namespace Go.Proofs.Ytdmndbehfdnneaa.HFnExactMeetMasks
open Go.RowKit Go.Proofs.YtdmndbehfdnneaaW.PrintWords Go.Proofs.YtdmndbehfdnneaaW.PrintLast Go.Proofs.Ytdmndbehfdnneaa.Plain
set_option linter.unusedSimpArgs false
set_option linter.unusedVariables false

def goodMask (a b : Int) (l : List Int) : Bool := if decide (1 ≤ a ∧ a ≤ 36) && decide (1 ≤ b ∧ b ≤ 36) && !((l.length : Int) != wrap64 (a * b)) then l.all (fun x => decide (0 ≤ x ∧ x ≤ 16)) else false

theorem specGoodMask (a b : Int) (l : List Int) (hl : l.length ≤ 1048576) : Ev (fun k => spec_GoodMask.f k a b l) (goodMask a b l) := by
  have h := all_ev (fun x : Int => decide (0 ≤ x ∧ x ≤ 16)) l 0 (by omega) (fun k i => spec_GoodMask.l0 k l l.length i) (fun k i hi => by
    show spec_GoodMask.l0 (k + 1) l l.length i = _
    rw [spec_GoodMask.l0, if_pos (by omega), if_pos (by omega), if_pos (by omega), in_]; rfl) (fun k => by
    show spec_GoodMask.l0 (k + 1) l _ _ = _
    rw [spec_GoodMask.l0, if_neg (by omega)])
  unfold spec_GoodMask.f spec_l3Side.f goodMask
  simp only [in_, Option.bind_some, decide_eq_true_eq]
  by_cases ha : 1 ≤ a ∧ a ≤ 36
  · by_cases hb : 1 ≤ b ∧ b ≤ 36
    · simp only [if_pos ha, if_pos hb, decide_eq_true ha, decide_eq_true hb, Bool.true_and]
      cases hc : ((l.length : Int) != wrap64 (a * b))
      · refine Ev.step (f := fun k => spec_GoodMask.l0 k l l.length 0) (fun k => ?_) (by simpa using h)
        simp [spec_GoodMask.j0]
      · exact ev_some fun k => by simp [spec_GoodMask.j0]
    · simp only [if_pos ha, if_neg hb, decide_eq_false hb, Bool.and_false, Bool.false_and]
      exact ev_some fun k => by simp [spec_GoodMask.j0]
  · simp only [if_neg ha, decide_eq_false ha, Bool.false_and]
    exact ev_some fun k => by simp [spec_GoodMask.j0]

theorem implGoodMask (a b : Int) (l : List Int) (hl : l.length ≤ 1048576) : Ev (fun k => impl_GoodMask.f k a b l) (goodMask a b l) := by
  have h := all_ev (fun x : Int => decide (0 ≤ x ∧ x ≤ 16)) l 0 (by omega) (fun k i => impl_GoodMask.l0 k l l.length i) (fun k i hi => by
    show impl_GoodMask.l0 (k + 1) l l.length i = _
    rw [impl_GoodMask.l0, if_pos (by omega), if_pos (by omega), if_pos (by omega), within_]; rfl) (fun k => by
    show impl_GoodMask.l0 (k + 1) l _ _ = _
    rw [impl_GoodMask.l0, if_neg (by omega)])
  unfold impl_GoodMask.f impl_areSides.f goodMask
  simp only [within_, Option.bind_some, decide_eq_true_eq]
  by_cases ha : 1 ≤ a ∧ a ≤ 36
  · by_cases hb : 1 ≤ b ∧ b ≤ 36
    · simp only [if_pos ha, if_pos hb, decide_eq_true ha, decide_eq_true hb, Bool.true_and, Option.bind_some]
      cases hc : ((l.length : Int) != wrap64 (a * b))
      · refine Ev.step (f := fun k => impl_GoodMask.l0 k l l.length 0) (fun k => ?_) (by simpa using h)
        simp [impl_GoodMask.j0]
      · exact ev_some fun k => by simp [impl_GoodMask.j0]
    · simp only [if_pos ha, decide_eq_false hb, decide_eq_true ha, Bool.and_false, Bool.false_and, Option.bind_some]
      exact ev_some fun k => by simp [impl_GoodMask.j0]
  · simp only [if_neg ha, decide_eq_false ha, Bool.false_and, Option.bind_some]
    exact ev_some fun k => by simp [impl_GoodMask.j0]

theorem toMask_ (a b : Int) (l : List Int) (hl : l.length ≤ 1048576) : Ev (fun k => laws_toMask.f k a b l) (a, b, l) := by
  unfold laws_toMask.f
  exact Ev.bind (f := fun _ t => some (a, b, t)) (toInts l hl) (Ev.now _)
theorem eqMask_ (a b : Int) (l : List Int) (hl : l.length ≤ 9223372036854775806) : Ev (fun k => laws_eqMask.f k a b l a b l) true := by
  unfold laws_eqMask.f
  simp only [if_true]
  refine Ev.bind (eqInts l hl) ?_
  exact Ev.now _

end Go.Proofs.Ytdmndbehfdnneaa.HFnExactMeetMasks
