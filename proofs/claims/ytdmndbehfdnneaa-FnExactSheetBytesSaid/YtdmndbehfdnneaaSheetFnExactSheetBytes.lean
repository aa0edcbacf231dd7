/- Sheets that are good, asked by both sides. -/
import Derived.Test.YtdmndbehfdnneaaTintFnExactSheetBytes
namespace Go.Proofs.Ytdmndbehfdnneaa.PFnExactSheetBytes
open Go.RowKit Go.Proofs.YtdmndbehfdnneaaW.PrintWords Go.Proofs.YtdmndbehfdnneaaW.PrintLast Go.Proofs.Ytdmndbehfdnneaa.Plain
set_option linter.unusedSimpArgs false
set_option linter.unusedVariables false

/-- A sheet is good. -/
def goodSheet (a b : Int) (l : List S54) : Bool := if decide (1 ≤ a ∧ a ≤ 36) && decide (1 ≤ b ∧ b ≤ 36) && !((l.length : Int) != wrap64 (a * b)) then l.all (fun x => goodTint x.f0 x.f1 x.f2 x.f3) else false

theorem specGoodSheet (a b : Int) (l : List S54) (hl : l.length ≤ 1048576) : Ev (fun k => spec_GoodSheet.f k a b l) (goodSheet a b l) := by
  have h := all_ev (fun x : S54 => goodTint x.f0 x.f1 x.f2 x.f3) l z54 (by omega) (fun k i => spec_GoodSheet.l0 k l l.length i) (fun k i hi => by
    show spec_GoodSheet.l0 (k + 1) l l.length i = _
    rw [spec_GoodSheet.l0, if_pos (by omega), if_pos (by omega), if_pos (by omega), specGoodTint]; rfl) (fun k => by
    show spec_GoodSheet.l0 (k + 1) l _ _ = _
    rw [spec_GoodSheet.l0, if_neg (by omega)])
  unfold spec_GoodSheet.f spec_l3Side.f goodSheet
  simp only [in_, Option.bind_some, decide_eq_true_eq]
  by_cases ha : 1 ≤ a ∧ a ≤ 36
  · by_cases hb : 1 ≤ b ∧ b ≤ 36
    · simp only [if_pos ha, if_pos hb, decide_eq_true ha, decide_eq_true hb, Bool.true_and]
      cases hc : ((l.length : Int) != wrap64 (a * b))
      · refine Ev.step (f := fun k => spec_GoodSheet.l0 k l l.length 0) (fun k => ?_) (by simpa using h)
        simp [spec_GoodSheet.j0]
      · exact ev_some fun k => by simp [spec_GoodSheet.j0]
    · simp only [if_pos ha, if_neg hb, decide_eq_false hb, Bool.and_false, Bool.false_and]
      exact ev_some fun k => by simp [spec_GoodSheet.j0]
  · simp only [if_neg ha, decide_eq_false ha, Bool.false_and]
    exact ev_some fun k => by simp [spec_GoodSheet.j0]

theorem run_all {α : Type} (P : α → Bool) (g : Bool) (xs : List α) : run (σ := Unit) (fun _ x => if P x = true then .inr () else .inl false) (fun _ => g) xs () = (xs.all P && g) := by
  induction xs with
  | nil => simp [run]
  | cons x xs ih =>
    cases hP : P x
    · simp only [run, hP, List.all_cons, Bool.false_and]; rfl
    · simp only [run, hP, List.all_cons, Bool.true_and, if_true]; exact ih

theorem implGoodSheet (a b : Int) (l : List S54) (hl : l.length ≤ 1048576) : Ev (fun k => impl_GoodSheet.f k a b l) (goodSheet a b l) := by
  have hs : impl_areSides.f a b = some (decide (1 ≤ a ∧ a ≤ 36) && decide (1 ≤ b ∧ b ≤ 36)) := by
    unfold impl_areSides.f
    simp only [within_, Option.bind_some, decide_eq_true_eq]
    by_cases ha : 1 ≤ a ∧ a ≤ 36
    · simp only [if_pos ha, decide_eq_true ha, Bool.true_and]
    · simp only [if_neg ha, decide_eq_false ha, Bool.false_and]
  have h := run_ev (σ := Unit) (fun _ x => if goodTint x.f0 x.f1 x.f2 x.f3 = true then .inr () else .inl false) (fun _ => (decide (1 ≤ a ∧ a ≤ 36) && decide (1 ≤ b ∧ b ≤ 36)) && ((l.length : Int) == wrap64 (a * b))) l z54 (by omega) (fun k i _ => impl_GoodSheet.l0 k l l.length i a b l) (fun k i s hi => by
    show impl_GoodSheet.l0 (k + 1) l l.length i a b l = _
    rw [impl_GoodSheet.l0, if_pos (by omega), if_pos (by omega), if_pos (by omega), implGoodTint]
    show (if goodTint (l.getD i z54).f0 (l.getD i z54).f1 (l.getD i z54).f2 (l.getD i z54).f3 = true then _ else _) = _
    cases goodTint (l.getD i z54).f0 (l.getD i z54).f1 (l.getD i z54).f2 (l.getD i z54).f3 <;> rfl) (fun k s => by
    show impl_GoodSheet.l0 (k + 1) l _ _ a b l = _
    rw [impl_GoodSheet.l0, if_neg (by omega), hs]
    simp only [Option.bind_some]
    cases (decide (1 ≤ a ∧ a ≤ 36) && decide (1 ≤ b ∧ b ≤ 36)) <;> simp) ()
  rw [run_all] at h
  unfold impl_GoodSheet.f
  have e : (l.all (fun x => goodTint x.f0 x.f1 x.f2 x.f3) && ((decide (1 ≤ a ∧ a ≤ 36) && decide (1 ≤ b ∧ b ≤ 36)) && ((l.length : Int) == wrap64 (a * b)))) = goodSheet a b l := by
    unfold goodSheet
    cases hc : ((l.length : Int) == wrap64 (a * b)) <;> cases (decide (1 ≤ a ∧ a ≤ 36) && decide (1 ≤ b ∧ b ≤ 36)) <;> simp [bne, hc]
  rw [e] at h
  exact h

end Go.Proofs.Ytdmndbehfdnneaa.PFnExactSheetBytes
