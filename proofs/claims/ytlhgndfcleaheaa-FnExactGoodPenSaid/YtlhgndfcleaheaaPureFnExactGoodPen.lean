/- GoodPen, as numbers and lists: the program's answer is the reference's. -/
import Derived.Test.YtlhgndfcleaheaaInFnExactGoodPen
import Derived.Test.YtlhgndfcleaheaaIntsFnExactGoodPen
import Derived.Test.YtlhgndfcleaheaaEqIntsFnExactGoodPen
namespace Go.Proofs.Ytlhgndfcleaheaa.Pure
open Go.RowKit Go.Proofs.Ytlhgndfcleaheaa.PFnExactGoodPen Go.Proofs.YtlhgndfcleaheaaW.PrintWords Go.Proofs.YtlhgndfcleaheaaW.PrintLast Go.Proofs.Ytlhgndfcleaheaa.Plain
set_option linter.unusedSimpArgs false
set_option linter.unusedVariables false

namespace GoodPen
def good (a b c : Int) (l : List Int) (d : Int) : Bool := decide (0 ≤ a ∧ a ≤ 4194304) && decide (1 ≤ b ∧ b ≤ 3) && decide (1 ≤ c ∧ c ≤ 3) && decide ((l.length : Int) ≤ 8) && decide (0 ≤ d ∧ d ≤ 67108864) && l.all (fun x => decide (0 ≤ x ∧ x ≤ 67108864))

theorem specAll (l : List Int) (hl : l.length ≤ 1048576) : Ev (fun k => spec_GoodPen.l0 k l l.length 0) (l.all (fun x => decide (0 ≤ x ∧ x ≤ 67108864))) :=
  all_ev (fun x : Int => decide (0 ≤ x ∧ x ≤ 67108864)) l 0 (by omega) (fun k i => spec_GoodPen.l0 k l l.length i) (fun k i hi => by
    show spec_GoodPen.l0 (k + 1) l l.length i = _
    rw [spec_GoodPen.l0, if_pos (by omega), if_pos (by omega), if_pos (by omega), in_]; rfl) (fun k => by
    show spec_GoodPen.l0 (k + 1) l _ _ = _
    rw [spec_GoodPen.l0, if_neg (by omega)])

theorem specGood (a b c : Int) (l : List Int) (d : Int) (hl : l.length ≤ 1048576) : Ev (fun k => spec_GoodPen.f k a b c l d) (good a b c l d) := by
  have h := specAll l hl
  unfold spec_GoodPen.f good
  simp only [in_, Option.bind_some, decide_eq_true_eq]
  have hj : ∀ x, Ev (fun k => spec_GoodPen.j0 k x a b c l d) (!x && l.all (fun x => decide (0 ≤ x ∧ x ≤ 67108864))) := by
    intro x
    cases x
    · refine Ev.step (f := fun k => spec_GoodPen.l0 k l l.length 0) (fun k => by simp [spec_GoodPen.j0]) (by simpa using h)
    · exact ev_some fun k => by simp [spec_GoodPen.j0]
  by_cases ha : 0 ≤ a ∧ a ≤ 4194304
  · by_cases hb : 1 ≤ b ∧ b ≤ 3
    · by_cases hc : 1 ≤ c ∧ c ≤ 3
      · by_cases he : (l.length : Int) ≤ 8
        · simp only [if_pos ha, if_pos hb, if_pos hc, if_neg (show ¬ (l.length : Int) > 8 by omega), decide_eq_true ha, decide_eq_true hb, decide_eq_true hc, decide_eq_true he, Bool.true_and]
          simpa using hj (!decide (0 ≤ d ∧ d ≤ 67108864))
        · simp only [if_pos ha, if_pos hb, if_pos hc, if_pos (show (l.length : Int) > 8 by omega), decide_eq_false he, Bool.and_false, Bool.false_and]
          exact hj true
      · simp only [if_pos ha, if_pos hb, if_neg hc, decide_eq_false hc, Bool.and_false, Bool.false_and]
        exact hj true
    · simp only [if_pos ha, if_neg hb, decide_eq_false hb, Bool.and_false, Bool.false_and]
      exact hj true
  · simp only [if_neg ha, decide_eq_false ha, Bool.false_and]
    exact hj true

theorem implDashes (l : List Int) (d : Int) (hl : l.length ≤ 1048576) : Ev (fun k => impl_areDashes.f k l d) (decide ((l.length : Int) ≤ 8) && decide (0 ≤ d ∧ d ≤ 67108864) && l.all (fun x => decide (0 ≤ x ∧ x ≤ 67108864))) := by
  unfold impl_areDashes.f
  have h := run_ev (σ := Unit) (fun _ x => if decide (0 ≤ x ∧ x ≤ 67108864) = true then .inr () else .inl false) (fun _ => decide ((l.length : Int) ≤ 8) && decide (0 ≤ d ∧ d ≤ 67108864)) l 0 (by omega) (fun k i _ => impl_areDashes.l0 k l d l l.length i) (fun k i s hi => by
    show impl_areDashes.l0 (k + 1) l d l l.length i = _
    rw [impl_areDashes.l0, if_pos (by omega), if_pos (by omega), if_pos (by omega), within_]
    show (if decide (0 ≤ l.getD i 0 ∧ l.getD i 0 ≤ 67108864) = true then _ else _) = _
    cases decide (0 ≤ l.getD i 0 ∧ l.getD i 0 ≤ 67108864) <;> rfl) (fun k s => by
    show impl_areDashes.l0 (k + 1) l d l _ _ = _
    rw [impl_areDashes.l0, if_neg (by omega), within_]
    by_cases he : (l.length : Int) ≤ 8
    · simp [he]
    · simp [he]) ()
  have e : ∀ (g : Bool) (xs : List Int), run (σ := Unit) (fun _ x => if decide (0 ≤ x ∧ x ≤ 67108864) = true then .inr () else .inl false) (fun _ => g) xs () = (g && xs.all (fun x => decide (0 ≤ x ∧ x ≤ 67108864))) := by
    intro g xs
    induction xs with
    | nil => simp [run]
    | cons x xs ih =>
      cases hP : decide (0 ≤ x ∧ x ≤ 67108864)
      · simp only [run, hP, List.all_cons, Bool.false_and, Bool.and_false]; rfl
      · simp only [run, hP, List.all_cons, Bool.true_and, if_true]; exact ih
  rw [e] at h
  exact h

theorem implGood (a b c : Int) (l : List Int) (d : Int) (hl : l.length ≤ 1048576) : Ev (fun k => impl_GoodPen.f k a b c l d) (good a b c l d) := by
  have h := implDashes l d hl
  unfold impl_GoodPen.f good
  simp only [within_, Option.bind_some, decide_eq_true_eq]
  by_cases ha : 0 ≤ a ∧ a ≤ 4194304
  · by_cases hb : 1 ≤ b ∧ b ≤ 3
    · by_cases hc : 1 ≤ c ∧ c ≤ 3
      · simp only [if_pos ha, if_pos hb, if_pos hc, decide_eq_true ha, decide_eq_true hb, decide_eq_true hc, Bool.true_and]
        refine Ev.congr (f := fun k => impl_areDashes.f k l d) (fun k => ?_) h
        cases impl_areDashes.f k l d <;> rfl
      · simp only [if_pos ha, if_pos hb, if_neg hc, decide_eq_false hc, Bool.and_false, Bool.false_and]
        exact Ev.now _
    · simp only [if_pos ha, if_neg hb, decide_eq_false hb, Bool.and_false, Bool.false_and]
      exact Ev.now _
  · simp only [if_neg ha, decide_eq_false ha, Bool.false_and]
    exact Ev.now _
end GoodPen
open GoodPen

theorem FnExactGoodPen : ∀ (a0_0 : Int) (a0_1 : Int) (a0_2 : Int) (l0_3 : List (Int)) (a0_4 : Int), ((Lit.int .i64 a0_0).wf = true) → ((Lit.int .i64 a0_1).wf = true) → ((Lit.int .i64 a0_2).wf = true) → ((∀ x3 ∈ l0_3, (Lit.int .i64 x3).wf = true) ∧ l0_3.length ≤ 9223372036854775807) → ((Lit.int .i64 a0_4).wf = true) → ∃ k, PFnExactGoodPen.laws_FnExactGoodPen.f k a0_0 a0_1 a0_2 l0_3 a0_4 = some true := by
  intro a b c l d _ _ _ ⟨_, hn⟩ _
  refine Ev.rounds ?_
  unfold laws_FnExactGoodPen.f laws_szPen.f laws_szIntS.f
  rw [wrap_id (by omega) (by omega)]
  by_cases hl : (1048576 : Int) - l.length < 0
  · simp only [if_pos hl, Option.bind_some]
    exact ev_const fun k => by simp
  simp only [if_neg hl, Option.bind_some]
  have hl' : l.length ≤ 1048576 := by omega
  have hto : Ev (fun k => laws_toPen.f k a b c l d) (a, b, c, l, d) := by
    unfold laws_toPen.f
    exact Ev.bind (f := fun _ t => some (a, b, c, t, d)) (toInts l hl') (Ev.now _)
  refine Ev.bind hto ?_
  refine Ev.bind (specGood a b c l d hl') ?_
  refine Ev.bind hto ?_
  refine Ev.bind (implGood a b c l d hl') ?_
  simp only [bne_self_eq_false, Bool.false_eq_true, if_false]
  refine Ev.bind hto ?_
  have he : Ev (fun k => laws_eqPen.f k a b c l d a b c l d) true := by
    unfold laws_eqPen.f
    simp only [if_true]
    refine Ev.bind (eqInts l (by omega)) ?_
    exact Ev.now _
  refine Ev.bind he ?_
  exact Ev.now _

end Go.Proofs.Ytlhgndfcleaheaa.Pure
