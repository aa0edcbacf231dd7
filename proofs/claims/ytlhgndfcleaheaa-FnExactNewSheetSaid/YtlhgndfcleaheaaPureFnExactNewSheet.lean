/- NewSheet, as numbers and lists: the program's answer is the reference's, and it is new memory. -/
import Derived.Test.YtlhgndfcleaheaaInFnExactNewSheet
import Derived.Test.YtlhgndfcleaheaaEqTintsFnExactNewSheet
import Derived.Test.YtlhgndfcleaheaaHeldTintsFnExactNewSheet
namespace Go.Proofs.Ytlhgndfcleaheaa.Pure
open Go.RowKit Go.Proofs.Ytlhgndfcleaheaa.PFnExactNewSheet Go.Proofs.YtlhgndfcleaheaaW.PrintWords Go.Proofs.YtlhgndfcleaheaaW.PrintLast Go.Proofs.Ytlhgndfcleaheaa.Plain
set_option linter.unusedSimpArgs false
set_option linter.unusedVariables false

theorem FnExactNewSheet : laws_FnExactNewSheet.Pure := by
  intro a b _ _
  have hw : ∀ a b c, impl_within.f a b c = spec_l1In.f a b c := fun _ _ _ => rfl
  have hg : ∀ a b, impl_NewSheet.f a b = spec_NewSheet.f a b := by
    intro a b
    unfold impl_NewSheet.f spec_NewSheet.f impl_areSides.f spec_l3Side.f
    simp only [hw, in_, Option.bind_some, decide_eq_true_eq]
    by_cases ha : 1 ≤ a ∧ a ≤ 36
    · simp only [if_pos ha, Option.bind_some, decide_eq_true_eq]
    · simp only [if_neg ha, Option.bind_some]; rfl
  have hs : ∃ x y l o, spec_NewSheet.f a b = some (x, y, l, o) ∧ l.length ≤ 1048576 := by
    unfold spec_NewSheet.f spec_l3Side.f
    simp only [in_, Option.bind_some, decide_eq_true_eq]
    by_cases ha : 1 ≤ a ∧ a ≤ 36
    · by_cases hb : 1 ≤ b ∧ b ≤ 36
      · have h1 : 0 ≤ a * b := Int.mul_nonneg (by omega) (by omega)
        have h2 : a * b ≤ 36 * 36 := Int.mul_le_mul ha.2 hb.2 (by omega) (by omega)
        rw [if_pos ha, if_pos hb, wrap_id (by omega) (by omega), if_pos h1, if_pos (by omega)]
        exact ⟨_, _, _, _, rfl, by rw [List.length_replicate]; omega⟩
      · rw [if_pos ha, if_neg hb]; exact ⟨_, _, _, _, rfl, by simp⟩
    · rw [if_neg ha]; exact ⟨_, _, _, _, rfl, by simp⟩
  obtain ⟨x, y, l, o, he, hl⟩ := hs
  refine Ev.rounds ?_
  unfold laws_FnExactNewSheet.f
  simp only [hg, he, Option.bind_some]
  refine Ev.bind (eqSheet_ x y l (by omega)) ?_
  simp only [if_true, bne_self_eq_false]
  refine Ev.step (f := fun k => (laws_markSheet.f k x y l 1).bind fun bt => (laws_heldSheet.f k x y bt.2 1).bind fun t => if t < 0 then some false else if t = bt.1 then ((laws_eqSheet.f k x y l x y l).bind fun t => if t = true then laws_FnExactNewSheet.j1 k bt.1 false x y bt.2 else laws_FnExactNewSheet.j1 k bt.1 true x y bt.2) else some false) (fun k => by
    simp only [laws_FnExactNewSheet.j0, hg, he, Option.bind_some, bne_self_eq_false, Bool.false_eq_true, if_false]) ?_
  refine Ev.bind (markSheet x y l hl) ?_
  refine Ev.bind (heldSheet x y l hl) ?_
  simp only [if_neg (show ¬ ((1 + 4 * l.length : Nat) : Int) < 0 by omega), if_true]
  refine Ev.bind (eqSheet_ x y l (by omega)) ?_
  simp only [if_true]
  refine Ev.step (f := fun k => (laws_heldSheet.f k x y (over tintMark l l.length) 1).bind fun t => if t < 0 then some false else if t = ((1 + 4 * l.length : Nat) : Int) then some true else some false) (fun k => by
    simp only [laws_FnExactNewSheet.j1, Bool.false_eq_true, if_false]) ?_
  refine Ev.bind (heldSheet x y l hl) ?_
  simp only [if_neg (show ¬ ((1 + 4 * l.length : Nat) : Int) < 0 by omega), if_true]
  exact Ev.now _

end Go.Proofs.Ytlhgndfcleaheaa.Pure
