/- FineOf, as numbers: the program's answer is the reference's. -/
import Derived.Test.YtlhgndfcleaheaaPFnExactFineOfx
namespace Go.Proofs.Ytlhgndfcleaheaa.Pure
open Go.RowKit Go.Proofs.Ytlhgndfcleaheaa.PFnExactFineOf Go.Proofs.YtlhgndfcleaheaaW.PrintWords Go.Proofs.YtlhgndfcleaheaaW.PrintLast

theorem FineOf_down (a b : Int) (hb : 0 < b) : impl_down.f a b = spec_l1Down.f a b := by
  unfold impl_down.f spec_l1Down.f
  have hb0 : b ≠ 0 := by omega
  rw [if_neg hb0, if_neg hb0]
  have hbn : decide (b < 0) = false := by simp; omega
  rw [hbn]
  rcases (by omega : a < 0 ∨ 0 ≤ a) with ha | ha
  · have h1 : Int.tmod a b ≤ 0 := by
      have := Int.tmod_nonneg (a := -a) b (by omega)
      rw [Int.neg_tmod] at this
      omega
    have hd : decide (a < 0) = true := by simpa using ha
    rw [hd]
    by_cases h0 : Int.tmod a b = 0
    · rw [if_neg (by omega), if_pos h0]
    · rw [if_pos (by omega), if_neg h0, if_pos (by rfl)]
  · have h1 : 0 ≤ Int.tmod a b := Int.tmod_nonneg b ha
    have hd : decide (a < 0) = false := by simp; omega
    rw [hd, if_neg (by omega)]
    split
    · rfl
    · rw [if_neg (by simp)]

theorem FineOf_down_some (a b : Int) (hb : 0 < b) : ∃ q, spec_l1Down.f a b = some q := by
  unfold spec_l1Down.f
  rw [if_neg (by omega)]
  repeat' split
  all_goals exact ⟨_, rfl⟩

theorem FineOf_in (a b c : Int) : spec_l1In.f a b c = some (decide (b ≤ a ∧ a ≤ c)) := by
  unfold spec_l1In.f
  by_cases h : a ≥ b
  · rw [if_pos h]
    simp [show b ≤ a from h]
  · rw [if_neg h]
    simp [show ¬ b ≤ a from h]

theorem FnExactFineOf : ∀ (a0_0 : Int) (a0_1 : Int), ((Lit.int .i64 a0_0).wf = true) → ((Lit.int .i64 a0_1).wf = true) → PFnExactFineOf.laws_FnExactFineOf.f a0_0 a0_1 = some true := by
  intro a0 a1 _ _
  have hw : ∀ a b c, impl_within.f a b c = spec_l1In.f a b c := fun _ _ _ => rfl
  obtain ⟨q0, h0⟩ := FineOf_down_some (wrap64 ((wrap64 (a0 * 16)) + 32768)) 65536 (by omega)
  obtain ⟨q1, h1⟩ := FineOf_down_some (wrap64 ((wrap64 (a1 * 16)) + 32768)) 65536 (by omega)
  have hg : impl_FineOf.f a0 a1 = spec_FineOf.f a0 a1 := by
    unfold impl_FineOf.f spec_FineOf.f impl_isNear.f spec_l10Point.f spec_l11Fine.f
    simp only [hw, FineOf_down _ 65536 (by omega), h0, h1, Option.bind_some]
  have hs : ∃ x y b, spec_FineOf.f a0 a1 = some (x, y, b) := by
    unfold spec_FineOf.f spec_l10Point.f spec_l11Fine.f
    simp only [FineOf_in, h0, h1, Option.bind_some]
    split <;> simp only [Option.bind_some] <;> (try split) <;> exact ⟨_, _, _, rfl⟩
  obtain ⟨x, y, b, hb⟩ := hs
  simp [laws_FnExactFineOf.f, laws_toPoint.f, hg, hb]

end Go.Proofs.Ytlhgndfcleaheaa.Pure
