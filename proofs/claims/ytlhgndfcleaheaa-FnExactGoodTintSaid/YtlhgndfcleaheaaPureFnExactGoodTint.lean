/- GoodTint, as numbers: the program's answer is the reference's. -/
import Derived.Test.YtlhgndfcleaheaaPFnExactGoodTintx
namespace Go.Proofs.Ytlhgndfcleaheaa.Pure
open Go.RowKit Go.Proofs.Ytlhgndfcleaheaa.PFnExactGoodTint Go.Proofs.YtlhgndfcleaheaaW.PrintWords Go.Proofs.YtlhgndfcleaheaaW.PrintLast

theorem FnExactGoodTint : ∀ (a0_0 : Int) (a0_1 : Int) (a0_2 : Int) (a0_3 : Int), ((Lit.int .i64 a0_0).wf = true) → ((Lit.int .i64 a0_1).wf = true) → ((Lit.int .i64 a0_2).wf = true) → ((Lit.int .i64 a0_3).wf = true) → PFnExactGoodTint.laws_FnExactGoodTint.f a0_0 a0_1 a0_2 a0_3 = some true := by
  intro a0 a1 a2 a3 _ _ _ _
  have hw : ∀ a b c, impl_within.f a b c = spec_l1In.f a b c := fun _ _ _ => rfl
  have hg : impl_GoodTint.f a0 a1 a2 a3 = spec_GoodTint.f a0 a1 a2 a3 := by
    unfold impl_GoodTint.f spec_GoodTint.f
    simp only [hw]
  have hs : ∃ b, spec_GoodTint.f a0 a1 a2 a3 = some b := by
    unfold spec_GoodTint.f spec_l1In.f
    repeat' split
    all_goals (simp only [Option.bind_some]; try (repeat' split))
    all_goals exact ⟨_, rfl⟩
  obtain ⟨b, hb⟩ := hs
  simp [laws_FnExactGoodTint.f, laws_toTint.f, hg, hb]

end Go.Proofs.Ytlhgndfcleaheaa.Pure
