/- TintOf, as numbers: the program's answer is the reference's. -/
import Derived.Test.YtlhgndfcleaheaaInFnExactTintOf
import Derived.Test.YtlhgndfcleaheaaNum
namespace Go.Proofs.Ytlhgndfcleaheaa.Pure
open Go.RowKit Go.Proofs.Ytlhgndfcleaheaa.HFnExactTintOf Go.Proofs.YtlhgndfcleaheaaW.PrintWords Go.Proofs.YtlhgndfcleaheaaW.PrintLast

theorem FnExactTintOf : ∀ (a0_0 : Int) (a0_1 : Int) (a0_2 : Int) (a1 : Int), ((Lit.int .i64 a0_0).wf = true) → ((Lit.int .i64 a0_1).wf = true) → ((Lit.int .i64 a0_2).wf = true) → ((Lit.int .i64 a1).wf = true) → HFnExactTintOf.laws_FnExactTintOf.f a0_0 a0_1 a0_2 a1 = some true := by
  intro r g b p _ _ _ _
  have hg : impl_TintOf.f r g b p = spec_TintOf.f r g b p := by
    unfold impl_TintOf.f spec_TintOf.f impl_isShare.f spec_l12Part.f spec_l12Tint.f
    simp only [in_, within_, Option.bind_some]
  have hs : ∃ x y z u o, spec_TintOf.f r g b p = some (x, y, z, u, o) := by
    unfold spec_TintOf.f spec_l12Part.f spec_l12Tint.f
    simp only [in_, Option.bind_some]
    repeat' split
    all_goals exact ⟨_, _, _, _, _, rfl⟩
  obtain ⟨x, y, z, u, o, h⟩ := hs
  unfold laws_FnExactTintOf.f laws_toColor.f
  simp only [Option.bind_some, hg, h]
  simp [laws_eqTint.f]

end Go.Proofs.Ytlhgndfcleaheaa.Pure
