/- OverTint, as numbers: the program's answer is the reference's. -/
import Derived.Test.YtlhgndfcleaheaaOverFnExactOverTint
namespace Go.Proofs.Ytlhgndfcleaheaa.Pure
open Go.RowKit Go.Proofs.Ytlhgndfcleaheaa.HFnExactOverTint Go.Proofs.YtlhgndfcleaheaaW.PrintWords Go.Proofs.YtlhgndfcleaheaaW.PrintLast

theorem FnExactOverTint : ∀ (a0_0 : Int) (a0_1 : Int) (a0_2 : Int) (a0_3 : Int) (a1_0 : Int) (a1_1 : Int) (a1_2 : Int) (a1_3 : Int), ((Lit.int .i64 a0_0).wf = true) → ((Lit.int .i64 a0_1).wf = true) → ((Lit.int .i64 a0_2).wf = true) → ((Lit.int .i64 a0_3).wf = true) → ((Lit.int .i64 a1_0).wf = true) → ((Lit.int .i64 a1_1).wf = true) → ((Lit.int .i64 a1_2).wf = true) → ((Lit.int .i64 a1_3).wf = true) → HFnExactOverTint.laws_FnExactOverTint.f a0_0 a0_1 a0_2 a0_3 a1_0 a1_1 a1_2 a1_3 = some true := by
  intro a b c d a' b' c' d' _ _ _ _ _ _ _ _
  unfold laws_FnExactOverTint.f laws_toTint.f
  simp only [Option.bind_some, specOver, implOver]
  simp [laws_eqTint.f]

end Go.Proofs.Ytlhgndfcleaheaa.Pure
