/- ThinTint, as numbers: the program's answer is the reference's. -/
import Derived.Test.YtlhgndfcleaheaaThinFnExactThinTint
namespace Go.Proofs.Ytlhgndfcleaheaa.Pure
open Go.RowKit Go.Proofs.Ytlhgndfcleaheaa.HFnExactThinTint Go.Proofs.YtlhgndfcleaheaaW.PrintWords Go.Proofs.YtlhgndfcleaheaaW.PrintLast

theorem FnExactThinTint : ∀ (a0_0 : Int) (a0_1 : Int) (a0_2 : Int) (a0_3 : Int) (a1 : Int), ((Lit.int .i64 a0_0).wf = true) → ((Lit.int .i64 a0_1).wf = true) → ((Lit.int .i64 a0_2).wf = true) → ((Lit.int .i64 a0_3).wf = true) → ((Lit.int .i64 a1).wf = true) → HFnExactThinTint.laws_FnExactThinTint.f a0_0 a0_1 a0_2 a0_3 a1 = some true := by
  intro a b c d p _ _ _ _ _
  unfold laws_FnExactThinTint.f laws_toTint.f
  simp only [Option.bind_some, specThin, implThin]
  simp [laws_eqTint.f]

end Go.Proofs.Ytlhgndfcleaheaa.Pure
