/- SizeOf, as numbers: the program's answer is the reference's. -/
import Derived.Test.YtlhgndfcleaheaaSizeFnExactSizeOf
namespace Go.Proofs.Ytlhgndfcleaheaa.Pure
open Go.RowKit Go.Proofs.Ytlhgndfcleaheaa.PFnExactSizeOf Go.Proofs.YtlhgndfcleaheaaW.PrintWords Go.Proofs.YtlhgndfcleaheaaW.PrintLast Go.Proofs.Ytlhgndfcleaheaa.Plain
set_option linter.unusedSimpArgs false
set_option linter.unusedVariables false

theorem FnExactSizeOf : ∀ (a0_0 : Int) (a0_1 : Int) (a1_0 : Int) (a1_1 : Int), ((Lit.int .i64 a0_0).wf = true) → ((Lit.int .i64 a0_1).wf = true) → ((Lit.int .i64 a1_0).wf = true) → ((Lit.int .i64 a1_1).wf = true) → ∃ k, PFnExactSizeOf.laws_FnExactSizeOf.f k a0_0 a0_1 a1_0 a1_1 = some true := by
  intro a b c d _ _ _ _
  refine Ev.rounds ?_
  unfold laws_FnExactSizeOf.f laws_toPoint.f spec_SizeOf.f impl_SizeOf.f
  simp only [Option.bind_some, specNear, implNear]
  cases h1 : near a b
  · exact Ev.now _
  cases h2 : near c d
  · exact Ev.now _
  obtain ⟨r, hr, hs, _⟩ := sizes a b c d h1 h2
  simp only [if_true]
  refine Ev.bind (Ev.bind (f := fun _ t => some (t, true)) hr (Ev.now _)) ?_
  refine Ev.bind (Ev.bind (f := fun _ t => some (t, true)) hs (Ev.now _)) ?_
  exact ev_const fun k => by simp

end Go.Proofs.Ytlhgndfcleaheaa.Pure
