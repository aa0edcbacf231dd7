/- SideOf, as numbers: the program's answer is the reference's. -/
import Derived.Test.YtdmndbehfdnneaaSizeFnExactSideOf
import Derived.Test.YtdmndbehfdnneaaFixFnExactSideOf
namespace Go.Proofs.Ytdmndbehfdnneaa.Pure
open Go.RowKit Go.Proofs.Ytdmndbehfdnneaa.HFnExactSideOf Go.Proofs.YtdmndbehfdnneaaW.PrintWords Go.Proofs.YtdmndbehfdnneaaW.PrintLast Go.Proofs.Ytdmndbehfdnneaa.Plain
set_option linter.unusedSimpArgs false
set_option linter.unusedVariables false

theorem FnExactSideOf : ∀ (a0_0 : Int) (a0_1 : Int) (a1_0 : Int) (a1_1 : Int) (a2 : Int), ((Lit.int .i64 a0_0).wf = true) → ((Lit.int .i64 a0_1).wf = true) → ((Lit.int .i64 a1_0).wf = true) → ((Lit.int .i64 a1_1).wf = true) → ((Lit.int .i64 a2).wf = true) → ∃ k, HFnExactSideOf.laws_FnExactSideOf.f k a0_0 a0_1 a1_0 a1_1 a2 = some true := by
  intro a b c d h _ _ _ _ _
  refine Ev.rounds ?_
  have both : ∃ r, Ev (fun k => spec_SideOf.f k a b c d h) r ∧ Ev (fun k => impl_SideOf.f k a b c d h) r := by
    unfold spec_SideOf.f impl_SideOf.f
    simp only [Option.bind_some, specNear, implNear, in_, within_]
    have none_ : Ev (fun k => impl_SideOf.j0 k h true a b c d) (0, 0, false) := ev_some fun k => by rw [impl_SideOf.j0, if_pos rfl]
    cases h1 : near a b
    · exact ⟨_, Ev.now _, none_⟩
    cases h2 : near c d
    · exact ⟨_, Ev.now _, none_⟩
    simp only [if_true]
    cases h3 : (a == c && (b == d))
    · simp only [Bool.false_eq_true, if_false]
      by_cases h4 : 0 ≤ h ∧ h ≤ 4194304
      · simp only [decide_eq_true h4, if_true, Bool.not_true]
        obtain ⟨r, hr, hs, _⟩ := sizes a b c d h1 h2
        refine ⟨(fixMul h (fixDiv (wrap64 (b - d)) r), fixMul h (fixDiv (wrap64 (c - a)) r), true), ?_, ?_⟩
        · unfold spec_l10Side.f
          refine Ev.bind (a := (fixMul h (fixDiv (wrap64 (b - d)) r), fixMul h (fixDiv (wrap64 (c - a)) r))) ?_ (Ev.now _)
          exact Ev.bind hr (Ev.bind (specFixDiv _ _) (Ev.bind (specFixMul _ _) (Ev.bind (specFixDiv _ _) (Ev.bind (specFixMul _ _) (Ev.now _)))))
        · refine Ev.step (f := fun k => (impl_length.f k a b c d).bind fun t200 => ((impl_FixDiv.f k (wrap64 (b - d)) t200).bind fun t201 => ((impl_FixMul.f k h t201).bind fun t202 => ((impl_FixDiv.f k (wrap64 (c - a)) t200).bind fun t203 => ((impl_FixMul.f k h t203).bind fun t204 => (some (t202, t204, true))))))) (fun k => ?_) ?_
          · rw [impl_SideOf.j0, if_neg (by simp)]
          · exact Ev.bind hs (Ev.bind (implFixDiv _ _) (Ev.bind (implFixMul _ _) (Ev.bind (implFixDiv _ _) (Ev.bind (implFixMul _ _) (Ev.now _)))))
      · simp only [decide_eq_false h4, Bool.false_eq_true, if_false, Bool.not_false]
        exact ⟨_, Ev.now _, none_⟩
    · simp only [if_true]
      exact ⟨_, Ev.now _, none_⟩
  obtain ⟨⟨x, y, z⟩, hs, hi⟩ := both
  unfold laws_FnExactSideOf.f laws_toPoint.f
  simp only [Option.bind_some]
  refine Ev.bind hs (Ev.bind hi (ev_const fun k => ?_))
  simp [laws_eqPoint.f]

end Go.Proofs.Ytdmndbehfdnneaa.Pure
