/- GoodSheet, as numbers and lists: the program's answer is the reference's. -/
import Derived.Test.YtlhgndfcleaheaaSheetFnExactGoodSheet
import Derived.Test.YtlhgndfcleaheaaTintsFnExactGoodSheet
import Derived.Test.YtlhgndfcleaheaaEqTintsFnExactGoodSheet
namespace Go.Proofs.Ytlhgndfcleaheaa.Pure
open Go.RowKit Go.Proofs.Ytlhgndfcleaheaa.PFnExactGoodSheet Go.Proofs.YtlhgndfcleaheaaW.PrintWords Go.Proofs.YtlhgndfcleaheaaW.PrintLast Go.Proofs.Ytlhgndfcleaheaa.Plain
set_option linter.unusedSimpArgs false
set_option linter.unusedVariables false

theorem FnExactGoodSheet : ∀ (a0_0 : Int) (a0_1 : Int) (l0_2 : List (S23)), ((Lit.int .i64 a0_0).wf = true) → ((Lit.int .i64 a0_1).wf = true) → ((∀ x23 ∈ l0_2, ((Lit.int .i64 x23.f0).wf = true) ∧ ((Lit.int .i64 x23.f1).wf = true) ∧ ((Lit.int .i64 x23.f2).wf = true) ∧ ((Lit.int .i64 x23.f3).wf = true)) ∧ l0_2.length ≤ 9223372036854775807) → ∃ k, PFnExactGoodSheet.laws_FnExactGoodSheet.f k a0_0 a0_1 l0_2 = some true := by
  intro a b l _ _ ⟨_, hn⟩
  refine Ev.rounds ?_
  unfold laws_FnExactGoodSheet.f laws_szSheet.f laws_szTintS.f
  rw [wrap_id (by omega) (by omega)]
  by_cases hl : (1048576 : Int) - l.length < 0
  · simp only [if_pos hl, Option.bind_some]
    exact ev_const fun k => by simp
  simp only [if_neg hl, Option.bind_some]
  have hl' : l.length ≤ 1048576 := by omega
  have hto : Ev (fun k => laws_toSheet.f k a b l) (a, b, l.map fun x => ⟨x.f0, x.f1, x.f2, x.f3⟩) := by
    unfold laws_toSheet.f
    exact Ev.bind (f := fun _ t => some (a, b, t)) (toTints l hl') (Ev.now _)
  generalize hm : (l.map fun x => (⟨x.f0, x.f1, x.f2, x.f3⟩ : S25)) = m at hto
  have hml : m.length ≤ 1048576 := by rw [← hm, List.length_map]; exact hl'
  refine Ev.bind hto ?_
  refine Ev.bind (specGoodSheet a b m hml) ?_
  refine Ev.bind hto ?_
  refine Ev.bind (implGoodSheet a b m hml) ?_
  simp only [bne_self_eq_false, Bool.false_eq_true, if_false]
  refine Ev.bind hto ?_
  refine Ev.bind (eqSheet_ a b m (by omega)) ?_
  exact Ev.now _

end Go.Proofs.Ytlhgndfcleaheaa.Pure
