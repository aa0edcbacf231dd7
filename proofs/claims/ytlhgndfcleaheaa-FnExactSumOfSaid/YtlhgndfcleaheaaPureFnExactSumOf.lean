/- SumOf, as numbers and lists: the program's answer is the reference's. -/
import Derived.Test.YtlhgndfcleaheaaPFnExactSumOfx
import Derived.Test.YtlhgndfcleaheaaSumFnExactSumOf
namespace Go.Proofs.Ytlhgndfcleaheaa.Pure
open Go.RowKit Go.Proofs.Ytlhgndfcleaheaa.PFnExactSumOf Go.Proofs.YtlhgndfcleaheaaW.PrintWords Go.Proofs.YtlhgndfcleaheaaW.PrintLast Go.Proofs.Ytlhgndfcleaheaa.Plain
set_option linter.unusedSimpArgs false
set_option linter.unusedVariables false

theorem FnExactSumOf : ∀ (a0_0 : Int) (a0_1 : Int) (l0_2 : List (Int)), ((Lit.int .i64 a0_0).wf = true) → ((Lit.int .i64 a0_1).wf = true) → ((∀ x3 ∈ l0_2, (Lit.int .i64 x3).wf = true) ∧ l0_2.length ≤ 9223372036854775807) → ∃ k, PFnExactSumOf.laws_FnExactSumOf.f k a0_0 a0_1 l0_2 = some true := by
  intro a b l _ _ ⟨_, hn⟩
  refine Ev.rounds ?_
  unfold laws_FnExactSumOf.f laws_szMask.f laws_szIntS.f
  rw [wrap_id (by omega) (by omega)]
  by_cases hl : (1048576 : Int) - l.length < 0
  · simp only [if_pos hl, Option.bind_some]
    exact ev_const fun k => by simp
  simp only [if_neg hl, Option.bind_some]
  have hl' : l.length ≤ 1048576 := by omega
  have hto := toMask_ a b l hl'
  refine Ev.bind hto ?_
  refine Ev.bind (specSum a b l hl') ?_
  refine Ev.bind hto ?_
  refine Ev.bind (implSum a b l hl') ?_
  simp only [bne_self_eq_false, if_true]
  refine Ev.step (f := fun k => (laws_toMask.f k a b l).bind fun bt => (laws_eqMask.f k a b l bt.1 bt.2.1 bt.2.2).bind fun t => if t = true then some true else some false) (fun k => by simp [laws_FnExactSumOf.j0]) ?_
  refine Ev.bind hto ?_
  refine Ev.bind (eqMask_ a b l (by omega)) ?_
  exact Ev.now _

end Go.Proofs.Ytlhgndfcleaheaa.Pure
