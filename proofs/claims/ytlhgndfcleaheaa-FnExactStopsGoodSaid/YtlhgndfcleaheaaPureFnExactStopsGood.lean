/- StopsGood, as numbers and lists: the program's answer is the reference's. -/
import Derived.Test.YtlhgndfcleaheaaStopsFnExactStopsGood
namespace Go.Proofs.Ytlhgndfcleaheaa.Pure
open Go.RowKit Go.Proofs.Ytlhgndfcleaheaa.PFnExactStopsGood Go.Proofs.YtlhgndfcleaheaaW.PrintWords Go.Proofs.YtlhgndfcleaheaaW.PrintLast Go.Proofs.Ytlhgndfcleaheaa.Plain
set_option linter.unusedSimpArgs false
set_option linter.unusedVariables false

theorem FnExactStopsGood : ∀ (l0 : List (S108)), ((∀ x108 ∈ l0, ((Lit.int .i64 x108.f0).wf = true) ∧ (((Lit.int .i64 x108.f1.f0).wf = true) ∧ ((Lit.int .i64 x108.f1.f1).wf = true) ∧ ((Lit.int .i64 x108.f1.f2).wf = true) ∧ ((Lit.int .i64 x108.f1.f3).wf = true))) ∧ l0.length ≤ 9223372036854775807) → ∃ k, PFnExactStopsGood.laws_FnExactStopsGood.f k l0 = some true := by
  intro l ⟨_, hn⟩
  refine Ev.rounds ?_
  unfold laws_FnExactStopsGood.f laws_szStopS.f
  rw [wrap_id (by omega) (by omega)]
  by_cases hl : (1048576 : Int) - l.length < 0
  · simp only [if_pos hl, Option.bind_some]
    exact ev_const fun k => by simp
  simp only [if_neg hl, Option.bind_some]
  have hl' : l.length ≤ 1048576 := by omega
  have hto := toStops l hl'
  generalize hm : (l.map fun x => (⟨x.f0, ⟨x.f1.f0, x.f1.f1, x.f1.f2, x.f1.f3⟩⟩ : S105)) = m at hto
  have hml : m.length ≤ 1048576 := by rw [← hm, List.length_map]; exact hl'
  refine Ev.bind hto ?_
  refine Ev.bind (specStops m hml) ?_
  refine Ev.bind hto ?_
  refine Ev.bind (implStops m hml) ?_
  simp only [bne_self_eq_false, Bool.false_eq_true, if_false]
  refine Ev.bind hto ?_
  refine Ev.bind (eqStops m (by omega)) ?_
  exact Ev.now _

end Go.Proofs.Ytlhgndfcleaheaa.Pure
