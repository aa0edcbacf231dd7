/- The sum of a mask, by both sides. -/
import Derived.Test.YtlhgndfcleaheaaMaskFnExactSumOf
namespace Go.Proofs.Ytlhgndfcleaheaa.PFnExactSumOf
open Go.RowKit Go.Proofs.YtlhgndfcleaheaaW.PrintWords Go.Proofs.YtlhgndfcleaheaaW.PrintLast Go.Proofs.Ytlhgndfcleaheaa.Plain
set_option linter.unusedSimpArgs false
set_option linter.unusedVariables false

/-- What a mask covers together. -/
def total (l : List Int) : Int × Bool := run (fun s x => (.inr (wrap64 (s + x)) : (Int × Bool) ⊕ Int)) (fun s => (s, true)) l 0
def sumMask (a b : Int) (l : List Int) : Int × Bool := if goodMask a b l = true then total l else (0, false)
theorem specSum (a b : Int) (l : List Int) (hl : l.length ≤ 1048576) : Ev (fun k => spec_SumOf.f k a b l) (sumMask a b l) := by
  have h := run_ev (fun s x => (.inr (wrap64 (s + x)) : (Int × Bool) ⊕ Int)) (fun s => (s, true)) l 0 (by omega) (fun k i s => spec_SumOf.l0 k s l l.length i) (fun k i s hi => by
    show spec_SumOf.l0 (k + 1) s l l.length i = _
    rw [spec_SumOf.l0, if_pos (by omega), if_pos (by omega), if_pos (by omega)]; rfl) (fun k s => by
    show spec_SumOf.l0 (k + 1) s l _ _ = _
    rw [spec_SumOf.l0, if_neg (by omega)]) 0
  unfold spec_SumOf.f sumMask
  refine Ev.bind (specGoodMask a b l hl) ?_
  cases goodMask a b l
  · simp only [Bool.false_eq_true, if_false]; exact Ev.now _
  · simp only [if_true]; exact h
theorem implSum (a b : Int) (l : List Int) (hl : l.length ≤ 1048576) : Ev (fun k => impl_SumOf.f k a b l) (sumMask a b l) := by
  have h := run_ev (fun s x => (.inr (wrap64 (s + x)) : (Int × Bool) ⊕ Int)) (fun s => (s, true)) l 0 (by omega) (fun k i s => impl_SumOf.l0 k s l l.length i) (fun k i s hi => by
    show impl_SumOf.l0 (k + 1) s l l.length i = _
    rw [impl_SumOf.l0, if_pos (by omega), if_pos (by omega), if_pos (by omega)]; rfl) (fun k s => by
    show impl_SumOf.l0 (k + 1) s l _ _ = _
    rw [impl_SumOf.l0, if_neg (by omega)]) 0
  unfold impl_SumOf.f sumMask
  refine Ev.bind (implGoodMask a b l hl) ?_
  cases goodMask a b l
  · simp only [Bool.false_eq_true, if_false]; exact Ev.now _
  · simp only [if_true]; exact h

end Go.Proofs.Ytlhgndfcleaheaa.PFnExactSumOf
