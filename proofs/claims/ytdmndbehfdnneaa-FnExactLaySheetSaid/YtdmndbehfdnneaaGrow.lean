/- A list that grows, element by element. -/
import Derived.Test.YtdmndbehfdnneaaPlain
namespace Go.Proofs.Ytdmndbehfdnneaa.Plain
open Go.RowKit Go.Proofs.YtdmndbehfdnneaaW.PrintWords Go.Proofs.YtdmndbehfdnneaaW.PrintLast
set_option linter.unusedVariables false

theorem range_map_snoc {β : Type} (f : Nat → β) (i : Nat) : (List.range i).map f ++ [f i] = (List.range (i + 1)).map f := by simp [List.range_succ]
/-- A walk that appends: the i-th thing is f i. -/
theorem grow_ev {β ρ : Type} (n : Nat) (f : Nat → β) (fin : List β → ρ) (hn : n ≤ 9223372036854775806) (g : Nat → Int → List β → Option ρ)
    (h : ∀ (k i : Nat) ys, i < n → ys.length = i → g (k + 1) i ys = g k (wrap64 ((i : Int) + 1)) (ys ++ [f i]))
    (he : ∀ k ys, ys.length = n → g (k + 1) n ys = some (fin ys)) : Ev (fun k => g k 0 []) (fin ((List.range n).map f)) := by
  have key : ∀ i, i ≤ n → Ev (fun k => g k (i : Nat) ((List.range i).map f)) (fin ((List.range n).map f)) := by
    refine up (p := fun i => Ev (fun k => g k (i : Nat) ((List.range i).map f)) (fin ((List.range n).map f))) n ?_ ?_
    · exact ev_some fun k => he k _ (by simp)
    · intro i hi ih
      refine Ev.step (f := fun k => g k ((i + 1 : Nat) : Int) ((List.range (i + 1)).map f)) (fun k => ?_) ih
      show g (k + 1) _ _ = _
      rw [h k i _ hi (by simp), range_map_snoc, wrap_id (by omega) (by omega)]
      rfl
  exact key 0 (Nat.zero_le _)

end Go.Proofs.Ytdmndbehfdnneaa.Plain
