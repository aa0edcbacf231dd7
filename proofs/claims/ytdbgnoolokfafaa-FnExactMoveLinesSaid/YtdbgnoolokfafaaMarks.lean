/- Marks: a list is written over from its front on, and read again. -/
import Derived.Test.YtdbgnoolokfafaaPlain
namespace Go.Proofs.Ytdbgnoolokfafaa.Plain
open Go.RowKit Go.Proofs.YtdbgnoolokfafaaW.PrintWords Go.Proofs.YtdbgnoolokfafaaW.PrintLast
set_option linter.unusedVariables false

/-- A list of which the first i are written over. -/
def over {α : Type} (f : Nat → α) (xs : List α) (i : Nat) : List α := (List.range i).map f ++ xs.drop i
theorem over_len {α : Type} (f : Nat → α) (xs : List α) (i : Nat) (h : i ≤ xs.length) : (over f xs i).length = xs.length := by simp [over]; omega
theorem over_get {α : Type} (f : Nat → α) (xs : List α) (i j : Nat) (h : j < i) (z : α) : (over f xs i).getD j z = f j := by
  have h1 : ((List.range i).map f).length = i := by simp
  simp [over, List.getD, List.getElem?_append_left (show j < ((List.range i).map f).length by omega), h]
theorem over_set {α : Type} (f : Nat → α) (xs : List α) (i : Nat) (h : i < xs.length) : (over f xs i).set i (f i) = over f xs (i + 1) := by
  apply List.ext_getElem?
  intro j
  have h1 : ((List.range i).map f).length = i := by simp
  have h2 : ((List.range (i + 1)).map f).length = i + 1 := by simp
  unfold over
  rw [List.getElem?_set]
  by_cases hj : i = j
  · subst hj
    rw [if_pos rfl, if_pos (by simp; omega), List.getElem?_append_left (by omega)]
    simp
  · rw [if_neg hj]
    rcases Nat.lt_or_ge j i with h3 | h3
    · rw [List.getElem?_append_left (by omega), List.getElem?_append_left (by omega)]
      simp [h3, show j < i + 1 by omega]
    · rw [List.getElem?_append_right (by omega), List.getElem?_append_right (by omega), List.getElem?_drop, List.getElem?_drop, h1, h2]
      congr 1
      omega
theorem over_zero {α : Type} (f : Nat → α) (xs : List α) : over f xs 0 = xs := by simp [over]
theorem set_set_ {α : Type} (xs : List α) (i : Nat) (a b : α) : (xs.set i a).set i b = xs.set i b := by simp
theorem getD_set_ {α : Type} (xs : List α) (i : Nat) (h : i < xs.length) (a z : α) : (xs.set i a).getD i z = a := by simp [h]

/-- A walk that writes over a list: c numbers an element, from m on. -/
theorem mark_ev {α : Type} (c : Nat) (m : Nat) (f : Nat → α) (xs : List α) (hn : m + c * xs.length ≤ 9223372036854775806) (hx : xs.length ≤ 9223372036854775806) (g : Nat → List α → Int → Int → Option (Int × List α))
    (h : ∀ (k i : Nat) ys, i < xs.length → ys.length = xs.length → g (k + 1) ys ((m + c * i : Nat) : Int) i = g k (ys.set i (f i)) ((m + c * (i + 1) : Nat) : Int) (wrap64 ((i : Int) + 1)))
    (he : ∀ k ys q, ys.length = xs.length → g (k + 1) ys q xs.length = some (q, ys)) : Ev (fun k => g k xs m 0) (((m + c * xs.length : Nat) : Int), over f xs xs.length) := by
  have key : ∀ i, i ≤ xs.length → Ev (fun k => g k (over f xs i) ((m + c * i : Nat) : Int) (i : Nat)) (((m + c * xs.length : Nat) : Int), over f xs xs.length) := by
    refine up (p := fun i => Ev (fun k => g k (over f xs i) ((m + c * i : Nat) : Int) (i : Nat)) (((m + c * xs.length : Nat) : Int), over f xs xs.length)) xs.length ?_ ?_
    · exact ev_some fun k => he k _ _ (over_len f xs _ (Nat.le_refl _))
    · intro i hi ih
      refine Ev.step (f := fun k => g k (over f xs (i + 1)) ((m + c * (i + 1) : Nat) : Int) ((i + 1 : Nat) : Int)) (fun k => ?_) ih
      show g (k + 1) _ _ _ = _
      rw [h k i _ hi (over_len f xs i (by omega)), over_set f xs i hi, wrap_id (by omega) (by omega)]
      rfl
  have := key 0 (Nat.zero_le _)
  rw [over_zero] at this
  exact this

/-- A walk that reads them again. -/
theorem held_ev (c m n : Nat) (hn : m + c * n ≤ 9223372036854775806) (hx : n ≤ 9223372036854775806) (g : Nat → Int → Int → Option Int)
    (h : ∀ (k i : Nat), i < n → g (k + 1) ((m + c * i : Nat) : Int) i = g k ((m + c * (i + 1) : Nat) : Int) (wrap64 ((i : Int) + 1)))
    (he : ∀ k q, g (k + 1) q n = some q) : Ev (fun k => g k m 0) ((m + c * n : Nat) : Int) := by
  have key : ∀ i, i ≤ n → Ev (fun k => g k ((m + c * i : Nat) : Int) (i : Nat)) ((m + c * n : Nat) : Int) := by
    refine up (p := fun i => Ev (fun k => g k ((m + c * i : Nat) : Int) (i : Nat)) ((m + c * n : Nat) : Int)) n ?_ ?_
    · exact ev_some fun k => he k _
    · intro i hi ih
      refine Ev.step (f := fun k => g k ((m + c * (i + 1) : Nat) : Int) ((i + 1 : Nat) : Int)) (fun k => ?_) ih
      show g (k + 1) _ _ = _
      rw [h k i hi, wrap_id (by omega) (by omega)]
      rfl
  exact key 0 (Nat.zero_le _)

end Go.Proofs.Ytdbgnoolokfafaa.Plain
