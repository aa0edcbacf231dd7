/- Loops whose rounds run inner loops. -/
import Derived.Test.YtdbgnoolokfafaaPlain
namespace Go.Proofs.Ytdbgnoolokfafaa.Plain
open Go.RowKit Go.Proofs.YtdbgnoolokfafaaW.PrintWords Go.Proofs.YtdbgnoolokfafaaW.PrintLast
set_option linter.unusedVariables false

/-- Two loops, one in the other, that ask. -/
theorem all2_ev (N : Nat) (n : Nat → Nat) (P : Nat → Nat → Bool) (hN : N ≤ 9223372036854775806) (hn : ∀ i, i < N → n i ≤ 9223372036854775806) (g0 : Nat → Int → Option Bool) (g1 : Nat → Nat → Int → Option Bool)
    (h0 : ∀ k (i : Nat), i < N → g0 (k + 1) i = g1 k i 0) (h0e : ∀ k, g0 (k + 1) N = some true)
    (h1 : ∀ k (i j : Nat), i < N → j < n i → g1 (k + 1) i j = if P i j = true then g1 k i (wrap64 ((j : Int) + 1)) else some false)
    (h1e : ∀ k (i : Nat), i < N → g1 (k + 1) i (n i) = g0 k (wrap64 ((i : Int) + 1))) :
    Ev (fun k => g0 k 0) ((List.range N).all fun i => (List.range (n i)).all (P i)) := by
  classical
  have key : ∀ i, i ≤ N → Ev (fun k => g0 k (i : Nat)) (decide (∀ i', i ≤ i' → i' < N → ∀ j, j < n i' → P i' j = true)) := by
    refine up (p := fun i => Ev (fun k => g0 k (i : Nat)) (decide (∀ i', i ≤ i' → i' < N → ∀ j, j < n i' → P i' j = true))) N ?_ ?_
    · rw [decide_eq_true (by intro i' h1 h2; omega)]
      exact ev_some fun k => h0e k
    · intro i hi ih
      have key1 : ∀ j, j ≤ n i → Ev (fun k => g1 k i (j : Nat)) (decide ((∀ j', j ≤ j' → j' < n i → P i j' = true) ∧ ∀ i', i + 1 ≤ i' → i' < N → ∀ j, j < n i' → P i' j = true)) := by
        refine up (p := fun j => Ev (fun k => g1 k i (j : Nat)) (decide ((∀ j', j ≤ j' → j' < n i → P i j' = true) ∧ ∀ i', i + 1 ≤ i' → i' < N → ∀ j, j < n i' → P i' j = true))) (n i) ?_ ?_
        · refine Ev.step (f := fun k => g0 k ((i + 1 : Nat) : Int)) (fun k => ?_) ?_
          · rw [h1e k i hi, wrap_id (by omega) (by omega)]; rfl
          · have e : ((∀ j', n i ≤ j' → j' < n i → P i j' = true) ∧ ∀ i', i + 1 ≤ i' → i' < N → ∀ j, j < n i' → P i' j = true) ↔ ∀ i', i + 1 ≤ i' → i' < N → ∀ j, j < n i' → P i' j = true := ⟨fun h => h.2, fun h => ⟨fun j' a b => by omega, h⟩⟩
            rw [decide_eq_decide.2 e]
            exact ih
        · intro j hj ihj
          cases hP : P i j
          · rw [decide_eq_false (fun h => by have := h.1 j (Nat.le_refl _) hj; rw [hP] at this; cases this)]
            exact ev_some fun k => by rw [h1 k i j hi hj, hP]; rfl
          · have e : ((∀ j', j ≤ j' → j' < n i → P i j' = true) ∧ ∀ i', i + 1 ≤ i' → i' < N → ∀ j, j < n i' → P i' j = true) ↔ ((∀ j', j + 1 ≤ j' → j' < n i → P i j' = true) ∧ ∀ i', i + 1 ≤ i' → i' < N → ∀ j, j < n i' → P i' j = true) := by
              refine ⟨fun h => ⟨fun j' a b => h.1 j' (by omega) b, h.2⟩, fun h => ⟨fun j' a b => ?_, h.2⟩⟩
              rcases Nat.lt_or_ge j j' with c | c
              · exact h.1 j' (by omega) b
              · rw [show j' = j by omega]; exact hP
            rw [decide_eq_decide.2 e]
            refine Ev.step (f := fun k => g1 k i ((j + 1 : Nat) : Int)) (fun k => ?_) ihj
            have := hn i hi
            rw [h1 k i j hi hj, hP, if_pos rfl, wrap_id (by omega) (by omega)]; rfl
      have e : (∀ i', i ≤ i' → i' < N → ∀ j, j < n i' → P i' j = true) ↔ ((∀ j', 0 ≤ j' → j' < n i → P i j' = true) ∧ ∀ i', i + 1 ≤ i' → i' < N → ∀ j, j < n i' → P i' j = true) := by
        refine ⟨fun h => ⟨fun j' a b => h i (Nat.le_refl _) hi j' b, fun i' a b => h i' (by omega) b⟩, fun h i' a b j c => ?_⟩
        rcases Nat.lt_or_ge i i' with d | d
        · exact h.2 i' (by omega) b j c
        · have : i' = i := by omega
          subst this
          exact h.1 j (Nat.zero_le _) c
      rw [decide_eq_decide.2 e]
      exact Ev.step (f := fun k => g1 k i ((0 : Nat) : Int)) (fun k => by rw [h0 k i hi]; rfl) (key1 0 (Nat.zero_le _))
  have := key 0 (Nat.zero_le _)
  have e : decide (∀ i', 0 ≤ i' → i' < N → ∀ j, j < n i' → P i' j = true) = ((List.range N).all fun i => (List.range (n i)).all (P i)) := by
    rw [Bool.eq_iff_iff]
    simp
  rw [e] at this
  exact this

/-- What two loops, one in the other, have gathered at a place. -/
def gath {γ : Type} (n : Nat → Nat) (f : Nat → Nat → List γ) (i j : Nat) : List γ := ((List.range i).flatMap fun a => (List.range (n a)).flatMap (f a)) ++ (List.range j).flatMap (f i)
theorem gath_in {γ : Type} (n : Nat → Nat) (f : Nat → Nat → List γ) (i j : Nat) : gath n f i j ++ f i j = gath n f i (j + 1) := by simp [gath, List.range_succ]
theorem gath_out {γ : Type} (n : Nat → Nat) (f : Nat → Nat → List γ) (i : Nat) : gath n f i (n i) = gath n f (i + 1) 0 := by simp [gath, List.range_succ]
/-- Two loops, one in the other, that gather. -/
theorem gath_ev {γ ρ : Type} (N : Nat) (n : Nat → Nat) (f : Nat → Nat → List γ) (fin : List γ → ρ) (hN : N ≤ 9223372036854775806) (hn : ∀ i, i < N → n i ≤ 9223372036854775806) (g0 : Nat → Int → List γ → Option ρ) (g1 : Nat → Nat → Int → List γ → Option ρ)
    (h0 : ∀ k (i : Nat) acc, i < N → g0 (k + 1) i acc = g1 k i 0 acc) (h0e : ∀ k acc, g0 (k + 1) N acc = some (fin acc))
    (h1 : ∀ k (i j : Nat), i < N → j < n i → g1 (k + 1) i j (gath n f i j) = g1 k i (wrap64 ((j : Int) + 1)) (gath n f i j ++ f i j))
    (h1e : ∀ k (i : Nat) acc, i < N → g1 (k + 1) i (n i) acc = g0 k (wrap64 ((i : Int) + 1)) acc) :
    Ev (fun k => g0 k 0 []) (fin (gath n f N 0)) := by
  have key : ∀ i, i ≤ N → Ev (fun k => g0 k (i : Nat) (gath n f i 0)) (fin (gath n f N 0)) := by
    refine up (p := fun i => Ev (fun k => g0 k (i : Nat) (gath n f i 0)) (fin (gath n f N 0))) N ?_ ?_
    · exact ev_some fun k => h0e k _
    · intro i hi ih
      have key1 : ∀ j, j ≤ n i → Ev (fun k => g1 k i (j : Nat) (gath n f i j)) (fin (gath n f N 0)) := by
        refine up (p := fun j => Ev (fun k => g1 k i (j : Nat) (gath n f i j)) (fin (gath n f N 0))) (n i) ?_ ?_
        · refine Ev.step (f := fun k => g0 k ((i + 1 : Nat) : Int) (gath n f (i + 1) 0)) (fun k => ?_) ih
          rw [h1e k i _ hi, gath_out, wrap_id (by omega) (by omega)]; rfl
        · intro j hj ihj
          refine Ev.step (f := fun k => g1 k i ((j + 1 : Nat) : Int) (gath n f i (j + 1))) (fun k => ?_) ihj
          have := hn i hi
          rw [h1 k i j hi hj, gath_in, wrap_id (by omega) (by omega)]; rfl
      exact Ev.step (f := fun k => g1 k i ((0 : Nat) : Int) (gath n f i 0)) (fun k => by rw [h0 k i _ hi]; rfl) (key1 0 (Nat.zero_le _))
  exact key 0 (Nat.zero_le _)
/-- How much is gathered at most. -/
def sumTo (n : Nat → Nat) : Nat → Nat
  | 0 => 0
  | i + 1 => sumTo n i + n i
theorem flat_len {γ : Type} (f : Nat → List γ) (h : ∀ j, (f j).length ≤ 1) (j : Nat) : ((List.range j).flatMap f).length ≤ j := by
  induction j with
  | zero => simp
  | succ j ih => have := h j; simp [List.range_succ] at ih ⊢; omega
theorem gath_len {γ : Type} (n : Nat → Nat) (f : Nat → Nat → List γ) (h : ∀ i j, (f i j).length ≤ 1) (i j : Nat) : (gath n f i j).length ≤ sumTo n i + j := by
  have h2 := flat_len (f i) (h i) j
  have h1 : ∀ i, ((List.range i).flatMap fun a => (List.range (n a)).flatMap (f a)).length ≤ sumTo n i := by
    intro i
    induction i with
    | zero => simp [sumTo]
    | succ i ih =>
      have := flat_len (f i) (h i) (n i)
      simp only [List.range_succ, List.flatMap_append, List.length_append, sumTo]
      simp only [List.flatMap_cons, List.flatMap_nil, List.append_nil]
      omega
  have := h1 i
  unfold gath
  rw [List.length_append]
  omega
theorem sumTo_le (n : Nat → Nat) {i j : Nat} (h : i ≤ j) : sumTo n i ≤ sumTo n j := by
  induction j with
  | zero => have : i = 0 := by omega
            subst this; exact Nat.le_refl _
  | succ j ih =>
    rcases Nat.lt_or_ge i (j + 1) with c | c
    · have := ih (by omega)
      show sumTo n i ≤ sumTo n j + n j
      omega
    · rw [show i = j + 1 by omega]; exact Nat.le_refl _

/-- A loop over a list with a state that a round makes anew, an inner loop's answer among what it uses. -/
theorem copy_evs {α β : Type} (f : α → β) (xs : List α) (z : α) (y : β) (hn : xs.length ≤ 9223372036854775806) (g : Nat → List β → Int → Option (List β))
    (h : ∀ (i : Nat) ys R, i < xs.length → ys.length = xs.length → Ev (fun k => g k (ys.set i (f (xs.getD i z))) (wrap64 ((i : Int) + 1))) R → Ev (fun k => g k ys i) R)
    (he : ∀ k ys, g (k + 1) ys xs.length = some ys) (ys : List β) (hl : ys.length = xs.length) : Ev (fun k => g k ys 0) (xs.map f) := by
  have key : ∀ i, i ≤ xs.length → Ev (fun k => g k ((xs.map f).take i ++ ys.drop i) (i : Nat)) (xs.map f) := by
    refine up (p := fun i => Ev (fun k => g k ((xs.map f).take i ++ ys.drop i) (i : Nat)) (xs.map f)) xs.length ?_ ?_
    · have e : (xs.map f).take xs.length ++ ys.drop xs.length = xs.map f := by
        have := copied_all (xs.map f) ys (by simpa using hl)
        simpa using this
      rw [e]
      exact ev_some fun k => he k _
    · intro i hi ih
      have e := copied (xs.map f) ys (by simpa using hl) y i (by simpa using hi)
      have e2 : (xs.map f).getD i y = f (xs.getD i z) := by simp [hi]
      rw [e2] at e
      refine h i _ _ hi (by simp [List.length_take, List.length_drop]; omega) ?_
      rw [e, wrap_id (by omega) (by omega)]
      exact ih
  have := key 0 (Nat.zero_le _)
  simpa using this
theorem flat_hom {α γ δ : Type} (φ : List γ → List δ) (h0 : φ [] = []) (h1 : ∀ a b, φ (a ++ b) = φ a ++ φ b) (g : α → List γ) (l : List α) : φ (l.flatMap g) = l.flatMap (fun a => φ (g a)) := by
  induction l with
  | nil => simpa using h0
  | cons x l ih => simp only [List.flatMap_cons, h1, ih]
theorem gath_hom {γ δ : Type} (φ : List γ → List δ) (h0 : φ [] = []) (h1 : ∀ a b, φ (a ++ b) = φ a ++ φ b) (n : Nat → Nat) (f : Nat → Nat → List γ) (i j : Nat) : φ (gath n f i j) = gath n (fun a b => φ (f a b)) i j := by
  unfold gath
  rw [h1, flat_hom φ h0 h1, flat_hom φ h0 h1]
  congr 1
  congr 1
  funext a
  rw [flat_hom φ h0 h1]
/-- A loop over a list with a state, inner loops in its rounds. -/
theorem fold_evs {α σ ρ : Type} (xs : List α) (z : α) (step : σ → α → σ) (I : σ → Prop) (hI : ∀ s x, I s → I (step s x)) (fin : σ → ρ) (hn : xs.length ≤ 9223372036854775806) (g : Nat → Int → σ → Option ρ)
    (h : ∀ (i : Nat) s R, i < xs.length → I s → Ev (fun k => g k (wrap64 ((i : Int) + 1)) (step s (xs.getD i z))) R → Ev (fun k => g k i s) R)
    (he : ∀ k s, I s → g (k + 1) xs.length s = some (fin s)) (s : σ) (hs : I s) : Ev (fun k => g k 0 s) (fin (xs.foldl step s)) := by
  have key : ∀ i, i ≤ xs.length → ∀ s, I s → Ev (fun k => g k (i : Nat) s) (fin ((xs.drop i).foldl step s)) := by
    refine up (p := fun i => ∀ s, I s → Ev (fun k => g k (i : Nat) s) (fin ((xs.drop i).foldl step s))) xs.length ?_ ?_
    · intro s hs
      rw [List.drop_length]
      exact ev_some fun k => he k s hs
    · intro i hi ih s hs
      rw [List.drop_eq_getElem_cons hi]
      have hz : xs.getD i z = xs[i] := by simp [hi]
      refine h i s _ hi hs ?_
      rw [hz, wrap_id (by omega) (by omega)]
      exact ih _ (hI _ _ hs)
  exact key 0 (Nat.zero_le _) s hs
theorem fold_filter {α β σ : Type} (c : α → Option β) (st : σ → β → σ) (su : σ → α → σ) (I : σ → Prop) (hI : ∀ s x, I s → I (su s x)) (h : ∀ s x, I s → su s x = match c x with | none => s | some y => st s y) (xs : List α) : ∀ s, I s → (xs.filterMap c).foldl st s = xs.foldl su s := by
  induction xs with
  | nil => intro s _; rfl
  | cons x xs ih =>
    intro s hs
    have hx := h s x hs
    cases hc : c x with
    | none =>
      have hx' : su s x = s := by rw [hx, hc]
      rw [List.filterMap_cons_none hc, List.foldl_cons, ih s hs, hx']
    | some y =>
      have hx' : su s x = st s y := by rw [hx, hc]
      have hi : I (st s y) := by rw [← hx']; exact hI s x hs
      rw [List.filterMap_cons_some hc, List.foldl_cons, List.foldl_cons, hx', ih _ hi]
/-- A loop that asks of each element, with inner loops. -/
theorem all_evs (n : Nat) (hn : n ≤ 9223372036854775806) (g : Nat → Int → Option Bool)
    (h : ∀ (i : Nat) R, i < n → Ev (fun k => g k (wrap64 ((i : Int) + 1))) R → Ev (fun k => g k i) R) (he : ∀ k, g (k + 1) n = some true) : Ev (fun k => g k 0) true := by
  have key : ∀ i, i ≤ n → Ev (fun k => g k (i : Nat)) true := by
    refine up (p := fun i => Ev (fun k => g k (i : Nat)) true) n ?_ ?_
    · exact ev_some fun k => he k
    · intro i hi ih
      refine h i _ hi ?_
      rw [wrap_id (by omega) (by omega)]
      exact ih
  exact key 0 (Nat.zero_le _)

end Go.Proofs.Ytdbgnoolokfafaa.Plain
