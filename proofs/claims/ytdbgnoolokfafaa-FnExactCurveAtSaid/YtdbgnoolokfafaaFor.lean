/- Loops that go up with a state, inner loops in their rounds. -/
import Derived.Test.YtdbgnoolokfafaaSteps
namespace Go.Proofs.Ytdbgnoolokfafaa.Plain
open Go.RowKit Go.Proofs.YtdbgnoolokfafaaW.PrintWords Go.Proofs.YtdbgnoolokfafaaW.PrintLast
set_option linter.unusedVariables false
set_option linter.unusedSimpArgs false

/-- n rounds with a state. -/
def forTo {σ : Type} (f : Nat → σ → σ) : Nat → σ → σ
  | 0, s => s
  | n + 1, s => f n (forTo f n s)
theorem forTo_add {σ : Type} (f : Nat → σ → σ) (m : Nat) : ∀ n s, forTo f (m + n) s = forTo (fun k => f (m + k)) n (forTo f m s)
  | 0, s => rfl
  | n + 1, s => by
    show f (m + n) (forTo f (m + n) s) = f (m + n) (forTo (fun k => f (m + k)) n (forTo f m s))
    rw [forTo_add f m n s]
theorem forTo_split {σ : Type} (f : Nat → σ → σ) (b : Nat) : ∀ a s, forTo f (a * b) s = forTo (fun v s => forTo (fun k => f (v * b + k)) b s) a s
  | 0, s => by rw [Nat.zero_mul]; rfl
  | a + 1, s => by
    rw [show (a + 1) * b = a * b + b from Nat.succ_mul a b, forTo_add, forTo_split f b a s]
    rfl
theorem forTo_congr {σ : Type} {f g : Nat → σ → σ} (n : Nat) (h : ∀ i s, i < n → f i s = g i s) : ∀ s, forTo f n s = forTo g n s := by
  induction n with
  | zero => intro s; rfl
  | succ n ih =>
    intro s
    show f n (forTo f n s) = g n (forTo g n s)
    rw [ih (fun i s hi => h i s (by omega)), h n _ (by omega)]
/-- .. where the states are what they are. -/
theorem forTo_congrI {σ : Type} {f g : Nat → σ → σ} (I : Nat → σ → Prop) (n : Nat) (hI : ∀ i s, i < n → I i s → I (i + 1) (f i s)) (h : ∀ i s, i < n → I i s → f i s = g i s) : ∀ s, I 0 s → forTo f n s = forTo g n s ∧ I n (forTo f n s) := by
  induction n with
  | zero => intro s h0; exact ⟨rfl, h0⟩
  | succ n ih =>
    intro s h0
    obtain ⟨e, hn⟩ := ih (fun i s hi => hI i s (by omega)) (fun i s hi => h i s (by omega)) s h0
    refine ⟨?_, hI n _ (by omega) hn⟩
    show f n (forTo f n s) = g n (forTo g n s)
    rw [h n _ (by omega) hn, e]
theorem forTo_inv {σ : Type} {f : Nat → σ → σ} (I : Nat → σ → Prop) (n : Nat) (hI : ∀ i s, i < n → I i s → I (i + 1) (f i s)) (s : σ) (h0 : I 0 s) : I n (forTo f n s) :=
  (forTo_congrI (g := f) I n hI (fun _ _ _ _ => rfl) s h0).2
theorem forTo_id {σ : Type} {f : Nat → σ → σ} (n : Nat) (s : σ) (h : ∀ i, i < n → f i s = s) : forTo f n s = s := by
  induction n with
  | zero => rfl
  | succ n ih => show f n (forTo f n s) = s; rw [ih (fun i hi => h i (by omega)), h n (by omega)]
theorem forTo_foldl {α σ : Type} (st : σ → α → σ) (z : α) (l : List α) (s : σ) : forTo (fun i s => st s (l.getD i z)) l.length s = l.foldl st s := by
  have key : ∀ i, i ≤ l.length → forTo (fun i s => st s (l.getD i z)) i s = (l.take i).foldl st s := by
    intro i
    induction i with
    | zero => intro _; rfl
    | succ i ih =>
      intro hi
      show st (forTo _ i s) (l.getD i z) = _
      rw [ih (by omega), List.take_succ_eq_append_getElem (by omega), List.foldl_append]
      simp [List.getD, show i < l.length by omega]
  have := key l.length (Nat.le_refl _)
  rwa [List.take_length] at this
theorem forTo_map {α : Type} (f : Nat → α) (n : Nat) (acc : List α) : forTo (fun i s => s ++ [f i]) n acc = acc ++ (List.range n).map f := by
  induction n with
  | zero => simp [forTo]
  | succ n ih => show forTo _ n acc ++ [f n] = _; rw [ih, List.range_succ, List.map_append, List.append_assoc]; rfl
theorem forTo_flat {α : Type} (f : Nat → List α) (n : Nat) (acc : List α) : forTo (fun i s => s ++ f i) n acc = acc ++ (List.range n).flatMap f := by
  induction n with
  | zero => simp [forTo]
  | succ n ih => show forTo _ n acc ++ f n = _; rw [ih, List.range_succ, List.flatMap_append, List.append_assoc]; simp
theorem range_getD {α β : Type} (f : α → List β) (z : α) (l : List α) : (List.range l.length).flatMap (fun i => f (l.getD i z)) = l.flatMap f := by
  have key : ∀ i, i ≤ l.length → (List.range i).flatMap (fun i => f (l.getD i z)) = (l.take i).flatMap f := by
    intro i
    induction i with
    | zero => intro _; rfl
    | succ i ih =>
      intro hi
      rw [List.range_succ, List.flatMap_append, ih (by omega), List.take_succ_eq_append_getElem (by omega), List.flatMap_append]
      simp [List.getD, show i < l.length by omega]
  have := key l.length (Nat.le_refl _)
  rwa [List.take_length] at this
theorem flat_filter {α : Type} (p : α → Bool) (l : List α) : l.flatMap (fun x => if p x = true then [x] else []) = l.filter p := by
  induction l with
  | nil => rfl
  | cons x l ih => cases h : p x <;> simp [h, ih]

/-- A loop that goes up: what comes behind it comes behind its last state. -/
theorem for_ev {σ ρ : Type} (n : Nat) (f : Nat → σ → σ) (I : Nat → σ → Prop) (g : Nat → Int → σ → Option ρ) (R : ρ) (s0 : σ) (hn : n ≤ 9223372036854775806)
    (h : ∀ (i : Nat) s, i < n → I i s → Ev (fun k => g k (wrap64 ((i : Int) + 1)) (f i s)) R → Ev (fun k => g k (i : Nat) s) R)
    (hI : ∀ i s, i < n → I i s → I (i + 1) (f i s)) (h0 : I 0 s0)
    (hx : I n (forTo f n s0) → Ev (fun k => g k (n : Nat) (forTo f n s0)) R) : Ev (fun k => g k 0 s0) R := by
  have inv : ∀ i, i ≤ n → I i (forTo f i s0) := by
    intro i
    induction i with
    | zero => intro _; exact h0
    | succ i ih => intro hi; exact hI i _ (by omega) (ih (by omega))
  have key : ∀ i, i ≤ n → Ev (fun k => g k (i : Nat) (forTo f i s0)) R := by
    refine up (p := fun i => Ev (fun k => g k (i : Nat) (forTo f i s0)) R) n (hx (inv n (Nat.le_refl _))) ?_
    intro i hi ih
    refine h i _ hi (inv i (by omega)) ?_
    rw [wrap_id (by omega) (by omega)]
    exact ih
  exact key 0 (Nat.zero_le _)
theorem if_tf (b : Bool) : (if b = true then true else false) = b := by cases b <;> rfl
theorem range_all {α : Type} (p : α → Bool) (z : α) (l : List α) : (List.range l.length).all (fun i => p (l.getD i z)) = l.all p := by
  rw [Bool.eq_iff_iff, List.all_eq_true, List.all_eq_true]
  constructor
  · intro h x hx
    obtain ⟨i, hi, rfl⟩ := List.getElem_of_mem hx
    have := h i (List.mem_range.2 hi)
    simpa [List.getD, hi] using this
  · intro h i hi
    exact h _ (by simp [List.getD, List.mem_range.1 hi])
/-- A loop that asks, and goes on where all is well. -/
theorem ask_ev {ρ : Type} (n : Nat) (P : Nat → Bool) (g : Nat → Int → Option ρ) (R no : ρ) (hn : n ≤ 9223372036854775806)
    (h : ∀ (i : Nat) (Q : ρ), i < n → P i = true → Ev (fun k => g k (wrap64 ((i : Int) + 1))) Q → Ev (fun k => g k (i : Nat)) Q)
    (hno : ∀ i : Nat, i < n → P i = false → Ev (fun k => g k (i : Nat)) no)
    (hx : (∀ i, i < n → P i = true) → Ev (fun k => g k (n : Nat)) R) : Ev (fun k => g k 0) (if (List.range n).all P = true then R else no) := by
  have key : ∀ i, i ≤ n → (∀ j, j < i → P j = true) → Ev (fun k => g k (i : Nat)) (if (List.range n).all P = true then R else no) := by
    refine up (p := fun i => (∀ j, j < i → P j = true) → Ev (fun k => g k (i : Nat)) (if (List.range n).all P = true then R else no)) n ?_ ?_
    · intro hall
      rw [if_pos (by rw [List.all_eq_true]; intro j hj; exact hall j (List.mem_range.1 hj))]
      exact hx hall
    · intro i hi ih hall
      cases hP : P i
      · rw [if_neg (by intro ha; rw [List.all_eq_true] at ha; have := ha i (List.mem_range.2 hi); rw [hP] at this; cases this)]
        exact hno i hi hP
      · refine h i _ hi hP ?_
        rw [wrap_id (by omega) (by omega)]
        exact ih (fun j hj => by
          rcases Nat.lt_or_ge j i with c | c
          · exact hall j c
          · rw [show j = i by omega]; exact hP)
  exact key 0 (Nat.zero_le _) (fun j hj => absurd hj (Nat.not_lt_zero _))
/-- More than one round for a round. -/
theorem ev_more {α : Type} {g f : Nat → Option α} {r : α} (m : Nat) (h : ∀ k, g (k + m) = f k) (k : Ev f r) : Ev g r := by
  obtain ⟨K, k⟩ := k
  refine ⟨K + m, fun n hn => ?_⟩
  obtain ⟨j, rfl⟩ : ∃ j, n = j + m := ⟨n - m, by omega⟩
  rw [h]
  exact k j (by omega)
/-- A call that answers from m rounds on. -/
theorem ev_at {α : Type} {g : Nat → Option α} {r : α} (m : Nat) (h : ∀ k, g (k + m) = some r) : Ev g r := ev_more m h (Ev.now r)

end Go.Proofs.Ytdbgnoolokfafaa.Plain
