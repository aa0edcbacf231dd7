/- Merged: Among, Cover, Cur, Edges, For, Grow, ImplMask, In, Num, Pts, PureFnCover, Steps, Turn, Wide, Winding. -/
import Derived.Test.YtdbgnoolokfafaaZPlain
import Derived.Laws.MathBits
import Derived.Laws.BitsAllLaws
import Derived.Test.YtdbgnoolokfafaaZHFnCoverx
/- More facts on numbers: quotients, squares, roots. -/
namespace Go.Proofs.Ytdbgnoolokfafaa.Plain
open Go.RowKit Go.Proofs.YtdbgnoolokfafaaW.PrintWords Go.Proofs.YtdbgnoolokfafaaW.PrintLast
theorem tdiv_nn {a : Int} (h : 0 ≤ a) (b : Int) : Int.tdiv a b = a / b := Int.tdiv_eq_ediv_of_nonneg h
theorem tmod_nn {a : Int} (h : 0 ≤ a) (b : Int) : Int.tmod a b = a % b := Int.tmod_eq_emod_of_nonneg h
end Go.Proofs.Ytdbgnoolokfafaa.Plain
/- Wide products, as two halves of 64 bits. -/
namespace Go.Proofs.Ytdbgnoolokfafaa.Plain
open Go.RowKit Go.Proofs.YtdbgnoolokfafaaW.PrintWords Go.Proofs.YtdbgnoolokfafaaW.PrintLast
theorem div_between {n b q : Int} (hb : 0 < b) (h0 : q * b ≤ n) (h1 : n < (q + 1) * b) : n / b = q :=
  Int.le_antisymm (Int.lt_add_one_iff.1 (Int.ediv_lt_of_lt_mul hb h1)) (Int.le_ediv_of_mul_le hb h0)
theorem tdiv_neg_num {a : Int} (h : a < 0) (b : Int) : Int.tdiv a b = -((-a) / b) ∧ Int.tmod a b = -((-a) % b) := by
  obtain ⟨c, rfl⟩ : ∃ c, a = -c := ⟨-a, by omega⟩
  rw [Int.neg_tdiv, Int.neg_tmod, tdiv_nn (by omega), tmod_nn (by omega), Int.neg_neg]
  exact ⟨rfl, rfl⟩
/-- A quotient rounded down, by the machine's. -/
theorem down_num (a : Int) {b : Int} (hb : 0 < b) : (if Int.tmod a b < 0 then Int.tdiv a b - 1 else Int.tdiv a b) = a / b := by
  rcases (by omega : 0 ≤ a ∨ a < 0) with h | h
  · rw [tmod_nn h, tdiv_nn h, if_neg (by have := Int.emod_nonneg a (by omega : b ≠ 0); omega)]
  · obtain ⟨h1, h2⟩ := tdiv_neg_num h b
    rw [h1, h2]
    have e := Int.mul_ediv_add_emod (-a) b
    have e0 := Int.emod_nonneg (-a) (by omega : b ≠ 0)
    have e1 := Int.emod_lt_of_pos (-a) hb
    generalize (-a) / b = q at *
    generalize (-a) % b = r at *
    split
    · refine (div_between hb ?_ ?_).symm
      · rw [show -q - 1 = -(q + 1) by omega, Int.neg_mul, Int.add_mul, Int.mul_comm q]; omega
      · rw [show -q - 1 + 1 = -q by omega, Int.neg_mul, Int.mul_comm q]; omega
    · refine (div_between hb ?_ ?_).symm
      · rw [Int.neg_mul, Int.mul_comm q]; omega
      · rw [show -q + 1 = -(q - 1) by omega, Int.neg_mul, Int.sub_mul, Int.mul_comm q]; omega
theorem tdiv_small {a b : Int} (hb : 0 < b) (h0 : -9223372036854775807 ≤ a) (h1 : a ≤ 9223372036854775807) : -9223372036854775807 ≤ Int.tdiv a b ∧ Int.tdiv a b ≤ 9223372036854775807 := by
  rcases (by omega : 0 ≤ a ∨ a < 0) with h | h
  · rw [tdiv_nn h]
    have h2 := Int.ediv_nonneg h (by omega : 0 ≤ b)
    have h3 := Int.ediv_le_self b h
    omega
  · rw [(tdiv_neg_num h b).1]
    have h2 := Int.ediv_nonneg (by omega : 0 ≤ -a) (by omega : 0 ≤ b)
    have h3 := Int.ediv_le_self b (by omega : 0 ≤ -a)
    omega
end Go.Proofs.Ytdbgnoolokfafaa.Plain
/- A list that grows, element by element. -/
namespace Go.Proofs.Ytdbgnoolokfafaa.Plain
open Go.RowKit Go.Proofs.YtdbgnoolokfafaaW.PrintWords Go.Proofs.YtdbgnoolokfafaaW.PrintLast
set_option linter.unusedVariables false
theorem range_map_snoc {β : Type} (f : Nat → β) (i : Nat) : (List.range i).map f ++ [f i] = (List.range (i + 1)).map f := by simp [List.range_succ]
/-- A walk that appends: the i-th thing is f i. -/
theorem grow_ev {β ρ : Type} (n : Nat) (f : Nat → β) (fin : List β → ρ) (hn : n ≤ 9223372036854775806) (g : Nat → Int → List β → Option ρ)
    (h : ∀ (k i : Nat) ys, i < n → ys.length = i → g (k + 1) i ys = g k (wrap64 ((i : Int) + 1)) (ys ++ [f i]))
    (he : ∀ k ys, ys.length = n → g (k + 1) n ys = some (fin ys)) : Ev (fun k => g k 0 []) (fin ((List.range n).map f)) := by
  have key : ∀ i, i ≤ n → Ev (fun k => g k (i : Nat) ((List.range i).map f)) (fin ((List.range n).map f)) := by
    refine up (p := fun i => Ev (fun k => g k (i : Nat) ((List.range i).map f)) (fin ((List.range n).map f))) n ?_ ?_
    · exact ev_some fun k => he k _ (by simp)
    · intro i hi ih
      refine Ev.step (f := fun k => g k ((i + 1 : Nat) : Int) ((List.range (i + 1)).map f)) (fun k => ?_) ih
      show g (k + 1) _ _ = _
      rw [h k i _ hi (by simp), range_map_snoc, wrap_id (by omega) (by omega)]
      rfl
  exact key 0 (Nat.zero_le _)
end Go.Proofs.Ytdbgnoolokfafaa.Plain
/- Loops whose rounds run inner loops. -/
namespace Go.Proofs.Ytdbgnoolokfafaa.Plain
open Go.RowKit Go.Proofs.YtdbgnoolokfafaaW.PrintWords Go.Proofs.YtdbgnoolokfafaaW.PrintLast
set_option linter.unusedVariables false
/-- Two loops, one in the other, that ask. -/
theorem all2_ev (N : Nat) (n : Nat → Nat) (P : Nat → Nat → Bool) (hN : N ≤ 9223372036854775806) (hn : ∀ i, i < N → n i ≤ 9223372036854775806) (g0 : Nat → Int → Option Bool) (g1 : Nat → Nat → Int → Option Bool)
    (h0 : ∀ k (i : Nat), i < N → g0 (k + 1) i = g1 k i 0) (h0e : ∀ k, g0 (k + 1) N = some true)
    (h1 : ∀ k (i j : Nat), i < N → j < n i → g1 (k + 1) i j = if P i j = true then g1 k i (wrap64 ((j : Int) + 1)) else some false)
    (h1e : ∀ k (i : Nat), i < N → g1 (k + 1) i (n i) = g0 k (wrap64 ((i : Int) + 1))) :
    Ev (fun k => g0 k 0) ((List.range N).all fun i => (List.range (n i)).all (P i)) := by
  classical
  have key : ∀ i, i ≤ N → Ev (fun k => g0 k (i : Nat)) (decide (∀ i', i ≤ i' → i' < N → ∀ j, j < n i' → P i' j = true)) := by
    refine up (p := fun i => Ev (fun k => g0 k (i : Nat)) (decide (∀ i', i ≤ i' → i' < N → ∀ j, j < n i' → P i' j = true))) N ?_ ?_
    · rw [decide_eq_true (by intro i' h1 h2; omega)]
      exact ev_some fun k => h0e k
    · intro i hi ih
      have key1 : ∀ j, j ≤ n i → Ev (fun k => g1 k i (j : Nat)) (decide ((∀ j', j ≤ j' → j' < n i → P i j' = true) ∧ ∀ i', i + 1 ≤ i' → i' < N → ∀ j, j < n i' → P i' j = true)) := by
        refine up (p := fun j => Ev (fun k => g1 k i (j : Nat)) (decide ((∀ j', j ≤ j' → j' < n i → P i j' = true) ∧ ∀ i', i + 1 ≤ i' → i' < N → ∀ j, j < n i' → P i' j = true))) (n i) ?_ ?_
        · refine Ev.step (f := fun k => g0 k ((i + 1 : Nat) : Int)) (fun k => ?_) ?_
          · rw [h1e k i hi, wrap_id (by omega) (by omega)]; rfl
          · have e : ((∀ j', n i ≤ j' → j' < n i → P i j' = true) ∧ ∀ i', i + 1 ≤ i' → i' < N → ∀ j, j < n i' → P i' j = true) ↔ ∀ i', i + 1 ≤ i' → i' < N → ∀ j, j < n i' → P i' j = true := ⟨fun h => h.2, fun h => ⟨fun j' a b => by omega, h⟩⟩
            rw [decide_eq_decide.2 e]
            exact ih
        · intro j hj ihj
          cases hP : P i j
          · rw [decide_eq_false (fun h => by have := h.1 j (Nat.le_refl _) hj; rw [hP] at this; cases this)]
            exact ev_some fun k => by rw [h1 k i j hi hj, hP]; rfl
          · have e : ((∀ j', j ≤ j' → j' < n i → P i j' = true) ∧ ∀ i', i + 1 ≤ i' → i' < N → ∀ j, j < n i' → P i' j = true) ↔ ((∀ j', j + 1 ≤ j' → j' < n i → P i j' = true) ∧ ∀ i', i + 1 ≤ i' → i' < N → ∀ j, j < n i' → P i' j = true) := by
              refine ⟨fun h => ⟨fun j' a b => h.1 j' (by omega) b, h.2⟩, fun h => ⟨fun j' a b => ?_, h.2⟩⟩
              rcases Nat.lt_or_ge j j' with c | c
              · exact h.1 j' (by omega) b
              · rw [show j' = j by omega]; exact hP
            rw [decide_eq_decide.2 e]
            refine Ev.step (f := fun k => g1 k i ((j + 1 : Nat) : Int)) (fun k => ?_) ihj
            have := hn i hi
            rw [h1 k i j hi hj, hP, if_pos rfl, wrap_id (by omega) (by omega)]; rfl
      have e : (∀ i', i ≤ i' → i' < N → ∀ j, j < n i' → P i' j = true) ↔ ((∀ j', 0 ≤ j' → j' < n i → P i j' = true) ∧ ∀ i', i + 1 ≤ i' → i' < N → ∀ j, j < n i' → P i' j = true) := by
        refine ⟨fun h => ⟨fun j' a b => h i (Nat.le_refl _) hi j' b, fun i' a b => h i' (by omega) b⟩, fun h i' a b j c => ?_⟩
        rcases Nat.lt_or_ge i i' with d | d
        · exact h.2 i' (by omega) b j c
        · have : i' = i := by omega
          subst this
          exact h.1 j (Nat.zero_le _) c
      rw [decide_eq_decide.2 e]
      exact Ev.step (f := fun k => g1 k i ((0 : Nat) : Int)) (fun k => by rw [h0 k i hi]; rfl) (key1 0 (Nat.zero_le _))
  have := key 0 (Nat.zero_le _)
  have e : decide (∀ i', 0 ≤ i' → i' < N → ∀ j, j < n i' → P i' j = true) = ((List.range N).all fun i => (List.range (n i)).all (P i)) := by
    rw [Bool.eq_iff_iff]
    simp
  rw [e] at this
  exact this
/-- What two loops, one in the other, have gathered at a place. -/
def gath {γ : Type} (n : Nat → Nat) (f : Nat → Nat → List γ) (i j : Nat) : List γ := ((List.range i).flatMap fun a => (List.range (n a)).flatMap (f a)) ++ (List.range j).flatMap (f i)
theorem gath_in {γ : Type} (n : Nat → Nat) (f : Nat → Nat → List γ) (i j : Nat) : gath n f i j ++ f i j = gath n f i (j + 1) := by simp [gath, List.range_succ]
theorem gath_out {γ : Type} (n : Nat → Nat) (f : Nat → Nat → List γ) (i : Nat) : gath n f i (n i) = gath n f (i + 1) 0 := by simp [gath, List.range_succ]
/-- Two loops, one in the other, that gather. -/
theorem gath_ev {γ ρ : Type} (N : Nat) (n : Nat → Nat) (f : Nat → Nat → List γ) (fin : List γ → ρ) (hN : N ≤ 9223372036854775806) (hn : ∀ i, i < N → n i ≤ 9223372036854775806) (g0 : Nat → Int → List γ → Option ρ) (g1 : Nat → Nat → Int → List γ → Option ρ)
    (h0 : ∀ k (i : Nat) acc, i < N → g0 (k + 1) i acc = g1 k i 0 acc) (h0e : ∀ k acc, g0 (k + 1) N acc = some (fin acc))
    (h1 : ∀ k (i j : Nat), i < N → j < n i → g1 (k + 1) i j (gath n f i j) = g1 k i (wrap64 ((j : Int) + 1)) (gath n f i j ++ f i j))
    (h1e : ∀ k (i : Nat) acc, i < N → g1 (k + 1) i (n i) acc = g0 k (wrap64 ((i : Int) + 1)) acc) :
    Ev (fun k => g0 k 0 []) (fin (gath n f N 0)) := by
  have key : ∀ i, i ≤ N → Ev (fun k => g0 k (i : Nat) (gath n f i 0)) (fin (gath n f N 0)) := by
    refine up (p := fun i => Ev (fun k => g0 k (i : Nat) (gath n f i 0)) (fin (gath n f N 0))) N ?_ ?_
    · exact ev_some fun k => h0e k _
    · intro i hi ih
      have key1 : ∀ j, j ≤ n i → Ev (fun k => g1 k i (j : Nat) (gath n f i j)) (fin (gath n f N 0)) := by
        refine up (p := fun j => Ev (fun k => g1 k i (j : Nat) (gath n f i j)) (fin (gath n f N 0))) (n i) ?_ ?_
        · refine Ev.step (f := fun k => g0 k ((i + 1 : Nat) : Int) (gath n f (i + 1) 0)) (fun k => ?_) ih
          rw [h1e k i _ hi, gath_out, wrap_id (by omega) (by omega)]; rfl
        · intro j hj ihj
          refine Ev.step (f := fun k => g1 k i ((j + 1 : Nat) : Int) (gath n f i (j + 1))) (fun k => ?_) ihj
          have := hn i hi
          rw [h1 k i j hi hj, gath_in, wrap_id (by omega) (by omega)]; rfl
      exact Ev.step (f := fun k => g1 k i ((0 : Nat) : Int) (gath n f i 0)) (fun k => by rw [h0 k i _ hi]; rfl) (key1 0 (Nat.zero_le _))
  exact key 0 (Nat.zero_le _)
/-- How much is gathered at most. -/
def sumTo (n : Nat → Nat) : Nat → Nat
  | 0 => 0
  | i + 1 => sumTo n i + n i
theorem flat_len {γ : Type} (f : Nat → List γ) (h : ∀ j, (f j).length ≤ 1) (j : Nat) : ((List.range j).flatMap f).length ≤ j := by
  induction j with
  | zero => simp
  | succ j ih => have := h j; simp [List.range_succ] at ih ⊢; omega
theorem gath_len {γ : Type} (n : Nat → Nat) (f : Nat → Nat → List γ) (h : ∀ i j, (f i j).length ≤ 1) (i j : Nat) : (gath n f i j).length ≤ sumTo n i + j := by
  have h2 := flat_len (f i) (h i) j
  have h1 : ∀ i, ((List.range i).flatMap fun a => (List.range (n a)).flatMap (f a)).length ≤ sumTo n i := by
    intro i
    induction i with
    | zero => simp [sumTo]
    | succ i ih =>
      have := flat_len (f i) (h i) (n i)
      simp only [List.range_succ, List.flatMap_append, List.length_append, sumTo]
      simp only [List.flatMap_cons, List.flatMap_nil, List.append_nil]
      omega
  have := h1 i
  unfold gath
  rw [List.length_append]
  omega
theorem sumTo_le (n : Nat → Nat) {i j : Nat} (h : i ≤ j) : sumTo n i ≤ sumTo n j := by
  induction j with
  | zero => have : i = 0 := by omega
            subst this; exact Nat.le_refl _
  | succ j ih =>
    rcases Nat.lt_or_ge i (j + 1) with c | c
    · have := ih (by omega)
      show sumTo n i ≤ sumTo n j + n j
      omega
    · rw [show i = j + 1 by omega]; exact Nat.le_refl _
theorem flat_hom {α γ δ : Type} (φ : List γ → List δ) (h0 : φ [] = []) (h1 : ∀ a b, φ (a ++ b) = φ a ++ φ b) (g : α → List γ) (l : List α) : φ (l.flatMap g) = l.flatMap (fun a => φ (g a)) := by
  induction l with
  | nil => simpa using h0
  | cons x l ih => simp only [List.flatMap_cons, h1, ih]
theorem gath_hom {γ δ : Type} (φ : List γ → List δ) (h0 : φ [] = []) (h1 : ∀ a b, φ (a ++ b) = φ a ++ φ b) (n : Nat → Nat) (f : Nat → Nat → List γ) (i j : Nat) : φ (gath n f i j) = gath n (fun a b => φ (f a b)) i j := by
  unfold gath
  rw [h1, flat_hom φ h0 h1, flat_hom φ h0 h1]
  congr 1
  congr 1
  funext a
  rw [flat_hom φ h0 h1]
/-- A loop over a list with a state, inner loops in its rounds. -/
theorem fold_evs {α σ ρ : Type} (xs : List α) (z : α) (step : σ → α → σ) (I : σ → Prop) (hI : ∀ s x, I s → I (step s x)) (fin : σ → ρ) (hn : xs.length ≤ 9223372036854775806) (g : Nat → Int → σ → Option ρ)
    (h : ∀ (i : Nat) s R, i < xs.length → I s → Ev (fun k => g k (wrap64 ((i : Int) + 1)) (step s (xs.getD i z))) R → Ev (fun k => g k i s) R)
    (he : ∀ k s, I s → g (k + 1) xs.length s = some (fin s)) (s : σ) (hs : I s) : Ev (fun k => g k 0 s) (fin (xs.foldl step s)) := by
  have key : ∀ i, i ≤ xs.length → ∀ s, I s → Ev (fun k => g k (i : Nat) s) (fin ((xs.drop i).foldl step s)) := by
    refine up (p := fun i => ∀ s, I s → Ev (fun k => g k (i : Nat) s) (fin ((xs.drop i).foldl step s))) xs.length ?_ ?_
    · intro s hs
      rw [List.drop_length]
      exact ev_some fun k => he k s hs
    · intro i hi ih s hs
      rw [List.drop_eq_getElem_cons hi]
      have hz : xs.getD i z = xs[i] := by simp [hi]
      refine h i s _ hi hs ?_
      rw [hz, wrap_id (by omega) (by omega)]
      exact ih _ (hI _ _ hs)
  exact key 0 (Nat.zero_le _) s hs
theorem fold_filter {α β σ : Type} (c : α → Option β) (st : σ → β → σ) (su : σ → α → σ) (I : σ → Prop) (hI : ∀ s x, I s → I (su s x)) (h : ∀ s x, I s → su s x = match c x with | none => s | some y => st s y) (xs : List α) : ∀ s, I s → (xs.filterMap c).foldl st s = xs.foldl su s := by
  induction xs with
  | nil => intro s _; rfl
  | cons x xs ih =>
    intro s hs
    have hx := h s x hs
    cases hc : c x with
    | none =>
      have hx' : su s x = s := by rw [hx, hc]
      rw [List.filterMap_cons_none hc, List.foldl_cons, ih s hs, hx']
    | some y =>
      have hx' : su s x = st s y := by rw [hx, hc]
      have hi : I (st s y) := by rw [← hx']; exact hI s x hs
      rw [List.filterMap_cons_some hc, List.foldl_cons, List.foldl_cons, hx', ih _ hi]
end Go.Proofs.Ytdbgnoolokfafaa.Plain
/- Loops that go up with a state, inner loops in their rounds. -/
namespace Go.Proofs.Ytdbgnoolokfafaa.Plain
open Go.RowKit Go.Proofs.YtdbgnoolokfafaaW.PrintWords Go.Proofs.YtdbgnoolokfafaaW.PrintLast
set_option linter.unusedVariables false
set_option linter.unusedSimpArgs false
/-- n rounds with a state. -/
def forTo {σ : Type} (f : Nat → σ → σ) : Nat → σ → σ
  | 0, s => s
  | n + 1, s => f n (forTo f n s)
theorem forTo_add {σ : Type} (f : Nat → σ → σ) (m : Nat) : ∀ n s, forTo f (m + n) s = forTo (fun k => f (m + k)) n (forTo f m s)
  | 0, s => rfl
  | n + 1, s => by
    show f (m + n) (forTo f (m + n) s) = f (m + n) (forTo (fun k => f (m + k)) n (forTo f m s))
    rw [forTo_add f m n s]
theorem forTo_split {σ : Type} (f : Nat → σ → σ) (b : Nat) : ∀ a s, forTo f (a * b) s = forTo (fun v s => forTo (fun k => f (v * b + k)) b s) a s
  | 0, s => by rw [Nat.zero_mul]; rfl
  | a + 1, s => by
    rw [show (a + 1) * b = a * b + b from Nat.succ_mul a b, forTo_add, forTo_split f b a s]
    rfl
theorem forTo_congr {σ : Type} {f g : Nat → σ → σ} (n : Nat) (h : ∀ i s, i < n → f i s = g i s) : ∀ s, forTo f n s = forTo g n s := by
  induction n with
  | zero => intro s; rfl
  | succ n ih =>
    intro s
    show f n (forTo f n s) = g n (forTo g n s)
    rw [ih (fun i s hi => h i s (by omega)), h n _ (by omega)]
/-- .. where the states are what they are. -/
theorem forTo_congrI {σ : Type} {f g : Nat → σ → σ} (I : Nat → σ → Prop) (n : Nat) (hI : ∀ i s, i < n → I i s → I (i + 1) (f i s)) (h : ∀ i s, i < n → I i s → f i s = g i s) : ∀ s, I 0 s → forTo f n s = forTo g n s ∧ I n (forTo f n s) := by
  induction n with
  | zero => intro s h0; exact ⟨rfl, h0⟩
  | succ n ih =>
    intro s h0
    obtain ⟨e, hn⟩ := ih (fun i s hi => hI i s (by omega)) (fun i s hi => h i s (by omega)) s h0
    refine ⟨?_, hI n _ (by omega) hn⟩
    show f n (forTo f n s) = g n (forTo g n s)
    rw [h n _ (by omega) hn, e]
theorem forTo_inv {σ : Type} {f : Nat → σ → σ} (I : Nat → σ → Prop) (n : Nat) (hI : ∀ i s, i < n → I i s → I (i + 1) (f i s)) (s : σ) (h0 : I 0 s) : I n (forTo f n s) :=
  (forTo_congrI (g := f) I n hI (fun _ _ _ _ => rfl) s h0).2
theorem forTo_id {σ : Type} {f : Nat → σ → σ} (n : Nat) (s : σ) (h : ∀ i, i < n → f i s = s) : forTo f n s = s := by
  induction n with
  | zero => rfl
  | succ n ih => show f n (forTo f n s) = s; rw [ih (fun i hi => h i (by omega)), h n (by omega)]
theorem forTo_foldl {α σ : Type} (st : σ → α → σ) (z : α) (l : List α) (s : σ) : forTo (fun i s => st s (l.getD i z)) l.length s = l.foldl st s := by
  have key : ∀ i, i ≤ l.length → forTo (fun i s => st s (l.getD i z)) i s = (l.take i).foldl st s := by
    intro i
    induction i with
    | zero => intro _; rfl
    | succ i ih =>
      intro hi
      show st (forTo _ i s) (l.getD i z) = _
      rw [ih (by omega), List.take_succ_eq_append_getElem (by omega), List.foldl_append]
      simp [List.getD, show i < l.length by omega]
  have := key l.length (Nat.le_refl _)
  rwa [List.take_length] at this
theorem forTo_flat {α : Type} (f : Nat → List α) (n : Nat) (acc : List α) : forTo (fun i s => s ++ f i) n acc = acc ++ (List.range n).flatMap f := by
  induction n with
  | zero => simp [forTo]
  | succ n ih => show forTo _ n acc ++ f n = _; rw [ih, List.range_succ, List.flatMap_append, List.append_assoc]; simp
theorem range_getD {α β : Type} (f : α → List β) (z : α) (l : List α) : (List.range l.length).flatMap (fun i => f (l.getD i z)) = l.flatMap f := by
  have key : ∀ i, i ≤ l.length → (List.range i).flatMap (fun i => f (l.getD i z)) = (l.take i).flatMap f := by
    intro i
    induction i with
    | zero => intro _; rfl
    | succ i ih =>
      intro hi
      rw [List.range_succ, List.flatMap_append, ih (by omega), List.take_succ_eq_append_getElem (by omega), List.flatMap_append]
      simp [List.getD, show i < l.length by omega]
  have := key l.length (Nat.le_refl _)
  rwa [List.take_length] at this
theorem flat_filter {α : Type} (p : α → Bool) (l : List α) : l.flatMap (fun x => if p x = true then [x] else []) = l.filter p := by
  induction l with
  | nil => rfl
  | cons x l ih => cases h : p x <;> simp [h, ih]
/-- A loop that goes up: what comes behind it comes behind its last state. -/
theorem for_ev {σ ρ : Type} (n : Nat) (f : Nat → σ → σ) (I : Nat → σ → Prop) (g : Nat → Int → σ → Option ρ) (R : ρ) (s0 : σ) (hn : n ≤ 9223372036854775806)
    (h : ∀ (i : Nat) s, i < n → I i s → Ev (fun k => g k (wrap64 ((i : Int) + 1)) (f i s)) R → Ev (fun k => g k (i : Nat) s) R)
    (hI : ∀ i s, i < n → I i s → I (i + 1) (f i s)) (h0 : I 0 s0)
    (hx : I n (forTo f n s0) → Ev (fun k => g k (n : Nat) (forTo f n s0)) R) : Ev (fun k => g k 0 s0) R := by
  have inv : ∀ i, i ≤ n → I i (forTo f i s0) := by
    intro i
    induction i with
    | zero => intro _; exact h0
    | succ i ih => intro hi; exact hI i _ (by omega) (ih (by omega))
  have key : ∀ i, i ≤ n → Ev (fun k => g k (i : Nat) (forTo f i s0)) R := by
    refine up (p := fun i => Ev (fun k => g k (i : Nat) (forTo f i s0)) R) n (hx (inv n (Nat.le_refl _))) ?_
    intro i hi ih
    refine h i _ hi (inv i (by omega)) ?_
    rw [wrap_id (by omega) (by omega)]
    exact ih
  exact key 0 (Nat.zero_le _)
/-- More than one round for a round. -/
theorem ev_more {α : Type} {g f : Nat → Option α} {r : α} (m : Nat) (h : ∀ k, g (k + m) = f k) (k : Ev f r) : Ev g r := by
  obtain ⟨K, k⟩ := k
  refine ⟨K + m, fun n hn => ?_⟩
  obtain ⟨j, rfl⟩ : ∃ j, n = j + m := ⟨n - m, by omega⟩
  rw [h]
  exact k j (by omega)
end Go.Proofs.Ytdbgnoolokfafaa.Plain
/- Sums around a line: the way it goes, and where it begins. -/
namespace Go.Proofs.Ytdbgnoolokfafaa.Plain
open Go.RowKit Go.Proofs.YtdbgnoolokfafaaW.PrintWords Go.Proofs.YtdbgnoolokfafaaW.PrintLast
set_option linter.unusedVariables false
def sumF : Nat → (Nat → Int) → Int
  | 0, _ => 0
  | n + 1, f => sumF n f + f n
theorem sumF_congr {n : Nat} {f g : Nat → Int} (h : ∀ j, j < n → f j = g j) : sumF n f = sumF n g := by
  induction n with
  | zero => rfl
  | succ n ih => simp only [sumF]; rw [ih (fun j hj => h j (by omega)), h n (by omega)]
theorem sumF_neg (n : Nat) (f : Nat → Int) : sumF n (fun j => -f j) = -sumF n f := by
  induction n with
  | zero => rfl
  | succ n ih => simp only [sumF]; rw [ih]; omega
theorem sumF_head (n : Nat) (f : Nat → Int) : sumF (n + 1) f = f 0 + sumF n (fun j => f (j + 1)) := by
  induction n with
  | zero => simp [sumF]
  | succ n ih =>
    have e : sumF (n + 2) f = sumF (n + 1) f + f (n + 1) := rfl
    rw [e, ih]
    simp only [sumF]
    omega
theorem sumF_rev (n : Nat) : ∀ f : Nat → Int, sumF n (fun j => f (n - 1 - j)) = sumF n f := by
  induction n with
  | zero => intro f; rfl
  | succ n ih =>
    intro f
    rw [sumF_head n (fun j => f (n + 1 - 1 - j))]
    show f (n + 1 - 1 - 0) + sumF n (fun j => f (n + 1 - 1 - (j + 1))) = sumF n f + f n
    rw [sumF_congr (g := fun j => f (n - 1 - j)) (fun j hj => by rw [show n + 1 - 1 - (j + 1) = n - 1 - j by omega]), ih f, show n + 1 - 1 - 0 = n by omega]
    omega
theorem sumF_shift1 (n : Nat) (f : Nat → Int) : sumF n (fun j => f ((j + 1) % n)) = sumF n f := by
  cases n with
  | zero => rfl
  | succ n =>
    have e : sumF (n + 1) (fun j => f ((j + 1) % (n + 1))) = sumF n (fun j => f ((j + 1) % (n + 1))) + f ((n + 1) % (n + 1)) := rfl
    rw [e, sumF_congr (g := fun j => f (j + 1)) (fun j hj => by rw [Nat.mod_eq_of_lt (by omega)]), Nat.mod_self, sumF_head]
    omega
theorem sumF_shift (n : Nat) (f : Nat → Int) : ∀ k : Nat, sumF n (fun j => f ((j + k) % n)) = sumF n f := by
  intro k
  induction k with
  | zero => exact sumF_congr fun j hj => by rw [Nat.add_zero, Nat.mod_eq_of_lt hj]
  | succ k ih =>
    rw [← ih, ← sumF_shift1 n (fun j => f ((j + k) % n))]
    refine sumF_congr fun j hj => ?_
    show f ((j + (k + 1)) % n) = f (((j + 1) % n + k) % n)
    rw [Nat.mod_add_mod]
    congr 2
    omega
/-- A line the other way round. -/
theorem back_sum {α : Type} (e : α → α → Int) (n : Nat) (p : Nat → α) (ha : ∀ i j, i < n → j < n → e (p j) (p i) = -e (p i) (p j)) :
    sumF n (fun j => e (p (n - 1 - j)) (p (n - 1 - (j + 1) % n))) = -sumF n (fun j => e (p j) (p ((j + 1) % n))) := by
  cases n with
  | zero => rfl
  | succ n =>
    have e1 : sumF (n + 1) (fun j => e (p (n + 1 - 1 - j)) (p (n + 1 - 1 - (j + 1) % (n + 1)))) = sumF n (fun j => e (p (n + 1 - 1 - j)) (p (n + 1 - 1 - (j + 1) % (n + 1)))) + e (p 0) (p n) := by
      show _ + e (p (n + 1 - 1 - n)) (p (n + 1 - 1 - (n + 1) % (n + 1))) = _
      rw [Nat.mod_self, show n + 1 - 1 - n = 0 by omega]
      rfl
    have e2 : sumF (n + 1) (fun j => e (p j) (p ((j + 1) % (n + 1)))) = sumF n (fun j => e (p j) (p ((j + 1) % (n + 1)))) + e (p n) (p 0) := by
      show _ + e (p n) (p ((n + 1) % (n + 1))) = _
      rw [Nat.mod_self]
    have e3 : sumF n (fun j => e (p (n + 1 - 1 - j)) (p (n + 1 - 1 - (j + 1) % (n + 1)))) = sumF n (fun j => -(fun i => e (p i) (p ((i + 1) % (n + 1)))) (n - 1 - j)) := by
      refine sumF_congr fun j hj => ?_
      show _ = -e (p (n - 1 - j)) (p ((n - 1 - j + 1) % (n + 1)))
      rw [Nat.mod_eq_of_lt (show j + 1 < n + 1 by omega), Nat.mod_eq_of_lt (show n - 1 - j + 1 < n + 1 by omega), show n + 1 - 1 - j = n - 1 - j + 1 by omega, show n + 1 - 1 - (j + 1) = n - 1 - j by omega]
      exact ha _ _ (by omega) (by omega)
    rw [e1, e2, e3, sumF_neg, sumF_rev n (fun i => e (p i) (p ((i + 1) % (n + 1)))), ha n 0 (by omega) (by omega)]
    omega
/-- .. and one that begins elsewhere. -/
theorem turn_sum {α : Type} (e : α → α → Int) (n : Nat) (p : Nat → α) (k : Nat) :
    sumF n (fun j => e (p ((j + k) % n)) (p (((j + 1) % n + k) % n))) = sumF n (fun j => e (p j) (p ((j + 1) % n))) := by
  rw [← sumF_shift n (fun j => e (p j) (p ((j + 1) % n))) k]
  refine sumF_congr fun j hj => ?_
  show _ = e (p ((j + k) % n)) (p (((j + k) % n + 1) % n))
  rw [Nat.mod_add_mod, Nat.mod_add_mod, show j + 1 + k = j + k + 1 by omega]
end Go.Proofs.Ytdbgnoolokfafaa.Plain
/- Bounds asked by both sides. -/
namespace Go.Proofs.Ytdbgnoolokfafaa.HFnCover
open Go.RowKit Go.Proofs.YtdbgnoolokfafaaW.PrintWords Go.Proofs.YtdbgnoolokfafaaW.PrintLast Go.Proofs.Ytdbgnoolokfafaa.Plain
set_option linter.unusedSimpArgs false
set_option linter.unusedVariables false
theorem in_ (a b c : Int) : spec_l1In.f a b c = some (decide (b ≤ a ∧ a ≤ c)) := by
  unfold spec_l1In.f
  by_cases h : a ≥ b
  · rw [if_pos h]; simp [show b ≤ a from h]
  · rw [if_neg h]; simp [show ¬ b ≤ a from h]
theorem within_ (a b c : Int) : impl_within.f a b c = some (decide (b ≤ a ∧ a ≤ c)) := in_ a b c
end Go.Proofs.Ytdbgnoolokfafaa.HFnCover
/- Points of lines, counted. -/
namespace Go.Proofs.Ytdbgnoolokfafaa.HFnCover
open Go.RowKit Go.Proofs.YtdbgnoolokfafaaW.PrintWords Go.Proofs.YtdbgnoolokfafaaW.PrintLast Go.Proofs.Ytdbgnoolokfafaa.Plain
set_option linter.unusedSimpArgs false
set_option linter.unusedVariables false
/-- How many points a line has. -/
def pts (l : List S83) (i : Nat) : Nat := (l.getD i z83).f0.length
theorem sum_same {n m : Nat → Nat} {j : Nat} (h : ∀ i, i < j → n i = m i) : sumTo n j = sumTo m j := by
  induction j with
  | zero => rfl
  | succ j ih => simp only [sumTo]; rw [ih (fun i hi => h i (by omega)), h j (by omega)]
theorem le_sum (n : Nat → Nat) {i j : Nat} (h : i < j) : n i ≤ sumTo n j := Nat.le_trans (by show n i ≤ sumTo n i + n i; omega) (sumTo_le n (show i + 1 ≤ j from h))
end Go.Proofs.Ytdbgnoolokfafaa.HFnCover
/- Segments of lines, by both sides. -/
namespace Go.Proofs.Ytdbgnoolokfafaa.HFnCover
open Go.RowKit Go.Proofs.YtdbgnoolokfafaaW.PrintWords Go.Proofs.YtdbgnoolokfafaaW.PrintLast Go.Proofs.Ytdbgnoolokfafaa.Plain
set_option linter.unusedSimpArgs false
set_option linter.unusedVariables false
/-- Near. -/
def near (x y : Int) : Bool := decide (-67108864 ≤ x ∧ x ≤ 67108864) && decide (-67108864 ≤ y ∧ y ≤ 67108864)
theorem near_of {x y : Int} (h : near x y = true) : (-67108864 ≤ x ∧ x ≤ 67108864) ∧ -67108864 ≤ y ∧ y ≤ 67108864 := by simpa [near] using h
theorem specNear (x y : Int) : spec_l10Point.f x y = some (near x y) := by
  unfold spec_l10Point.f near
  simp only [in_, Option.bind_some, decide_eq_true_eq]
  by_cases h : -67108864 ≤ x ∧ x ≤ 67108864
  · simp only [if_pos h, decide_eq_true h, Bool.true_and]
  · simp only [if_neg h, decide_eq_false h, Bool.false_and]
theorem implNear (x y : Int) : impl_isNear.f x y = some (near x y) := specNear x y
theorem lt_pts {l : List S83} {i j : Nat} (h : j < pts l i) : (j : Int) < ((rd_T83 l (i : Int)).f0.length : Int) := Int.ofNat_lt.2 h
/-- The j-th point of the i-th line. -/
def pt (l : List S83) (i j : Nat) : S25 := (l.getD i z83).f0.getD j z25
def allNear (l : List S83) : Bool := (List.range l.length).all fun i => (List.range (pts l i)).all fun j => near (pt l i j).f0 (pt l i j).f1
def linesOk (l : List S83) : Bool := if sumTo (pts l) l.length > 4800 then false else allNear l
theorem specMany (l : List S83) (hl : l.length ≤ 1048576) (hs : sumTo (pts l) l.length ≤ 1048576) : Ev (fun k => spec_l9Many.f k l) (sumTo (pts l) l.length : Nat) := by
  have key : ∀ i, i ≤ l.length → Ev (fun k => spec_l9Many.l0 k (sumTo (pts l) i : Nat) l l.length (i : Nat)) ((sumTo (pts l) l.length : Nat) : Int) := by
    refine up (p := fun i => Ev (fun k => spec_l9Many.l0 k (sumTo (pts l) i : Nat) l l.length (i : Nat)) ((sumTo (pts l) l.length : Nat) : Int)) l.length ?_ ?_
    · exact ev_some fun k => by rw [spec_l9Many.l0, if_neg (by omega)]
    · intro i hi ih
      have hb := sumTo_le (pts l) (show i + 1 ≤ l.length from hi)
      have hc : sumTo (pts l) (i + 1) = sumTo (pts l) i + pts l i := rfl
      refine Ev.step (f := fun k => spec_l9Many.l0 k (sumTo (pts l) (i + 1) : Nat) l l.length ((i + 1 : Nat) : Int)) (fun k => ?_) ih
      rw [spec_l9Many.l0, if_pos (by omega), if_pos (by omega), if_pos (by omega)]
      show spec_l9Many.l0 k (wrap64 (((sumTo (pts l) i : Nat) : Int) + ((pts l i : Nat) : Int))) _ _ _ = _
      rw [wrap_id (by omega) (by omega), wrap_id (n := (i : Int) + 1) (by omega) (by omega), hc]
      rfl
  exact key 0 (Nat.zero_le _)
theorem implMany (l : List S83) (hl : l.length ≤ 1048576) (hs : sumTo (pts l) l.length ≤ 1048576) : Ev (fun k => impl_countPoints.f k l) (sumTo (pts l) l.length : Nat) := by
  have e : ∀ k a b c d, impl_countPoints.l0 k a b c d = spec_l9Many.l0 k a b c d := by
    intro k
    induction k with
    | zero => intros; rfl
    | succ k ih => intros; simp only [impl_countPoints.l0, spec_l9Many.l0, ih]
  have := specMany l hl hs
  unfold spec_l9Many.f at this
  unfold impl_countPoints.f
  simp only [e]
  exact this
theorem specAll (l : List S83) (hl : l.length ≤ 1048576) (hs : sumTo (pts l) l.length ≤ 1048576) : Ev (fun k => spec_l11Lines.l0 k l l.length 0) (allNear l) :=
  all2_ev l.length (pts l) (fun i j => near (pt l i j).f0 (pt l i j).f1) (by omega) (fun i hi => by have := le_sum (pts l) hi; omega) (fun k i => spec_l11Lines.l0 k l l.length i) (fun k i j => spec_l11Lines.l1 k l l.length i ((rd_T83 l i).f0) (((rd_T83 l i).f0).length : Int) j)
    (fun k i hi => by
      show spec_l11Lines.l0 (k + 1) l l.length i = _
      rw [spec_l11Lines.l0, if_pos (by omega), if_pos (by omega), if_pos (by omega)])
    (fun k => by
      show spec_l11Lines.l0 (k + 1) l l.length _ = _
      rw [spec_l11Lines.l0, if_neg (by omega)])
    (fun k i j hi hj => by
      show spec_l11Lines.l1 (k + 1) l l.length i ((rd_T83 l i).f0) ((pts l i : Nat) : Int) j = _
      rw [spec_l11Lines.l1, if_pos (by omega), if_pos (by omega), if_pos (lt_pts hj), specNear]
      rfl)
    (fun k i hi => by
      show spec_l11Lines.l1 (k + 1) l l.length i ((rd_T83 l i).f0) ((pts l i : Nat) : Int) ((pts l i : Nat) : Int) = _
      rw [spec_l11Lines.l1, if_neg (by omega)])
theorem implAll (l : List S83) (hl : l.length ≤ 1048576) (hs : sumTo (pts l) l.length ≤ 1048576) : Ev (fun k => impl_areNear.f k l) (allNear l) :=
  all2_ev l.length (pts l) (fun i j => near (pt l i j).f0 (pt l i j).f1) (by omega) (fun i hi => by have := le_sum (pts l) hi; omega) (fun k i => impl_areNear.l0 k l l.length i) (fun k i j => impl_areNear.l1 k l l.length i ((rd_T83 l i).f0) (((rd_T83 l i).f0).length : Int) j)
    (fun k i hi => by
      show impl_areNear.l0 (k + 1) l l.length i = _
      rw [impl_areNear.l0, if_pos (by omega), if_pos (by omega), if_pos (by omega)])
    (fun k => by
      show impl_areNear.l0 (k + 1) l l.length _ = _
      rw [impl_areNear.l0, if_neg (by omega)])
    (fun k i j hi hj => by
      show impl_areNear.l1 (k + 1) l l.length i ((rd_T83 l i).f0) ((pts l i : Nat) : Int) j = _
      rw [impl_areNear.l1, if_pos (by omega), if_pos (by omega), if_pos (lt_pts hj), implNear]
      rfl)
    (fun k i hi => by
      show impl_areNear.l1 (k + 1) l l.length i ((rd_T83 l i).f0) ((pts l i : Nat) : Int) ((pts l i : Nat) : Int) = _
      rw [impl_areNear.l1, if_neg (by omega)])
theorem specLines (l : List S83) (hl : l.length ≤ 1048576) (hs : sumTo (pts l) l.length ≤ 1048576) : Ev (fun k => spec_l11Lines.f k l) (linesOk l) := by
  unfold spec_l11Lines.f
  refine Ev.bind (specMany l hl hs) ?_
  unfold linesOk
  by_cases h : sumTo (pts l) l.length > 4800
  · simp only [if_pos h, if_pos (show ((sumTo (pts l) l.length : Nat) : Int) > 4800 by omega)]; exact Ev.now _
  · simp only [if_neg h, if_neg (show ¬ ((sumTo (pts l) l.length : Nat) : Int) > 4800 by omega)]; exact specAll l hl hs
/-- A fine place. -/
def fine (n : Int) : Int := (n * 16 + 32768) / 65536
theorem specFine {n : Int} (h0 : -67108864 ≤ n) (h1 : n ≤ 67108864) : spec_l11Fine.f n = some (fine n) := by
  unfold spec_l11Fine.f spec_l1Down.f
  rw [wrap_id (n := n * 16) (by omega) (by omega), wrap_id (n := n * 16 + 32768) (by omega) (by omega), if_neg (by omega)]
  have e := down_num (n * 16 + 32768) (show (0 : Int) < 65536 by omega)
  have s := tdiv_small (a := n * 16 + 32768) (show (0 : Int) < 65536 by omega) (by omega) (by omega)
  rw [wrap_id (n := Int.tdiv (n * 16 + 32768) 65536) (by omega) (by omega)]
  unfold fine
  rcases (by omega : 0 ≤ n * 16 + 32768 ∨ n * 16 + 32768 < 0) with h | h
  · have e1 : Int.tdiv (n * 16 + 32768) 65536 = (n * 16 + 32768) / 65536 := tdiv_nn h _
    rw [decide_eq_false (show ¬ n * 16 + 32768 < 0 by omega), decide_eq_false (show ¬ (65536 : Int) < 0 by omega), if_neg (c := (false != false) = true) (by simp), e1]
    split <;> rfl
  · have e1 := (tdiv_neg_num h 65536).2
    rw [decide_eq_true h, decide_eq_false (show ¬ (65536 : Int) < 0 by omega), if_pos (c := (true != false) = true) rfl]
    split
    · rename_i hz
      rw [if_neg (by omega)] at e
      rw [e]; rfl
    · rename_i hz
      rw [if_pos (by omega)] at e
      rw [wrap_id (by omega) (by omega), e]; rfl
theorem implDown {n : Int} (h0 : -67108864 ≤ n) (h1 : n ≤ 67108864) : impl_down.f (wrap64 ((wrap64 (n * 16)) + 32768)) 65536 = some (fine n) := by
  unfold impl_down.f
  rw [wrap_id (n := n * 16) (by omega) (by omega), wrap_id (n := n * 16 + 32768) (by omega) (by omega), if_neg (by omega)]
  have e := down_num (n * 16 + 32768) (show (0 : Int) < 65536 by omega)
  have s := tdiv_small (a := n * 16 + 32768) (show (0 : Int) < 65536 by omega) (by omega) (by omega)
  rw [wrap_id (n := Int.tdiv (n * 16 + 32768) 65536) (by omega) (by omega)]
  unfold fine
  split
  · rename_i h
    rw [if_pos h] at e
    rw [wrap_id (by omega) (by omega), e]
  · rename_i h
    rw [if_neg h] at e
    rw [e]
theorem implFine {x y : Int} (h : near x y = true) : impl_FineOf.f x y = some (fine x, fine y, true) := by
  have n := near_of h
  unfold impl_FineOf.f
  simp only [implNear, Option.bind_some, h, if_true, implDown n.1.1 n.1.2, implDown n.2.1 n.2.2]
/-- The next point's number. -/
def nx (l : List S83) (i j : Nat) : Nat := (j + 1) % pts l i
def edgeA (l : List S83) (i j : Nat) : S175 := ⟨fine (pt l i j).f0, fine (pt l i j).f1, fine (pt l i (nx l i j)).f0, fine (pt l i (nx l i j)).f1⟩
def conv (e : S175) : Option S228 := if e.f1 = e.f3 then none else some ⟨e.f0, e.f1, e.f2, e.f3⟩
def edges (l : List S83) : List S175 := gath (pts l) (fun i j => [edgeA l i j]) l.length 0
theorem near_at {l : List S83} (h : allNear l = true) {i j : Nat} (hi : i < l.length) (hj : j < pts l i) : near (pt l i j).f0 (pt l i j).f1 = true := by
  unfold allNear at h
  rw [List.all_eq_true] at h
  have h1 := h i (List.mem_range.2 hi)
  rw [List.all_eq_true] at h1
  exact h1 j (List.mem_range.2 hj)
theorem next_num {l : List S83} {i j : Nat} (hj : j < pts l i) (hb : pts l i ≤ 1048576) : Int.tmod (wrap64 ((j : Int) + 1)) ((pts l i : Nat) : Int) = ((nx l i j : Nat) : Int) ∧ nx l i j < pts l i := by
  rw [wrap_id (by omega) (by omega), tmod_nn (by omega)]
  refine ⟨rfl, Nat.mod_lt _ (by omega)⟩
theorem specEdges (l : List S83) (hl : l.length ≤ 1048576) (hs : sumTo (pts l) l.length ≤ 1048576) (h : allNear l = true) : Ev (fun k => spec_l11Edges.f k l) ((edges l).filterMap conv) := by
  have hh := gath_hom (List.filterMap conv) rfl (fun a b => List.filterMap_append) (pts l) (fun i j => [edgeA l i j]) l.length 0
  unfold edges
  rw [hh]
  have hone : ∀ i j, (List.filterMap conv [edgeA l i j]).length ≤ 1 := fun i j => by
    cases hc : conv (edgeA l i j) <;> simp [hc]
  exact gath_ev l.length (pts l) (fun i j => List.filterMap conv [edgeA l i j]) (fun ys => ys) (by omega) (fun i hi => by have := le_sum (pts l) hi; omega)
    (fun k i acc => spec_l11Edges.l0 k acc l l.length i) (fun k i j acc => spec_l11Edges.l1 k acc (((rd_T83 l i).f0).length : Int) l l.length i ((rd_T83 l i).f0) (((rd_T83 l i).f0).length : Int) j ((rd_T83 l i).f0) ((rd_T83 l i).f1))
    (fun k i acc hi => by
      show spec_l11Edges.l0 (k + 1) acc l l.length i = _
      rw [spec_l11Edges.l0, if_pos (by omega), if_pos (by omega), if_pos (by omega)])
    (fun k acc => by
      show spec_l11Edges.l0 (k + 1) acc l l.length _ = _
      rw [spec_l11Edges.l0, if_neg (by omega)])
    (fun k i j hi hj => by
      have hb := le_sum (pts l) hi
      obtain ⟨e1, e2⟩ := next_num hj (by omega)
      have n1 := near_of (near_at h hi hj)
      have n2 := near_of (near_at h hi e2)
      have hg := gath_len (pts l) (fun i j => List.filterMap conv [edgeA l i j]) hone i j
      have hg2 := sumTo_le (pts l) (show i + 1 ≤ l.length from hi)
      have hg3 : sumTo (pts l) (i + 1) = sumTo (pts l) i + pts l i := rfl
      generalize hA : gath (pts l) (fun i j => List.filterMap conv [edgeA l i j]) i j = acc at hg ⊢
      show spec_l11Edges.l1 (k + 1) acc ((pts l i : Nat) : Int) l l.length i ((rd_T83 l i).f0) ((pts l i : Nat) : Int) j ((rd_T83 l i).f0) ((rd_T83 l i).f1) = _
      rw [spec_l11Edges.l1, if_pos (by omega), if_pos (by omega), if_pos (lt_pts hj), if_neg (by omega), e1, if_pos (by omega), if_pos (lt_pts e2)]
      have p1 : rd_T25 ((rd_T83 l i).f0) j = pt l i j := rfl
      have p2 : rd_T25 ((rd_T83 l i).f0) (nx l i j : Nat) = pt l i (nx l i j) := rfl
      rw [p1, p2, specFine n1.1.1 n1.1.2, Option.bind_some, specFine n1.2.1 n1.2.2, Option.bind_some, specFine n2.1.1 n2.1.2, Option.bind_some, specFine n2.2.1 n2.2.2, Option.bind_some]
      by_cases hc : fine (pt l i j).f1 = fine (pt l i (nx l i j)).f1
      · have e : List.filterMap conv [edgeA l i j] = [] := by simp [conv, edgeA, hc]
        rw [if_pos hc, e, List.append_nil]
        rfl
      · have e : List.filterMap conv [edgeA l i j] = [⟨fine (pt l i j).f0, fine (pt l i j).f1, fine (pt l i (nx l i j)).f0, fine (pt l i (nx l i j)).f1⟩] := by simp [conv, edgeA, hc]
        rw [if_neg hc, if_pos (by omega), e]
        rfl)
    (fun k i acc hi => by
      show spec_l11Edges.l1 (k + 1) acc ((pts l i : Nat) : Int) l l.length i ((rd_T83 l i).f0) ((pts l i : Nat) : Int) ((pts l i : Nat) : Int) ((rd_T83 l i).f0) ((rd_T83 l i).f1) = _
      rw [spec_l11Edges.l1, if_neg (by omega)])
theorem implEdges (l : List S83) (hl : l.length ≤ 1048576) (hs : sumTo (pts l) l.length ≤ 1048576) : Ev (fun k => impl_edgesOf.f k l) (if linesOk l = true then (edges l, true) else ([], false)) := by
  have none_ : Ev (fun k => impl_edgesOf.j0 k l true) ([], false) := ev_some fun k => by rw [impl_edgesOf.j0, if_pos rfl]
  unfold impl_edgesOf.f
  refine Ev.bind (implMany l hl hs) ?_
  unfold linesOk
  by_cases h : sumTo (pts l) l.length > 4800
  · simp only [if_pos h, if_pos (show ((sumTo (pts l) l.length : Nat) : Int) > 4800 by omega)]; exact none_
  simp only [if_neg h, if_neg (show ¬ ((sumTo (pts l) l.length : Nat) : Int) > 4800 by omega)]
  refine Ev.bind (implAll l hl hs) ?_
  cases hn : allNear l
  · exact none_
  simp only [if_true, Bool.not_true]
  refine Ev.step (f := fun k => impl_edgesOf.l0 k [] l l.length 0) (fun k => by rw [impl_edgesOf.j0, if_neg (by simp)]) ?_
  exact gath_ev l.length (pts l) (fun i j => [edgeA l i j]) (fun ys => (ys, true)) (by omega) (fun i hi => by have := le_sum (pts l) hi; omega)
    (fun k i acc => impl_edgesOf.l0 k acc l l.length i) (fun k i j acc => impl_edgesOf.l1 k acc (((rd_T83 l i).f0).length : Int) l l.length i ((rd_T83 l i).f0) (((rd_T83 l i).f0).length : Int) j ((rd_T83 l i).f0) ((rd_T83 l i).f1))
    (fun k i acc hi => by
      show impl_edgesOf.l0 (k + 1) acc l l.length i = _
      rw [impl_edgesOf.l0, if_pos (by omega), if_pos (by omega), if_pos (by omega)])
    (fun k acc => by
      show impl_edgesOf.l0 (k + 1) acc l l.length _ = _
      rw [impl_edgesOf.l0, if_neg (by omega)])
    (fun k i j hi hj => by
      have hb := le_sum (pts l) hi
      obtain ⟨e1, e2⟩ := next_num hj (by omega)
      have n1 := near_at hn hi hj
      have n2 := near_at hn hi e2
      have hg := gath_len (pts l) (fun i j => [edgeA l i j]) (fun i j => by simp) i j
      have hg2 := sumTo_le (pts l) (show i + 1 ≤ l.length from hi)
      have hg3 : sumTo (pts l) (i + 1) = sumTo (pts l) i + pts l i := rfl
      generalize hA : gath (pts l) (fun i j => [edgeA l i j]) i j = acc at hg ⊢
      show impl_edgesOf.l1 (k + 1) acc ((pts l i : Nat) : Int) l l.length i ((rd_T83 l i).f0) ((pts l i : Nat) : Int) j ((rd_T83 l i).f0) ((rd_T83 l i).f1) = _
      have p1 : rd_T25 ((rd_T83 l i).f0) j = pt l i j := rfl
      have p2 : rd_T25 ((rd_T83 l i).f0) (nx l i j : Nat) = pt l i (nx l i j) := rfl
      rw [impl_edgesOf.l1, if_pos (by omega), if_pos (by omega), if_pos (lt_pts hj), p1, implFine n1, Option.bind_some, if_neg (by omega), e1, if_pos (by omega), if_pos (lt_pts e2), p2, implFine n2, Option.bind_some, if_pos (by omega)]
      rfl)
    (fun k i acc hi => by
      show impl_edgesOf.l1 (k + 1) acc ((pts l i : Nat) : Int) l l.length i ((rd_T83 l i).f0) ((pts l i : Nat) : Int) ((pts l i : Nat) : Int) ((rd_T83 l i).f0) ((rd_T83 l i).f1) = _
      rw [impl_edgesOf.l1, if_neg (by omega)])
theorem edges_len (l : List S83) : (edges l).length ≤ sumTo (pts l) l.length := by
  have := gath_len (pts l) (fun i j => [edgeA l i j]) (fun i j => by simp) l.length 0
  exact this
end Go.Proofs.Ytdbgnoolokfafaa.HFnCover
/- How segments go around a place, by both sides. -/
namespace Go.Proofs.Ytdbgnoolokfafaa.HFnCover
open Go.RowKit Go.Proofs.YtdbgnoolokfafaaW.PrintWords Go.Proofs.YtdbgnoolokfafaaW.PrintLast Go.Proofs.Ytdbgnoolokfafaa.Plain
set_option linter.unusedSimpArgs false
set_option linter.unusedVariables false
def dOf (a b c d x y : Int) : Int := wrap64 ((wrap64 ((wrap64 (c - a)) * (wrap64 (y - b)))) - (wrap64 ((wrap64 (x - a)) * (wrap64 (d - b)))))
def windOf (a b c d x y : Int) : Int := if b ≤ y ∧ y < d ∧ dOf a b c d x y > 0 then 1 else if d ≤ y ∧ y < b ∧ dOf a b c d x y < 0 then -1 else 0
def stepS (x y s : Int) (e : S228) : Int := if windOf e.f0 e.f1 e.f2 e.f3 x y = 1 then wrap64 (s + 1) else if windOf e.f0 e.f1 e.f2 e.f3 x y = -1 then wrap64 (s - 1) else s
def stepI (x y s : Int) (e : S175) : Int := wrap64 (s + windOf e.f0 e.f1 e.f2 e.f3 x y)
theorem wrap_wrap (n : Int) : wrap64 (wrap64 n) = wrap64 n := wrap_id (wrap_lo n) (wrap_hi n)
theorem implWinds (k : Nat) (a b c d x y : Int) : impl_edge_winds.f (k + 1) a b c d x y = some (windOf a b c d x y) := by
  unfold impl_edge_winds.f windOf
  show (if b ≤ y then (if y < d then impl_edge_winds.j0 (k + 1) y (dOf a b c d x y) (decide (dOf a b c d x y > 0)) a b c d else impl_edge_winds.j0 (k + 1) y (dOf a b c d x y) false a b c d) else impl_edge_winds.j0 (k + 1) y (dOf a b c d x y) false a b c d) = _
  generalize dOf a b c d x y = t
  simp only [impl_edge_winds.j0]
  by_cases h1 : b ≤ y <;> by_cases h2 : y < d <;> by_cases h3 : t > 0 <;> by_cases h4 : d ≤ y <;> by_cases h5 : y < b <;> by_cases h6 : t < 0 <;> simp [h1, h2, h3, h4, h5, h6] <;> omega
theorem specWindStep (k : Nat) (l : List S228) (i : Nat) (hi : i < l.length) (hl : l.length ≤ 1048576) (x y s : Int) :
    spec_l11Winding.l0 (k + 2) x y s l l.length i = spec_l11Winding.l0 k x y (stepS x y s (l.getD i z228)) l l.length (wrap64 ((i : Int) + 1)) := by
  rw [spec_l11Winding.l0, if_pos (by omega), if_pos (by omega), if_pos (by omega)]
  have e : rd_T228 l (i : Int) = l.getD i z228 := rfl
  rw [e]
  generalize l.getD i z228 = v
  obtain ⟨a, b, c, d⟩ := v
  unfold stepS windOf
  show (if b ≤ y then (if y < d then spec_l11Winding.j1 (k + 1) x y s (dOf a b c d x y) l l.length i (decide (dOf a b c d x y > 0)) a b c d else spec_l11Winding.j1 (k + 1) x y s (dOf a b c d x y) l l.length i false a b c d) else spec_l11Winding.j1 (k + 1) x y s (dOf a b c d x y) l l.length i false a b c d) = _
  generalize dOf a b c d x y = t
  simp only [spec_l11Winding.j1]
  by_cases h1 : b ≤ y <;> by_cases h2 : y < d <;> by_cases h3 : t > 0 <;> by_cases h4 : d ≤ y <;> by_cases h5 : y < b <;> by_cases h6 : t < 0 <;> simp [h1, h2, h3, h4, h5, h6] <;> omega
theorem specWinding (l : List S228) (hl : l.length ≤ 1048576) (x y : Int) : Ev (fun k => spec_l11Winding.f k l x y) (l.foldl (stepS x y) 0) := by
  unfold spec_l11Winding.f
  exact fold_evs l z228 (stepS x y) (fun _ => True) (fun _ _ _ => trivial) (fun s => s) (by omega) (fun k i s => spec_l11Winding.l0 k x y s l l.length i) (fun i s R hi _ hR => by
    obtain ⟨K, hK⟩ := hR
    refine ⟨K + 2, fun k hk => ?_⟩
    obtain ⟨m, rfl⟩ : ∃ m, k = m + 2 := ⟨k - 2, by omega⟩
    show spec_l11Winding.l0 (m + 2) x y s l l.length i = _
    rw [specWindStep m l i hi hl]
    exact hK m (by omega)) (fun k s _ => by
    show spec_l11Winding.l0 (k + 1) x y s l l.length _ = _
    rw [spec_l11Winding.l0, if_neg (by omega)]) 0 trivial
theorem same_fold (l : List S175) (x y : Int) : (l.filterMap conv).foldl (stepS x y) 0 = l.foldl (stepI x y) 0 := by
  refine fold_filter conv (stepS x y) (stepI x y) (fun s => wrap64 s = s) (fun s e _ => wrap_wrap _) (fun s e hs => ?_) l 0 (wrap_id (by omega) (by omega))
  obtain ⟨a, b, c, d⟩ := e
  unfold conv stepI
  by_cases h : b = d
  · simp only [if_pos h]
    have : windOf a b c d x y = 0 := by
      unfold windOf
      rw [if_neg (by omega), if_neg (by omega)]
    rw [this, Int.add_zero, hs]
  · simp only [if_neg h]
    unfold stepS
    have : windOf a b c d x y = 1 ∨ windOf a b c d x y = -1 ∨ windOf a b c d x y = 0 := by
      unfold windOf
      split
      · exact .inl rfl
      · split
        · exact .inr (.inl rfl)
        · exact .inr (.inr rfl)
    rcases this with h1 | h1 | h1
    · rw [if_pos h1, h1]
    · rw [if_neg (by rw [h1]; decide), if_pos h1, h1]; rfl
    · rw [if_neg (by rw [h1]; decide), if_neg (by rw [h1]; decide), h1, Int.add_zero, hs]
end Go.Proofs.Ytdbgnoolokfafaa.HFnCover
/- What lines cover, by both sides. -/
namespace Go.Proofs.Ytdbgnoolokfafaa.HFnCover
open Go.RowKit Go.Proofs.YtdbgnoolokfafaaW.PrintWords Go.Proofs.YtdbgnoolokfafaaW.PrintLast Go.Proofs.Ytdbgnoolokfafaa.Plain
set_option linter.unusedSimpArgs false
set_option linter.unusedVariables false
abbrev E := S175
abbrev F := S228
def yOf (r : Nat) : Int := ((4 * r + 2 : Nat) : Int)
def crosses (y : Int) (e : E) : Bool := decide (mn e.f1 e.f3 ≤ y) && decide (y < mx e.f1 e.f3)
def crossS (y : Int) (e : F) : Bool := (decide (e.f1 ≤ y) && decide (y < e.f3)) || (decide (e.f3 ≤ y) && decide (y < e.f1))
def rowOf (es : List E) (r : Nat) : List E := es.filter (crosses (yOf r))
def wn (es : List E) (c r : Nat) : Int := (rowOf es r).foldl (stepI (yOf c) (yOf r)) 0
def hit (even : Bool) (n : Int) : Bool := if even = true then !decide (Int.tmod n 2 = 0) else !decide (n = 0)
def bump (cs : List Int) (i : Nat) : List Int := cs.set i (wrap64 (rd cs (i : Int) + 1))
def cstep (es : List E) (even : Bool) (W r c : Nat) (cs : List Int) : List Int := if hit even (wn es c r) = true then bump cs (r / 4 * W + c / 4) else cs
def coverL (es : List E) (W H : Nat) (even : Bool) : List Int := forTo (fun r cs => forTo (fun c cs => cstep es even W r c cs) (W * 4) cs) (H * 4) (List.replicate (W * H) 0)
theorem bump_len (cs : List Int) (i : Nat) : (bump cs i).length = cs.length := by simp [bump]
theorem cstep_len (es : List E) (even : Bool) (W r c : Nat) (cs : List Int) : (cstep es even W r c cs).length = cs.length := by unfold cstep; split <;> simp [bump_len]
theorem cross_conv (y : Int) (es : List E) : (es.filterMap conv).filter (crossS y) = (es.filter (crosses y)).filterMap conv := by
  induction es with
  | nil => rfl
  | cons e es ih =>
    obtain ⟨a, b, c, d⟩ := e
    by_cases h : b = d
    · have h1 : conv (⟨a, b, c, d⟩ : E) = none := by simp [conv, h]
      have h2 : crosses y (⟨a, b, c, d⟩ : E) = false := by
        unfold crosses mn mx
        simp only [h]
        simp
      rw [List.filterMap_cons_none h1, List.filter_cons, h2, ih]
      simp
    · have h1 : conv (⟨a, b, c, d⟩ : E) = some ⟨a, b, c, d⟩ := by simp [conv, h]
      have h2 : crossS y (⟨a, b, c, d⟩ : F) = crosses y (⟨a, b, c, d⟩ : E) := by
        unfold crosses crossS mn mx
        simp only []
        rw [Bool.eq_iff_iff]
        simp only [Bool.or_eq_true, Bool.and_eq_true, decide_eq_true_eq]
        constructor
        · intro hh
          constructor <;> split <;> omega
        · intro ⟨h3, h4⟩
          split at h3 <;> split at h4 <;> omega
      rw [List.filterMap_cons_some h1, List.filter_cons, List.filter_cons, h2, ih]
      cases crosses y (⟨a, b, c, d⟩ : E)
      · simp
      · simp only [if_true]
        rw [List.filterMap_cons_some h1]
theorem spec_wn (es : List E) (c r : Nat) : ((es.filterMap conv).filter (crossS (yOf r))).foldl (stepS (yOf c) (yOf r)) 0 = wn es c r := by
  rw [cross_conv, same_fold]
  rfl
theorem hit_zero (even : Bool) : hit even 0 = false := by cases even <;> rfl
theorem hit_case (even : Bool) (n : Int) : hit even n = if n = 0 then false else if even = true then !decide (Int.tmod n 2 = 0) else true := by
  unfold hit
  by_cases h : n = 0
  · subst h; cases even <;> rfl
  · cases even <;> simp [h]
theorem yw (r : Nat) (h : r ≤ 1048576) : wrap64 ((wrap64 (4 * (r : Int))) + 2) = yOf r := by
  unfold yOf
  rw [wrap_id (n := 4 * (r : Int)) (by omega) (by omega), wrap_id (by omega) (by omega)]
  omega
theorem ix {r c W : Nat} (hr : r ≤ 144) (hc : c ≤ 144) (hW : W ≤ 36) : wrap64 ((wrap64 ((wrap64 (Int.tdiv (r : Int) 4)) * (W : Int))) + (wrap64 (Int.tdiv (c : Int) 4))) = ((r / 4 * W + c / 4 : Nat) : Int) := by
  rw [tdiv_nn (by omega), tdiv_nn (by omega), wrap_id (n := (r : Int) / 4) (by omega) (by omega), wrap_id (n := (c : Int) / 4) (by omega) (by omega)]
  have e1 : (r : Int) / 4 = ((r / 4 : Nat) : Int) := by omega
  have e2 : (c : Int) / 4 = ((c / 4 : Nat) : Int) := by omega
  have h1 : r / 4 * W ≤ 36 * 36 := Nat.mul_le_mul (by omega) hW
  rw [e1, e2, show ((r / 4 : Nat) : Int) * (W : Int) = ((r / 4 * W : Nat) : Int) from (Int.natCast_mul _ _).symm]
  generalize r / 4 * W = p at h1 ⊢
  rw [wrap_id (n := (p : Int)) (by omega) (by omega), wrap_id (by omega) (by omega)]
  rfl
theorem ix_lt {r c W H : Nat} (hr : r < H * 4) (hc : c < W * 4) : r / 4 * W + c / 4 < W * H := by
  have h1 : r / 4 + 1 ≤ H := by omega
  have h2 : c / 4 < W := by omega
  have h3 := Nat.mul_le_mul_right W h1
  rw [Nat.add_mul, Nat.one_mul] at h3
  rw [Nat.mul_comm W H]
  omega
theorem implRow (es : List E) (hl : es.length ≤ 1048576) (W H : Nat) (hW : W ≤ 36) (hH : H ≤ 36) (even : Bool) (r : Nat) (hr : r < H * 4) (cs : List Int) (hcs : cs.length = W * H) (R : Int × Int × List Int × Bool)
    (hR : Ev (fun k => impl_CoverOf.l0 k W even es ((H * 4 : Nat) : Int) (wrap64 ((r : Int) + 1)) W H (forTo (fun c cs => cstep es even W r c cs) (W * 4) cs)) R) :
    Ev (fun k => impl_CoverOf.l0 k W even es ((H * 4 : Nat) : Int) (r : Int) W H cs) R := by
  refine Ev.step (f := fun k => impl_CoverOf.l1 k W even es (r : Int) (yOf r) [] ((H * 4 : Nat) : Int) (r : Int) es (es.length : Int) 0 W H cs) (fun k => by
    rw [impl_CoverOf.l0, if_pos (by omega), yw r (by omega)]) ?_
  refine for_ev es.length (fun i acc => acc ++ if crosses (yOf r) (es.getD i z175) = true then [es.getD i z175] else []) (fun i acc => acc.length ≤ i) (fun k i acc => impl_CoverOf.l1 k W even es (r : Int) (yOf r) acc ((H * 4 : Nat) : Int) (r : Int) es (es.length : Int) i W H cs) R [] (by omega)
    (fun i acc hi hI hn => ?_) (fun i acc hi hI => by
      show (acc ++ _).length ≤ i + 1
      rw [List.length_append]
      split <;> simp <;> omega) (Nat.le_refl _) (fun _ => ?_)
  · refine Ev.step (fun k => ?_) hn
    show impl_CoverOf.l1 (k + 1) _ _ _ _ _ _ _ _ _ _ _ _ _ _ = _
    rw [impl_CoverOf.l1, if_pos (by omega), if_pos (by omega), if_pos (by omega)]
    have e : rd_T175 es (i : Int) = es.getD i z175 := rfl
    rw [e]
    generalize es.getD i z175 = v
    obtain ⟨a, b, c, d⟩ := v
    unfold crosses
    simp only []
    by_cases h1 : mn b d ≤ yOf r
    · by_cases h2 : yOf r < mx b d
      · rw [if_pos h1, if_pos h2, if_pos (by omega), decide_eq_true h1, decide_eq_true h2]; rfl
      · rw [if_pos h1, if_neg h2, decide_eq_true h1, decide_eq_false h2]; simp
    · rw [if_neg h1, decide_eq_false h1]; simp
  · rw [forTo_flat (fun i => if crosses (yOf r) (es.getD i z175) = true then [es.getD i z175] else []), range_getD (fun e => if crosses (yOf r) e = true then [e] else []), flat_filter, List.nil_append]
    show Ev (fun k => impl_CoverOf.l1 k W even es (r : Int) (yOf r) (rowOf es r) ((H * 4 : Nat) : Int) (r : Int) es (es.length : Int) (es.length : Int) W H cs) R
    have hol : (rowOf es r).length ≤ 1048576 := Nat.le_trans (List.length_filter_le _ _) hl
    have hwn : ∀ c, (rowOf es r).foldl (stepI (yOf c) (yOf r)) 0 = wn es c r := fun _ => rfl
    generalize rowOf es r = own at hol hwn ⊢
    refine Ev.step (f := fun k => impl_CoverOf.l2 k W even es (r : Int) (yOf r) own ((H * 4 : Nat) : Int) (r : Int) ((W * 4 : Nat) : Int) 0 W H cs) (fun k => by
      rw [impl_CoverOf.l1, if_neg (by omega), wrap_id (n := 4 * (W : Int)) (by omega) (by omega), show (4 : Int) * (W : Int) = ((W * 4 : Nat) : Int) by omega]) ?_
    refine for_ev (W * 4) (fun c cs => cstep es even W r c cs) (fun _ cs => cs.length = W * H) (fun k c cs => impl_CoverOf.l2 k W even es (r : Int) (yOf r) own ((H * 4 : Nat) : Int) (r : Int) ((W * 4 : Nat) : Int) c W H cs) R cs (by omega)
      (fun c cs hc hI hn => ?_) (fun c cs hc hI => by show (cstep _ _ _ _ _ _).length = _; rw [cstep_len, hI]) hcs (fun _ => ?_)
    · have hix := ix_lt hr hc
      refine Ev.step (f := fun k => impl_CoverOf.l3 k W even es (r : Int) (yOf r) own (c : Int) 0 ((H * 4 : Nat) : Int) (r : Int) ((W * 4 : Nat) : Int) (c : Int) own (own.length : Int) 0 W H cs) (fun k => by
        rw [impl_CoverOf.l2, if_pos (by omega)]) ?_
      refine for_ev own.length (fun i s => stepI (yOf c) (yOf r) s (own.getD i z175)) (fun _ _ => True) (fun k i s => impl_CoverOf.l3 k W even es (r : Int) (yOf r) own (c : Int) s ((H * 4 : Nat) : Int) (r : Int) ((W * 4 : Nat) : Int) (c : Int) own (own.length : Int) i W H cs) R 0 (by omega)
        (fun i s hi _ hn2 => ?_) (fun _ _ _ _ => trivial) trivial (fun _ => ?_)
      · refine ev_more 2 (fun k => ?_) (show Ev (fun k => impl_CoverOf.l3 (k + 1) W even es (r : Int) (yOf r) own (c : Int) (stepI (yOf c) (yOf r) s (own.getD i z175)) ((H * 4 : Nat) : Int) (r : Int) ((W * 4 : Nat) : Int) (c : Int) own (own.length : Int) (wrap64 ((i : Int) + 1)) W H cs) R from ?_)
        · show impl_CoverOf.l3 (k + 1 + 1) _ _ _ _ _ _ _ _ _ _ _ _ _ _ _ _ _ _ = _
          rw [impl_CoverOf.l3, if_pos (by omega), if_pos (by omega), if_pos (by omega), yw c (by omega), implWinds, Option.bind_some]
          rfl
        · obtain ⟨K, hK⟩ := hn2
          exact ⟨K, fun k hk => hK (k + 1) (by omega)⟩
      · rw [forTo_foldl (stepI (yOf c) (yOf r)) z175 own 0, hwn]
        refine Ev.step (fun k => ?_) hn
        show impl_CoverOf.l3 (k + 1) _ _ _ _ _ _ _ _ _ _ _ _ _ _ _ _ _ _ = _
        rw [impl_CoverOf.l3, if_neg (by omega), ix (by omega) (by omega) hW]
        have hI' : cs.length = W * H := hI
        rw [if_pos (show (0 : Int) ≤ ((r / 4 * W + c / 4 : Nat) : Int) by omega), if_pos (show ((r / 4 * W + c / 4 : Nat) : Int) < (cs.length : Int) by omega)]
        unfold cstep
        rw [hit_case]
        by_cases h1 : wn es c r = 0
        · rw [if_pos h1, if_pos (by rw [h1]; rfl), if_pos h1]; rfl
        · rw [if_neg h1, if_neg h1]
          cases even
          · simp only [Bool.false_eq_true, if_false, if_true]
            rfl
          · simp only [if_true]
            by_cases h2 : Int.tmod (wn es c r) 2 = 0
            · rw [if_pos h2, decide_eq_true h2]; rfl
            · rw [if_neg h2, decide_eq_false h2]; rfl
    · refine Ev.step (fun k => ?_) hR
      show impl_CoverOf.l2 (k + 1) _ _ _ _ _ _ _ _ _ _ _ _ _ = _
      rw [impl_CoverOf.l2, if_neg (by omega)]
/-- The mask. -/
def coverOf (l : List S83) (a b : Int) (even : Bool) : Int × Int × List Int × Bool := if linesOk l = true then (if 1 ≤ a ∧ a ≤ 36 then (if 1 ≤ b ∧ b ≤ 36 then (a, b, coverL (edges l) a.toNat b.toNat even, true) else (0, 0, [], false)) else (0, 0, [], false)) else (0, 0, [], false)
theorem implCoverOf (l : List S83) (a b : Int) (even : Bool) (hl : l.length ≤ 1048576) (hs : sumTo (pts l) l.length ≤ 1048576) : Ev (fun k => impl_CoverOf.f k l a b even) (coverOf l a b even) := by
  have none_ : ∀ es, Ev (fun k => impl_CoverOf.j0 k a b even es true) (0, 0, [], false) := fun es => ev_some fun k => by rw [impl_CoverOf.j0, if_pos rfl]
  unfold impl_CoverOf.f coverOf
  refine Ev.bind (implEdges l hl hs) ?_
  cases hn : linesOk l
  · exact none_ _
  have he := Nat.le_trans (edges_len l) hs
  generalize edges l = es at he ⊢
  simp only [if_true, impl_areSides.f, within_, Option.bind_some, decide_eq_true_eq]
  by_cases ha : 1 ≤ a ∧ a ≤ 36
  · by_cases hb : 1 ≤ b ∧ b ≤ 36
    · simp only [if_pos ha, if_pos hb, decide_eq_true hb, Option.bind_some, Bool.not_true]
      obtain ⟨W, rfl⟩ : ∃ W : Nat, a = W := ⟨a.toNat, by omega⟩
      obtain ⟨H, rfl⟩ : ∃ H : Nat, b = H := ⟨b.toNat, by omega⟩
      have hWH : W * H ≤ 36 * 36 := Nat.mul_le_mul (by omega) (by omega)
      have e1 : wrap64 ((W : Int) * (H : Int)) = ((W * H : Nat) : Int) := by
        rw [show (W : Int) * (H : Int) = ((W * H : Nat) : Int) from (Int.natCast_mul _ _).symm]
        generalize W * H = p at hWH ⊢
        exact wrap_id (by omega) (by omega)
      refine Ev.step (f := fun k => impl_CoverOf.l0 k W even es ((H * 4 : Nat) : Int) 0 W H (List.replicate (W * H) 0)) (fun k => by
        rw [impl_CoverOf.j0, if_neg (by simp), e1, if_pos (by omega), Int.toNat_natCast, if_pos (by omega), wrap_id (n := 4 * (H : Int)) (by omega) (by omega), show (4 : Int) * (H : Int) = ((H * 4 : Nat) : Int) by omega]) ?_
      simp only [Int.toNat_natCast]
      refine for_ev (H * 4) (fun r cs => forTo (fun c cs => cstep es even W r c cs) (W * 4) cs) (fun _ cs => cs.length = W * H) (fun k r cs => impl_CoverOf.l0 k W even es ((H * 4 : Nat) : Int) r W H cs) _ _ (by omega)
        (fun r cs hr hI hn => implRow es he W H (by omega) (by omega) even r hr cs hI _ hn)
        (fun r cs hr hI => forTo_inv (fun _ cs => cs.length = W * H) (W * 4) (fun c cs _ h => by show (cstep _ _ _ _ _ _).length = _; rw [cstep_len, h]) cs hI) (by simp) (fun _ => ?_)
      exact ev_some fun k => by rw [impl_CoverOf.l0, if_neg (by omega)]; rfl
    · simp only [if_pos ha, if_neg hb, decide_eq_false hb, Option.bind_some, Bool.not_false]; exact none_ _
  · simp only [if_neg ha, Option.bind_some, Bool.not_false]; exact none_ _
theorem cover_split (es : List E) (W H : Nat) (even : Bool) : coverL es W H even = forTo (fun v cs => forTo (fun q cs => forTo (fun u cs => forTo (fun i cs => cstep es even W (v * 4 + q) (u * 4 + i) cs) 4 cs) W cs) 4 cs) H (List.replicate (W * H) 0) := by
  unfold coverL
  rw [forTo_split]
  refine forTo_congr _ (fun v cs _ => forTo_congr _ (fun q cs _ => ?_) cs) _
  exact forTo_split (fun c cs => cstep es even W (v * 4 + q) c cs) 4 W cs
theorem specRow (es : List E) (fs : List F) (hfs : fs = es.filterMap conv) (hl : fs.length ≤ 1048576) (W H : Nat) (hW : W ≤ 36) (hH : H ≤ 36) (even : Bool) (v q : Nat) (hv : v < H) (hq : q < 4) (cs : List Int) (hcs : cs.length = W * H) (R : Int × Int × List Int)
    (hR : Ev (fun k => spec_l11Cover.l1 k W H even fs (v : Int) (wrap64 ((q : Int) + 1)) W H (forTo (fun u cs => forTo (fun i cs => cstep es even W (v * 4 + q) (u * 4 + i) cs) 4 cs) W cs)) R) :
    Ev (fun k => spec_l11Cover.l1 k W H even fs (v : Int) (q : Int) W H cs) R := by
  have wy : wrap64 ((wrap64 ((wrap64 (16 * (v : Int))) + (wrap64 (4 * (q : Int))))) + 2) = yOf (v * 4 + q) := by
    unfold yOf
    rw [wrap_id (n := 16 * (v : Int)) (by omega) (by omega), wrap_id (n := 4 * (q : Int)) (by omega) (by omega), wrap_id (n := 16 * (v : Int) + 4 * (q : Int)) (by omega) (by omega), wrap_id (by omega) (by omega)]
    omega
  refine Ev.step (f := fun k => spec_l11Cover.l2 k W H even fs (v : Int) (q : Int) (yOf (v * 4 + q)) [] fs (fs.length : Int) 0 W H cs) (fun k => by
    rw [spec_l11Cover.l1, if_pos (by omega), wy]) ?_
  refine for_ev fs.length (fun i acc => acc ++ if crossS (yOf (v * 4 + q)) (fs.getD i z228) = true then [fs.getD i z228] else []) (fun i acc => acc.length ≤ i) (fun k i acc => spec_l11Cover.l2 k W H even fs (v : Int) (q : Int) (yOf (v * 4 + q)) acc fs (fs.length : Int) i W H cs) R [] (by omega)
    (fun i acc hi hI hn => ?_) (fun i acc hi hI => by
      show (acc ++ _).length ≤ i + 1
      rw [List.length_append]
      split <;> simp <;> omega) (Nat.le_refl _) (fun _ => ?_)
  · refine Ev.step (fun k => ?_) hn
    show spec_l11Cover.l2 (k + 1) _ _ _ _ _ _ _ _ _ _ _ _ _ _ = _
    rw [spec_l11Cover.l2, if_pos (by omega), if_pos (by omega), if_pos (by omega)]
    have e : rd_T228 fs (i : Int) = fs.getD i z228 := rfl
    rw [e]
    generalize fs.getD i z228 = w
    obtain ⟨a, b, c, d⟩ := w
    unfold crossS
    simp only []
    by_cases h1 : b ≤ yOf (v * 4 + q) <;> by_cases h2 : yOf (v * 4 + q) < d <;> by_cases h3 : d ≤ yOf (v * 4 + q) <;> by_cases h4 : yOf (v * 4 + q) < b <;> simp [h1, h2, h3, h4, show acc.length < 4398046511104 by omega] <;> omega
  · rw [forTo_flat (fun i => if crossS (yOf (v * 4 + q)) (fs.getD i z228) = true then [fs.getD i z228] else []), range_getD (fun e => if crossS (yOf (v * 4 + q)) e = true then [e] else []), flat_filter, List.nil_append]
    have hol : (fs.filter (crossS (yOf (v * 4 + q)))).length ≤ 1048576 := Nat.le_trans (List.length_filter_le _ _) hl
    have hwn : ∀ c, (fs.filter (crossS (yOf (v * 4 + q)))).foldl (stepS (yOf c) (yOf (v * 4 + q))) 0 = wn es c (v * 4 + q) := fun c => by rw [hfs]; exact spec_wn es c _
    generalize fs.filter (crossS (yOf (v * 4 + q))) = own at hol hwn ⊢
    by_cases h0 : own = []
    · have hz : ∀ c, wn es c (v * 4 + q) = 0 := fun c => by rw [← hwn c, h0]; rfl
      have hid : forTo (fun u cs => forTo (fun i cs => cstep es even W (v * 4 + q) (u * 4 + i) cs) 4 cs) W cs = cs :=
        forTo_id W cs (fun u _ => forTo_id 4 cs (fun i _ => by unfold cstep; rw [hz, hit_zero]; rfl))
      rw [hid] at hR
      refine Ev.step (fun k => ?_) hR
      show spec_l11Cover.l2 (k + 1) _ _ _ _ _ _ _ _ _ _ _ _ _ _ = _
      rw [spec_l11Cover.l2, if_neg (by omega), h0, if_pos (by simp)]
    · have hpos : 0 < own.length := List.length_pos_iff.2 h0
      refine Ev.step (f := fun k => spec_l11Cover.l3 k W H even fs (v : Int) (q : Int) (yOf (v * 4 + q)) own 0 W H cs) (fun k => by
        rw [spec_l11Cover.l2, if_neg (by omega), if_neg (by omega)]) ?_
      refine for_ev W (fun u cs => forTo (fun i cs => cstep es even W (v * 4 + q) (u * 4 + i) cs) 4 cs) (fun _ cs => cs.length = W * H) (fun k u cs => spec_l11Cover.l3 k W H even fs (v : Int) (q : Int) (yOf (v * 4 + q)) own u W H cs) R cs (by omega)
        (fun u cs hu hI hn => ?_) (fun u cs hu hI => forTo_inv (fun _ cs => cs.length = W * H) 4 (fun i cs _ h => by show (cstep _ _ _ _ _ _).length = _; rw [cstep_len, h]) cs hI) hcs (fun _ => ?_)
      · refine Ev.step (f := fun k => spec_l11Cover.l4 k W H even fs (v : Int) (q : Int) (yOf (v * 4 + q)) own (u : Int) 0 W H cs) (fun k => by
          rw [spec_l11Cover.l3, if_pos (by omega)]) ?_
        refine for_ev 4 (fun i cs => cstep es even W (v * 4 + q) (u * 4 + i) cs) (fun _ cs => cs.length = W * H) (fun k i cs => spec_l11Cover.l4 k W H even fs (v : Int) (q : Int) (yOf (v * 4 + q)) own (u : Int) i W H cs) R cs (by omega)
          (fun i cs hi hI2 hn2 => ?_) (fun i cs hi hI2 => by show (cstep _ _ _ _ _ _).length = _; rw [cstep_len, hI2]) hI (fun _ => ?_)
        · have wx : wrap64 ((wrap64 ((wrap64 (16 * (u : Int))) + (wrap64 (4 * (i : Int))))) + 2) = yOf (u * 4 + i) := by
            unfold yOf
            rw [wrap_id (n := 16 * (u : Int)) (by omega) (by omega), wrap_id (n := 4 * (i : Int)) (by omega) (by omega), wrap_id (n := 16 * (u : Int) + 4 * (i : Int)) (by omega) (by omega), wrap_id (by omega) (by omega)]
            omega
          have h1 : v * W ≤ 36 * 36 := Nat.mul_le_mul (by omega) hW
          have wi : wrap64 ((wrap64 ((v : Int) * (W : Int))) + (u : Int)) = (((v * 4 + q) / 4 * W + (u * 4 + i) / 4 : Nat) : Int) := by
            rw [show (v * 4 + q) / 4 = v by omega, show (u * 4 + i) / 4 = u by omega, show (v : Int) * (W : Int) = ((v * W : Nat) : Int) from (Int.natCast_mul _ _).symm]
            generalize v * W = p at h1 ⊢
            rw [wrap_id (n := (p : Int)) (by omega) (by omega), wrap_id (by omega) (by omega)]
            rfl
          have hix := ix_lt (r := v * 4 + q) (c := u * 4 + i) (W := W) (H := H) (by omega) (by omega)
          have hI2' : cs.length = W * H := hI2
          have hw := specWinding own hol (yOf (u * 4 + i)) (yOf (v * 4 + q))
          rw [hwn] at hw
          apply Ev.step
          · intro k
            show spec_l11Cover.l4 (k + 1) _ _ _ _ _ _ _ _ _ _ _ _ _ = _
            rw [spec_l11Cover.l4, if_pos (by omega), wx, wi]
          refine Ev.bind hw ?_
          simp only [if_pos (show (0 : Int) ≤ (((v * 4 + q) / 4 * W + (u * 4 + i) / 4 : Nat) : Int) by omega), if_pos (show (((v * 4 + q) / 4 * W + (u * 4 + i) / 4 : Nat) : Int) < (cs.length : Int) by omega)]
          unfold cstep hit at hn2
          cases even
          · by_cases h2 : wn es (u * 4 + i) (v * 4 + q) = 0
            · simp only [Bool.false_eq_true, if_false, if_pos h2]
              simpa [h2] using hn2
            · simp only [Bool.false_eq_true, if_false, if_neg h2]
              simp only [Bool.false_eq_true, if_false, decide_eq_false h2, Bool.not_false, if_true] at hn2
              exact hn2
          · by_cases h2 : Int.tmod (wn es (u * 4 + i) (v * 4 + q)) 2 = 0
            · simp only [if_true, if_pos h2]
              simp only [if_true, decide_eq_true h2, Bool.not_true, Bool.false_eq_true, if_false] at hn2
              exact hn2
            · simp only [if_true, if_neg h2]
              simp only [if_true, decide_eq_false h2, Bool.not_false] at hn2
              exact hn2
        · refine Ev.step (fun k => ?_) hn
          show spec_l11Cover.l4 (k + 1) _ _ _ _ _ _ _ _ _ _ _ _ _ = _
          rw [spec_l11Cover.l4, if_neg (by omega)]
      · refine Ev.step (fun k => ?_) hR
        show spec_l11Cover.l3 (k + 1) _ _ _ _ _ _ _ _ _ _ _ _ = _
        rw [spec_l11Cover.l3, if_neg (by omega)]
theorem near_of_ok' {l : List S83} (h : linesOk l = true) : allNear l = true := by
  unfold linesOk at h
  split at h
  · cases h
  · exact h
theorem specCoverOf (l : List S83) (a b : Int) (even : Bool) (hl : l.length ≤ 1048576) (hs : sumTo (pts l) l.length ≤ 1048576) : Ev (fun k => spec_CoverOf.f k l a b even) (coverOf l a b even) := by
  unfold spec_CoverOf.f coverOf
  refine Ev.bind (specLines l hl hs) ?_
  cases hn : linesOk l
  · exact Ev.now _
  simp only [if_true, spec_l3Side.f, in_, Option.bind_some, decide_eq_true_eq]
  by_cases ha : 1 ≤ a ∧ a ≤ 36
  · by_cases hb : 1 ≤ b ∧ b ≤ 36
    · simp only [if_pos ha, if_pos hb]
      have he := specEdges l hl hs (near_of_ok' hn)
      have hel := Nat.le_trans (edges_len l) hs
      generalize edges l = es at he hel ⊢
      obtain ⟨W, rfl⟩ : ∃ W : Nat, a = W := ⟨a.toNat, by omega⟩
      obtain ⟨H, rfl⟩ : ∃ H : Nat, b = H := ⟨b.toNat, by omega⟩
      have hWH : W * H ≤ 36 * 36 := Nat.mul_le_mul (by omega) (by omega)
      have e1 : wrap64 ((W : Int) * (H : Int)) = ((W * H : Nat) : Int) := by
        rw [show (W : Int) * (H : Int) = ((W * H : Nat) : Int) from (Int.natCast_mul _ _).symm]
        generalize W * H = p at hWH ⊢
        exact wrap_id (by omega) (by omega)
      refine Ev.bind (a := ((W : Int), (H : Int), coverL es (W : Int).toNat (H : Int).toNat even)) ?_ (Ev.now _)
      unfold spec_l11Cover.f
      refine Ev.bind he ?_
      rw [e1]
      simp only [if_pos (show (0 : Int) ≤ ((W * H : Nat) : Int) by omega), Int.toNat_natCast, if_pos (show W * H ≤ 35184372088832 by omega)]
      rw [cover_split]
      have hfl : (es.filterMap conv).length ≤ 1048576 := Nat.le_trans (List.length_filterMap_le _ _) hel
      obtain ⟨fs, hfs⟩ : ∃ fs, fs = es.filterMap conv := ⟨_, rfl⟩
      rw [← hfs] at hfl ⊢
      have hcl : ∀ r c (cs : List Int), cs.length = W * H → (cstep es even W r c cs).length = W * H := fun r c cs h => by rw [cstep_len, h]
      refine for_ev H (fun v cs => forTo (fun q cs => forTo (fun u cs => forTo (fun i cs => cstep es even W (v * 4 + q) (u * 4 + i) cs) 4 cs) W cs) 4 cs) (fun _ cs => cs.length = W * H) (fun k v cs => spec_l11Cover.l0 k (W : Int) (H : Int) even fs v (W : Int) (H : Int) cs) _ _ (by omega)
        (fun v cs hv hI hn3 => ?_) (fun v cs hv hI => forTo_inv (fun _ cs => cs.length = W * H) 4 (fun q cs _ h => forTo_inv (fun _ cs => cs.length = W * H) W (fun u cs _ h => forTo_inv (fun _ cs => cs.length = W * H) 4 (fun i cs _ h => hcl _ _ _ h) cs h) cs h) cs hI) (by simp) (fun _ => ?_)
      · refine Ev.step (f := fun k => spec_l11Cover.l1 k (W : Int) (H : Int) even fs (v : Int) 0 (W : Int) (H : Int) cs) (fun k => by rw [spec_l11Cover.l0, if_pos (by omega)]) ?_
        refine for_ev 4 (fun q cs => forTo (fun u cs => forTo (fun i cs => cstep es even W (v * 4 + q) (u * 4 + i) cs) 4 cs) W cs) (fun _ cs => cs.length = W * H) (fun k q cs => spec_l11Cover.l1 k (W : Int) (H : Int) even fs (v : Int) q (W : Int) (H : Int) cs) _ cs (by omega)
          (fun q cs hq hI2 hn4 => specRow es fs hfs hfl W H (by omega) (by omega) even v q hv hq cs hI2 _ hn4)
          (fun q cs _ h => forTo_inv (fun _ cs => cs.length = W * H) W (fun u cs _ h => forTo_inv (fun _ cs => cs.length = W * H) 4 (fun i cs _ h => hcl _ _ _ h) cs h) cs h) hI (fun _ => ?_)
        refine Ev.step (fun k => ?_) hn3
        show spec_l11Cover.l1 (k + 1) _ _ _ _ _ _ _ _ _ = _
        rw [spec_l11Cover.l1, if_neg (by omega)]
      · exact ev_some fun k => by rw [spec_l11Cover.l0, if_neg (by omega)]
    · simp only [if_pos ha, if_neg hb]; exact Ev.now _
  · simp only [if_neg ha]; exact Ev.now _
end Go.Proofs.Ytdbgnoolokfafaa.HFnCover
/- Masks, by the program: good, what both cover, summed. -/
namespace Go.Proofs.Ytdbgnoolokfafaa.HFnCover
open Go.RowKit Go.Proofs.YtdbgnoolokfafaaW.PrintWords Go.Proofs.YtdbgnoolokfafaaW.PrintLast Go.Proofs.Ytdbgnoolokfafaa.Plain
set_option linter.unusedSimpArgs false
set_option linter.unusedVariables false
def goodMask (a b : Int) (l : List Int) : Bool := if decide (1 ≤ a ∧ a ≤ 36) && decide (1 ≤ b ∧ b ≤ 36) && !((l.length : Int) != wrap64 (a * b)) then l.all (fun x => decide (0 ≤ x ∧ x ≤ 16)) else false
theorem implGoodMask (a b : Int) (l : List Int) (hl : l.length ≤ 1048576) : Ev (fun k => impl_GoodMask.f k a b l) (goodMask a b l) := by
  have h := all_ev (fun x : Int => decide (0 ≤ x ∧ x ≤ 16)) l 0 (by omega) (fun k i => impl_GoodMask.l0 k l l.length i) (fun k i hi => by
    show impl_GoodMask.l0 (k + 1) l l.length i = _
    rw [impl_GoodMask.l0, if_pos (by omega), if_pos (by omega), if_pos (by omega), within_]; rfl) (fun k => by
    show impl_GoodMask.l0 (k + 1) l _ _ = _
    rw [impl_GoodMask.l0, if_neg (by omega)])
  unfold impl_GoodMask.f impl_areSides.f goodMask
  simp only [within_, Option.bind_some, decide_eq_true_eq]
  by_cases ha : 1 ≤ a ∧ a ≤ 36
  · by_cases hb : 1 ≤ b ∧ b ≤ 36
    · simp only [if_pos ha, if_pos hb, decide_eq_true ha, decide_eq_true hb, Bool.true_and, Option.bind_some]
      cases hc : ((l.length : Int) != wrap64 (a * b))
      · refine Ev.step (f := fun k => impl_GoodMask.l0 k l l.length 0) (fun k => ?_) (by simpa using h)
        simp [impl_GoodMask.j0]
      · exact ev_some fun k => by simp [impl_GoodMask.j0]
    · simp only [if_pos ha, decide_eq_false hb, decide_eq_true ha, Bool.and_false, Bool.false_and, Option.bind_some]
      exact ev_some fun k => by simp [impl_GoodMask.j0]
  · simp only [if_neg ha, decide_eq_false ha, Bool.false_and, Option.bind_some]
    exact ev_some fun k => by simp [impl_GoodMask.j0]
def meet1 (l m : List Int) (i : Nat) : Int := wrap64 (Int.tdiv (wrap64 ((wrap64 ((rd l (i : Int)) * (rd m (i : Int)))) + 8)) 16)
def met (l m : List Int) : List Int := (List.range l.length).map (meet1 l m)
def meetMasks (a b : Int) (l : List Int) (c d : Int) (m : List Int) : Int × Int × List Int × Bool :=
  if goodMask a b l = true then (if goodMask c d m = true then (if a = c then (if b = d then (a, b, met l m, true) else (0, 0, [], false)) else (0, 0, [], false)) else (0, 0, [], false)) else (0, 0, [], false)
theorem good_len {a b : Int} {l : List Int} (h : goodMask a b l = true) : (l.length : Int) = wrap64 (a * b) := by
  unfold goodMask at h
  split at h
  · rename_i hc
    simp at hc
    exact hc.2
  · simp at h
theorem implMeet (a b : Int) (l : List Int) (c d : Int) (m : List Int) (hl : l.length ≤ 1048576) (hm : m.length ≤ 1048576) : Ev (fun k => impl_MeetMasks.f k a b l c d m) (meetMasks a b l c d m) := by
  have none_ : Ev (fun k => impl_MeetMasks.j0 k true a b l c d m) (0, 0, [], false) := ev_some fun k => by rw [impl_MeetMasks.j0, if_pos rfl]
  unfold impl_MeetMasks.f meetMasks
  refine Ev.bind (implGoodMask a b l hl) ?_
  cases h1 : goodMask a b l
  · exact none_
  simp only [if_true]
  refine Ev.bind (implGoodMask c d m hm) ?_
  cases h2 : goodMask c d m
  · exact none_
  simp only [if_true]
  by_cases h3 : a = c
  · simp only [if_pos h3]
    by_cases h4 : b = d
    · simp only [if_pos h4]
      have e : l.length = m.length := by have e1 := good_len h1; have e2 := good_len h2; subst h3; subst h4; omega
      refine Ev.step (f := fun k => impl_MeetMasks.l0 k l l.length 0 c d m a b []) (fun k => ?_) ?_
      · rw [impl_MeetMasks.j0, if_neg (by simp [h4])]
      · exact grow_ev l.length (meet1 l m) (fun ys => (a, b, ys, true)) (by omega) (fun k i ys => impl_MeetMasks.l0 k l l.length i c d m a b ys) (fun k i ys hi hy => by
          show impl_MeetMasks.l0 (k + 1) l l.length i c d m a b ys = _
          rw [impl_MeetMasks.l0, if_pos (by omega), if_pos (by omega), if_pos (by omega), if_pos (by omega), if_pos (by omega)]; rfl) (fun k ys hy => by
          show impl_MeetMasks.l0 (k + 1) l l.length _ c d m a b ys = _
          rw [impl_MeetMasks.l0, if_neg (by omega)])
    · simp only [if_neg h4, show (b != d) = true by simpa using h4]; exact none_
  · simp only [if_neg h3]; exact none_
/-- A sum, wrapped at each step. -/
def sumW (l : List Int) : Int := l.foldl (fun s x => wrap64 (s + x)) 0
theorem implSum (a b : Int) (l : List Int) (hl : l.length ≤ 1048576) (hg : goodMask a b l = true) : Ev (fun k => impl_SumOf.f k a b l) (sumW l, true) := by
  unfold impl_SumOf.f
  refine Ev.bind (implGoodMask a b l hl) ?_
  simp only [hg, if_true]
  unfold sumW
  rw [← forTo_foldl (fun s x => wrap64 (s + x)) 0 l 0]
  refine for_ev l.length (fun i s => wrap64 (s + l.getD i 0)) (fun _ _ => True) (fun k i s => impl_SumOf.l0 k s l l.length i) _ 0 (by omega) (fun i s hi _ hn => ?_) (fun _ _ _ _ => trivial) trivial (fun _ => ?_)
  · refine Ev.step (fun k => ?_) hn
    show impl_SumOf.l0 (k + 1) _ _ _ _ = _
    rw [impl_SumOf.l0, if_pos (by omega), if_pos (by omega), if_pos (by omega)]
    rfl
  · exact ev_some fun k => by rw [impl_SumOf.l0, if_neg (by omega)]
end Go.Proofs.Ytdbgnoolokfafaa.HFnCover
/- Draws: they always tell something, and move on. -/
namespace Go.Proofs.Ytdbgnoolokfafaa.HFnCover
open Go.RowKit Go.Proofs.YtdbgnoolokfafaaW.PrintWords Go.Proofs.YtdbgnoolokfafaaW.PrintLast Go.Proofs.Ytdbgnoolokfafaa.Plain
set_option linter.unusedSimpArgs false
set_option linter.unusedVariables false
/-- A text of bytes. -/
def Bytes (c : List Int) : Prop := (∀ x ∈ c, 0 ≤ x ∧ x ≤ 255) ∧ c.length ≤ 140737488351232
theorem byte_rd {c : List Int} (hc : Bytes c) {i : Int} (h0 : 0 ≤ i) (h1 : i < c.length) : 0 ≤ rd c i ∧ rd c i ≤ 255 := by
  obtain ⟨n, rfl⟩ := Int.eq_ofNat_of_zero_le h0
  have hn : n < c.length := by omega
  have e : rd c ((n : Nat) : Int) = c[n] := rd_nat c n hn
  show 0 ≤ rd c ((n : Nat) : Int) ∧ rd c ((n : Nat) : Int) ≤ 255
  rw [e]
  exact hc.1 _ (List.getElem_mem hn)
theorem low8 (z : Int) : 0 ≤ Go.bits .and .u64 (IntKind.u64.wrap z / 1099511627776) 255 ∧ Go.bits .and .u64 (IntKind.u64.wrap z / 1099511627776) 255 ≤ 255 := by
  have hw : 0 ≤ IntKind.u64.wrap z ∧ IntKind.u64.wrap z < 18446744073709551616 := by rw [IntKind.wrap_u64]; omega
  rw [u64_and _ _ (by omega) (by omega) (by omega) (by omega)]
  have := @Nat.and_le_right (IntKind.u64.wrap z / 1099511627776).toNat (255 : Int).toNat
  have e : (255 : Int).toNat = 255 := rfl
  rw [e] at this ⊢
  omega
/-- A draw's place. -/
def At (a : Int) (n : Int) : Prop := 0 ≤ a ∧ a ≤ n
theorem at_le {a n m : Int} (h : At a n) (hm : n ≤ m) : At a m := ⟨h.1, Int.le_trans h.2 hm⟩
theorem next_ {c : List Int} (hc : Bytes c) {a n : Int} (s : Int) (ha : At a n) (hn : n ≤ 4611686018427387904) : ∃ r a' s', spec_l1Cur_next.f c a s = some (r, a', s') ∧ (0 ≤ r ∧ r ≤ 255) ∧ At a' (n + 1) := by
  have hw : wrap64 (a + 1) = a + 1 := wrap_id (by have := ha.1; omega) (by have := ha.2; omega)
  have h0 := ha.1
  have h2 := ha.2
  unfold spec_l1Cur_next.f
  rw [hw]
  by_cases h : a < c.length
  · have hb := byte_rd hc h0 h
    rw [if_pos h, if_pos h0]
    have hr : wrap64 (rd c a) = rd c a := wrap_id (by omega) (by omega)
    by_cases h1 : a + 1 ≤ (c.length : Int)
    · rw [if_pos h1]
      exact ⟨_, _, _, rfl, by rw [hr]; exact hb, ⟨by omega, by omega⟩⟩
    · rw [if_neg h1]
      have l8 := low8 ((IntKind.u64.wrap ((IntKind.u64.wrap (s * 6364136223846793005)) + (IntKind.u64.wrap (wrap64 (rd c a))))) + 1442695040888963407)
      exact ⟨_, _, _, rfl, by rw [wrap_id (by omega) (by omega)]; exact l8, ⟨by omega, by omega⟩⟩
  · rw [if_neg h]
    by_cases h1 : a + 1 ≤ (c.length : Int)
    · rw [if_pos h1]
      exact ⟨_, _, _, rfl, by omega, ⟨by omega, by omega⟩⟩
    · rw [if_neg h1]
      have l8 := low8 ((IntKind.u64.wrap (IntKind.u64.wrap (s * 6364136223846793005))) + 1442695040888963407)
      exact ⟨_, _, _, rfl, by rw [wrap_id (by omega) (by omega)]; exact l8, ⟨by omega, by omega⟩⟩
theorem tmod_in {x n : Int} (h0 : 0 ≤ x) (hn : 0 < n) : 0 ≤ Int.tmod x n ∧ Int.tmod x n < n := by
  rw [tmod_nn h0]
  exact ⟨Int.emod_nonneg _ (by omega), Int.emod_lt_of_pos _ hn⟩
theorem pick_ {c : List Int} (hc : Bytes c) {a n : Int} (s m : Int) (ha : At a n) (hn : n ≤ 4611686018427387000) : ∃ r a' s', spec_l1Cur_pick.f c a s m = some (r, a', s') ∧ (0 ≤ r ∧ (0 < m → r < m)) ∧ At a' (n + 2) := by
  unfold spec_l1Cur_pick.f
  by_cases h1 : m ≤ 1
  · rw [if_pos h1]
    exact ⟨_, _, _, rfl, ⟨by omega, by omega⟩, at_le ha (by omega)⟩
  · rw [if_neg h1]
    obtain ⟨r, a1, s1, e1, hr, ha1⟩ := next_ hc s ha (by omega)
    rw [e1, Option.bind_some]
    by_cases h2 : m > 200
    · obtain ⟨q, a2, s2, e2, hq, ha2⟩ := next_ hc s1 ha1 (by omega)
      rw [if_pos h2]
      simp only []
      rw [e2, Option.bind_some, if_neg (by omega), wrap_id (n := r * 256) (by omega) (by omega), wrap_id (n := r * 256 + q) (by omega) (by omega)]
      have ht := tmod_in (x := r * 256 + q) (n := m) (by omega) (by omega)
      exact ⟨_, _, _, rfl, ⟨ht.1, fun _ => ht.2⟩, at_le ha2 (by omega)⟩
    · rw [if_neg h2, if_neg (by omega)]
      have ht := tmod_in (x := r) (n := m) (by omega) (by omega)
      exact ⟨_, _, _, rfl, ⟨ht.1, fun _ => ht.2⟩, at_le ha1 (by omega)⟩
theorem one_ {c : List Int} (hc : Bytes c) {a n : Int} (s m : Int) (ha : At a n) (hn : n ≤ 4611686018427387000) : ∃ r a' s', spec_l1Cur_one.f c a s m = some (r, a', s') ∧ At a' (n + 2) := by
  obtain ⟨r, a1, s1, e1, hr, ha1⟩ := pick_ hc s m ha hn
  unfold spec_l1Cur_one.f
  rw [e1, Option.bind_some]
  exact ⟨_, _, _, rfl, ha1⟩
end Go.Proofs.Ytdbgnoolokfafaa.HFnCover
/- One of some numbers is drawn. -/
namespace Go.Proofs.Ytdbgnoolokfafaa.HFnCover
open Go.RowKit Go.Proofs.YtdbgnoolokfafaaW.PrintWords Go.Proofs.YtdbgnoolokfafaaW.PrintLast Go.Proofs.Ytdbgnoolokfafaa.Plain
set_option linter.unusedSimpArgs false
set_option linter.unusedVariables false
theorem among_ {c : List Int} (hc : Bytes c) {a n : Int} (s : Int) (l : List Int) (hl : l ≠ []) (ha : At a n) (hn : n ≤ 4611686018427387000) : ∃ r a' s', spec_l1Cur_among.f c a s l = some (r, a', s') ∧ r ∈ l ∧ At a' (n + 2) := by
  obtain ⟨r, a1, s1, e1, hr, ha1⟩ := pick_ hc s (l.length : Int) ha hn
  have hp : 0 < l.length := List.length_pos_iff.2 hl
  have hr1 := hr.2 (by omega)
  unfold spec_l1Cur_among.f
  rw [e1, Option.bind_some, if_pos hr.1, if_pos hr1]
  refine ⟨_, _, _, rfl, ?_, ha1⟩
  obtain ⟨i, rfl⟩ := Int.eq_ofNat_of_zero_le hr.1
  have hi : i < l.length := by omega
  have e : rd l ((i : Nat) : Int) = l[i] := rd_nat l i hi
  show rd l ((i : Nat) : Int) ∈ l
  rw [e]
  exact List.getElem_mem hi
end Go.Proofs.Ytdbgnoolokfafaa.HFnCover
/- FnCover, as numbers: coverage does not hang on which way lines go or where they begin. -/
namespace Go.Proofs.Ytdbgnoolokfafaa.Pure
open Go.RowKit Go.Proofs.Ytdbgnoolokfafaa.HFnCover Go.Proofs.YtdbgnoolokfafaaW.PrintWords Go.Proofs.YtdbgnoolokfafaaW.PrintLast Go.Proofs.Ytdbgnoolokfafaa.Plain
set_option linter.unusedSimpArgs false
set_option linter.unusedVariables false
abbrev Pt := S25
abbrev Ln := S83
/-! ### lines are drawn -/
theorem near_ {c : List Int} (hc : Bytes c) {a n : Int} (s : Int) (ha : At a n) (hn : n ≤ 4611686018427380000) : ∃ x y a' s', spec_l1Cur_near.f c a s = some (x, y, a', s') ∧ At a' (n + 6) := by
  unfold spec_l1Cur_near.f
  obtain ⟨b, a1, s1, e1, h1⟩ := one_ hc s 30 ha (by omega)
  rw [e1, Option.bind_some]
  cases b
  · obtain ⟨p, a2, s2, e2, _, h2⟩ := pick_ hc s1 60 h1 (by omega)
    obtain ⟨q, a3, s3, e3, _, h3⟩ := pick_ hc s2 60 h2 (by omega)
    simp only [Bool.false_eq_true, if_false, e2, e3, Option.bind_some]
    exact ⟨_, _, _, _, rfl, at_le h3 (by omega)⟩
  · obtain ⟨p, a2, s2, e2, _, h2⟩ := among_ hc s1 [67108864, (-67108864), 67108865] (by simp) h1 (by omega)
    simp only [if_true, e2, Option.bind_some]
    exact ⟨_, _, _, _, rfl, at_le h2 (by omega)⟩
theorem nearLine0 {c : List Int} (hc : Bytes c) (bb : Bool) : ∀ (d : Nat) (acc : List Pt) (a s : Int), acc.length + 2 * d ≤ 10 → At a (900 - 8 * d) → ∃ r a' s', Ev (fun k => spec_l1Cur_nearLine.l0 k d c a s acc bb) (r, bb, a', s') ∧ r.length ≤ 10 ∧ At a' 900 := by
  intro d
  induction d with
  | zero => intro acc a s hl ha; exact ⟨acc, a, s, ev_some fun k => by rw [spec_l1Cur_nearLine.l0, if_neg (by omega)], by omega, at_le ha (by omega)⟩
  | succ d ih =>
    intro acc a s hl ha
    obtain ⟨x, y, a1, s1, e1, h1⟩ := near_ hc s ha (by omega)
    obtain ⟨b, a2, s2, e2, h2⟩ := one_ hc s1 8 h1 (by omega)
    have w : wrap64 (((d + 1 : Nat) : Int) - 1) = (d : Int) := by rw [wrap_id (by omega) (by omega)]; omega
    cases b
    · obtain ⟨r, a', s', h3, h4, h5⟩ := ih (acc ++ [(⟨x, y⟩ : Pt)]) a2 s2 (by simp; omega) (at_le h2 (by omega))
      refine ⟨r, a', s', Ev.step (fun k => ?_) h3, h4, h5⟩
      show spec_l1Cur_nearLine.l0 (k + 1) _ _ _ _ _ _ = _
      rw [spec_l1Cur_nearLine.l0, if_pos (by omega), e1, Option.bind_some, if_pos (by omega), Option.bind_some]
      simp only [e2, Option.bind_some, Bool.false_eq_true, if_false, w]
    · have hz : (acc ++ [(⟨x, y⟩ : Pt)]).length = acc.length + 1 := by simp
      generalize hy : acc ++ [(⟨x, y⟩ : Pt)] = ys at hz
      have w2 : wrap64 ((ys.length : Int) - 1) = ((acc.length : Nat) : Int) := by rw [wrap_id (by omega) (by omega)]; omega
      obtain ⟨r, a', s', h3, h4, h5⟩ := ih (ys ++ [(⟨(rd_T25 ys (acc.length : Int)).f0, (rd_T25 ys (acc.length : Int)).f1⟩ : Pt)]) a2 s2 (by simp; omega) (at_le h2 (by omega))
      refine ⟨r, a', s', Ev.step (fun k => ?_) h3, h4, h5⟩
      show spec_l1Cur_nearLine.l0 (k + 1) _ _ _ _ _ _ = _
      rw [spec_l1Cur_nearLine.l0, if_pos (by omega), e1, Option.bind_some, if_pos (by omega), Option.bind_some, hy]
      simp only [e2, Option.bind_some, if_true, w, w2]
      rw [if_pos (by omega), if_pos (by omega), if_pos (by omega)]
theorem nearLine_ {c : List Int} (hc : Bytes c) {a : Int} (s : Int) (ha : At a 800) : ∃ r b a' s', Ev (fun k => spec_l1Cur_nearLine.f k c a s) (r, b, a', s') ∧ r.length ≤ 10 ∧ At a' 900 := by
  unfold spec_l1Cur_nearLine.f
  obtain ⟨b, a1, s1, e1, h1⟩ := one_ hc s 3 ha (by omega)
  obtain ⟨p, a2, s2, e2, hp, h2⟩ := pick_ hc s1 5 h1 (by omega)
  have hp2 := hp.2 (by omega)
  obtain ⟨d, rfl⟩ := Int.eq_ofNat_of_zero_le hp.1
  simp only [e1, Option.bind_some, e2]
  rw [show wrap64 (1 + (d : Int)) = ((1 + d : Nat) : Int) by rw [wrap_id (by omega) (by omega)]; omega]
  obtain ⟨r, a', s', h3, h4, h5⟩ := nearLine0 hc b (1 + d) [] a2 s2 (by simp; omega) (at_le h2 (by omega))
  exact ⟨r, b, a', s', h3, h4, h5⟩
def Few (l : List Ln) (m : Nat) : Prop := l.length ≤ m ∧ ∀ x ∈ l, x.f0.length ≤ 10
theorem few_snoc {l : List Ln} {m : Nat} {x : Ln} (h : Few l m) (hx : x.f0.length ≤ 10) : Few (l ++ [x]) (m + 1) := by
  refine ⟨by have := h.1; simp; omega, fun y hy => ?_⟩
  rcases List.mem_append.1 hy with hy | hy
  · exact h.2 y hy
  · rw [List.mem_singleton.1 hy]; exact hx
theorem poly1 {c : List Int} (hc : Bytes c) (m e : Nat) (acc : List Ln) (hacc : Few acc m) (he : e ≤ 3) (hm : m + e ≤ 3) (bb : Bool)
    (hnext : ∀ (l : List Ln) (a s : Int), Few l (m + 1) → At a (700 - 40 * e) → ∃ r a' s', Ev (fun k => spec_l1Cur_polygons.l0 k l e c a s) (r, a', s') ∧ Few r 5 ∧ At a' 900) :
    ∀ (d : Nat) (ps : List Pt) (a s : Int), ps.length + d ≤ 10 → d ≤ 6 → At a (700 - 40 * e - 4 * d) → ∃ r a' s', Ev (fun k => spec_l1Cur_polygons.l1 k acc ((e + 1 : Nat) : Int) d c a s ps bb) (r, a', s') ∧ Few r 5 ∧ At a' 900 := by
  intro d
  have w : wrap64 (((e + 1 : Nat) : Int) - 1) = (e : Int) := by rw [wrap_id (by omega) (by omega)]; omega
  have hal := hacc.1
  induction d with
  | zero =>
    intro ps a s hl hd ha
    obtain ⟨r, a', s', h3, h4, h5⟩ := hnext (acc ++ [(⟨ps, bb⟩ : Ln)]) a s (few_snoc hacc (by show ps.length ≤ 10; omega)) (at_le ha (by omega))
    refine ⟨r, a', s', Ev.step (fun k => ?_) h3, h4, h5⟩
    show spec_l1Cur_polygons.l1 (k + 1) _ _ _ _ _ _ _ _ = _
    rw [spec_l1Cur_polygons.l1, if_neg (by omega), if_pos (by omega), w]
  | succ d ih =>
    intro ps a s hl hd ha
    obtain ⟨p, a1, s1, e1, _, h1⟩ := pick_ hc s 400 ha (by omega)
    obtain ⟨q, a2, s2, e2, _, h2⟩ := pick_ hc s1 400 h1 (by omega)
    have w2 : wrap64 (((d + 1 : Nat) : Int) - 1) = (d : Int) := by rw [wrap_id (by omega) (by omega)]; omega
    obtain ⟨r, a', s', h3, h4, h5⟩ := ih (ps ++ [(⟨wrap64 ((wrap64 (p * 4096)) - 524288), wrap64 ((wrap64 (q * 4096)) - 524288)⟩ : Pt)]) a2 s2 (by simp; omega) (by omega) (at_le h2 (by omega))
    refine ⟨r, a', s', Ev.step (fun k => ?_) h3, h4, h5⟩
    show spec_l1Cur_polygons.l1 (k + 1) _ _ _ _ _ _ _ _ = _
    rw [spec_l1Cur_polygons.l1, if_pos (by omega), e1, Option.bind_some]
    simp only [e2, Option.bind_some, w2]
    rw [if_pos (by omega)]
theorem poly0 {c : List Int} (hc : Bytes c) : ∀ (e m : Nat) (acc : List Ln) (a s : Int), Few acc m → m + e ≤ 3 → At a (700 - 40 * e) → ∃ r a' s', Ev (fun k => spec_l1Cur_polygons.l0 k acc e c a s) (r, a', s') ∧ Few r 5 ∧ At a' 900 := by
  intro e
  induction e with
  | zero =>
    intro m acc a s hf hm ha
    obtain ⟨b, a1, s1, e1, h1⟩ := one_ hc s 30 ha (by omega)
    cases b
    · refine ⟨acc, a1, s1, ev_some fun k => by rw [spec_l1Cur_polygons.l0, if_neg (by omega), e1, Option.bind_some]; rfl, ⟨by have := hf.1; omega, hf.2⟩, at_le h1 (by omega)⟩
    · obtain ⟨r, bb, a2, s2, h2, h3, h4⟩ := nearLine_ hc s1 (at_le h1 (by omega))
      have hf2 := few_snoc (x := (⟨r, bb⟩ : Ln)) hf h3
      have hl := hf.1
      refine ⟨acc ++ [(⟨r, bb⟩ : Ln)], a2, s2, Ev.step (f := fun k => (spec_l1Cur_nearLine.f k c a1 s1).bind fun bt178 => (if acc.length < 4398046511104 then (some ((acc ++ [(⟨bt178.1, bt178.2.1⟩ : Ln)]), bt178.2.2.1, bt178.2.2.2)) else (none))) (fun k => by
        rw [spec_l1Cur_polygons.l0, if_neg (by omega), e1, Option.bind_some]; rfl) ?_, ⟨by have := hf2.1; omega, hf2.2⟩, h4⟩
      refine Ev.bind h2 ?_
      simp only [if_pos (show acc.length < 4398046511104 by omega)]
      exact Ev.now _
  | succ e ih =>
    intro m acc a s hf hm ha
    obtain ⟨b, a1, s1, e1, h1⟩ := one_ hc s 2 ha (by omega)
    obtain ⟨p, a2, s2, e2, hp, h2⟩ := pick_ hc s1 5 h1 (by omega)
    have hp2 := hp.2 (by omega)
    obtain ⟨d, rfl⟩ := Int.eq_ofNat_of_zero_le hp.1
    obtain ⟨r, a', s', h3, h4, h5⟩ := poly1 hc m e acc hf (by omega) (by omega) b (fun l a s hl ha => ih (m + 1) l a s hl (by omega) ha) (2 + d) [] a2 s2 (by simp; omega) (by omega) (at_le h2 (by omega))
    refine ⟨r, a', s', Ev.step (fun k => ?_) h3, h4, h5⟩
    show spec_l1Cur_polygons.l0 (k + 1) _ _ _ _ _ = _
    rw [spec_l1Cur_polygons.l0, if_pos (by omega), e1, Option.bind_some]
    simp only [e2, Option.bind_some]
    rw [show wrap64 (2 + (d : Int)) = ((2 + d : Nat) : Int) by rw [wrap_id (by omega) (by omega)]; omega]
theorem polygons_ {c : List Int} (hc : Bytes c) {a : Int} (s : Int) (ha : At a 500) : ∃ r a' s', Ev (fun k => spec_l1Cur_polygons.f k c a s) (r, a', s') ∧ Few r 5 ∧ At a' 900 := by
  unfold spec_l1Cur_polygons.f
  obtain ⟨p, a1, s1, e1, hp, h1⟩ := pick_ hc s 3 ha (by omega)
  have hp2 := hp.2 (by omega)
  obtain ⟨d, rfl⟩ := Int.eq_ofNat_of_zero_le hp.1
  simp only [e1, Option.bind_some]
  rw [show wrap64 (1 + (d : Int)) = ((1 + d : Nat) : Int) by rw [wrap_id (by omega) (by omega)]; omega]
  exact poly0 hc (1 + d) 0 [] a1 s1 ⟨by simp, by simp⟩ (by omega) (at_le h1 (by omega))
theorem drawCover {c : List Int} (hc : Bytes c) : ∃ l a b e, Ev (fun k => spec_DrawCoverOf.f k c) (l, a, b, e) ∧ Few l 5 := by
  unfold spec_DrawCoverOf.f
  obtain ⟨p, a1, s1, e1, _, h1⟩ := pick_ hc 0 14 (a := 0) (n := 0) ⟨by omega, by omega⟩ (by omega)
  obtain ⟨b, a2, s2, e2, h2⟩ := one_ hc s1 30 h1 (by omega)
  simp only [e1, Option.bind_some, e2]
  cases b
  · obtain ⟨r, a3, s3, h3, h4, h5⟩ := polygons_ hc s2 (at_le h2 (by omega))
    obtain ⟨q, a4, s4, e4, _, h6⟩ := pick_ hc s3 14 h5 (by omega)
    obtain ⟨v, a5, s5, e5, h7⟩ := one_ hc s4 2 h6 (by omega)
    simp only [Bool.false_eq_true, if_false]
    refine ⟨r, wrap64 (1 + p), wrap64 (1 + q), v, Ev.bind h3 ?_, h4⟩
    simp only [e4, e5, Option.bind_some]
    exact Ev.now _
  · obtain ⟨z, a0, s0, e0, _, h0⟩ := among_ hc s2 [0, 36, 37] (by simp) h2 (by omega)
    obtain ⟨r, a3, s3, h3, h4, h5⟩ := polygons_ hc s0 (at_le h0 (by omega))
    obtain ⟨q, a4, s4, e4, _, h6⟩ := pick_ hc s3 14 h5 (by omega)
    obtain ⟨v, a5, s5, e5, h7⟩ := one_ hc s4 2 h6 (by omega)
    simp only [if_true, e0, Option.bind_some]
    refine ⟨r, z, wrap64 (1 + q), v, Ev.bind h3 ?_, h4⟩
    simp only [e4, e5, Option.bind_some]
    exact Ev.now _
/-! ### how often a line goes around a place, as a sum -/
theorem prod_bd {u v : Int} (hu : -1048576 ≤ u ∧ u ≤ 1048576) (hv : -1048576 ≤ v ∧ v ≤ 1048576) : -1099511627776 ≤ u * v ∧ u * v ≤ 1099511627776 := by
  have h1 := Int.mul_nonneg (show 0 ≤ 1048576 - u by omega) (show 0 ≤ 1048576 + v by omega)
  have h2 := Int.mul_nonneg (show 0 ≤ 1048576 + u by omega) (show 0 ≤ 1048576 - v by omega)
  have h3 := Int.mul_nonneg (show 0 ≤ 1048576 - u by omega) (show 0 ≤ 1048576 - v by omega)
  have h4 := Int.mul_nonneg (show 0 ≤ 1048576 + u by omega) (show 0 ≤ 1048576 + v by omega)
  simp only [Int.sub_mul, Int.add_mul, Int.mul_sub, Int.mul_add] at h1 h2 h3 h4
  omega
theorem dOf_plain {a b c d x y : Int} (ha : -20000 ≤ a ∧ a ≤ 20000) (hb : -20000 ≤ b ∧ b ≤ 20000) (hc : -20000 ≤ c ∧ c ≤ 20000) (hd : -20000 ≤ d ∧ d ≤ 20000) (hx : -20000 ≤ x ∧ x ≤ 20000) (hy : -20000 ≤ y ∧ y ≤ 20000) :
    dOf a b c d x y = (c - a) * (y - b) - (x - a) * (d - b) := by
  unfold dOf
  have h1 := prod_bd (u := c - a) (v := y - b) (by omega) (by omega)
  have h2 := prod_bd (u := x - a) (v := d - b) (by omega) (by omega)
  rw [wrap_id (n := c - a) (by omega) (by omega), wrap_id (n := y - b) (by omega) (by omega), wrap_id (n := x - a) (by omega) (by omega), wrap_id (n := d - b) (by omega) (by omega), wrap_id (n := (c - a) * (y - b)) (by omega) (by omega), wrap_id (n := (x - a) * (d - b)) (by omega) (by omega), wrap_id (by omega) (by omega)]
theorem wind_back {a b c d x y : Int} (ha : -20000 ≤ a ∧ a ≤ 20000) (hb : -20000 ≤ b ∧ b ≤ 20000) (hc : -20000 ≤ c ∧ c ≤ 20000) (hd : -20000 ≤ d ∧ d ≤ 20000) (hx : -20000 ≤ x ∧ x ≤ 20000) (hy : -20000 ≤ y ∧ y ≤ 20000) :
    windOf c d a b x y = -windOf a b c d x y := by
  have e : dOf c d a b x y = -dOf a b c d x y := by
    rw [dOf_plain ha hb hc hd hx hy, dOf_plain hc hd ha hb hx hy]
    simp only [Int.sub_mul, Int.mul_sub]
    omega
  unfold windOf
  rw [e]
  generalize dOf a b c d x y = t
  by_cases h1 : b ≤ y <;> by_cases h2 : y < d <;> by_cases h3 : t > 0 <;> by_cases h4 : d ≤ y <;> by_cases h5 : y < b <;> by_cases h6 : t < 0 <;> simp [h1, h2, h3, h4, h5, h6] <;> omega
theorem wind_bd (a b c d x y : Int) : -1 ≤ windOf a b c d x y ∧ windOf a b c d x y ≤ 1 := by
  unfold windOf
  repeat' split
  all_goals omega
def wE (x y : Int) (e : E) : Int := windOf e.f0 e.f1 e.f2 e.f3 x y
def sumL (x y : Int) (es : List E) : Int := es.foldl (fun s e => s + wE x y e) 0
theorem sumL_from (x y : Int) (es : List E) : ∀ s, es.foldl (fun s e => s + wE x y e) s = s + sumL x y es := by
  induction es with
  | nil => intro s; simp [sumL]
  | cons e es ih =>
    intro s
    have h1 := ih (s + wE x y e)
    have h2 := ih (0 + wE x y e)
    have h3 : sumL x y (e :: es) = es.foldl (fun s e => s + wE x y e) (0 + wE x y e) := rfl
    rw [List.foldl_cons, h1, h3, h2]
    omega
theorem sumL_cons (x y : Int) (e : E) (es : List E) : sumL x y (e :: es) = wE x y e + sumL x y es := by
  have := sumL_from x y es (0 + wE x y e)
  show es.foldl (fun s e => s + wE x y e) (0 + wE x y e) = _
  rw [this]
  omega
theorem sumL_append (x y : Int) (a b : List E) : sumL x y (a ++ b) = sumL x y a + sumL x y b := by
  unfold sumL
  rw [List.foldl_append, sumL_from]
  rfl
theorem sumL_flat (x y : Int) (n : Nat) (g : Nat → List E) : sumL x y ((List.range n).flatMap g) = sumF n (fun i => sumL x y (g i)) := by
  induction n with
  | zero => rfl
  | succ n ih => rw [List.range_succ, List.flatMap_append, sumL_append, ih]; simp [sumF]
theorem sumL_edges (x y : Int) (l : List Ln) : sumL x y (edges l) = sumF l.length (fun i => sumF (pts l i) (fun j => wE x y (edgeA l i j))) := by
  have h1 : ∀ n f i, gath n f i 0 = ((List.range i).flatMap fun a => (List.range (n a)).flatMap (f a) : List E) := fun n f i => by simp [gath]
  unfold edges
  rw [h1, sumL_flat]
  refine sumF_congr fun i _ => ?_
  rw [sumL_flat]
  refine sumF_congr fun j _ => ?_
  rw [sumL_cons]
  show _ + 0 = _
  omega
theorem no_cross {x y : Int} {e : E} (h : crosses y e = false) : wE x y e = 0 := by
  obtain ⟨a, b, c, d⟩ := e
  unfold crosses mn mx at h
  simp only [] at h
  rw [Bool.and_eq_false_iff] at h
  unfold wE windOf
  simp only []
  have hn : ¬ (b ≤ y ∧ y < d) ∧ ¬ (d ≤ y ∧ y < b) := by
    constructor
    · intro hh
      rcases h with h | h
      · have := of_decide_eq_false h; split at this <;> omega
      · have := of_decide_eq_false h; split at this <;> omega
    · intro hh
      rcases h with h | h
      · have := of_decide_eq_false h; split at this <;> omega
      · have := of_decide_eq_false h; split at this <;> omega
  rw [if_neg (fun hh => hn.1 ⟨hh.1, hh.2.1⟩), if_neg (fun hh => hn.2 ⟨hh.1, hh.2.1⟩)]
theorem fold_sum (x y : Int) : ∀ (es : List E) (s : Int), -(1048576 - (es.length : Int)) ≤ s → s ≤ 1048576 - (es.length : Int) → (es.filter (crosses y)).foldl (stepI x y) s = s + sumL x y es := by
  intro es
  induction es with
  | nil => intro s _ _; simp [sumL]
  | cons e es ih =>
    intro s h0 h1
    simp only [List.length_cons] at h0 h1
    have hb := wind_bd e.f0 e.f1 e.f2 e.f3 x y
    rw [sumL_cons, List.filter_cons]
    cases hc : crosses y e
    · simp only [Bool.false_eq_true, if_false]
      rw [ih s (by omega) (by omega), no_cross hc]
      omega
    · simp only [if_true, List.foldl_cons]
      have e1 : stepI x y s e = s + wE x y e := by
        unfold stepI wE
        exact wrap_id (by omega) (by omega)
      rw [e1, ih _ (by unfold wE; omega) (by unfold wE; omega)]
      omega
theorem wn_sum (es : List E) (hl : es.length ≤ 1000) (c r : Nat) : wn es c r = sumL (yOf c) (yOf r) es := by
  unfold wn rowOf
  rw [fold_sum _ _ es 0 (by omega) (by omega)]
  omega
/-! ### lines that are turned -/
def backP (ps : List Pt) : List Pt := (List.range ps.length).map fun j => ps.getD (ps.length - 1 - j) z25
def turnP (K : Nat) (ps : List Pt) : List Pt := (List.range ps.length).map fun j => ps.getD ((j + K) % ps.length) z25
def onEach (f : List Pt → List Pt) (l : List Ln) : List Ln := (List.range l.length).map fun i => ⟨f (l.getD i z83).f0, (l.getD i z83).f1⟩
theorem onEach_len (f : List Pt → List Pt) (l : List Ln) : (onEach f l).length = l.length := by simp [onEach]
theorem onEach_at (f : List Pt → List Pt) (l : List Ln) (i : Nat) (hi : i < l.length) : ((onEach f l).getD i z83).f0 = f (l.getD i z83).f0 := by
  simp [onEach, List.getD, hi]
theorem map_at (n : Nat) (g : Nat → Pt) (j : Nat) (hj : j < n) : ((List.range n).map g).getD j z25 = g j := by simp [List.getD, hj]
/-- What is turned has the same points, elsewhere. -/
structure Turned (σ : Nat → Nat → Nat) (f : List Pt → List Pt) : Prop where
  len : ∀ ps, (f ps).length = ps.length
  get : ∀ ps j, j < ps.length → (f ps).getD j z25 = ps.getD (σ ps.length j) z25
  lt : ∀ n j, j < n → σ n j < n
theorem back_turned : Turned (fun n j => n - 1 - j) backP := ⟨fun ps => by simp [backP], fun ps j hj => by unfold backP; rw [map_at _ _ _ hj], fun n j hj => by omega⟩
theorem turn_turned (K : Nat) : Turned (fun n j => (j + K) % n) (turnP K) := ⟨fun ps => by simp [turnP], fun ps j hj => by unfold turnP; rw [map_at _ _ _ hj], fun n j hj => Nat.mod_lt _ (by omega)⟩
theorem turned_pts {σ f} (h : Turned σ f) (l : List Ln) (i : Nat) (hi : i < l.length) : pts (onEach f l) i = pts l i := by
  unfold pts
  rw [onEach_at f l i hi, h.len]
theorem turned_pt {σ f} (h : Turned σ f) (l : List Ln) (i j : Nat) (hi : i < l.length) (hj : j < pts l i) : pt (onEach f l) i j = pt l i (σ (pts l i) j) := by
  unfold pt
  rw [onEach_at f l i hi, h.get _ _ hj]
  rfl
theorem turned_ok {σ f} (h : Turned σ f) (l : List Ln) (hok : linesOk l = true) : linesOk (onEach f l) = true := by
  unfold linesOk at hok ⊢
  split at hok
  · cases hok
  rename_i hn
  have hs : sumTo (pts (onEach f l)) (onEach f l).length = sumTo (pts l) l.length := by rw [onEach_len]; exact sum_same (fun i hi => turned_pts h l i hi)
  rw [if_neg (by rw [hs]; exact hn)]
  unfold allNear
  rw [List.all_eq_true]
  intro i hi
  rw [onEach_len] at hi
  have hi' := List.mem_range.1 hi
  rw [List.all_eq_true]
  intro j hj
  rw [turned_pts h l i hi'] at hj
  have hj' := List.mem_range.1 hj
  rw [turned_pt h l i j hi' hj']
  exact near_at hok hi' (h.lt _ _ hj')
theorem fine_bd {n : Int} (h0 : -67108864 ≤ n) (h1 : n ≤ 67108864) : -20000 ≤ fine n ∧ fine n ≤ 20000 := by unfold fine; omega
def eP (x y : Int) (p q : Pt) : Int := windOf (fine p.f0) (fine p.f1) (fine q.f0) (fine q.f1) x y
theorem back_line (l : List Ln) (hok : allNear l = true) (i : Nat) (hi : i < l.length) (x y : Int) (hx : -20000 ≤ x ∧ x ≤ 20000) (hy : -20000 ≤ y ∧ y ≤ 20000) :
    sumF (pts (onEach backP l) i) (fun j => wE x y (edgeA (onEach backP l) i j)) = -sumF (pts l i) (fun j => wE x y (edgeA l i j)) := by
  have hp := turned_pts back_turned l i hi
  have := back_sum (eP x y) (pts l i) (pt l i) (fun a b ha hb => by
    have n1 := near_of (near_at hok hi ha)
    have n2 := near_of (near_at hok hi hb)
    exact wind_back (fine_bd n1.1.1 n1.1.2) (fine_bd n1.2.1 n1.2.2) (fine_bd n2.1.1 n2.1.2) (fine_bd n2.2.1 n2.2.2) hx hy)
  rw [hp]
  refine Eq.trans (sumF_congr fun j hj => ?_) this
  have hlt : (j + 1) % pts l i < pts l i := Nat.mod_lt _ (by omega)
  show eP x y (pt (onEach backP l) i j) (pt (onEach backP l) i (nx (onEach backP l) i j)) = _
  rw [turned_pt back_turned l i j hi hj]
  unfold nx
  rw [hp, turned_pt back_turned l i _ hi hlt]
theorem turn_line (K : Nat) (l : List Ln) (i : Nat) (hi : i < l.length) (x y : Int) :
    sumF (pts (onEach (turnP K) l) i) (fun j => wE x y (edgeA (onEach (turnP K) l) i j)) = sumF (pts l i) (fun j => wE x y (edgeA l i j)) := by
  have hp := turned_pts (turn_turned K) l i hi
  have := turn_sum (eP x y) (pts l i) (pt l i) K
  rw [hp]
  refine Eq.trans (sumF_congr fun j hj => ?_) this
  have hlt : (j + 1) % pts l i < pts l i := Nat.mod_lt _ (by omega)
  show eP x y (pt (onEach (turnP K) l) i j) (pt (onEach (turnP K) l) i (nx (onEach (turnP K) l) i j)) = _
  rw [turned_pt (turn_turned K) l i j hi hj]
  unfold nx
  rw [hp, turned_pt (turn_turned K) l i _ hi hlt]
theorem hit_neg (e : Bool) (n : Int) : hit e (-n) = hit e n := by
  unfold hit
  have h1 : (Int.tmod (-n) 2 = 0) ↔ (Int.tmod n 2 = 0) := by rw [Int.neg_tmod]; omega
  have h2 : (-n = 0) ↔ (n = 0) := by omega
  rw [decide_eq_decide.2 h1, decide_eq_decide.2 h2]
theorem same_cover (es fs : List E) (W H : Nat) (e : Bool) (h : ∀ c r, c < W * 4 → r < H * 4 → hit e (wn es c r) = hit e (wn fs c r)) : coverL es W H e = coverL fs W H e := by
  unfold coverL
  refine forTo_congr _ (fun r cs hr => forTo_congr _ (fun c cs hc => ?_) cs) _
  unfold cstep
  rw [h c r hc hr]
theorem few_sum {l : List Ln} (h : Few l 5) : sumTo (pts l) l.length ≤ 50 := by
  have key : ∀ i, i ≤ l.length → sumTo (pts l) i ≤ 10 * i := by
    intro i
    induction i with
    | zero => intro _; exact Nat.le_refl _
    | succ i ih =>
      intro hi
      have h1 := ih (by omega)
      have h2 : pts l i ≤ 10 := h.2 _ (by unfold pts at *; simp [List.getD, show i < l.length by omega])
      show sumTo (pts l) i + pts l i ≤ _
      omega
  have := key _ (Nat.le_refl _)
  have := h.1
  omega
theorem turned_sum {σ f} (h : Turned σ f) (l : List Ln) : sumTo (pts (onEach f l)) (onEach f l).length = sumTo (pts l) l.length := by rw [onEach_len]; exact sum_same (fun i hi => turned_pts h l i hi)
theorem yOf_bd {c : Nat} (h : c < 36 * 4) : -20000 ≤ yOf c ∧ yOf c ≤ 20000 := by unfold yOf; omega
theorem cover_back {l : List Ln} (hf : Few l 5) (hok : linesOk l = true) {W H : Nat} (hW : W ≤ 36) (hH : H ≤ 36) (e : Bool) : coverL (edges (onEach backP l)) W H e = coverL (edges l) W H e := by
  have hn : allNear l = true := by
    unfold linesOk at hok
    split at hok
    · cases hok
    · exact hok
  have l1 := edges_len l
  have l2 := edges_len (onEach backP l)
  rw [turned_sum back_turned l] at l2
  have l3 := few_sum hf
  refine same_cover _ _ W H e (fun c r hc hr => ?_)
  rw [wn_sum _ (by omega), wn_sum _ (by omega), sumL_edges, sumL_edges, onEach_len, ← hit_neg, ← sumF_neg]
  congr 1
  refine sumF_congr fun i hi => ?_
  rw [back_line l hn i hi _ _ (yOf_bd (by omega)) (yOf_bd (by omega))]
  omega
theorem cover_turn (K : Nat) {l : List Ln} (hf : Few l 5) (W H : Nat) (e : Bool) : coverL (edges (onEach (turnP K) l)) W H e = coverL (edges l) W H e := by
  have l1 := edges_len l
  have l2 := edges_len (onEach (turnP K) l)
  rw [turned_sum (turn_turned K) l] at l2
  have l3 := few_sum hf
  refine same_cover _ _ W H e (fun c r hc hr => ?_)
  rw [wn_sum _ (by omega), wn_sum _ (by omega), sumL_edges, sumL_edges, onEach_len]
  congr 1
  exact sumF_congr fun i hi => turn_line K l i hi _ _
/-! ### no pixel is covered more than wholly -/
def Bd (r c v u : Nat) : Nat := 4 * min 4 (r - 4 * v) + (if v = r / 4 then min 4 (c - 4 * u) else 0)
def In (W H r c : Nat) (cs : List Int) : Prop := cs.length = W * H ∧ ∀ v u, v < H → u < W → 0 ≤ cs.getD (v * W + u) 0 ∧ cs.getD (v * W + u) 0 ≤ (Bd r c v u : Nat)
theorem ix_inj {W v u v' u' : Nat} (hu : u < W) (hu' : u' < W) (h : v * W + u = v' * W + u') : v = v' ∧ u = u' := by
  have h1 : (v * W + u) / W = v := by rw [Nat.mul_comm, Nat.mul_add_div (by omega), Nat.div_eq_of_lt hu]; omega
  have h2 : (v' * W + u') / W = v' := by rw [Nat.mul_comm, Nat.mul_add_div (by omega), Nat.div_eq_of_lt hu']; omega
  have h3 : v = v' := by rw [← h1, h, h2]
  subst h3
  omega
theorem in_step (es : List E) (e : Bool) {W H r c : Nat} (hr : r < H * 4) (hc : c < W * 4) (cs : List Int) (h : In W H r c cs) : In W H r (c + 1) (cstep es e W r c cs) := by
  refine ⟨by rw [cstep_len]; exact h.1, fun v u hv hu => ?_⟩
  have hb := h.2 v u hv hu
  have hm : Bd r c v u ≤ Bd r (c + 1) v u := by
    unfold Bd
    split <;> omega
  unfold cstep
  split
  · unfold bump
    have hix := ix_lt hr hc
    have hlen := h.1
    by_cases he : r / 4 * W + c / 4 = v * W + u
    · obtain ⟨e1, e2⟩ := ix_inj (show c / 4 < W by omega) hu he
      subst e1 e2
      have hB : Bd r (c + 1) (r / 4) (c / 4) = Bd r c (r / 4) (c / 4) + 1 ∧ Bd r c (r / 4) (c / 4) ≤ 15 := by
        unfold Bd
        rw [if_pos rfl, if_pos rfl]
        omega
      have hrd : rd cs ((r / 4 * W + c / 4 : Nat) : Int) = cs.getD (r / 4 * W + c / 4) 0 := rfl
      rw [hrd, wrap_id (by omega) (by omega)]
      rw [show (cs.set (r / 4 * W + c / 4) (cs.getD (r / 4 * W + c / 4) 0 + 1)).getD (r / 4 * W + c / 4) 0 = cs.getD (r / 4 * W + c / 4) 0 + 1 by simp [List.getD, show r / 4 * W + c / 4 < cs.length by omega]]
      omega
    · rw [show (cs.set (r / 4 * W + c / 4) (wrap64 (rd cs ((r / 4 * W + c / 4 : Nat) : Int) + 1))).getD (v * W + u) 0 = cs.getD (v * W + u) 0 by simp [List.getD, List.getElem?_set_ne he]]
      omega
  · omega
theorem cover_in (es : List E) (W H : Nat) (e : Bool) : In W H (H * 4) 0 (coverL es W H e) := by
  unfold coverL
  refine forTo_inv (fun r cs => In W H r 0 cs) (H * 4) (fun r cs hr hI => ?_) _ ⟨by simp, fun v u hv hu => ?_⟩
  · have h1 := forTo_inv (f := fun c cs => cstep es e W r c cs) (fun c cs => In W H r c cs) (W * 4) (fun c cs hc hI => in_step es e hr hc cs hI) cs hI
    refine ⟨h1.1, fun v u hv hu => ?_⟩
    have h2 := h1.2 v u hv hu
    have h3 : Bd r (W * 4) v u ≤ Bd (r + 1) 0 v u := by
      unfold Bd
      split <;> split <;> omega
    exact ⟨h2.1, by omega⟩
  · have : (List.replicate (W * H) (0 : Int)).getD (v * W + u) 0 = 0 := by
      rw [List.getD_eq_getElem?_getD, List.getElem?_replicate]
      split <;> rfl
    rw [this]
    omega
theorem cover_bd (es : List E) {W H : Nat} (hW : 0 < W) (e : Bool) : ∀ x ∈ coverL es W H e, 0 ≤ x ∧ x ≤ 16 := by
  intro x hx
  obtain ⟨i, hi, rfl⟩ := List.getElem_of_mem hx
  have h := cover_in es W H e
  have hi2 : i < W * H := by rw [← h.1]; exact hi
  have hv : i / W < H := Nat.div_lt_of_lt_mul hi2
  have hu : i % W < W := Nat.mod_lt _ hW
  have h2 := h.2 (i / W) (i % W) hv hu
  have e1 : i / W * W + i % W = i := by rw [Nat.mul_comm]; exact Nat.div_add_mod i W
  rw [e1] at h2
  have e2 : (coverL es W H e).getD i 0 = (coverL es W H e)[i] := by simp [List.getD, hi]
  rw [e2] at h2
  have h3 : Bd (H * 4) 0 (i / W) (i % W) ≤ 16 := by
    unfold Bd
    split <;> omega
  omega
theorem cover_good (es : List E) {W H : Nat} (hW : 1 ≤ W ∧ W ≤ 36) (hH : 1 ≤ H ∧ H ≤ 36) (e : Bool) : goodMask W H (coverL es W H e) = true := by
  unfold goodMask
  have hl := (cover_in es W H e).1
  have hWH : W * H ≤ 36 * 36 := Nat.mul_le_mul hW.2 hH.2
  have e1 : wrap64 ((W : Int) * (H : Int)) = ((W * H : Nat) : Int) := by
    rw [show (W : Int) * (H : Int) = ((W * H : Nat) : Int) from (Int.natCast_mul _ _).symm]
    generalize W * H = p at hWH ⊢
    exact wrap_id (by omega) (by omega)
  rw [e1, hl, decide_eq_true (show 1 ≤ (W : Int) ∧ (W : Int) ≤ 36 by omega), decide_eq_true (show 1 ≤ (H : Int) ∧ (H : Int) ≤ 36 by omega)]
  simp only [bne_self_eq_false, Bool.not_false, Bool.and_self, if_true]
  rw [List.all_eq_true]
  intro x hx
  exact decide_eq_true (cover_bd es (by omega) e x hx)
/-! ### sums -/
theorem sumW_le (f : Int → Int) (hf : ∀ x, 0 ≤ x ∧ x ≤ 16 → 0 ≤ f x ∧ f x ≤ x) : ∀ (l : List Int), (∀ x ∈ l, 0 ≤ x ∧ x ≤ 16) → ∀ (s t : Int), 0 ≤ s → s ≤ t → t + 16 * l.length ≤ 1000000 → (l.map f).foldl (fun s x => wrap64 (s + x)) s ≤ l.foldl (fun s x => wrap64 (s + x)) t := by
  intro l
  induction l with
  | nil => intro _ s t _ h _; exact h
  | cons x l ih =>
    intro hl s t h0 h1 h2
    have hx := hl x (List.mem_cons_self ..)
    have hfx := hf x hx
    simp only [List.length_cons] at h2
    simp only [List.map_cons, List.foldl_cons]
    rw [wrap_id (n := s + f x) (by omega) (by omega), wrap_id (n := t + x) (by omega) (by omega)]
    exact ih (fun y hy => hl y (List.mem_cons_of_mem _ hy)) _ _ (by omega) (by omega) (by omega)
def meetS (n : Int) : Int := wrap64 (Int.tdiv (wrap64 ((wrap64 (n * n)) + 8)) 16)
theorem meetS_bd (n : Int) (h : 0 ≤ n ∧ n ≤ 16) : 0 ≤ meetS n ∧ meetS n ≤ n := by
  unfold meetS
  obtain ⟨k, rfl⟩ := Int.eq_ofNat_of_zero_le h.1
  have hk : k < 17 := by omega
  have : ∀ k : Fin 17, 0 ≤ wrap64 (Int.tdiv (wrap64 ((wrap64 (((k.1 : Nat) : Int) * ((k.1 : Nat) : Int))) + 8)) 16) ∧ wrap64 (Int.tdiv (wrap64 ((wrap64 (((k.1 : Nat) : Int) * ((k.1 : Nat) : Int))) + 8)) 16) ≤ ((k.1 : Nat) : Int) := by decide +kernel
  exact this ⟨k, hk⟩
theorem met_self (l : List Int) : met l l = l.map meetS := by
  unfold met
  apply List.ext_getElem
  · simp
  · intro i h1 h2
    simp only [List.length_map, List.length_range] at h1
    simp [meet1, meetS, rd_nat l i h1]
/-! ### the rest -/
theorem sameInts_ (l : List Int) (hl : l.length ≤ 1048576) : Ev (fun k => laws_sameInts.f k l l) true := by
  unfold laws_sameInts.f
  simp only [if_true]
  have h := all_ev (fun _ : Int => true) l 0 (by omega) (fun k i => laws_sameInts.l0 k l l l.length i) (fun k i hi => by
    show laws_sameInts.l0 (k + 1) l l l.length i = _
    rw [laws_sameInts.l0, if_pos (by omega), if_pos (by omega), if_pos (by omega), if_pos (by omega), if_pos rfl]; rfl) (fun k => by
    show laws_sameInts.l0 (k + 1) l l _ _ = _
    rw [laws_sameInts.l0, if_neg (by omega)])
  rw [List.all_eq_true.2 (fun _ _ => rfl)] at h
  exact h
theorem number_ {c : List Int} (hc : Bytes c) (hl : c.length ≤ 1048576) : ∃ K : Nat, Ev (fun k => laws_numberOf.f k c) (K : Int) ∧ K ≤ 1000002 := by
  have hinv : ∃ r : Int, (0 ≤ r ∧ r ≤ 1000002) ∧ Ev (fun k => laws_numberOf.f k c) r := by
    refine ⟨forTo (fun i s => Int.tmod (wrap64 ((wrap64 (31 * s)) + (wrap64 (rd c (i : Int))))) 1000003) c.length 0, ?_, ?_⟩
    · refine forTo_inv (fun _ s => 0 ≤ s ∧ s ≤ 1000002) c.length (fun i s hi hI => ?_) 0 ⟨by omega, by omega⟩
      have hb := byte_rd hc (i := (i : Int)) (by omega) (by omega)
      show 0 ≤ Int.tmod _ 1000003 ∧ Int.tmod _ 1000003 ≤ 1000002
      rw [wrap_id (n := 31 * s) (by omega) (by omega), wrap_id (n := rd c (i : Int)) (by omega) (by omega), wrap_id (by omega) (by omega)]
      have := tmod_in (x := 31 * s + rd c (i : Int)) (n := 1000003) (by omega) (by omega)
      omega
    · unfold laws_numberOf.f
      refine for_ev c.length (fun i s => Int.tmod (wrap64 ((wrap64 (31 * s)) + (wrap64 (rd c (i : Int))))) 1000003) (fun _ _ => True) (fun k i s => laws_numberOf.l0 k s c c.length i) _ 0 (by omega) (fun i s hi _ hn => ?_) (fun _ _ _ _ => trivial) trivial (fun _ => ?_)
      · refine Ev.step (fun k => ?_) hn
        show laws_numberOf.l0 (k + 1) _ _ _ _ = _
        rw [laws_numberOf.l0, if_pos (by omega), if_pos (by omega), if_pos (by omega)]
      · exact ev_some fun k => by rw [laws_numberOf.l0, if_neg (by omega)]
  obtain ⟨r, ⟨h0, h1⟩, h2⟩ := hinv
  obtain ⟨K, rfl⟩ := Int.eq_ofNat_of_zero_le h0
  exact ⟨K, h2, by omega⟩
theorem bytes_of {l : List Int} (h1 : l.length * 1 ≤ 140737488351232) (h2 : ∀ x ∈ l, (Lit.int .u8 x).wf = true) : Bytes l := by
  refine ⟨fun x hx => ?_, by omega⟩
  have := h2 x hx
  exact bounds_u8 this
set_option maxHeartbeats 4000000 in
theorem FnCover : laws_FnCover.Pure := by
  intro c d _ hc1 hc2 _ hd1 hd2
  have hc := bytes_of hc1 hc2
  have hd := bytes_of hd1 hd2
  refine Ev.rounds ?_
  unfold laws_FnCover.f
  rw [wrap_id (by omega) (by omega)]
  by_cases hbig : (c.length : Int) + (d.length : Int) > 1048576
  · simp only [if_pos hbig]; exact Ev.now _
  simp only [if_neg hbig]
  obtain ⟨l, a, b, e, hdraw, hf⟩ := drawCover hc
  have hsum := few_sum hf
  have hl5 := hf.1
  have hi := implCoverOf l a b e (by omega) (by omega)
  have hs : Ev (fun k => spec_CoverOf.f k l a b e) (coverOf l a b e) := specCoverOf l a b e (by omega) (by omega)
  refine Ev.bind hdraw (Ev.bind hi (Ev.bind hs ?_))
  simp only [bne_self_eq_false, Bool.false_eq_true, if_false]
  unfold coverOf
  have fail : ∀ a' b' c', Ev (fun k => (laws_sameInts.f k ([] : List Int) ([] : List Int)).bind fun t388 => laws_FnCover.j0 k d l a' b' c' false (!t388) 0 0 []) true := by
    intro a' b' c'
    refine Ev.bind (sameInts_ [] (by simp)) ?_
    exact ev_some fun k => by rw [Bool.not_true, laws_FnCover.j0, if_neg (by simp), if_neg (by simp)]
  by_cases hok : linesOk l = true
  · by_cases ha : 1 ≤ a ∧ a ≤ 36
    · by_cases hb : 1 ≤ b ∧ b ≤ 36
      · simp only [if_pos hok, if_pos ha, if_pos hb]
        obtain ⟨W, rfl⟩ : ∃ W : Nat, a = W := ⟨a.toNat, by omega⟩
        obtain ⟨H, rfl⟩ : ∃ H : Nat, b = H := ⟨b.toNat, by omega⟩
        simp only [Int.toNat_natCast]
        obtain ⟨m, hm⟩ : ∃ m, coverL (edges l) W H e = m := ⟨_, rfl⟩
        have hml : m.length ≤ 1296 := by
          rw [← hm, (cover_in (edges l) W H e).1]
          exact Nat.mul_le_mul (show W ≤ 36 by omega) (show H ≤ 36 by omega)
        have hmb : ∀ x ∈ m, 0 ≤ x ∧ x ≤ 16 := by rw [← hm]; exact cover_bd (edges l) (by omega) e
        have hmg : goodMask W H m = true := by rw [← hm]; exact cover_good (edges l) (by omega) (by omega) e
        obtain ⟨K, hK, hK1⟩ := number_ hd (by omega)
        have hback : Ev (fun k => impl_CoverOf.f k (onEach backP l) W H e) (W, H, m, true) := by
          have h1 := implCoverOf (onEach backP l) W H e (by rw [onEach_len]; omega) (by rw [turned_sum back_turned l]; omega)
          unfold coverOf at h1
          rw [if_pos (turned_ok back_turned l hok), if_pos ha, if_pos hb, Int.toNat_natCast, Int.toNat_natCast, cover_back hf hok (by omega) (by omega), hm] at h1
          exact h1
        have hturn : Ev (fun k => impl_CoverOf.f k (onEach (turnP K) l) W H e) (W, H, m, true) := by
          have h1 := implCoverOf (onEach (turnP K) l) W H e (by rw [onEach_len]; omega) (by rw [turned_sum (turn_turned K) l]; omega)
          unfold coverOf at h1
          rw [if_pos (turned_ok (turn_turned K) l hok), if_pos ha, if_pos hb, Int.toNat_natCast, Int.toNat_natCast, cover_turn K hf, hm] at h1
          exact h1
        rw [hm]
        refine Ev.bind (sameInts_ m (by omega)) ?_
        refine Ev.step (f := fun k => (laws_numberOf.f k d).bind fun t389 => (laws_FnCover.l0 k (W : Int) (H : Int) e ([] : List Ln) ([] : List Ln) t389 l (l.length : Int) 0 (W : Int) (H : Int) m)) (fun k => by
          rw [Bool.not_true, laws_FnCover.j0, if_neg (by simp), if_pos rfl]) ?_
        refine Ev.bind hK ?_
        refine for_ev l.length (fun i (s : List Ln × List Ln) => (s.1 ++ [⟨backP (l.getD i z83).f0, (l.getD i z83).f1⟩], s.2 ++ [⟨turnP K (l.getD i z83).f0, (l.getD i z83).f1⟩])) (fun i s => s.1.length = i ∧ s.2.length = i) (fun k i s => laws_FnCover.l0 k (W : Int) (H : Int) e s.1 s.2 (K : Int) l (l.length : Int) i (W : Int) (H : Int) m) true (([] : List Ln), ([] : List Ln)) (by omega)
          (fun i s hi hI hn => ?_) (fun i s hi hI => by simp [hI.1, hI.2]) ⟨rfl, rfl⟩ (fun _ => ?_)
        · obtain ⟨s1, s2⟩ := s
          simp only [] at hI hn ⊢
          have h10 : pts l i ≤ 10 := hf.2 _ (by simp [List.getD, hi])
          have hpl : (rd_T83 l (i : Int)).f0.length = pts l i := rfl
          refine Ev.step (f := fun k => laws_FnCover.l1 k (W : Int) (H : Int) e s1 s2 (K : Int) ((pts l i : Nat) : Int) l (l.length : Int) i ((pts l i : Nat) : Int) 0 (W : Int) (H : Int) m ((rd_T83 l i).f0) ((rd_T83 l i).f1) [] ((rd_T83 l i).f1) [] ((rd_T83 l i).f1)) (fun k => by
            rw [laws_FnCover.l0, if_pos (by omega), if_pos (by omega), if_pos (by omega)]; rfl) ?_
          have hps : (rd_T83 l (i : Int)).f0 = (l.getD i z83).f0 := rfl
          have hpb : (rd_T83 l (i : Int)).f1 = (l.getD i z83).f1 := rfl
          rw [hps, hpb]
          have hpl2 : (l.getD i z83).f0.length = pts l i := rfl
          generalize (l.getD i z83).f0 = ps at hpl2 hn ⊢
          generalize (l.getD i z83).f1 = pb at hn ⊢
          rw [← hpl2] at h10 ⊢
          refine for_ev ps.length (fun j (s : List Pt × List Pt) => (s.1 ++ [ps.getD (ps.length - 1 - j) z25], s.2 ++ [ps.getD ((j + K) % ps.length) z25])) (fun j s => s.1.length = j ∧ s.2.length = j) (fun k j s => laws_FnCover.l1 k (W : Int) (H : Int) e s1 s2 (K : Int) (ps.length : Int) l (l.length : Int) i (ps.length : Int) j (W : Int) (H : Int) m ps pb s.1 pb s.2 pb) true (([] : List Pt), ([] : List Pt)) (by omega)
            (fun j s hj hJ hn2 => ?_) (fun j s hj hJ => by simp [hJ.1, hJ.2]) ⟨rfl, rfl⟩ (fun _ => ?_)
          · obtain ⟨t1, t2⟩ := s
            simp only [] at hJ hn2 ⊢
            refine Ev.step (fun k => ?_) hn2
            show laws_FnCover.l1 (k + 1) _ _ _ _ _ _ _ _ _ _ _ _ _ _ _ _ _ _ _ _ _ = _
            have hmod : (j + K) % ps.length < ps.length := Nat.mod_lt _ (by omega)
            have w1 : wrap64 ((wrap64 ((ps.length : Int) - 1)) - (j : Int)) = ((ps.length - 1 - j : Nat) : Int) := by rw [wrap_id (n := (ps.length : Int) - 1) (by omega) (by omega), wrap_id (by omega) (by omega)]; omega
            have w2 : Int.tmod (wrap64 ((j : Int) + (K : Int))) (ps.length : Int) = (((j + K) % ps.length : Nat) : Int) := by rw [wrap_id (by omega) (by omega), tmod_nn (by omega)]; rfl
            obtain ⟨q, hq⟩ : ∃ q, (j + K) % ps.length = q := ⟨_, rfl⟩
            rw [hq] at hmod w2
            rw [hq]
            obtain ⟨u, hu⟩ : ∃ u, ps.length - 1 - j = u := ⟨_, rfl⟩
            rw [hu] at w1
            rw [hu]
            have hu1 : u < ps.length := by omega
            rw [laws_FnCover.l1, if_pos (by omega), w1, w2, if_pos (by omega), if_pos (by omega), if_pos (by omega), if_neg (by omega), if_pos (by omega), if_pos (by omega), if_pos (by omega)]
            rfl
          · have hb1 : forTo (fun j (s : List Pt × List Pt) => (s.1 ++ [ps.getD (ps.length - 1 - j) z25], s.2 ++ [ps.getD ((j + K) % ps.length) z25])) ps.length (([] : List Pt), ([] : List Pt)) = (backP ps, turnP K ps) := by
              have key : ∀ n, forTo (fun j (s : List Pt × List Pt) => (s.1 ++ [ps.getD (ps.length - 1 - j) z25], s.2 ++ [ps.getD ((j + K) % ps.length) z25])) n (([] : List Pt), ([] : List Pt)) = ((List.range n).map (fun j => ps.getD (ps.length - 1 - j) z25), (List.range n).map (fun j => ps.getD ((j + K) % ps.length) z25)) := by
                intro n
                induction n with
                | zero => rfl
                | succ n ih => simp only [forTo]; rw [ih]; simp [List.range_succ]
              exact key _
            rw [hb1]
            refine Ev.step (fun k => ?_) hn
            show laws_FnCover.l1 (k + 1) _ _ _ _ _ _ _ _ _ _ _ _ _ _ _ _ _ _ _ _ _ = _
            rw [laws_FnCover.l1, if_neg (by omega), if_pos (by omega), if_pos (by omega)]
        · have hb2 : forTo (fun i (s : List Ln × List Ln) => (s.1 ++ [⟨backP (l.getD i z83).f0, (l.getD i z83).f1⟩], s.2 ++ [⟨turnP K (l.getD i z83).f0, (l.getD i z83).f1⟩])) l.length (([] : List Ln), ([] : List Ln)) = (onEach backP l, onEach (turnP K) l) := by
            have key : ∀ n, forTo (fun i (s : List Ln × List Ln) => (s.1 ++ [(⟨backP (l.getD i z83).f0, (l.getD i z83).f1⟩ : Ln)], s.2 ++ [(⟨turnP K (l.getD i z83).f0, (l.getD i z83).f1⟩ : Ln)])) n (([] : List Ln), ([] : List Ln)) = ((List.range n).map (fun i => (⟨backP (l.getD i z83).f0, (l.getD i z83).f1⟩ : Ln)), (List.range n).map (fun i => (⟨turnP K (l.getD i z83).f0, (l.getD i z83).f1⟩ : Ln))) := by
              intro n
              induction n with
              | zero => rfl
              | succ n ih => simp only [forTo]; rw [ih]; simp [List.range_succ]
            exact key _
          rw [hb2]
          have hmeet := implMeet (W : Int) (H : Int) m (W : Int) (H : Int) m (by omega) (by omega)
          have hmm : meetMasks (W : Int) (H : Int) m (W : Int) (H : Int) m = (↑W, ↑H, met m m, true) := by unfold meetMasks; rw [if_pos hmg, if_pos hmg, if_pos rfl, if_pos rfl]
          rw [hmm] at hmeet
          have hll : (met m m).length = m.length := by simp [met]
          have hgm : goodMask W H (met m m) = true := by
            have h1 := hmg
            unfold goodMask at h1 ⊢
            rw [hll]
            split at h1
            · rename_i hcnd
              rw [if_pos hcnd, met_self, List.all_map, List.all_eq_true]
              intro x hx
              have := meetS_bd x (hmb x hx)
              have := hmb x hx
              exact decide_eq_true (by omega)
            · cases h1
          have hs1 := implSum (W : Int) (H : Int) m (by omega) hmg
          have hs2 := implSum (W : Int) (H : Int) (met m m) (by omega) hgm
          have hle : sumW (met m m) ≤ sumW m := by
            rw [met_self]
            exact sumW_le meetS (fun x hx => ⟨(meetS_bd x hx).1, (meetS_bd x hx).2⟩) m hmb 0 0 (by omega) (by omega) (by omega)
          apply Ev.step
          · intro k
            show laws_FnCover.l0 (k + 1) _ _ _ _ _ _ _ _ _ _ _ _ = _
            rw [laws_FnCover.l0, if_neg (by omega)]
          refine Ev.bind hback (Ev.bind hturn (Ev.bind hmeet (Ev.bind hs1 (Ev.bind hs2 ?_))))
          simp only [if_true]
          refine Ev.bind (sameInts_ m (by omega)) ?_
          simp only [if_true]
          refine Ev.bind (sameInts_ m (by omega)) ?_
          simp only [if_true]
          rw [decide_eq_true hle]
          exact Ev.now _
      · simp only [if_pos hok, if_pos ha, if_neg hb]; exact fail _ _ _
    · simp only [if_pos hok, if_neg ha]; exact fail _ _ _
  · simp only [if_neg hok]; exact fail _ _ _
end Go.Proofs.Ytdbgnoolokfafaa.Pure
