/- Merged: Cover, Edges, EqInts, EqPts, For, Grow, In, Lines, MarkInts, MarkLines, MarkMask, MarkPts, Marks, Num, Pts, PureFnExactCoverOf, Steps, Wide, Winding. -/
import Derived.Test.YtdbgnoolokfafaaYPlain
import Derived.Laws.MathBits
import Derived.Laws.BitsAllLaws
import Derived.Test.YtdbgnoolokfafaaYHFnExactCoverOfx
/- More facts on numbers: quotients, squares, roots. -/
namespace Go.Proofs.Ytdbgnoolokfafaa.Plain
open Go.RowKit Go.Proofs.YtdbgnoolokfafaaW.PrintWords Go.Proofs.YtdbgnoolokfafaaW.PrintLast
theorem tdiv_nn {a : Int} (h : 0 ≤ a) (b : Int) : Int.tdiv a b = a / b := Int.tdiv_eq_ediv_of_nonneg h
theorem tmod_nn {a : Int} (h : 0 ≤ a) (b : Int) : Int.tmod a b = a % b := Int.tmod_eq_emod_of_nonneg h
end Go.Proofs.Ytdbgnoolokfafaa.Plain
/- Wide products, as two halves of 64 bits. -/
namespace Go.Proofs.Ytdbgnoolokfafaa.Plain
open Go.RowKit Go.Proofs.YtdbgnoolokfafaaW.PrintWords Go.Proofs.YtdbgnoolokfafaaW.PrintLast
theorem div_between {n b q : Int} (hb : 0 < b) (h0 : q * b ≤ n) (h1 : n < (q + 1) * b) : n / b = q :=
  Int.le_antisymm (Int.lt_add_one_iff.1 (Int.ediv_lt_of_lt_mul hb h1)) (Int.le_ediv_of_mul_le hb h0)
theorem tdiv_neg_num {a : Int} (h : a < 0) (b : Int) : Int.tdiv a b = -((-a) / b) ∧ Int.tmod a b = -((-a) % b) := by
  obtain ⟨c, rfl⟩ : ∃ c, a = -c := ⟨-a, by omega⟩
  rw [Int.neg_tdiv, Int.neg_tmod, tdiv_nn (by omega), tmod_nn (by omega), Int.neg_neg]
  exact ⟨rfl, rfl⟩
/-- A quotient rounded down, by the machine's. -/
theorem down_num (a : Int) {b : Int} (hb : 0 < b) : (if Int.tmod a b < 0 then Int.tdiv a b - 1 else Int.tdiv a b) = a / b := by
  rcases (by omega : 0 ≤ a ∨ a < 0) with h | h
  · rw [tmod_nn h, tdiv_nn h, if_neg (by have := Int.emod_nonneg a (by omega : b ≠ 0); omega)]
  · obtain ⟨h1, h2⟩ := tdiv_neg_num h b
    rw [h1, h2]
    have e := Int.mul_ediv_add_emod (-a) b
    have e0 := Int.emod_nonneg (-a) (by omega : b ≠ 0)
    have e1 := Int.emod_lt_of_pos (-a) hb
    generalize (-a) / b = q at *
    generalize (-a) % b = r at *
    split
    · refine (div_between hb ?_ ?_).symm
      · rw [show -q - 1 = -(q + 1) by omega, Int.neg_mul, Int.add_mul, Int.mul_comm q]; omega
      · rw [show -q - 1 + 1 = -q by omega, Int.neg_mul, Int.mul_comm q]; omega
    · refine (div_between hb ?_ ?_).symm
      · rw [Int.neg_mul, Int.mul_comm q]; omega
      · rw [show -q + 1 = -(q - 1) by omega, Int.neg_mul, Int.sub_mul, Int.mul_comm q]; omega
theorem tdiv_small {a b : Int} (hb : 0 < b) (h0 : -9223372036854775807 ≤ a) (h1 : a ≤ 9223372036854775807) : -9223372036854775807 ≤ Int.tdiv a b ∧ Int.tdiv a b ≤ 9223372036854775807 := by
  rcases (by omega : 0 ≤ a ∨ a < 0) with h | h
  · rw [tdiv_nn h]
    have h2 := Int.ediv_nonneg h (by omega : 0 ≤ b)
    have h3 := Int.ediv_le_self b h
    omega
  · rw [(tdiv_neg_num h b).1]
    have h2 := Int.ediv_nonneg (by omega : 0 ≤ -a) (by omega : 0 ≤ b)
    have h3 := Int.ediv_le_self b (by omega : 0 ≤ -a)
    omega
end Go.Proofs.Ytdbgnoolokfafaa.Plain
/- A list that grows, element by element. -/
namespace Go.Proofs.Ytdbgnoolokfafaa.Plain
open Go.RowKit Go.Proofs.YtdbgnoolokfafaaW.PrintWords Go.Proofs.YtdbgnoolokfafaaW.PrintLast
set_option linter.unusedVariables false
end Go.Proofs.Ytdbgnoolokfafaa.Plain
/- Loops whose rounds run inner loops. -/
namespace Go.Proofs.Ytdbgnoolokfafaa.Plain
open Go.RowKit Go.Proofs.YtdbgnoolokfafaaW.PrintWords Go.Proofs.YtdbgnoolokfafaaW.PrintLast
set_option linter.unusedVariables false
/-- Two loops, one in the other, that ask. -/
theorem all2_ev (N : Nat) (n : Nat → Nat) (P : Nat → Nat → Bool) (hN : N ≤ 9223372036854775806) (hn : ∀ i, i < N → n i ≤ 9223372036854775806) (g0 : Nat → Int → Option Bool) (g1 : Nat → Nat → Int → Option Bool)
    (h0 : ∀ k (i : Nat), i < N → g0 (k + 1) i = g1 k i 0) (h0e : ∀ k, g0 (k + 1) N = some true)
    (h1 : ∀ k (i j : Nat), i < N → j < n i → g1 (k + 1) i j = if P i j = true then g1 k i (wrap64 ((j : Int) + 1)) else some false)
    (h1e : ∀ k (i : Nat), i < N → g1 (k + 1) i (n i) = g0 k (wrap64 ((i : Int) + 1))) :
    Ev (fun k => g0 k 0) ((List.range N).all fun i => (List.range (n i)).all (P i)) := by
  classical
  have key : ∀ i, i ≤ N → Ev (fun k => g0 k (i : Nat)) (decide (∀ i', i ≤ i' → i' < N → ∀ j, j < n i' → P i' j = true)) := by
    refine up (p := fun i => Ev (fun k => g0 k (i : Nat)) (decide (∀ i', i ≤ i' → i' < N → ∀ j, j < n i' → P i' j = true))) N ?_ ?_
    · rw [decide_eq_true (by intro i' h1 h2; omega)]
      exact ev_some fun k => h0e k
    · intro i hi ih
      have key1 : ∀ j, j ≤ n i → Ev (fun k => g1 k i (j : Nat)) (decide ((∀ j', j ≤ j' → j' < n i → P i j' = true) ∧ ∀ i', i + 1 ≤ i' → i' < N → ∀ j, j < n i' → P i' j = true)) := by
        refine up (p := fun j => Ev (fun k => g1 k i (j : Nat)) (decide ((∀ j', j ≤ j' → j' < n i → P i j' = true) ∧ ∀ i', i + 1 ≤ i' → i' < N → ∀ j, j < n i' → P i' j = true))) (n i) ?_ ?_
        · refine Ev.step (f := fun k => g0 k ((i + 1 : Nat) : Int)) (fun k => ?_) ?_
          · rw [h1e k i hi, wrap_id (by omega) (by omega)]; rfl
          · have e : ((∀ j', n i ≤ j' → j' < n i → P i j' = true) ∧ ∀ i', i + 1 ≤ i' → i' < N → ∀ j, j < n i' → P i' j = true) ↔ ∀ i', i + 1 ≤ i' → i' < N → ∀ j, j < n i' → P i' j = true := ⟨fun h => h.2, fun h => ⟨fun j' a b => by omega, h⟩⟩
            rw [decide_eq_decide.2 e]
            exact ih
        · intro j hj ihj
          cases hP : P i j
          · rw [decide_eq_false (fun h => by have := h.1 j (Nat.le_refl _) hj; rw [hP] at this; cases this)]
            exact ev_some fun k => by rw [h1 k i j hi hj, hP]; rfl
          · have e : ((∀ j', j ≤ j' → j' < n i → P i j' = true) ∧ ∀ i', i + 1 ≤ i' → i' < N → ∀ j, j < n i' → P i' j = true) ↔ ((∀ j', j + 1 ≤ j' → j' < n i → P i j' = true) ∧ ∀ i', i + 1 ≤ i' → i' < N → ∀ j, j < n i' → P i' j = true) := by
              refine ⟨fun h => ⟨fun j' a b => h.1 j' (by omega) b, h.2⟩, fun h => ⟨fun j' a b => ?_, h.2⟩⟩
              rcases Nat.lt_or_ge j j' with c | c
              · exact h.1 j' (by omega) b
              · rw [show j' = j by omega]; exact hP
            rw [decide_eq_decide.2 e]
            refine Ev.step (f := fun k => g1 k i ((j + 1 : Nat) : Int)) (fun k => ?_) ihj
            have := hn i hi
            rw [h1 k i j hi hj, hP, if_pos rfl, wrap_id (by omega) (by omega)]; rfl
      have e : (∀ i', i ≤ i' → i' < N → ∀ j, j < n i' → P i' j = true) ↔ ((∀ j', 0 ≤ j' → j' < n i → P i j' = true) ∧ ∀ i', i + 1 ≤ i' → i' < N → ∀ j, j < n i' → P i' j = true) := by
        refine ⟨fun h => ⟨fun j' a b => h i (Nat.le_refl _) hi j' b, fun i' a b => h i' (by omega) b⟩, fun h i' a b j c => ?_⟩
        rcases Nat.lt_or_ge i i' with d | d
        · exact h.2 i' (by omega) b j c
        · have : i' = i := by omega
          subst this
          exact h.1 j (Nat.zero_le _) c
      rw [decide_eq_decide.2 e]
      exact Ev.step (f := fun k => g1 k i ((0 : Nat) : Int)) (fun k => by rw [h0 k i hi]; rfl) (key1 0 (Nat.zero_le _))
  have := key 0 (Nat.zero_le _)
  have e : decide (∀ i', 0 ≤ i' → i' < N → ∀ j, j < n i' → P i' j = true) = ((List.range N).all fun i => (List.range (n i)).all (P i)) := by
    rw [Bool.eq_iff_iff]
    simp
  rw [e] at this
  exact this
/-- What two loops, one in the other, have gathered at a place. -/
def gath {γ : Type} (n : Nat → Nat) (f : Nat → Nat → List γ) (i j : Nat) : List γ := ((List.range i).flatMap fun a => (List.range (n a)).flatMap (f a)) ++ (List.range j).flatMap (f i)
theorem gath_in {γ : Type} (n : Nat → Nat) (f : Nat → Nat → List γ) (i j : Nat) : gath n f i j ++ f i j = gath n f i (j + 1) := by simp [gath, List.range_succ]
theorem gath_out {γ : Type} (n : Nat → Nat) (f : Nat → Nat → List γ) (i : Nat) : gath n f i (n i) = gath n f (i + 1) 0 := by simp [gath, List.range_succ]
/-- Two loops, one in the other, that gather. -/
theorem gath_ev {γ ρ : Type} (N : Nat) (n : Nat → Nat) (f : Nat → Nat → List γ) (fin : List γ → ρ) (hN : N ≤ 9223372036854775806) (hn : ∀ i, i < N → n i ≤ 9223372036854775806) (g0 : Nat → Int → List γ → Option ρ) (g1 : Nat → Nat → Int → List γ → Option ρ)
    (h0 : ∀ k (i : Nat) acc, i < N → g0 (k + 1) i acc = g1 k i 0 acc) (h0e : ∀ k acc, g0 (k + 1) N acc = some (fin acc))
    (h1 : ∀ k (i j : Nat), i < N → j < n i → g1 (k + 1) i j (gath n f i j) = g1 k i (wrap64 ((j : Int) + 1)) (gath n f i j ++ f i j))
    (h1e : ∀ k (i : Nat) acc, i < N → g1 (k + 1) i (n i) acc = g0 k (wrap64 ((i : Int) + 1)) acc) :
    Ev (fun k => g0 k 0 []) (fin (gath n f N 0)) := by
  have key : ∀ i, i ≤ N → Ev (fun k => g0 k (i : Nat) (gath n f i 0)) (fin (gath n f N 0)) := by
    refine up (p := fun i => Ev (fun k => g0 k (i : Nat) (gath n f i 0)) (fin (gath n f N 0))) N ?_ ?_
    · exact ev_some fun k => h0e k _
    · intro i hi ih
      have key1 : ∀ j, j ≤ n i → Ev (fun k => g1 k i (j : Nat) (gath n f i j)) (fin (gath n f N 0)) := by
        refine up (p := fun j => Ev (fun k => g1 k i (j : Nat) (gath n f i j)) (fin (gath n f N 0))) (n i) ?_ ?_
        · refine Ev.step (f := fun k => g0 k ((i + 1 : Nat) : Int) (gath n f (i + 1) 0)) (fun k => ?_) ih
          rw [h1e k i _ hi, gath_out, wrap_id (by omega) (by omega)]; rfl
        · intro j hj ihj
          refine Ev.step (f := fun k => g1 k i ((j + 1 : Nat) : Int) (gath n f i (j + 1))) (fun k => ?_) ihj
          have := hn i hi
          rw [h1 k i j hi hj, gath_in, wrap_id (by omega) (by omega)]; rfl
      exact Ev.step (f := fun k => g1 k i ((0 : Nat) : Int) (gath n f i 0)) (fun k => by rw [h0 k i _ hi]; rfl) (key1 0 (Nat.zero_le _))
  exact key 0 (Nat.zero_le _)
/-- How much is gathered at most. -/
def sumTo (n : Nat → Nat) : Nat → Nat
  | 0 => 0
  | i + 1 => sumTo n i + n i
theorem flat_len {γ : Type} (f : Nat → List γ) (h : ∀ j, (f j).length ≤ 1) (j : Nat) : ((List.range j).flatMap f).length ≤ j := by
  induction j with
  | zero => simp
  | succ j ih => have := h j; simp [List.range_succ] at ih ⊢; omega
theorem gath_len {γ : Type} (n : Nat → Nat) (f : Nat → Nat → List γ) (h : ∀ i j, (f i j).length ≤ 1) (i j : Nat) : (gath n f i j).length ≤ sumTo n i + j := by
  have h2 := flat_len (f i) (h i) j
  have h1 : ∀ i, ((List.range i).flatMap fun a => (List.range (n a)).flatMap (f a)).length ≤ sumTo n i := by
    intro i
    induction i with
    | zero => simp [sumTo]
    | succ i ih =>
      have := flat_len (f i) (h i) (n i)
      simp only [List.range_succ, List.flatMap_append, List.length_append, sumTo]
      simp only [List.flatMap_cons, List.flatMap_nil, List.append_nil]
      omega
  have := h1 i
  unfold gath
  rw [List.length_append]
  omega
theorem sumTo_le (n : Nat → Nat) {i j : Nat} (h : i ≤ j) : sumTo n i ≤ sumTo n j := by
  induction j with
  | zero => have : i = 0 := by omega
            subst this; exact Nat.le_refl _
  | succ j ih =>
    rcases Nat.lt_or_ge i (j + 1) with c | c
    · have := ih (by omega)
      show sumTo n i ≤ sumTo n j + n j
      omega
    · rw [show i = j + 1 by omega]; exact Nat.le_refl _
/-- A loop over a list with a state that a round makes anew, an inner loop's answer among what it uses. -/
theorem copy_evs {α β : Type} (f : α → β) (xs : List α) (z : α) (y : β) (hn : xs.length ≤ 9223372036854775806) (g : Nat → List β → Int → Option (List β))
    (h : ∀ (i : Nat) ys R, i < xs.length → ys.length = xs.length → Ev (fun k => g k (ys.set i (f (xs.getD i z))) (wrap64 ((i : Int) + 1))) R → Ev (fun k => g k ys i) R)
    (he : ∀ k ys, g (k + 1) ys xs.length = some ys) (ys : List β) (hl : ys.length = xs.length) : Ev (fun k => g k ys 0) (xs.map f) := by
  have key : ∀ i, i ≤ xs.length → Ev (fun k => g k ((xs.map f).take i ++ ys.drop i) (i : Nat)) (xs.map f) := by
    refine up (p := fun i => Ev (fun k => g k ((xs.map f).take i ++ ys.drop i) (i : Nat)) (xs.map f)) xs.length ?_ ?_
    · have e : (xs.map f).take xs.length ++ ys.drop xs.length = xs.map f := by
        have := copied_all (xs.map f) ys (by simpa using hl)
        simpa using this
      rw [e]
      exact ev_some fun k => he k _
    · intro i hi ih
      have e := copied (xs.map f) ys (by simpa using hl) y i (by simpa using hi)
      have e2 : (xs.map f).getD i y = f (xs.getD i z) := by simp [hi]
      rw [e2] at e
      refine h i _ _ hi (by simp [List.length_take, List.length_drop]; omega) ?_
      rw [e, wrap_id (by omega) (by omega)]
      exact ih
  have := key 0 (Nat.zero_le _)
  simpa using this
theorem flat_hom {α γ δ : Type} (φ : List γ → List δ) (h0 : φ [] = []) (h1 : ∀ a b, φ (a ++ b) = φ a ++ φ b) (g : α → List γ) (l : List α) : φ (l.flatMap g) = l.flatMap (fun a => φ (g a)) := by
  induction l with
  | nil => simpa using h0
  | cons x l ih => simp only [List.flatMap_cons, h1, ih]
theorem gath_hom {γ δ : Type} (φ : List γ → List δ) (h0 : φ [] = []) (h1 : ∀ a b, φ (a ++ b) = φ a ++ φ b) (n : Nat → Nat) (f : Nat → Nat → List γ) (i j : Nat) : φ (gath n f i j) = gath n (fun a b => φ (f a b)) i j := by
  unfold gath
  rw [h1, flat_hom φ h0 h1, flat_hom φ h0 h1]
  congr 1
  congr 1
  funext a
  rw [flat_hom φ h0 h1]
/-- A loop over a list with a state, inner loops in its rounds. -/
theorem fold_evs {α σ ρ : Type} (xs : List α) (z : α) (step : σ → α → σ) (I : σ → Prop) (hI : ∀ s x, I s → I (step s x)) (fin : σ → ρ) (hn : xs.length ≤ 9223372036854775806) (g : Nat → Int → σ → Option ρ)
    (h : ∀ (i : Nat) s R, i < xs.length → I s → Ev (fun k => g k (wrap64 ((i : Int) + 1)) (step s (xs.getD i z))) R → Ev (fun k => g k i s) R)
    (he : ∀ k s, I s → g (k + 1) xs.length s = some (fin s)) (s : σ) (hs : I s) : Ev (fun k => g k 0 s) (fin (xs.foldl step s)) := by
  have key : ∀ i, i ≤ xs.length → ∀ s, I s → Ev (fun k => g k (i : Nat) s) (fin ((xs.drop i).foldl step s)) := by
    refine up (p := fun i => ∀ s, I s → Ev (fun k => g k (i : Nat) s) (fin ((xs.drop i).foldl step s))) xs.length ?_ ?_
    · intro s hs
      rw [List.drop_length]
      exact ev_some fun k => he k s hs
    · intro i hi ih s hs
      rw [List.drop_eq_getElem_cons hi]
      have hz : xs.getD i z = xs[i] := by simp [hi]
      refine h i s _ hi hs ?_
      rw [hz, wrap_id (by omega) (by omega)]
      exact ih _ (hI _ _ hs)
  exact key 0 (Nat.zero_le _) s hs
theorem fold_filter {α β σ : Type} (c : α → Option β) (st : σ → β → σ) (su : σ → α → σ) (I : σ → Prop) (hI : ∀ s x, I s → I (su s x)) (h : ∀ s x, I s → su s x = match c x with | none => s | some y => st s y) (xs : List α) : ∀ s, I s → (xs.filterMap c).foldl st s = xs.foldl su s := by
  induction xs with
  | nil => intro s _; rfl
  | cons x xs ih =>
    intro s hs
    have hx := h s x hs
    cases hc : c x with
    | none =>
      have hx' : su s x = s := by rw [hx, hc]
      rw [List.filterMap_cons_none hc, List.foldl_cons, ih s hs, hx']
    | some y =>
      have hx' : su s x = st s y := by rw [hx, hc]
      have hi : I (st s y) := by rw [← hx']; exact hI s x hs
      rw [List.filterMap_cons_some hc, List.foldl_cons, List.foldl_cons, hx', ih _ hi]
/-- A loop that asks of each element, with inner loops. -/
theorem all_evs (n : Nat) (hn : n ≤ 9223372036854775806) (g : Nat → Int → Option Bool)
    (h : ∀ (i : Nat) R, i < n → Ev (fun k => g k (wrap64 ((i : Int) + 1))) R → Ev (fun k => g k i) R) (he : ∀ k, g (k + 1) n = some true) : Ev (fun k => g k 0) true := by
  have key : ∀ i, i ≤ n → Ev (fun k => g k (i : Nat)) true := by
    refine up (p := fun i => Ev (fun k => g k (i : Nat)) true) n ?_ ?_
    · exact ev_some fun k => he k
    · intro i hi ih
      refine h i _ hi ?_
      rw [wrap_id (by omega) (by omega)]
      exact ih
  exact key 0 (Nat.zero_le _)
end Go.Proofs.Ytdbgnoolokfafaa.Plain
/- Loops that go up with a state, inner loops in their rounds. -/
namespace Go.Proofs.Ytdbgnoolokfafaa.Plain
open Go.RowKit Go.Proofs.YtdbgnoolokfafaaW.PrintWords Go.Proofs.YtdbgnoolokfafaaW.PrintLast
set_option linter.unusedVariables false
set_option linter.unusedSimpArgs false
/-- n rounds with a state. -/
def forTo {σ : Type} (f : Nat → σ → σ) : Nat → σ → σ
  | 0, s => s
  | n + 1, s => f n (forTo f n s)
theorem forTo_add {σ : Type} (f : Nat → σ → σ) (m : Nat) : ∀ n s, forTo f (m + n) s = forTo (fun k => f (m + k)) n (forTo f m s)
  | 0, s => rfl
  | n + 1, s => by
    show f (m + n) (forTo f (m + n) s) = f (m + n) (forTo (fun k => f (m + k)) n (forTo f m s))
    rw [forTo_add f m n s]
theorem forTo_split {σ : Type} (f : Nat → σ → σ) (b : Nat) : ∀ a s, forTo f (a * b) s = forTo (fun v s => forTo (fun k => f (v * b + k)) b s) a s
  | 0, s => by rw [Nat.zero_mul]; rfl
  | a + 1, s => by
    rw [show (a + 1) * b = a * b + b from Nat.succ_mul a b, forTo_add, forTo_split f b a s]
    rfl
theorem forTo_congr {σ : Type} {f g : Nat → σ → σ} (n : Nat) (h : ∀ i s, i < n → f i s = g i s) : ∀ s, forTo f n s = forTo g n s := by
  induction n with
  | zero => intro s; rfl
  | succ n ih =>
    intro s
    show f n (forTo f n s) = g n (forTo g n s)
    rw [ih (fun i s hi => h i s (by omega)), h n _ (by omega)]
/-- .. where the states are what they are. -/
theorem forTo_congrI {σ : Type} {f g : Nat → σ → σ} (I : Nat → σ → Prop) (n : Nat) (hI : ∀ i s, i < n → I i s → I (i + 1) (f i s)) (h : ∀ i s, i < n → I i s → f i s = g i s) : ∀ s, I 0 s → forTo f n s = forTo g n s ∧ I n (forTo f n s) := by
  induction n with
  | zero => intro s h0; exact ⟨rfl, h0⟩
  | succ n ih =>
    intro s h0
    obtain ⟨e, hn⟩ := ih (fun i s hi => hI i s (by omega)) (fun i s hi => h i s (by omega)) s h0
    refine ⟨?_, hI n _ (by omega) hn⟩
    show f n (forTo f n s) = g n (forTo g n s)
    rw [h n _ (by omega) hn, e]
theorem forTo_inv {σ : Type} {f : Nat → σ → σ} (I : Nat → σ → Prop) (n : Nat) (hI : ∀ i s, i < n → I i s → I (i + 1) (f i s)) (s : σ) (h0 : I 0 s) : I n (forTo f n s) :=
  (forTo_congrI (g := f) I n hI (fun _ _ _ _ => rfl) s h0).2
theorem forTo_id {σ : Type} {f : Nat → σ → σ} (n : Nat) (s : σ) (h : ∀ i, i < n → f i s = s) : forTo f n s = s := by
  induction n with
  | zero => rfl
  | succ n ih => show f n (forTo f n s) = s; rw [ih (fun i hi => h i (by omega)), h n (by omega)]
theorem forTo_foldl {α σ : Type} (st : σ → α → σ) (z : α) (l : List α) (s : σ) : forTo (fun i s => st s (l.getD i z)) l.length s = l.foldl st s := by
  have key : ∀ i, i ≤ l.length → forTo (fun i s => st s (l.getD i z)) i s = (l.take i).foldl st s := by
    intro i
    induction i with
    | zero => intro _; rfl
    | succ i ih =>
      intro hi
      show st (forTo _ i s) (l.getD i z) = _
      rw [ih (by omega), List.take_succ_eq_append_getElem (by omega), List.foldl_append]
      simp [List.getD, show i < l.length by omega]
  have := key l.length (Nat.le_refl _)
  rwa [List.take_length] at this
theorem forTo_flat {α : Type} (f : Nat → List α) (n : Nat) (acc : List α) : forTo (fun i s => s ++ f i) n acc = acc ++ (List.range n).flatMap f := by
  induction n with
  | zero => simp [forTo]
  | succ n ih => show forTo _ n acc ++ f n = _; rw [ih, List.range_succ, List.flatMap_append, List.append_assoc]; simp
theorem range_getD {α β : Type} (f : α → List β) (z : α) (l : List α) : (List.range l.length).flatMap (fun i => f (l.getD i z)) = l.flatMap f := by
  have key : ∀ i, i ≤ l.length → (List.range i).flatMap (fun i => f (l.getD i z)) = (l.take i).flatMap f := by
    intro i
    induction i with
    | zero => intro _; rfl
    | succ i ih =>
      intro hi
      rw [List.range_succ, List.flatMap_append, ih (by omega), List.take_succ_eq_append_getElem (by omega), List.flatMap_append]
      simp [List.getD, show i < l.length by omega]
  have := key l.length (Nat.le_refl _)
  rwa [List.take_length] at this
theorem flat_filter {α : Type} (p : α → Bool) (l : List α) : l.flatMap (fun x => if p x = true then [x] else []) = l.filter p := by
  induction l with
  | nil => rfl
  | cons x l ih => cases h : p x <;> simp [h, ih]
/-- A loop that goes up: what comes behind it comes behind its last state. -/
theorem for_ev {σ ρ : Type} (n : Nat) (f : Nat → σ → σ) (I : Nat → σ → Prop) (g : Nat → Int → σ → Option ρ) (R : ρ) (s0 : σ) (hn : n ≤ 9223372036854775806)
    (h : ∀ (i : Nat) s, i < n → I i s → Ev (fun k => g k (wrap64 ((i : Int) + 1)) (f i s)) R → Ev (fun k => g k (i : Nat) s) R)
    (hI : ∀ i s, i < n → I i s → I (i + 1) (f i s)) (h0 : I 0 s0)
    (hx : I n (forTo f n s0) → Ev (fun k => g k (n : Nat) (forTo f n s0)) R) : Ev (fun k => g k 0 s0) R := by
  have inv : ∀ i, i ≤ n → I i (forTo f i s0) := by
    intro i
    induction i with
    | zero => intro _; exact h0
    | succ i ih => intro hi; exact hI i _ (by omega) (ih (by omega))
  have key : ∀ i, i ≤ n → Ev (fun k => g k (i : Nat) (forTo f i s0)) R := by
    refine up (p := fun i => Ev (fun k => g k (i : Nat) (forTo f i s0)) R) n (hx (inv n (Nat.le_refl _))) ?_
    intro i hi ih
    refine h i _ hi (inv i (by omega)) ?_
    rw [wrap_id (by omega) (by omega)]
    exact ih
  exact key 0 (Nat.zero_le _)
/-- More than one round for a round. -/
theorem ev_more {α : Type} {g f : Nat → Option α} {r : α} (m : Nat) (h : ∀ k, g (k + m) = f k) (k : Ev f r) : Ev g r := by
  obtain ⟨K, k⟩ := k
  refine ⟨K + m, fun n hn => ?_⟩
  obtain ⟨j, rfl⟩ : ∃ j, n = j + m := ⟨n - m, by omega⟩
  rw [h]
  exact k j (by omega)
end Go.Proofs.Ytdbgnoolokfafaa.Plain
/- Marks: a list is written over from its front on, and read again. -/
namespace Go.Proofs.Ytdbgnoolokfafaa.Plain
open Go.RowKit Go.Proofs.YtdbgnoolokfafaaW.PrintWords Go.Proofs.YtdbgnoolokfafaaW.PrintLast
set_option linter.unusedVariables false
/-- A list of which the first i are written over. -/
def over {α : Type} (f : Nat → α) (xs : List α) (i : Nat) : List α := (List.range i).map f ++ xs.drop i
theorem over_len {α : Type} (f : Nat → α) (xs : List α) (i : Nat) (h : i ≤ xs.length) : (over f xs i).length = xs.length := by simp [over]; omega
theorem over_get {α : Type} (f : Nat → α) (xs : List α) (i j : Nat) (h : j < i) (z : α) : (over f xs i).getD j z = f j := by
  have h1 : ((List.range i).map f).length = i := by simp
  simp [over, List.getD, List.getElem?_append_left (show j < ((List.range i).map f).length by omega), h]
theorem over_set {α : Type} (f : Nat → α) (xs : List α) (i : Nat) (h : i < xs.length) : (over f xs i).set i (f i) = over f xs (i + 1) := by
  apply List.ext_getElem?
  intro j
  have h1 : ((List.range i).map f).length = i := by simp
  have h2 : ((List.range (i + 1)).map f).length = i + 1 := by simp
  unfold over
  rw [List.getElem?_set]
  by_cases hj : i = j
  · subst hj
    rw [if_pos rfl, if_pos (by simp; omega), List.getElem?_append_left (by omega)]
    simp
  · rw [if_neg hj]
    rcases Nat.lt_or_ge j i with h3 | h3
    · rw [List.getElem?_append_left (by omega), List.getElem?_append_left (by omega)]
      simp [h3, show j < i + 1 by omega]
    · rw [List.getElem?_append_right (by omega), List.getElem?_append_right (by omega), List.getElem?_drop, List.getElem?_drop, h1, h2]
      congr 1
      omega
theorem over_zero {α : Type} (f : Nat → α) (xs : List α) : over f xs 0 = xs := by simp [over]
theorem set_set_ {α : Type} (xs : List α) (i : Nat) (a b : α) : (xs.set i a).set i b = xs.set i b := by simp
theorem getD_set_ {α : Type} (xs : List α) (i : Nat) (h : i < xs.length) (a z : α) : (xs.set i a).getD i z = a := by simp [h]
/-- A walk that writes over a list: c numbers an element, from m on. -/
theorem mark_ev {α : Type} (c : Nat) (m : Nat) (f : Nat → α) (xs : List α) (hn : m + c * xs.length ≤ 9223372036854775806) (hx : xs.length ≤ 9223372036854775806) (g : Nat → List α → Int → Int → Option (Int × List α))
    (h : ∀ (k i : Nat) ys, i < xs.length → ys.length = xs.length → g (k + 1) ys ((m + c * i : Nat) : Int) i = g k (ys.set i (f i)) ((m + c * (i + 1) : Nat) : Int) (wrap64 ((i : Int) + 1)))
    (he : ∀ k ys q, ys.length = xs.length → g (k + 1) ys q xs.length = some (q, ys)) : Ev (fun k => g k xs m 0) (((m + c * xs.length : Nat) : Int), over f xs xs.length) := by
  have key : ∀ i, i ≤ xs.length → Ev (fun k => g k (over f xs i) ((m + c * i : Nat) : Int) (i : Nat)) (((m + c * xs.length : Nat) : Int), over f xs xs.length) := by
    refine up (p := fun i => Ev (fun k => g k (over f xs i) ((m + c * i : Nat) : Int) (i : Nat)) (((m + c * xs.length : Nat) : Int), over f xs xs.length)) xs.length ?_ ?_
    · exact ev_some fun k => he k _ _ (over_len f xs _ (Nat.le_refl _))
    · intro i hi ih
      refine Ev.step (f := fun k => g k (over f xs (i + 1)) ((m + c * (i + 1) : Nat) : Int) ((i + 1 : Nat) : Int)) (fun k => ?_) ih
      show g (k + 1) _ _ _ = _
      rw [h k i _ hi (over_len f xs i (by omega)), over_set f xs i hi, wrap_id (by omega) (by omega)]
      rfl
  have := key 0 (Nat.zero_le _)
  rw [over_zero] at this
  exact this
/-- A walk that reads them again. -/
theorem held_ev (c m n : Nat) (hn : m + c * n ≤ 9223372036854775806) (hx : n ≤ 9223372036854775806) (g : Nat → Int → Int → Option Int)
    (h : ∀ (k i : Nat), i < n → g (k + 1) ((m + c * i : Nat) : Int) i = g k ((m + c * (i + 1) : Nat) : Int) (wrap64 ((i : Int) + 1)))
    (he : ∀ k q, g (k + 1) q n = some q) : Ev (fun k => g k m 0) ((m + c * n : Nat) : Int) := by
  have key : ∀ i, i ≤ n → Ev (fun k => g k ((m + c * i : Nat) : Int) (i : Nat)) ((m + c * n : Nat) : Int) := by
    refine up (p := fun i => Ev (fun k => g k ((m + c * i : Nat) : Int) (i : Nat)) ((m + c * n : Nat) : Int)) n ?_ ?_
    · exact ev_some fun k => he k _
    · intro i hi ih
      refine Ev.step (f := fun k => g k ((m + c * (i + 1) : Nat) : Int) ((i + 1 : Nat) : Int)) (fun k => ?_) ih
      show g (k + 1) _ _ = _
      rw [h k i hi, wrap_id (by omega) (by omega)]
      rfl
  exact key 0 (Nat.zero_le _)
end Go.Proofs.Ytdbgnoolokfafaa.Plain
/- Bounds asked by both sides. -/
namespace Go.Proofs.Ytdbgnoolokfafaa.HFnExactCoverOf
open Go.RowKit Go.Proofs.YtdbgnoolokfafaaW.PrintWords Go.Proofs.YtdbgnoolokfafaaW.PrintLast Go.Proofs.Ytdbgnoolokfafaa.Plain
set_option linter.unusedSimpArgs false
set_option linter.unusedVariables false
theorem in_ (a b c : Int) : spec_l1In.f a b c = some (decide (b ≤ a ∧ a ≤ c)) := by
  unfold spec_l1In.f
  by_cases h : a ≥ b
  · rw [if_pos h]; simp [show b ≤ a from h]
  · rw [if_neg h]; simp [show ¬ b ≤ a from h]
theorem within_ (a b c : Int) : impl_within.f a b c = some (decide (b ≤ a ∧ a ≤ c)) := in_ a b c
end Go.Proofs.Ytdbgnoolokfafaa.HFnExactCoverOf
/- Points of lines, counted. -/
namespace Go.Proofs.Ytdbgnoolokfafaa.HFnExactCoverOf
open Go.RowKit Go.Proofs.YtdbgnoolokfafaaW.PrintWords Go.Proofs.YtdbgnoolokfafaaW.PrintLast Go.Proofs.Ytdbgnoolokfafaa.Plain
set_option linter.unusedSimpArgs false
set_option linter.unusedVariables false
/-- How many points a line has. -/
def pts (l : List S83) (i : Nat) : Nat := (l.getD i z83).f0.length
theorem sum_same {n m : Nat → Nat} {j : Nat} (h : ∀ i, i < j → n i = m i) : sumTo n j = sumTo m j := by
  induction j with
  | zero => rfl
  | succ j ih => simp only [sumTo]; rw [ih (fun i hi => h i (by omega)), h j (by omega)]
theorem le_sum (n : Nat → Nat) {i j : Nat} (h : i < j) : n i ≤ sumTo n j := Nat.le_trans (by show n i ≤ sumTo n i + n i; omega) (sumTo_le n (show i + 1 ≤ j from h))
end Go.Proofs.Ytdbgnoolokfafaa.HFnExactCoverOf
/- Points and a line, compared. -/
namespace Go.Proofs.Ytdbgnoolokfafaa.HFnExactCoverOf
open Go.RowKit Go.Proofs.YtdbgnoolokfafaaW.PrintWords Go.Proofs.YtdbgnoolokfafaaW.PrintLast Go.Proofs.Ytdbgnoolokfafaa.Plain
set_option linter.unusedSimpArgs false
set_option linter.unusedVariables false
theorem eqPoints (l : List S25) (hl : l.length ≤ 9223372036854775806) : Ev (fun k => laws_eqPointS.f k l l) true := by
  unfold laws_eqPointS.f
  have h := all_ev (fun _ : S25 => true) l z25 (by omega) (fun k i => laws_eqPointS.l0 k l l i) (fun k i hi => by
    show laws_eqPointS.l0 (k + 1) l l i = _
    rw [laws_eqPointS.l0, if_pos (by omega), if_pos (by omega), if_pos (by omega)]
    simp [laws_eqPoint.f]) (fun k => by
    show laws_eqPointS.l0 (k + 1) l l _ = _
    rw [laws_eqPointS.l0, if_neg (by omega)])
  rw [List.all_eq_true.2 (fun _ _ => rfl)] at h
  simp only [if_true]
  exact h
theorem eqLine (l : List S25) (b : Bool) (hl : l.length ≤ 9223372036854775806) : Ev (fun k => laws_eqLine.f k l b l b) true := by
  unfold laws_eqLine.f
  refine Ev.bind (eqPoints l hl) ?_
  exact ev_const fun k => by simp
end Go.Proofs.Ytdbgnoolokfafaa.HFnExactCoverOf
/- Lines: measured, copied and compared. -/
namespace Go.Proofs.Ytdbgnoolokfafaa.HFnExactCoverOf
open Go.RowKit Go.Proofs.YtdbgnoolokfafaaW.PrintWords Go.Proofs.YtdbgnoolokfafaaW.PrintLast Go.Proofs.Ytdbgnoolokfafaa.Plain
set_option linter.unusedSimpArgs false
set_option linter.unusedVariables false
def toPt (x : S134) : S25 := ⟨x.f0, x.f1⟩
def toLn (x : S116) : S83 := ⟨x.f0.map toPt, x.f1⟩
def lawPts (l : List S116) (i : Nat) : Nat := (l.getD i z116).f0.length
theorem toPoints (l : List S134) (hl : l.length ≤ 1048576) : Ev (fun k => laws_toPointS.f k l) (l.map toPt) := by
  unfold laws_toPointS.f
  have h := copy_ev toPt l z134 z25 (by omega) (fun k ys i => laws_toPointS.l0 k l ys i) (fun k i ys hi hy => by
    show laws_toPointS.l0 (k + 1) l ys i = _
    rw [laws_toPointS.l0, if_pos (by omega), if_pos (by omega)]
    simp only [laws_toPoint.f, Option.bind_some]
    rw [if_pos (by omega)]; rfl) (fun k ys => by
    show laws_toPointS.l0 (k + 1) l ys _ = _
    rw [laws_toPointS.l0, if_neg (by omega)]) (List.replicate ((l.length : Int)).toNat z25) (by simp)
  simp only [if_pos (show (0 : Int) ≤ l.length by omega), if_pos (show (l.length : Int).toNat ≤ 17592186044416 by omega)]
  exact h
theorem toLine (l : List S134) (b : Bool) (hl : l.length ≤ 1048576) : Ev (fun k => laws_toLine.f k l b) (l.map toPt, b) := by
  unfold laws_toLine.f
  exact Ev.bind (f := fun _ t => some (t, b)) (toPoints l hl) (Ev.now _)
theorem toLines (l : List S116) (hl : l.length ≤ 1048576) (hp : ∀ i, i < l.length → lawPts l i ≤ 1048576) : Ev (fun k => laws_toLineS.f k l) (l.map toLn) := by
  unfold laws_toLineS.f
  simp only [if_pos (show (0 : Int) ≤ l.length by omega), if_pos (show (l.length : Int).toNat ≤ 8796093022208 by omega)]
  refine copy_evs toLn l z116 z83 (by omega) (fun k ys i => laws_toLineS.l0 k l ys i) (fun i ys R hi hy hR => ?_) (fun k ys => by
    show laws_toLineS.l0 (k + 1) l ys _ = _
    rw [laws_toLineS.l0, if_neg (by omega)]) (List.replicate ((l.length : Int)).toNat z83) (by simp)
  refine Ev.step (f := fun k => (laws_toLine.f k ((rd_T116 l i).f0) ((rd_T116 l i).f1)).bind fun bt160 => (if (i : Int) < (ys.length : Int) then (laws_toLineS.l0 k l (ys.set (i : Int).toNat (⟨bt160.1, bt160.2⟩ : S83)) (wrap64 (i + 1))) else (none))) (fun k => by
    show laws_toLineS.l0 (k + 1) l ys i = _
    rw [laws_toLineS.l0, if_pos (by omega), if_pos (by omega)]) ?_
  refine Ev.bind (toLine _ _ (hp i hi)) ?_
  simp only [if_pos (show (i : Int) < (ys.length : Int) by omega)]
  exact hR
theorem eqLines (l : List S83) (hl : l.length ≤ 9223372036854775806) (hp : ∀ i, i < l.length → pts l i ≤ 9223372036854775806) : Ev (fun k => laws_eqLineS.f k l l) true := by
  unfold laws_eqLineS.f
  simp only [if_true]
  refine all_evs l.length (by omega) (fun k i => laws_eqLineS.l0 k l l i) (fun i R hi hR => ?_) (fun k => by
    show laws_eqLineS.l0 (k + 1) l l _ = _
    rw [laws_eqLineS.l0, if_neg (by omega)])
  refine Ev.step (f := fun k => (laws_eqLine.f k ((rd_T83 l i).f0) ((rd_T83 l i).f1) ((rd_T83 l i).f0) ((rd_T83 l i).f1)).bind fun t218 => (if t218 = true then (laws_eqLineS.l0 k l l (wrap64 (i + 1))) else (some false))) (fun k => by
    show laws_eqLineS.l0 (k + 1) l l i = _
    rw [laws_eqLineS.l0, if_pos (by omega), if_pos (by omega), if_pos (by omega)]) ?_
  refine Ev.bind (eqLine _ _ (hp i hi)) ?_
  simp only [if_true]
  exact hR
theorem szLines (l : List S116) (n : Nat) (hl0 : l.length ≤ 9223372036854775807) (hl1 : ∀ i, i < l.length → lawPts l i ≤ 9223372036854775807) (hn : n ≤ 1048576) : ∃ t, Ev (fun k => laws_szLineS.f k l n) t ∧ (t < 0 ∨ (l.length + sumTo (lawPts l) l.length ≤ n ∧ t = ((n - l.length - sumTo (lawPts l) l.length : Nat) : Int))) := by
  unfold laws_szLineS.f
  rw [wrap_id (n := (n : Int) - l.length) (by omega) (by omega)]
  by_cases h : (n : Int) - l.length < 0
  · simp only [if_pos h]
    exact ⟨-1, Ev.now _, .inl (by omega)⟩
  simp only [if_neg h]
  have key : ∀ i, i ≤ l.length → ∀ s : Int, 0 ≤ s → s = (n : Int) - l.length - sumTo (lawPts l) i → ∃ t, Ev (fun k => laws_szLineS.l0 k l s (i : Nat)) t ∧ (t < 0 ∨ (l.length + sumTo (lawPts l) l.length ≤ n ∧ t = ((n - l.length - sumTo (lawPts l) l.length : Nat) : Int))) := by
    refine up (p := fun i => ∀ s : Int, 0 ≤ s → s = (n : Int) - l.length - sumTo (lawPts l) i → ∃ t, Ev (fun k => laws_szLineS.l0 k l s (i : Nat)) t ∧ (t < 0 ∨ (l.length + sumTo (lawPts l) l.length ≤ n ∧ t = ((n - l.length - sumTo (lawPts l) l.length : Nat) : Int)))) l.length ?_ ?_
    · intro s h0 hs
      exact ⟨s, ev_some fun k => by rw [laws_szLineS.l0, if_neg (by omega)], .inr (by omega)⟩
    · intro i hi ih s h0 hs
      have hb := hl1 i hi
      have e1 : laws_szLine.f ((rd_T116 l i).f0) ((rd_T116 l i).f1) s = some (if s - lawPts l i < 0 then -1 else s - lawPts l i) := by
        unfold laws_szLine.f laws_szPointS.f
        show (if wrap64 (s - ((lawPts l i : Nat) : Int)) < 0 then some (-1) else some (wrap64 (s - ((lawPts l i : Nat) : Int)))).bind _ = _
        rw [wrap_id (by omega) (by omega)]
        split
        · rfl
        · rename_i hc; simp only [Option.bind_some, if_neg hc]
      by_cases hc : s - lawPts l i < 0
      · refine ⟨-1, ev_some fun k => ?_, .inl (by omega)⟩
        rw [laws_szLineS.l0, if_pos (by omega), if_pos (by omega), e1, if_pos hc, Option.bind_some, if_pos (by omega)]
      · obtain ⟨t, ht, hh⟩ := ih (s - lawPts l i) (by omega) (by rw [hs]; show _ = (n : Int) - l.length - ((sumTo (lawPts l) i + lawPts l i : Nat) : Int); omega)
        refine ⟨t, Ev.step (f := fun k => laws_szLineS.l0 k l (s - lawPts l i) ((i + 1 : Nat) : Int)) (fun k => ?_) ht, hh⟩
        rw [laws_szLineS.l0, if_pos (by omega), if_pos (by omega), e1, if_neg hc, Option.bind_some, if_neg hc, wrap_id (n := (i : Int) + 1) (by omega) (by omega)]
        rfl
  exact key 0 (Nat.zero_le _) _ (by omega) (by simp [sumTo])
theorem pts_toLn (l : List S116) (i : Nat) (hi : i < l.length) : pts (l.map toLn) i = lawPts l i := by
  simp [pts, lawPts, toLn, List.getD, hi]
end Go.Proofs.Ytdbgnoolokfafaa.HFnExactCoverOf
/- Segments of lines, by both sides. -/
namespace Go.Proofs.Ytdbgnoolokfafaa.HFnExactCoverOf
open Go.RowKit Go.Proofs.YtdbgnoolokfafaaW.PrintWords Go.Proofs.YtdbgnoolokfafaaW.PrintLast Go.Proofs.Ytdbgnoolokfafaa.Plain
set_option linter.unusedSimpArgs false
set_option linter.unusedVariables false
/-- Near. -/
def near (x y : Int) : Bool := decide (-67108864 ≤ x ∧ x ≤ 67108864) && decide (-67108864 ≤ y ∧ y ≤ 67108864)
theorem near_of {x y : Int} (h : near x y = true) : (-67108864 ≤ x ∧ x ≤ 67108864) ∧ -67108864 ≤ y ∧ y ≤ 67108864 := by simpa [near] using h
theorem specNear (x y : Int) : spec_l10Point.f x y = some (near x y) := by
  unfold spec_l10Point.f near
  simp only [in_, Option.bind_some, decide_eq_true_eq]
  by_cases h : -67108864 ≤ x ∧ x ≤ 67108864
  · simp only [if_pos h, decide_eq_true h, Bool.true_and]
  · simp only [if_neg h, decide_eq_false h, Bool.false_and]
theorem implNear (x y : Int) : impl_isNear.f x y = some (near x y) := specNear x y
theorem lt_pts {l : List S83} {i j : Nat} (h : j < pts l i) : (j : Int) < ((rd_T83 l (i : Int)).f0.length : Int) := Int.ofNat_lt.2 h
/-- The j-th point of the i-th line. -/
def pt (l : List S83) (i j : Nat) : S25 := (l.getD i z83).f0.getD j z25
def allNear (l : List S83) : Bool := (List.range l.length).all fun i => (List.range (pts l i)).all fun j => near (pt l i j).f0 (pt l i j).f1
def linesOk (l : List S83) : Bool := if sumTo (pts l) l.length > 4800 then false else allNear l
theorem specMany (l : List S83) (hl : l.length ≤ 1048576) (hs : sumTo (pts l) l.length ≤ 1048576) : Ev (fun k => spec_l9Many.f k l) (sumTo (pts l) l.length : Nat) := by
  have key : ∀ i, i ≤ l.length → Ev (fun k => spec_l9Many.l0 k (sumTo (pts l) i : Nat) l l.length (i : Nat)) ((sumTo (pts l) l.length : Nat) : Int) := by
    refine up (p := fun i => Ev (fun k => spec_l9Many.l0 k (sumTo (pts l) i : Nat) l l.length (i : Nat)) ((sumTo (pts l) l.length : Nat) : Int)) l.length ?_ ?_
    · exact ev_some fun k => by rw [spec_l9Many.l0, if_neg (by omega)]
    · intro i hi ih
      have hb := sumTo_le (pts l) (show i + 1 ≤ l.length from hi)
      have hc : sumTo (pts l) (i + 1) = sumTo (pts l) i + pts l i := rfl
      refine Ev.step (f := fun k => spec_l9Many.l0 k (sumTo (pts l) (i + 1) : Nat) l l.length ((i + 1 : Nat) : Int)) (fun k => ?_) ih
      rw [spec_l9Many.l0, if_pos (by omega), if_pos (by omega), if_pos (by omega)]
      show spec_l9Many.l0 k (wrap64 (((sumTo (pts l) i : Nat) : Int) + ((pts l i : Nat) : Int))) _ _ _ = _
      rw [wrap_id (by omega) (by omega), wrap_id (n := (i : Int) + 1) (by omega) (by omega), hc]
      rfl
  exact key 0 (Nat.zero_le _)
theorem implMany (l : List S83) (hl : l.length ≤ 1048576) (hs : sumTo (pts l) l.length ≤ 1048576) : Ev (fun k => impl_countPoints.f k l) (sumTo (pts l) l.length : Nat) := by
  have e : ∀ k a b c d, impl_countPoints.l0 k a b c d = spec_l9Many.l0 k a b c d := by
    intro k
    induction k with
    | zero => intros; rfl
    | succ k ih => intros; simp only [impl_countPoints.l0, spec_l9Many.l0, ih]
  have := specMany l hl hs
  unfold spec_l9Many.f at this
  unfold impl_countPoints.f
  simp only [e]
  exact this
theorem specAll (l : List S83) (hl : l.length ≤ 1048576) (hs : sumTo (pts l) l.length ≤ 1048576) : Ev (fun k => spec_l11Lines.l0 k l l.length 0) (allNear l) :=
  all2_ev l.length (pts l) (fun i j => near (pt l i j).f0 (pt l i j).f1) (by omega) (fun i hi => by have := le_sum (pts l) hi; omega) (fun k i => spec_l11Lines.l0 k l l.length i) (fun k i j => spec_l11Lines.l1 k l l.length i ((rd_T83 l i).f0) (((rd_T83 l i).f0).length : Int) j)
    (fun k i hi => by
      show spec_l11Lines.l0 (k + 1) l l.length i = _
      rw [spec_l11Lines.l0, if_pos (by omega), if_pos (by omega), if_pos (by omega)])
    (fun k => by
      show spec_l11Lines.l0 (k + 1) l l.length _ = _
      rw [spec_l11Lines.l0, if_neg (by omega)])
    (fun k i j hi hj => by
      show spec_l11Lines.l1 (k + 1) l l.length i ((rd_T83 l i).f0) ((pts l i : Nat) : Int) j = _
      rw [spec_l11Lines.l1, if_pos (by omega), if_pos (by omega), if_pos (lt_pts hj), specNear]
      rfl)
    (fun k i hi => by
      show spec_l11Lines.l1 (k + 1) l l.length i ((rd_T83 l i).f0) ((pts l i : Nat) : Int) ((pts l i : Nat) : Int) = _
      rw [spec_l11Lines.l1, if_neg (by omega)])
theorem implAll (l : List S83) (hl : l.length ≤ 1048576) (hs : sumTo (pts l) l.length ≤ 1048576) : Ev (fun k => impl_areNear.f k l) (allNear l) :=
  all2_ev l.length (pts l) (fun i j => near (pt l i j).f0 (pt l i j).f1) (by omega) (fun i hi => by have := le_sum (pts l) hi; omega) (fun k i => impl_areNear.l0 k l l.length i) (fun k i j => impl_areNear.l1 k l l.length i ((rd_T83 l i).f0) (((rd_T83 l i).f0).length : Int) j)
    (fun k i hi => by
      show impl_areNear.l0 (k + 1) l l.length i = _
      rw [impl_areNear.l0, if_pos (by omega), if_pos (by omega), if_pos (by omega)])
    (fun k => by
      show impl_areNear.l0 (k + 1) l l.length _ = _
      rw [impl_areNear.l0, if_neg (by omega)])
    (fun k i j hi hj => by
      show impl_areNear.l1 (k + 1) l l.length i ((rd_T83 l i).f0) ((pts l i : Nat) : Int) j = _
      rw [impl_areNear.l1, if_pos (by omega), if_pos (by omega), if_pos (lt_pts hj), implNear]
      rfl)
    (fun k i hi => by
      show impl_areNear.l1 (k + 1) l l.length i ((rd_T83 l i).f0) ((pts l i : Nat) : Int) ((pts l i : Nat) : Int) = _
      rw [impl_areNear.l1, if_neg (by omega)])
theorem specLines (l : List S83) (hl : l.length ≤ 1048576) (hs : sumTo (pts l) l.length ≤ 1048576) : Ev (fun k => spec_l11Lines.f k l) (linesOk l) := by
  unfold spec_l11Lines.f
  refine Ev.bind (specMany l hl hs) ?_
  unfold linesOk
  by_cases h : sumTo (pts l) l.length > 4800
  · simp only [if_pos h, if_pos (show ((sumTo (pts l) l.length : Nat) : Int) > 4800 by omega)]; exact Ev.now _
  · simp only [if_neg h, if_neg (show ¬ ((sumTo (pts l) l.length : Nat) : Int) > 4800 by omega)]; exact specAll l hl hs
/-- A fine place. -/
def fine (n : Int) : Int := (n * 16 + 32768) / 65536
theorem specFine {n : Int} (h0 : -67108864 ≤ n) (h1 : n ≤ 67108864) : spec_l11Fine.f n = some (fine n) := by
  unfold spec_l11Fine.f spec_l1Down.f
  rw [wrap_id (n := n * 16) (by omega) (by omega), wrap_id (n := n * 16 + 32768) (by omega) (by omega), if_neg (by omega)]
  have e := down_num (n * 16 + 32768) (show (0 : Int) < 65536 by omega)
  have s := tdiv_small (a := n * 16 + 32768) (show (0 : Int) < 65536 by omega) (by omega) (by omega)
  rw [wrap_id (n := Int.tdiv (n * 16 + 32768) 65536) (by omega) (by omega)]
  unfold fine
  rcases (by omega : 0 ≤ n * 16 + 32768 ∨ n * 16 + 32768 < 0) with h | h
  · have e1 : Int.tdiv (n * 16 + 32768) 65536 = (n * 16 + 32768) / 65536 := tdiv_nn h _
    rw [decide_eq_false (show ¬ n * 16 + 32768 < 0 by omega), decide_eq_false (show ¬ (65536 : Int) < 0 by omega), if_neg (c := (false != false) = true) (by simp), e1]
    split <;> rfl
  · have e1 := (tdiv_neg_num h 65536).2
    rw [decide_eq_true h, decide_eq_false (show ¬ (65536 : Int) < 0 by omega), if_pos (c := (true != false) = true) rfl]
    split
    · rename_i hz
      rw [if_neg (by omega)] at e
      rw [e]; rfl
    · rename_i hz
      rw [if_pos (by omega)] at e
      rw [wrap_id (by omega) (by omega), e]; rfl
theorem implDown {n : Int} (h0 : -67108864 ≤ n) (h1 : n ≤ 67108864) : impl_down.f (wrap64 ((wrap64 (n * 16)) + 32768)) 65536 = some (fine n) := by
  unfold impl_down.f
  rw [wrap_id (n := n * 16) (by omega) (by omega), wrap_id (n := n * 16 + 32768) (by omega) (by omega), if_neg (by omega)]
  have e := down_num (n * 16 + 32768) (show (0 : Int) < 65536 by omega)
  have s := tdiv_small (a := n * 16 + 32768) (show (0 : Int) < 65536 by omega) (by omega) (by omega)
  rw [wrap_id (n := Int.tdiv (n * 16 + 32768) 65536) (by omega) (by omega)]
  unfold fine
  split
  · rename_i h
    rw [if_pos h] at e
    rw [wrap_id (by omega) (by omega), e]
  · rename_i h
    rw [if_neg h] at e
    rw [e]
theorem implFine {x y : Int} (h : near x y = true) : impl_FineOf.f x y = some (fine x, fine y, true) := by
  have n := near_of h
  unfold impl_FineOf.f
  simp only [implNear, Option.bind_some, h, if_true, implDown n.1.1 n.1.2, implDown n.2.1 n.2.2]
/-- The next point's number. -/
def nx (l : List S83) (i j : Nat) : Nat := (j + 1) % pts l i
def edgeA (l : List S83) (i j : Nat) : S175 := ⟨fine (pt l i j).f0, fine (pt l i j).f1, fine (pt l i (nx l i j)).f0, fine (pt l i (nx l i j)).f1⟩
def conv (e : S175) : Option S228 := if e.f1 = e.f3 then none else some ⟨e.f0, e.f1, e.f2, e.f3⟩
def edges (l : List S83) : List S175 := gath (pts l) (fun i j => [edgeA l i j]) l.length 0
theorem near_at {l : List S83} (h : allNear l = true) {i j : Nat} (hi : i < l.length) (hj : j < pts l i) : near (pt l i j).f0 (pt l i j).f1 = true := by
  unfold allNear at h
  rw [List.all_eq_true] at h
  have h1 := h i (List.mem_range.2 hi)
  rw [List.all_eq_true] at h1
  exact h1 j (List.mem_range.2 hj)
theorem next_num {l : List S83} {i j : Nat} (hj : j < pts l i) (hb : pts l i ≤ 1048576) : Int.tmod (wrap64 ((j : Int) + 1)) ((pts l i : Nat) : Int) = ((nx l i j : Nat) : Int) ∧ nx l i j < pts l i := by
  rw [wrap_id (by omega) (by omega), tmod_nn (by omega)]
  refine ⟨rfl, Nat.mod_lt _ (by omega)⟩
theorem specEdges (l : List S83) (hl : l.length ≤ 1048576) (hs : sumTo (pts l) l.length ≤ 1048576) (h : allNear l = true) : Ev (fun k => spec_l11Edges.f k l) ((edges l).filterMap conv) := by
  have hh := gath_hom (List.filterMap conv) rfl (fun a b => List.filterMap_append) (pts l) (fun i j => [edgeA l i j]) l.length 0
  unfold edges
  rw [hh]
  have hone : ∀ i j, (List.filterMap conv [edgeA l i j]).length ≤ 1 := fun i j => by
    cases hc : conv (edgeA l i j) <;> simp [hc]
  exact gath_ev l.length (pts l) (fun i j => List.filterMap conv [edgeA l i j]) (fun ys => ys) (by omega) (fun i hi => by have := le_sum (pts l) hi; omega)
    (fun k i acc => spec_l11Edges.l0 k acc l l.length i) (fun k i j acc => spec_l11Edges.l1 k acc (((rd_T83 l i).f0).length : Int) l l.length i ((rd_T83 l i).f0) (((rd_T83 l i).f0).length : Int) j ((rd_T83 l i).f0) ((rd_T83 l i).f1))
    (fun k i acc hi => by
      show spec_l11Edges.l0 (k + 1) acc l l.length i = _
      rw [spec_l11Edges.l0, if_pos (by omega), if_pos (by omega), if_pos (by omega)])
    (fun k acc => by
      show spec_l11Edges.l0 (k + 1) acc l l.length _ = _
      rw [spec_l11Edges.l0, if_neg (by omega)])
    (fun k i j hi hj => by
      have hb := le_sum (pts l) hi
      obtain ⟨e1, e2⟩ := next_num hj (by omega)
      have n1 := near_of (near_at h hi hj)
      have n2 := near_of (near_at h hi e2)
      have hg := gath_len (pts l) (fun i j => List.filterMap conv [edgeA l i j]) hone i j
      have hg2 := sumTo_le (pts l) (show i + 1 ≤ l.length from hi)
      have hg3 : sumTo (pts l) (i + 1) = sumTo (pts l) i + pts l i := rfl
      generalize hA : gath (pts l) (fun i j => List.filterMap conv [edgeA l i j]) i j = acc at hg ⊢
      show spec_l11Edges.l1 (k + 1) acc ((pts l i : Nat) : Int) l l.length i ((rd_T83 l i).f0) ((pts l i : Nat) : Int) j ((rd_T83 l i).f0) ((rd_T83 l i).f1) = _
      rw [spec_l11Edges.l1, if_pos (by omega), if_pos (by omega), if_pos (lt_pts hj), if_neg (by omega), e1, if_pos (by omega), if_pos (lt_pts e2)]
      have p1 : rd_T25 ((rd_T83 l i).f0) j = pt l i j := rfl
      have p2 : rd_T25 ((rd_T83 l i).f0) (nx l i j : Nat) = pt l i (nx l i j) := rfl
      rw [p1, p2, specFine n1.1.1 n1.1.2, Option.bind_some, specFine n1.2.1 n1.2.2, Option.bind_some, specFine n2.1.1 n2.1.2, Option.bind_some, specFine n2.2.1 n2.2.2, Option.bind_some]
      by_cases hc : fine (pt l i j).f1 = fine (pt l i (nx l i j)).f1
      · have e : List.filterMap conv [edgeA l i j] = [] := by simp [conv, edgeA, hc]
        rw [if_pos hc, e, List.append_nil]
        rfl
      · have e : List.filterMap conv [edgeA l i j] = [⟨fine (pt l i j).f0, fine (pt l i j).f1, fine (pt l i (nx l i j)).f0, fine (pt l i (nx l i j)).f1⟩] := by simp [conv, edgeA, hc]
        rw [if_neg hc, if_pos (by omega), e]
        rfl)
    (fun k i acc hi => by
      show spec_l11Edges.l1 (k + 1) acc ((pts l i : Nat) : Int) l l.length i ((rd_T83 l i).f0) ((pts l i : Nat) : Int) ((pts l i : Nat) : Int) ((rd_T83 l i).f0) ((rd_T83 l i).f1) = _
      rw [spec_l11Edges.l1, if_neg (by omega)])
theorem implEdges (l : List S83) (hl : l.length ≤ 1048576) (hs : sumTo (pts l) l.length ≤ 1048576) : Ev (fun k => impl_edgesOf.f k l) (if linesOk l = true then (edges l, true) else ([], false)) := by
  have none_ : Ev (fun k => impl_edgesOf.j0 k l true) ([], false) := ev_some fun k => by rw [impl_edgesOf.j0, if_pos rfl]
  unfold impl_edgesOf.f
  refine Ev.bind (implMany l hl hs) ?_
  unfold linesOk
  by_cases h : sumTo (pts l) l.length > 4800
  · simp only [if_pos h, if_pos (show ((sumTo (pts l) l.length : Nat) : Int) > 4800 by omega)]; exact none_
  simp only [if_neg h, if_neg (show ¬ ((sumTo (pts l) l.length : Nat) : Int) > 4800 by omega)]
  refine Ev.bind (implAll l hl hs) ?_
  cases hn : allNear l
  · exact none_
  simp only [if_true, Bool.not_true]
  refine Ev.step (f := fun k => impl_edgesOf.l0 k [] l l.length 0) (fun k => by rw [impl_edgesOf.j0, if_neg (by simp)]) ?_
  exact gath_ev l.length (pts l) (fun i j => [edgeA l i j]) (fun ys => (ys, true)) (by omega) (fun i hi => by have := le_sum (pts l) hi; omega)
    (fun k i acc => impl_edgesOf.l0 k acc l l.length i) (fun k i j acc => impl_edgesOf.l1 k acc (((rd_T83 l i).f0).length : Int) l l.length i ((rd_T83 l i).f0) (((rd_T83 l i).f0).length : Int) j ((rd_T83 l i).f0) ((rd_T83 l i).f1))
    (fun k i acc hi => by
      show impl_edgesOf.l0 (k + 1) acc l l.length i = _
      rw [impl_edgesOf.l0, if_pos (by omega), if_pos (by omega), if_pos (by omega)])
    (fun k acc => by
      show impl_edgesOf.l0 (k + 1) acc l l.length _ = _
      rw [impl_edgesOf.l0, if_neg (by omega)])
    (fun k i j hi hj => by
      have hb := le_sum (pts l) hi
      obtain ⟨e1, e2⟩ := next_num hj (by omega)
      have n1 := near_at hn hi hj
      have n2 := near_at hn hi e2
      have hg := gath_len (pts l) (fun i j => [edgeA l i j]) (fun i j => by simp) i j
      have hg2 := sumTo_le (pts l) (show i + 1 ≤ l.length from hi)
      have hg3 : sumTo (pts l) (i + 1) = sumTo (pts l) i + pts l i := rfl
      generalize hA : gath (pts l) (fun i j => [edgeA l i j]) i j = acc at hg ⊢
      show impl_edgesOf.l1 (k + 1) acc ((pts l i : Nat) : Int) l l.length i ((rd_T83 l i).f0) ((pts l i : Nat) : Int) j ((rd_T83 l i).f0) ((rd_T83 l i).f1) = _
      have p1 : rd_T25 ((rd_T83 l i).f0) j = pt l i j := rfl
      have p2 : rd_T25 ((rd_T83 l i).f0) (nx l i j : Nat) = pt l i (nx l i j) := rfl
      rw [impl_edgesOf.l1, if_pos (by omega), if_pos (by omega), if_pos (lt_pts hj), p1, implFine n1, Option.bind_some, if_neg (by omega), e1, if_pos (by omega), if_pos (lt_pts e2), p2, implFine n2, Option.bind_some, if_pos (by omega)]
      rfl)
    (fun k i acc hi => by
      show impl_edgesOf.l1 (k + 1) acc ((pts l i : Nat) : Int) l l.length i ((rd_T83 l i).f0) ((pts l i : Nat) : Int) ((pts l i : Nat) : Int) ((rd_T83 l i).f0) ((rd_T83 l i).f1) = _
      rw [impl_edgesOf.l1, if_neg (by omega)])
theorem edges_len (l : List S83) : (edges l).length ≤ sumTo (pts l) l.length := by
  have := gath_len (pts l) (fun i j => [edgeA l i j]) (fun i j => by simp) l.length 0
  exact this
end Go.Proofs.Ytdbgnoolokfafaa.HFnExactCoverOf
/- How segments go around a place, by both sides. -/
namespace Go.Proofs.Ytdbgnoolokfafaa.HFnExactCoverOf
open Go.RowKit Go.Proofs.YtdbgnoolokfafaaW.PrintWords Go.Proofs.YtdbgnoolokfafaaW.PrintLast Go.Proofs.Ytdbgnoolokfafaa.Plain
set_option linter.unusedSimpArgs false
set_option linter.unusedVariables false
def dOf (a b c d x y : Int) : Int := wrap64 ((wrap64 ((wrap64 (c - a)) * (wrap64 (y - b)))) - (wrap64 ((wrap64 (x - a)) * (wrap64 (d - b)))))
def windOf (a b c d x y : Int) : Int := if b ≤ y ∧ y < d ∧ dOf a b c d x y > 0 then 1 else if d ≤ y ∧ y < b ∧ dOf a b c d x y < 0 then -1 else 0
def stepS (x y s : Int) (e : S228) : Int := if windOf e.f0 e.f1 e.f2 e.f3 x y = 1 then wrap64 (s + 1) else if windOf e.f0 e.f1 e.f2 e.f3 x y = -1 then wrap64 (s - 1) else s
def stepI (x y s : Int) (e : S175) : Int := wrap64 (s + windOf e.f0 e.f1 e.f2 e.f3 x y)
theorem wrap_wrap (n : Int) : wrap64 (wrap64 n) = wrap64 n := wrap_id (wrap_lo n) (wrap_hi n)
theorem implWinds (k : Nat) (a b c d x y : Int) : impl_edge_winds.f (k + 1) a b c d x y = some (windOf a b c d x y) := by
  unfold impl_edge_winds.f windOf
  show (if b ≤ y then (if y < d then impl_edge_winds.j0 (k + 1) y (dOf a b c d x y) (decide (dOf a b c d x y > 0)) a b c d else impl_edge_winds.j0 (k + 1) y (dOf a b c d x y) false a b c d) else impl_edge_winds.j0 (k + 1) y (dOf a b c d x y) false a b c d) = _
  generalize dOf a b c d x y = t
  simp only [impl_edge_winds.j0]
  by_cases h1 : b ≤ y <;> by_cases h2 : y < d <;> by_cases h3 : t > 0 <;> by_cases h4 : d ≤ y <;> by_cases h5 : y < b <;> by_cases h6 : t < 0 <;> simp [h1, h2, h3, h4, h5, h6] <;> omega
theorem specWindStep (k : Nat) (l : List S228) (i : Nat) (hi : i < l.length) (hl : l.length ≤ 1048576) (x y s : Int) :
    spec_l11Winding.l0 (k + 2) x y s l l.length i = spec_l11Winding.l0 k x y (stepS x y s (l.getD i z228)) l l.length (wrap64 ((i : Int) + 1)) := by
  rw [spec_l11Winding.l0, if_pos (by omega), if_pos (by omega), if_pos (by omega)]
  have e : rd_T228 l (i : Int) = l.getD i z228 := rfl
  rw [e]
  generalize l.getD i z228 = v
  obtain ⟨a, b, c, d⟩ := v
  unfold stepS windOf
  show (if b ≤ y then (if y < d then spec_l11Winding.j1 (k + 1) x y s (dOf a b c d x y) l l.length i (decide (dOf a b c d x y > 0)) a b c d else spec_l11Winding.j1 (k + 1) x y s (dOf a b c d x y) l l.length i false a b c d) else spec_l11Winding.j1 (k + 1) x y s (dOf a b c d x y) l l.length i false a b c d) = _
  generalize dOf a b c d x y = t
  simp only [spec_l11Winding.j1]
  by_cases h1 : b ≤ y <;> by_cases h2 : y < d <;> by_cases h3 : t > 0 <;> by_cases h4 : d ≤ y <;> by_cases h5 : y < b <;> by_cases h6 : t < 0 <;> simp [h1, h2, h3, h4, h5, h6] <;> omega
theorem specWinding (l : List S228) (hl : l.length ≤ 1048576) (x y : Int) : Ev (fun k => spec_l11Winding.f k l x y) (l.foldl (stepS x y) 0) := by
  unfold spec_l11Winding.f
  exact fold_evs l z228 (stepS x y) (fun _ => True) (fun _ _ _ => trivial) (fun s => s) (by omega) (fun k i s => spec_l11Winding.l0 k x y s l l.length i) (fun i s R hi _ hR => by
    obtain ⟨K, hK⟩ := hR
    refine ⟨K + 2, fun k hk => ?_⟩
    obtain ⟨m, rfl⟩ : ∃ m, k = m + 2 := ⟨k - 2, by omega⟩
    show spec_l11Winding.l0 (m + 2) x y s l l.length i = _
    rw [specWindStep m l i hi hl]
    exact hK m (by omega)) (fun k s _ => by
    show spec_l11Winding.l0 (k + 1) x y s l l.length _ = _
    rw [spec_l11Winding.l0, if_neg (by omega)]) 0 trivial
theorem same_fold (l : List S175) (x y : Int) : (l.filterMap conv).foldl (stepS x y) 0 = l.foldl (stepI x y) 0 := by
  refine fold_filter conv (stepS x y) (stepI x y) (fun s => wrap64 s = s) (fun s e _ => wrap_wrap _) (fun s e hs => ?_) l 0 (wrap_id (by omega) (by omega))
  obtain ⟨a, b, c, d⟩ := e
  unfold conv stepI
  by_cases h : b = d
  · simp only [if_pos h]
    have : windOf a b c d x y = 0 := by
      unfold windOf
      rw [if_neg (by omega), if_neg (by omega)]
    rw [this, Int.add_zero, hs]
  · simp only [if_neg h]
    unfold stepS
    have : windOf a b c d x y = 1 ∨ windOf a b c d x y = -1 ∨ windOf a b c d x y = 0 := by
      unfold windOf
      split
      · exact .inl rfl
      · split
        · exact .inr (.inl rfl)
        · exact .inr (.inr rfl)
    rcases this with h1 | h1 | h1
    · rw [if_pos h1, h1]
    · rw [if_neg (by rw [h1]; decide), if_pos h1, h1]; rfl
    · rw [if_neg (by rw [h1]; decide), if_neg (by rw [h1]; decide), h1, Int.add_zero, hs]
end Go.Proofs.Ytdbgnoolokfafaa.HFnExactCoverOf
/- What lines cover, by both sides. -/
namespace Go.Proofs.Ytdbgnoolokfafaa.HFnExactCoverOf
open Go.RowKit Go.Proofs.YtdbgnoolokfafaaW.PrintWords Go.Proofs.YtdbgnoolokfafaaW.PrintLast Go.Proofs.Ytdbgnoolokfafaa.Plain
set_option linter.unusedSimpArgs false
set_option linter.unusedVariables false
abbrev E := S175
abbrev F := S228
def yOf (r : Nat) : Int := ((4 * r + 2 : Nat) : Int)
def crosses (y : Int) (e : E) : Bool := decide (mn e.f1 e.f3 ≤ y) && decide (y < mx e.f1 e.f3)
def crossS (y : Int) (e : F) : Bool := (decide (e.f1 ≤ y) && decide (y < e.f3)) || (decide (e.f3 ≤ y) && decide (y < e.f1))
def rowOf (es : List E) (r : Nat) : List E := es.filter (crosses (yOf r))
def wn (es : List E) (c r : Nat) : Int := (rowOf es r).foldl (stepI (yOf c) (yOf r)) 0
def hit (even : Bool) (n : Int) : Bool := if even = true then !decide (Int.tmod n 2 = 0) else !decide (n = 0)
def bump (cs : List Int) (i : Nat) : List Int := cs.set i (wrap64 (rd cs (i : Int) + 1))
def cstep (es : List E) (even : Bool) (W r c : Nat) (cs : List Int) : List Int := if hit even (wn es c r) = true then bump cs (r / 4 * W + c / 4) else cs
def coverL (es : List E) (W H : Nat) (even : Bool) : List Int := forTo (fun r cs => forTo (fun c cs => cstep es even W r c cs) (W * 4) cs) (H * 4) (List.replicate (W * H) 0)
theorem bump_len (cs : List Int) (i : Nat) : (bump cs i).length = cs.length := by simp [bump]
theorem cstep_len (es : List E) (even : Bool) (W r c : Nat) (cs : List Int) : (cstep es even W r c cs).length = cs.length := by unfold cstep; split <;> simp [bump_len]
theorem cross_conv (y : Int) (es : List E) : (es.filterMap conv).filter (crossS y) = (es.filter (crosses y)).filterMap conv := by
  induction es with
  | nil => rfl
  | cons e es ih =>
    obtain ⟨a, b, c, d⟩ := e
    by_cases h : b = d
    · have h1 : conv (⟨a, b, c, d⟩ : E) = none := by simp [conv, h]
      have h2 : crosses y (⟨a, b, c, d⟩ : E) = false := by
        unfold crosses mn mx
        simp only [h]
        simp
      rw [List.filterMap_cons_none h1, List.filter_cons, h2, ih]
      simp
    · have h1 : conv (⟨a, b, c, d⟩ : E) = some ⟨a, b, c, d⟩ := by simp [conv, h]
      have h2 : crossS y (⟨a, b, c, d⟩ : F) = crosses y (⟨a, b, c, d⟩ : E) := by
        unfold crosses crossS mn mx
        simp only []
        rw [Bool.eq_iff_iff]
        simp only [Bool.or_eq_true, Bool.and_eq_true, decide_eq_true_eq]
        constructor
        · intro hh
          constructor <;> split <;> omega
        · intro ⟨h3, h4⟩
          split at h3 <;> split at h4 <;> omega
      rw [List.filterMap_cons_some h1, List.filter_cons, List.filter_cons, h2, ih]
      cases crosses y (⟨a, b, c, d⟩ : E)
      · simp
      · simp only [if_true]
        rw [List.filterMap_cons_some h1]
theorem spec_wn (es : List E) (c r : Nat) : ((es.filterMap conv).filter (crossS (yOf r))).foldl (stepS (yOf c) (yOf r)) 0 = wn es c r := by
  rw [cross_conv, same_fold]
  rfl
theorem hit_zero (even : Bool) : hit even 0 = false := by cases even <;> rfl
theorem hit_case (even : Bool) (n : Int) : hit even n = if n = 0 then false else if even = true then !decide (Int.tmod n 2 = 0) else true := by
  unfold hit
  by_cases h : n = 0
  · subst h; cases even <;> rfl
  · cases even <;> simp [h]
theorem yw (r : Nat) (h : r ≤ 1048576) : wrap64 ((wrap64 (4 * (r : Int))) + 2) = yOf r := by
  unfold yOf
  rw [wrap_id (n := 4 * (r : Int)) (by omega) (by omega), wrap_id (by omega) (by omega)]
  omega
theorem ix {r c W : Nat} (hr : r ≤ 144) (hc : c ≤ 144) (hW : W ≤ 36) : wrap64 ((wrap64 ((wrap64 (Int.tdiv (r : Int) 4)) * (W : Int))) + (wrap64 (Int.tdiv (c : Int) 4))) = ((r / 4 * W + c / 4 : Nat) : Int) := by
  rw [tdiv_nn (by omega), tdiv_nn (by omega), wrap_id (n := (r : Int) / 4) (by omega) (by omega), wrap_id (n := (c : Int) / 4) (by omega) (by omega)]
  have e1 : (r : Int) / 4 = ((r / 4 : Nat) : Int) := by omega
  have e2 : (c : Int) / 4 = ((c / 4 : Nat) : Int) := by omega
  have h1 : r / 4 * W ≤ 36 * 36 := Nat.mul_le_mul (by omega) hW
  rw [e1, e2, show ((r / 4 : Nat) : Int) * (W : Int) = ((r / 4 * W : Nat) : Int) from (Int.natCast_mul _ _).symm]
  generalize r / 4 * W = p at h1 ⊢
  rw [wrap_id (n := (p : Int)) (by omega) (by omega), wrap_id (by omega) (by omega)]
  rfl
theorem ix_lt {r c W H : Nat} (hr : r < H * 4) (hc : c < W * 4) : r / 4 * W + c / 4 < W * H := by
  have h1 : r / 4 + 1 ≤ H := by omega
  have h2 : c / 4 < W := by omega
  have h3 := Nat.mul_le_mul_right W h1
  rw [Nat.add_mul, Nat.one_mul] at h3
  rw [Nat.mul_comm W H]
  omega
theorem implRow (es : List E) (hl : es.length ≤ 1048576) (W H : Nat) (hW : W ≤ 36) (hH : H ≤ 36) (even : Bool) (r : Nat) (hr : r < H * 4) (cs : List Int) (hcs : cs.length = W * H) (R : Int × Int × List Int × Bool)
    (hR : Ev (fun k => impl_CoverOf.l0 k W even es ((H * 4 : Nat) : Int) (wrap64 ((r : Int) + 1)) W H (forTo (fun c cs => cstep es even W r c cs) (W * 4) cs)) R) :
    Ev (fun k => impl_CoverOf.l0 k W even es ((H * 4 : Nat) : Int) (r : Int) W H cs) R := by
  refine Ev.step (f := fun k => impl_CoverOf.l1 k W even es (r : Int) (yOf r) [] ((H * 4 : Nat) : Int) (r : Int) es (es.length : Int) 0 W H cs) (fun k => by
    rw [impl_CoverOf.l0, if_pos (by omega), yw r (by omega)]) ?_
  refine for_ev es.length (fun i acc => acc ++ if crosses (yOf r) (es.getD i z175) = true then [es.getD i z175] else []) (fun i acc => acc.length ≤ i) (fun k i acc => impl_CoverOf.l1 k W even es (r : Int) (yOf r) acc ((H * 4 : Nat) : Int) (r : Int) es (es.length : Int) i W H cs) R [] (by omega)
    (fun i acc hi hI hn => ?_) (fun i acc hi hI => by
      show (acc ++ _).length ≤ i + 1
      rw [List.length_append]
      split <;> simp <;> omega) (Nat.le_refl _) (fun _ => ?_)
  · refine Ev.step (fun k => ?_) hn
    show impl_CoverOf.l1 (k + 1) _ _ _ _ _ _ _ _ _ _ _ _ _ _ = _
    rw [impl_CoverOf.l1, if_pos (by omega), if_pos (by omega), if_pos (by omega)]
    have e : rd_T175 es (i : Int) = es.getD i z175 := rfl
    rw [e]
    generalize es.getD i z175 = v
    obtain ⟨a, b, c, d⟩ := v
    unfold crosses
    simp only []
    by_cases h1 : mn b d ≤ yOf r
    · by_cases h2 : yOf r < mx b d
      · rw [if_pos h1, if_pos h2, if_pos (by omega), decide_eq_true h1, decide_eq_true h2]; rfl
      · rw [if_pos h1, if_neg h2, decide_eq_true h1, decide_eq_false h2]; simp
    · rw [if_neg h1, decide_eq_false h1]; simp
  · rw [forTo_flat (fun i => if crosses (yOf r) (es.getD i z175) = true then [es.getD i z175] else []), range_getD (fun e => if crosses (yOf r) e = true then [e] else []), flat_filter, List.nil_append]
    show Ev (fun k => impl_CoverOf.l1 k W even es (r : Int) (yOf r) (rowOf es r) ((H * 4 : Nat) : Int) (r : Int) es (es.length : Int) (es.length : Int) W H cs) R
    have hol : (rowOf es r).length ≤ 1048576 := Nat.le_trans (List.length_filter_le _ _) hl
    have hwn : ∀ c, (rowOf es r).foldl (stepI (yOf c) (yOf r)) 0 = wn es c r := fun _ => rfl
    generalize rowOf es r = own at hol hwn ⊢
    refine Ev.step (f := fun k => impl_CoverOf.l2 k W even es (r : Int) (yOf r) own ((H * 4 : Nat) : Int) (r : Int) ((W * 4 : Nat) : Int) 0 W H cs) (fun k => by
      rw [impl_CoverOf.l1, if_neg (by omega), wrap_id (n := 4 * (W : Int)) (by omega) (by omega), show (4 : Int) * (W : Int) = ((W * 4 : Nat) : Int) by omega]) ?_
    refine for_ev (W * 4) (fun c cs => cstep es even W r c cs) (fun _ cs => cs.length = W * H) (fun k c cs => impl_CoverOf.l2 k W even es (r : Int) (yOf r) own ((H * 4 : Nat) : Int) (r : Int) ((W * 4 : Nat) : Int) c W H cs) R cs (by omega)
      (fun c cs hc hI hn => ?_) (fun c cs hc hI => by show (cstep _ _ _ _ _ _).length = _; rw [cstep_len, hI]) hcs (fun _ => ?_)
    · have hix := ix_lt hr hc
      refine Ev.step (f := fun k => impl_CoverOf.l3 k W even es (r : Int) (yOf r) own (c : Int) 0 ((H * 4 : Nat) : Int) (r : Int) ((W * 4 : Nat) : Int) (c : Int) own (own.length : Int) 0 W H cs) (fun k => by
        rw [impl_CoverOf.l2, if_pos (by omega)]) ?_
      refine for_ev own.length (fun i s => stepI (yOf c) (yOf r) s (own.getD i z175)) (fun _ _ => True) (fun k i s => impl_CoverOf.l3 k W even es (r : Int) (yOf r) own (c : Int) s ((H * 4 : Nat) : Int) (r : Int) ((W * 4 : Nat) : Int) (c : Int) own (own.length : Int) i W H cs) R 0 (by omega)
        (fun i s hi _ hn2 => ?_) (fun _ _ _ _ => trivial) trivial (fun _ => ?_)
      · refine ev_more 2 (fun k => ?_) (show Ev (fun k => impl_CoverOf.l3 (k + 1) W even es (r : Int) (yOf r) own (c : Int) (stepI (yOf c) (yOf r) s (own.getD i z175)) ((H * 4 : Nat) : Int) (r : Int) ((W * 4 : Nat) : Int) (c : Int) own (own.length : Int) (wrap64 ((i : Int) + 1)) W H cs) R from ?_)
        · show impl_CoverOf.l3 (k + 1 + 1) _ _ _ _ _ _ _ _ _ _ _ _ _ _ _ _ _ _ = _
          rw [impl_CoverOf.l3, if_pos (by omega), if_pos (by omega), if_pos (by omega), yw c (by omega), implWinds, Option.bind_some]
          rfl
        · obtain ⟨K, hK⟩ := hn2
          exact ⟨K, fun k hk => hK (k + 1) (by omega)⟩
      · rw [forTo_foldl (stepI (yOf c) (yOf r)) z175 own 0, hwn]
        refine Ev.step (fun k => ?_) hn
        show impl_CoverOf.l3 (k + 1) _ _ _ _ _ _ _ _ _ _ _ _ _ _ _ _ _ _ = _
        rw [impl_CoverOf.l3, if_neg (by omega), ix (by omega) (by omega) hW]
        have hI' : cs.length = W * H := hI
        rw [if_pos (show (0 : Int) ≤ ((r / 4 * W + c / 4 : Nat) : Int) by omega), if_pos (show ((r / 4 * W + c / 4 : Nat) : Int) < (cs.length : Int) by omega)]
        unfold cstep
        rw [hit_case]
        by_cases h1 : wn es c r = 0
        · rw [if_pos h1, if_pos (by rw [h1]; rfl), if_pos h1]; rfl
        · rw [if_neg h1, if_neg h1]
          cases even
          · simp only [Bool.false_eq_true, if_false, if_true]
            rfl
          · simp only [if_true]
            by_cases h2 : Int.tmod (wn es c r) 2 = 0
            · rw [if_pos h2, decide_eq_true h2]; rfl
            · rw [if_neg h2, decide_eq_false h2]; rfl
    · refine Ev.step (fun k => ?_) hR
      show impl_CoverOf.l2 (k + 1) _ _ _ _ _ _ _ _ _ _ _ _ _ = _
      rw [impl_CoverOf.l2, if_neg (by omega)]
/-- The mask. -/
def coverOf (l : List S83) (a b : Int) (even : Bool) : Int × Int × List Int × Bool := if linesOk l = true then (if 1 ≤ a ∧ a ≤ 36 then (if 1 ≤ b ∧ b ≤ 36 then (a, b, coverL (edges l) a.toNat b.toNat even, true) else (0, 0, [], false)) else (0, 0, [], false)) else (0, 0, [], false)
theorem implCoverOf (l : List S83) (a b : Int) (even : Bool) (hl : l.length ≤ 1048576) (hs : sumTo (pts l) l.length ≤ 1048576) : Ev (fun k => impl_CoverOf.f k l a b even) (coverOf l a b even) := by
  have none_ : ∀ es, Ev (fun k => impl_CoverOf.j0 k a b even es true) (0, 0, [], false) := fun es => ev_some fun k => by rw [impl_CoverOf.j0, if_pos rfl]
  unfold impl_CoverOf.f coverOf
  refine Ev.bind (implEdges l hl hs) ?_
  cases hn : linesOk l
  · exact none_ _
  have he := Nat.le_trans (edges_len l) hs
  generalize edges l = es at he ⊢
  simp only [if_true, impl_areSides.f, within_, Option.bind_some, decide_eq_true_eq]
  by_cases ha : 1 ≤ a ∧ a ≤ 36
  · by_cases hb : 1 ≤ b ∧ b ≤ 36
    · simp only [if_pos ha, if_pos hb, decide_eq_true hb, Option.bind_some, Bool.not_true]
      obtain ⟨W, rfl⟩ : ∃ W : Nat, a = W := ⟨a.toNat, by omega⟩
      obtain ⟨H, rfl⟩ : ∃ H : Nat, b = H := ⟨b.toNat, by omega⟩
      have hWH : W * H ≤ 36 * 36 := Nat.mul_le_mul (by omega) (by omega)
      have e1 : wrap64 ((W : Int) * (H : Int)) = ((W * H : Nat) : Int) := by
        rw [show (W : Int) * (H : Int) = ((W * H : Nat) : Int) from (Int.natCast_mul _ _).symm]
        generalize W * H = p at hWH ⊢
        exact wrap_id (by omega) (by omega)
      refine Ev.step (f := fun k => impl_CoverOf.l0 k W even es ((H * 4 : Nat) : Int) 0 W H (List.replicate (W * H) 0)) (fun k => by
        rw [impl_CoverOf.j0, if_neg (by simp), e1, if_pos (by omega), Int.toNat_natCast, if_pos (by omega), wrap_id (n := 4 * (H : Int)) (by omega) (by omega), show (4 : Int) * (H : Int) = ((H * 4 : Nat) : Int) by omega]) ?_
      simp only [Int.toNat_natCast]
      refine for_ev (H * 4) (fun r cs => forTo (fun c cs => cstep es even W r c cs) (W * 4) cs) (fun _ cs => cs.length = W * H) (fun k r cs => impl_CoverOf.l0 k W even es ((H * 4 : Nat) : Int) r W H cs) _ _ (by omega)
        (fun r cs hr hI hn => implRow es he W H (by omega) (by omega) even r hr cs hI _ hn)
        (fun r cs hr hI => forTo_inv (fun _ cs => cs.length = W * H) (W * 4) (fun c cs _ h => by show (cstep _ _ _ _ _ _).length = _; rw [cstep_len, h]) cs hI) (by simp) (fun _ => ?_)
      exact ev_some fun k => by rw [impl_CoverOf.l0, if_neg (by omega)]; rfl
    · simp only [if_pos ha, if_neg hb, decide_eq_false hb, Option.bind_some, Bool.not_false]; exact none_ _
  · simp only [if_neg ha, Option.bind_some, Bool.not_false]; exact none_ _
theorem cover_split (es : List E) (W H : Nat) (even : Bool) : coverL es W H even = forTo (fun v cs => forTo (fun q cs => forTo (fun u cs => forTo (fun i cs => cstep es even W (v * 4 + q) (u * 4 + i) cs) 4 cs) W cs) 4 cs) H (List.replicate (W * H) 0) := by
  unfold coverL
  rw [forTo_split]
  refine forTo_congr _ (fun v cs _ => forTo_congr _ (fun q cs _ => ?_) cs) _
  exact forTo_split (fun c cs => cstep es even W (v * 4 + q) c cs) 4 W cs
theorem specRow (es : List E) (fs : List F) (hfs : fs = es.filterMap conv) (hl : fs.length ≤ 1048576) (W H : Nat) (hW : W ≤ 36) (hH : H ≤ 36) (even : Bool) (v q : Nat) (hv : v < H) (hq : q < 4) (cs : List Int) (hcs : cs.length = W * H) (R : Int × Int × List Int)
    (hR : Ev (fun k => spec_l11Cover.l1 k W H even fs (v : Int) (wrap64 ((q : Int) + 1)) W H (forTo (fun u cs => forTo (fun i cs => cstep es even W (v * 4 + q) (u * 4 + i) cs) 4 cs) W cs)) R) :
    Ev (fun k => spec_l11Cover.l1 k W H even fs (v : Int) (q : Int) W H cs) R := by
  have wy : wrap64 ((wrap64 ((wrap64 (16 * (v : Int))) + (wrap64 (4 * (q : Int))))) + 2) = yOf (v * 4 + q) := by
    unfold yOf
    rw [wrap_id (n := 16 * (v : Int)) (by omega) (by omega), wrap_id (n := 4 * (q : Int)) (by omega) (by omega), wrap_id (n := 16 * (v : Int) + 4 * (q : Int)) (by omega) (by omega), wrap_id (by omega) (by omega)]
    omega
  refine Ev.step (f := fun k => spec_l11Cover.l2 k W H even fs (v : Int) (q : Int) (yOf (v * 4 + q)) [] fs (fs.length : Int) 0 W H cs) (fun k => by
    rw [spec_l11Cover.l1, if_pos (by omega), wy]) ?_
  refine for_ev fs.length (fun i acc => acc ++ if crossS (yOf (v * 4 + q)) (fs.getD i z228) = true then [fs.getD i z228] else []) (fun i acc => acc.length ≤ i) (fun k i acc => spec_l11Cover.l2 k W H even fs (v : Int) (q : Int) (yOf (v * 4 + q)) acc fs (fs.length : Int) i W H cs) R [] (by omega)
    (fun i acc hi hI hn => ?_) (fun i acc hi hI => by
      show (acc ++ _).length ≤ i + 1
      rw [List.length_append]
      split <;> simp <;> omega) (Nat.le_refl _) (fun _ => ?_)
  · refine Ev.step (fun k => ?_) hn
    show spec_l11Cover.l2 (k + 1) _ _ _ _ _ _ _ _ _ _ _ _ _ _ = _
    rw [spec_l11Cover.l2, if_pos (by omega), if_pos (by omega), if_pos (by omega)]
    have e : rd_T228 fs (i : Int) = fs.getD i z228 := rfl
    rw [e]
    generalize fs.getD i z228 = w
    obtain ⟨a, b, c, d⟩ := w
    unfold crossS
    simp only []
    by_cases h1 : b ≤ yOf (v * 4 + q) <;> by_cases h2 : yOf (v * 4 + q) < d <;> by_cases h3 : d ≤ yOf (v * 4 + q) <;> by_cases h4 : yOf (v * 4 + q) < b <;> simp [h1, h2, h3, h4, show acc.length < 4398046511104 by omega] <;> omega
  · rw [forTo_flat (fun i => if crossS (yOf (v * 4 + q)) (fs.getD i z228) = true then [fs.getD i z228] else []), range_getD (fun e => if crossS (yOf (v * 4 + q)) e = true then [e] else []), flat_filter, List.nil_append]
    have hol : (fs.filter (crossS (yOf (v * 4 + q)))).length ≤ 1048576 := Nat.le_trans (List.length_filter_le _ _) hl
    have hwn : ∀ c, (fs.filter (crossS (yOf (v * 4 + q)))).foldl (stepS (yOf c) (yOf (v * 4 + q))) 0 = wn es c (v * 4 + q) := fun c => by rw [hfs]; exact spec_wn es c _
    generalize fs.filter (crossS (yOf (v * 4 + q))) = own at hol hwn ⊢
    by_cases h0 : own = []
    · have hz : ∀ c, wn es c (v * 4 + q) = 0 := fun c => by rw [← hwn c, h0]; rfl
      have hid : forTo (fun u cs => forTo (fun i cs => cstep es even W (v * 4 + q) (u * 4 + i) cs) 4 cs) W cs = cs :=
        forTo_id W cs (fun u _ => forTo_id 4 cs (fun i _ => by unfold cstep; rw [hz, hit_zero]; rfl))
      rw [hid] at hR
      refine Ev.step (fun k => ?_) hR
      show spec_l11Cover.l2 (k + 1) _ _ _ _ _ _ _ _ _ _ _ _ _ _ = _
      rw [spec_l11Cover.l2, if_neg (by omega), h0, if_pos (by simp)]
    · have hpos : 0 < own.length := List.length_pos_iff.2 h0
      refine Ev.step (f := fun k => spec_l11Cover.l3 k W H even fs (v : Int) (q : Int) (yOf (v * 4 + q)) own 0 W H cs) (fun k => by
        rw [spec_l11Cover.l2, if_neg (by omega), if_neg (by omega)]) ?_
      refine for_ev W (fun u cs => forTo (fun i cs => cstep es even W (v * 4 + q) (u * 4 + i) cs) 4 cs) (fun _ cs => cs.length = W * H) (fun k u cs => spec_l11Cover.l3 k W H even fs (v : Int) (q : Int) (yOf (v * 4 + q)) own u W H cs) R cs (by omega)
        (fun u cs hu hI hn => ?_) (fun u cs hu hI => forTo_inv (fun _ cs => cs.length = W * H) 4 (fun i cs _ h => by show (cstep _ _ _ _ _ _).length = _; rw [cstep_len, h]) cs hI) hcs (fun _ => ?_)
      · refine Ev.step (f := fun k => spec_l11Cover.l4 k W H even fs (v : Int) (q : Int) (yOf (v * 4 + q)) own (u : Int) 0 W H cs) (fun k => by
          rw [spec_l11Cover.l3, if_pos (by omega)]) ?_
        refine for_ev 4 (fun i cs => cstep es even W (v * 4 + q) (u * 4 + i) cs) (fun _ cs => cs.length = W * H) (fun k i cs => spec_l11Cover.l4 k W H even fs (v : Int) (q : Int) (yOf (v * 4 + q)) own (u : Int) i W H cs) R cs (by omega)
          (fun i cs hi hI2 hn2 => ?_) (fun i cs hi hI2 => by show (cstep _ _ _ _ _ _).length = _; rw [cstep_len, hI2]) hI (fun _ => ?_)
        · have wx : wrap64 ((wrap64 ((wrap64 (16 * (u : Int))) + (wrap64 (4 * (i : Int))))) + 2) = yOf (u * 4 + i) := by
            unfold yOf
            rw [wrap_id (n := 16 * (u : Int)) (by omega) (by omega), wrap_id (n := 4 * (i : Int)) (by omega) (by omega), wrap_id (n := 16 * (u : Int) + 4 * (i : Int)) (by omega) (by omega), wrap_id (by omega) (by omega)]
            omega
          have h1 : v * W ≤ 36 * 36 := Nat.mul_le_mul (by omega) hW
          have wi : wrap64 ((wrap64 ((v : Int) * (W : Int))) + (u : Int)) = (((v * 4 + q) / 4 * W + (u * 4 + i) / 4 : Nat) : Int) := by
            rw [show (v * 4 + q) / 4 = v by omega, show (u * 4 + i) / 4 = u by omega, show (v : Int) * (W : Int) = ((v * W : Nat) : Int) from (Int.natCast_mul _ _).symm]
            generalize v * W = p at h1 ⊢
            rw [wrap_id (n := (p : Int)) (by omega) (by omega), wrap_id (by omega) (by omega)]
            rfl
          have hix := ix_lt (r := v * 4 + q) (c := u * 4 + i) (W := W) (H := H) (by omega) (by omega)
          have hI2' : cs.length = W * H := hI2
          have hw := specWinding own hol (yOf (u * 4 + i)) (yOf (v * 4 + q))
          rw [hwn] at hw
          apply Ev.step
          · intro k
            show spec_l11Cover.l4 (k + 1) _ _ _ _ _ _ _ _ _ _ _ _ _ = _
            rw [spec_l11Cover.l4, if_pos (by omega), wx, wi]
          refine Ev.bind hw ?_
          simp only [if_pos (show (0 : Int) ≤ (((v * 4 + q) / 4 * W + (u * 4 + i) / 4 : Nat) : Int) by omega), if_pos (show (((v * 4 + q) / 4 * W + (u * 4 + i) / 4 : Nat) : Int) < (cs.length : Int) by omega)]
          unfold cstep hit at hn2
          cases even
          · by_cases h2 : wn es (u * 4 + i) (v * 4 + q) = 0
            · simp only [Bool.false_eq_true, if_false, if_pos h2]
              simpa [h2] using hn2
            · simp only [Bool.false_eq_true, if_false, if_neg h2]
              simp only [Bool.false_eq_true, if_false, decide_eq_false h2, Bool.not_false, if_true] at hn2
              exact hn2
          · by_cases h2 : Int.tmod (wn es (u * 4 + i) (v * 4 + q)) 2 = 0
            · simp only [if_true, if_pos h2]
              simp only [if_true, decide_eq_true h2, Bool.not_true, Bool.false_eq_true, if_false] at hn2
              exact hn2
            · simp only [if_true, if_neg h2]
              simp only [if_true, decide_eq_false h2, Bool.not_false] at hn2
              exact hn2
        · refine Ev.step (fun k => ?_) hn
          show spec_l11Cover.l4 (k + 1) _ _ _ _ _ _ _ _ _ _ _ _ _ = _
          rw [spec_l11Cover.l4, if_neg (by omega)]
      · refine Ev.step (fun k => ?_) hR
        show spec_l11Cover.l3 (k + 1) _ _ _ _ _ _ _ _ _ _ _ _ = _
        rw [spec_l11Cover.l3, if_neg (by omega)]
theorem near_of_ok' {l : List S83} (h : linesOk l = true) : allNear l = true := by
  unfold linesOk at h
  split at h
  · cases h
  · exact h
theorem specCoverOf (l : List S83) (a b : Int) (even : Bool) (hl : l.length ≤ 1048576) (hs : sumTo (pts l) l.length ≤ 1048576) : Ev (fun k => spec_CoverOf.f k l a b even) (coverOf l a b even) := by
  unfold spec_CoverOf.f coverOf
  refine Ev.bind (specLines l hl hs) ?_
  cases hn : linesOk l
  · exact Ev.now _
  simp only [if_true, spec_l3Side.f, in_, Option.bind_some, decide_eq_true_eq]
  by_cases ha : 1 ≤ a ∧ a ≤ 36
  · by_cases hb : 1 ≤ b ∧ b ≤ 36
    · simp only [if_pos ha, if_pos hb]
      have he := specEdges l hl hs (near_of_ok' hn)
      have hel := Nat.le_trans (edges_len l) hs
      generalize edges l = es at he hel ⊢
      obtain ⟨W, rfl⟩ : ∃ W : Nat, a = W := ⟨a.toNat, by omega⟩
      obtain ⟨H, rfl⟩ : ∃ H : Nat, b = H := ⟨b.toNat, by omega⟩
      have hWH : W * H ≤ 36 * 36 := Nat.mul_le_mul (by omega) (by omega)
      have e1 : wrap64 ((W : Int) * (H : Int)) = ((W * H : Nat) : Int) := by
        rw [show (W : Int) * (H : Int) = ((W * H : Nat) : Int) from (Int.natCast_mul _ _).symm]
        generalize W * H = p at hWH ⊢
        exact wrap_id (by omega) (by omega)
      refine Ev.bind (a := ((W : Int), (H : Int), coverL es (W : Int).toNat (H : Int).toNat even)) ?_ (Ev.now _)
      unfold spec_l11Cover.f
      refine Ev.bind he ?_
      rw [e1]
      simp only [if_pos (show (0 : Int) ≤ ((W * H : Nat) : Int) by omega), Int.toNat_natCast, if_pos (show W * H ≤ 35184372088832 by omega)]
      rw [cover_split]
      have hfl : (es.filterMap conv).length ≤ 1048576 := Nat.le_trans (List.length_filterMap_le _ _) hel
      obtain ⟨fs, hfs⟩ : ∃ fs, fs = es.filterMap conv := ⟨_, rfl⟩
      rw [← hfs] at hfl ⊢
      have hcl : ∀ r c (cs : List Int), cs.length = W * H → (cstep es even W r c cs).length = W * H := fun r c cs h => by rw [cstep_len, h]
      refine for_ev H (fun v cs => forTo (fun q cs => forTo (fun u cs => forTo (fun i cs => cstep es even W (v * 4 + q) (u * 4 + i) cs) 4 cs) W cs) 4 cs) (fun _ cs => cs.length = W * H) (fun k v cs => spec_l11Cover.l0 k (W : Int) (H : Int) even fs v (W : Int) (H : Int) cs) _ _ (by omega)
        (fun v cs hv hI hn3 => ?_) (fun v cs hv hI => forTo_inv (fun _ cs => cs.length = W * H) 4 (fun q cs _ h => forTo_inv (fun _ cs => cs.length = W * H) W (fun u cs _ h => forTo_inv (fun _ cs => cs.length = W * H) 4 (fun i cs _ h => hcl _ _ _ h) cs h) cs h) cs hI) (by simp) (fun _ => ?_)
      · refine Ev.step (f := fun k => spec_l11Cover.l1 k (W : Int) (H : Int) even fs (v : Int) 0 (W : Int) (H : Int) cs) (fun k => by rw [spec_l11Cover.l0, if_pos (by omega)]) ?_
        refine for_ev 4 (fun q cs => forTo (fun u cs => forTo (fun i cs => cstep es even W (v * 4 + q) (u * 4 + i) cs) 4 cs) W cs) (fun _ cs => cs.length = W * H) (fun k q cs => spec_l11Cover.l1 k (W : Int) (H : Int) even fs (v : Int) q (W : Int) (H : Int) cs) _ cs (by omega)
          (fun q cs hq hI2 hn4 => specRow es fs hfs hfl W H (by omega) (by omega) even v q hv hq cs hI2 _ hn4)
          (fun q cs _ h => forTo_inv (fun _ cs => cs.length = W * H) W (fun u cs _ h => forTo_inv (fun _ cs => cs.length = W * H) 4 (fun i cs _ h => hcl _ _ _ h) cs h) cs h) hI (fun _ => ?_)
        refine Ev.step (fun k => ?_) hn3
        show spec_l11Cover.l1 (k + 1) _ _ _ _ _ _ _ _ _ = _
        rw [spec_l11Cover.l1, if_neg (by omega)]
      · exact ev_some fun k => by rw [spec_l11Cover.l0, if_neg (by omega)]
    · simp only [if_pos ha, if_neg hb]; exact Ev.now _
  · simp only [if_neg ha]; exact Ev.now _
end Go.Proofs.Ytdbgnoolokfafaa.HFnExactCoverOf
/- Points are marked from any number on, and hold their marks; lists of points that are fixed. -/
namespace Go.Proofs.Ytdbgnoolokfafaa.HFnExactCoverOf
open Go.RowKit Go.Proofs.YtdbgnoolokfafaaW.PrintWords Go.Proofs.YtdbgnoolokfafaaW.PrintLast Go.Proofs.Ytdbgnoolokfafaa.Plain
set_option linter.unusedSimpArgs false
set_option linter.unusedVariables false
/-- The i-th mark. -/
def ptMark (m i : Nat) : S25 := ⟨((m + 2 * i : Nat) : Int), ((m + 2 * i + 1 : Nat) : Int)⟩
theorem w1 (n : Nat) (h : n ≤ 4611686018427387904) : wrap64 ((n : Int) + 1) = ((n + 1 : Nat) : Int) := by rw [wrap_id (by omega) (by omega)]; rfl
theorem markPts (l : List S25) (m : Nat) (hl : l.length ≤ 4194304) (hm : m ≤ 41943040) : Ev (fun k => laws_markPointS.f k l m) (((m + 2 * l.length : Nat) : Int), over (ptMark m) l l.length) := by
  unfold laws_markPointS.f
  refine mark_ev 2 m (ptMark m) l (by omega) (by omega) (fun k ys m i => laws_markPointS.l0 k ys m i) (fun k i ys hi hy => ?_) (fun k ys q hy => ?_)
  · show laws_markPointS.l0 (k + 1) ys _ i = _
    rw [laws_markPointS.l0, if_pos (by omega), if_pos (by omega)]
    simp only [Option.bind_some, rd_T25, Int.toNat_natCast, set_set_, w1 (m + 2 * i) (by omega), w1 (m + 2 * i + 1) (by omega), getD_set_ ys i (by omega)]
    rfl
  · show laws_markPointS.l0 (k + 1) ys _ _ = _
    rw [laws_markPointS.l0, if_neg (by omega)]
end Go.Proofs.Ytdbgnoolokfafaa.HFnExactCoverOf
/- Lines are marked, and hold their marks. -/
namespace Go.Proofs.Ytdbgnoolokfafaa.HFnExactCoverOf
open Go.RowKit Go.Proofs.YtdbgnoolokfafaaW.PrintWords Go.Proofs.YtdbgnoolokfafaaW.PrintLast Go.Proofs.Ytdbgnoolokfafaa.Plain
set_option linter.unusedSimpArgs false
set_option linter.unusedVariables false
/-- The first mark of the i-th line. -/
def mAt (m : Nat) (l : List S83) (i : Nat) : Nat := m + 2 * sumTo (pts l) i + i
/-- The i-th line, marked. -/
def lnMark (m : Nat) (l : List S83) (i : Nat) : S83 := ⟨over (ptMark (mAt m l i)) (l.getD i z83).f0 (pts l i), (Int.tmod ((mAt m l i + 2 * pts l i : Nat) : Int) 3 == 0)⟩
theorem over_ge {α : Type} (f : Nat → α) (xs : List α) (i j : Nat) (h : i ≤ j) (hi : i ≤ xs.length) (z : α) : (over f xs i).getD j z = xs.getD j z := by
  have h1 : ((List.range i).map f).length = i := by simp
  simp only [over, List.getD]
  rw [List.getElem?_append_right (by omega), List.getElem?_drop, h1, show i + (j - i) = j by omega]
theorem mAt_succ (m : Nat) (l : List S83) (i : Nat) : mAt m l (i + 1) = mAt m l i + 2 * pts l i + 1 := by
  unfold mAt
  show m + 2 * (sumTo (pts l) i + pts l i) + (i + 1) = _
  omega
theorem mAt_le (m : Nat) (l : List S83) {i : Nat} (h : i ≤ l.length) : mAt m l i ≤ mAt m l l.length := by
  have := sumTo_le (pts l) h
  unfold mAt
  omega
theorem markLines (l : List S83) (m : Nat) (hm : mAt m l l.length ≤ 4194304) : Ev (fun k => laws_markLineS.f k l m) ((mAt m l l.length : Nat), over (lnMark m l) l l.length) := by
  unfold laws_markLineS.f
  have key : ∀ i, i ≤ l.length → Ev (fun k => laws_markLineS.l0 k (over (lnMark m l) l i) ((mAt m l i : Nat) : Int) (i : Nat)) (((mAt m l l.length : Nat) : Int), over (lnMark m l) l l.length) := by
    refine up (p := fun i => Ev (fun k => laws_markLineS.l0 k (over (lnMark m l) l i) ((mAt m l i : Nat) : Int) (i : Nat)) (((mAt m l l.length : Nat) : Int), over (lnMark m l) l l.length)) l.length ?_ ?_
    · exact ev_some fun k => by rw [laws_markLineS.l0, if_neg (by rw [over_len _ _ _ (Nat.le_refl _)]; omega)]
    · intro i hi ih
      have hle := mAt_le m l (show i + 1 ≤ l.length from hi)
      rw [mAt_succ] at hle
      have hl : l.length ≤ 4194304 := by unfold mAt at hm; omega
      have hget : rd_T83 (over (lnMark m l) l i) (i : Int) = l.getD i z83 := over_ge (lnMark m l) l i i (Nat.le_refl _) (by omega) _
      refine Ev.step (f := fun k => (laws_markPointS.f k ((l.getD i z83).f0) ((mAt m l i : Nat) : Int)).bind fun bt => (laws_markLineS.l0 k ((over (lnMark m l) l i).set (i : Int).toNat (⟨bt.2, (Int.tmod bt.1 3 == 0)⟩ : S83)) (wrap64 (bt.1 + 1)) (wrap64 ((i : Int) + 1)))) (fun k => by
        rw [laws_markLineS.l0, if_pos (by rw [over_len _ _ _ (by omega)]; omega), if_pos (by omega), hget]) ?_
      refine Ev.bind (markPts _ _ (by show pts l i ≤ _; omega) (by omega)) ?_
      have hset : (over (lnMark m l) l i).set (i : Int).toNat (⟨over (ptMark (mAt m l i)) (l.getD i z83).f0 (l.getD i z83).f0.length, (Int.tmod ((mAt m l i + 2 * (l.getD i z83).f0.length : Nat) : Int) 3 == 0)⟩ : S83) = over (lnMark m l) l (i + 1) := over_set (lnMark m l) l i hi
      rw [hset, w1 _ (by show mAt m l i + 2 * pts l i ≤ _; omega), w1 _ (by omega)]
      rw [mAt_succ] at ih
      exact ih
  have := key 0 (Nat.zero_le _)
  rw [over_zero] at this
  exact this
end Go.Proofs.Ytdbgnoolokfafaa.HFnExactCoverOf
/- Whole numbers are marked, and hold their marks. -/
namespace Go.Proofs.Ytdbgnoolokfafaa.HFnExactCoverOf
open Go.RowKit Go.Proofs.YtdbgnoolokfafaaW.PrintWords Go.Proofs.YtdbgnoolokfafaaW.PrintLast Go.Proofs.Ytdbgnoolokfafaa.Plain
set_option linter.unusedSimpArgs false
set_option linter.unusedVariables false
/-- The i-th mark, from m on. -/
def intMark (m i : Nat) : Int := ((m + 1 * i : Nat) : Int)
theorem markInts (l : List Int) (m : Nat) (hl : l.length ≤ 4194304) (hm : m ≤ 4194304) : Ev (fun k => laws_markIntS.f k l m) (((m + 1 * l.length : Nat) : Int), over (intMark m) l l.length) := by
  unfold laws_markIntS.f
  refine mark_ev 1 m (intMark m) l (by omega) (by omega) (fun k ys m i => laws_markIntS.l0 k ys m i) (fun k i ys hi hy => ?_) (fun k ys q hy => ?_)
  · show laws_markIntS.l0 (k + 1) ys _ i = _
    rw [laws_markIntS.l0, if_pos (by omega), if_pos (by omega), Int.toNat_natCast, wrap_id (n := ((m + 1 * i : Nat) : Int) + 1) (by omega) (by omega)]
    rfl
  · show laws_markIntS.l0 (k + 1) ys _ _ = _
    rw [laws_markIntS.l0, if_neg (by omega)]
theorem heldInts (l : List Int) (m : Nat) (hl : l.length ≤ 4194304) (hm : m ≤ 4194304) : Ev (fun k => laws_heldIntS.f k (over (intMark m) l l.length) m) ((m + 1 * l.length : Nat) : Int) := by
  unfold laws_heldIntS.f
  have ho := over_len (intMark m) l l.length (Nat.le_refl _)
  refine held_ev 1 m l.length (by omega) (by omega) (fun k q i => laws_heldIntS.l0 k (over (intMark m) l l.length) q i) (fun k i hi => ?_) (fun k q => ?_)
  · show laws_heldIntS.l0 (k + 1) _ _ i = _
    have hg : rd (over (intMark m) l l.length) i = intMark m i := by
      rw [rd_nat _ _ (by omega)]
      have := over_get (intMark m) l l.length i hi 0
      rw [List.getD, List.getElem?_eq_getElem (by omega)] at this
      exact this
    rw [laws_heldIntS.l0, if_pos (by omega), if_pos (by omega), hg, if_pos (show intMark m i = ((m + 1 * i : Nat) : Int) from rfl), wrap_id (n := ((m + 1 * i : Nat) : Int) + 1) (by omega) (by omega)]
    rfl
  · show laws_heldIntS.l0 (k + 1) _ _ _ = _
    rw [laws_heldIntS.l0, if_neg (by omega)]
end Go.Proofs.Ytdbgnoolokfafaa.HFnExactCoverOf
/- Masks are marked, and hold their marks. -/
namespace Go.Proofs.Ytdbgnoolokfafaa.HFnExactCoverOf
open Go.RowKit Go.Proofs.YtdbgnoolokfafaaW.PrintWords Go.Proofs.YtdbgnoolokfafaaW.PrintLast Go.Proofs.Ytdbgnoolokfafaa.Plain
set_option linter.unusedSimpArgs false
set_option linter.unusedVariables false
theorem markMask (a b : Int) (l : List Int) (m : Nat) (hl : l.length ≤ 4194304) (hm : m ≤ 4194304) : Ev (fun k => laws_markMask.f k a b l m) (((m + 1 * l.length : Nat) : Int), over (intMark m) l l.length) := by
  unfold laws_markMask.f
  exact Ev.bind (f := fun _ t => some (t.1, t.2)) (markInts l m hl hm) (Ev.now _)
theorem heldMask (a b : Int) (l : List Int) (m : Nat) (hl : l.length ≤ 4194304) (hm : m ≤ 4194304) : Ev (fun k => laws_heldMask.f k a b (over (intMark m) l l.length) m) ((m + 1 * l.length : Nat) : Int) := by
  unfold laws_heldMask.f
  refine Ev.bind (f := fun _ t => if t < 0 then some (-1) else some t) (heldInts l m hl hm) ?_
  simp only [if_neg (show ¬ ((m + 1 * l.length : Nat) : Int) < 0 by omega)]
  exact Ev.now _
end Go.Proofs.Ytdbgnoolokfafaa.HFnExactCoverOf
/- Lists of whole numbers, compared. -/
namespace Go.Proofs.Ytdbgnoolokfafaa.HFnExactCoverOf
open Go.RowKit Go.Proofs.YtdbgnoolokfafaaW.PrintWords Go.Proofs.YtdbgnoolokfafaaW.PrintLast Go.Proofs.Ytdbgnoolokfafaa.Plain
set_option linter.unusedSimpArgs false
set_option linter.unusedVariables false
theorem eqInts (l : List Int) (hl : l.length ≤ 9223372036854775806) : Ev (fun k => laws_eqIntS.f k l l) true := by
  unfold laws_eqIntS.f
  have h := all_ev (fun _ : Int => true) l 0 (by omega) (fun k i => laws_eqIntS.l0 k l l i) (fun k i hi => by
    show laws_eqIntS.l0 (k + 1) l l i = _
    rw [laws_eqIntS.l0, if_pos (by omega), if_pos (by omega), if_pos (by omega), if_pos rfl, if_pos rfl]) (fun k => by
    show laws_eqIntS.l0 (k + 1) l l _ = _
    rw [laws_eqIntS.l0, if_neg (by omega)])
  rw [List.all_eq_true.2 (fun _ _ => rfl)] at h
  simp only [if_true]
  exact h
end Go.Proofs.Ytdbgnoolokfafaa.HFnExactCoverOf
/- CoverOf, as numbers: the program's answer is the reference's, field by field, and its memory is its own. -/
namespace Go.Proofs.Ytdbgnoolokfafaa.Pure
open Go.RowKit Go.Proofs.Ytdbgnoolokfafaa.HFnExactCoverOf Go.Proofs.YtdbgnoolokfafaaW.PrintWords Go.Proofs.YtdbgnoolokfafaaW.PrintLast Go.Proofs.Ytdbgnoolokfafaa.Plain
set_option linter.unusedSimpArgs false
set_option linter.unusedVariables false
theorem eqMask_ (a b : Int) (l : List Int) (hl : l.length ≤ 9223372036854775806) : Ev (fun k => laws_eqMask.f k a b l a b l) true := by
  unfold laws_eqMask.f
  simp only [if_true]
  refine Ev.bind (eqInts l hl) ?_
  exact Ev.now _
theorem coverL_len (es : List E) (W H : Nat) (even : Bool) : (coverL es W H even).length = W * H := by
  unfold coverL
  refine forTo_inv (I := fun _ (cs : List Int) => cs.length = W * H) _ (fun r cs _ hc => ?_) _ (by simp)
  refine forTo_inv (I := fun _ (cs : List Int) => cs.length = W * H) _ (fun c cs _ hc => ?_) _ hc
  rw [cstep_len]; exact hc
theorem cover_len (l : List S83) (a b : Int) (even : Bool) : (coverOf l a b even).2.2.1.length ≤ 1296 := by
  unfold coverOf
  repeat' split
  · rename_i h1 h2
    show (coverL _ _ _ _).length ≤ 1296
    rw [coverL_len]
    exact Nat.le_trans (Nat.mul_le_mul (show a.toNat ≤ 36 by omega) (show b.toNat ≤ 36 by omega)) (by omega)
  all_goals exact Nat.zero_le _
theorem FnExactCoverOf : ∀ (l0 : List (S116)) (a1 : Int) (a2 : Int) (a3 : Bool), ((∀ x116 ∈ l0, ((∀ x134 ∈ x116.f0, ((Lit.int .i64 x134.f0).wf = true) ∧ ((Lit.int .i64 x134.f1).wf = true)) ∧ x116.f0.length ≤ 9223372036854775807) ∧ (True)) ∧ l0.length ≤ 9223372036854775807) → ((Lit.int .i64 a1).wf = true) → ((Lit.int .i64 a2).wf = true) → ∃ k, HFnExactCoverOf.laws_FnExactCoverOf.f k l0 a1 a2 a3 = some true := by
  intro l0 a b even hl0 _ _
  refine Ev.rounds ?_
  unfold laws_FnExactCoverOf.f
  obtain ⟨t, ht, hh⟩ := szLines l0 1048576 hl0.2 (fun i hi => by
    have := hl0.1 (l0.getD i z116) (by simp [List.getD, hi])
    exact this.1.2) (by omega)
  refine Ev.bind ht ?_
  by_cases hc : t < 0
  · simp only [if_pos hc]; exact Ev.now _
  simp only [if_neg hc]
  have hb := hh.resolve_left hc
  have hl : l0.length ≤ 1048576 := by omega
  have hp : ∀ i, i < l0.length → lawPts l0 i ≤ 1048576 := fun i hi => by have := le_sum (lawPts l0) hi; omega
  have tl := toLines l0 hl hp
  obtain ⟨l, el⟩ : ∃ l : List S83, l = l0.map toLn := ⟨_, rfl⟩
  rw [← el] at tl
  have hl' : l.length = l0.length := by rw [el, List.length_map]
  have hsum : l.length + sumTo (pts l) l.length ≤ 1048576 := by
    rw [hl', el, sum_same (fun i hi => pts_toLn l0 i hi)]; omega
  have hpp : ∀ i, i < l.length → pts l i ≤ 9223372036854775806 := fun i hi => by have := le_sum (pts l) hi; omega
  have hs := specCoverOf l a b even (by omega) (by omega)
  have hi := implCoverOf l a b even (by omega) (by omega)
  have hml := cover_len l a b even
  generalize coverOf l a b even = r at hs hi hml
  obtain ⟨r1, r2, r3, r4⟩ := r
  simp only [] at hml
  have m1 : mAt 1 l l.length ≤ 4194304 := by unfold mAt; omega
  refine Ev.bind tl (Ev.bind hs (Ev.bind hi (Ev.bind (eqMask_ r1 r2 r3 (by omega)) (Ev.bind (eqLines l (by omega) hpp) (Ev.bind (markLines l 1 m1) (Ev.bind (markMask r1 r2 r3 1 (by omega) (by omega)) (Ev.bind (heldMask r1 r2 r3 1 (by omega) (by omega)) ?_)))))))
  rw [if_pos ⟨rfl, rfl, rfl, by omega, by omega, rfl⟩]
  exact Ev.now _
end Go.Proofs.Ytdbgnoolokfafaa.Pure
