/- Merged: Edges, In, Lines, Num, PureFnExactWindingAt, Steps, Wide, Winding. -/
import Derived.Test.YtdmndbehfdnneaaPlain
import Derived.Laws.MathBits
import Derived.Laws.BitsAllLaws
import Derived.Test.YtdmndbehfdnneaaHFnExactWindingAtx
/- More facts on numbers: quotients, squares, roots. -/
namespace Go.Proofs.Ytdmndbehfdnneaa.Plain
open Go.RowKit Go.Proofs.YtdmndbehfdnneaaW.PrintWords Go.Proofs.YtdmndbehfdnneaaW.PrintLast

theorem tdiv_nn {a : Int} (h : 0 ≤ a) (b : Int) : Int.tdiv a b = a / b := Int.tdiv_eq_ediv_of_nonneg h
theorem tmod_nn {a : Int} (h : 0 ≤ a) (b : Int) : Int.tmod a b = a % b := Int.tmod_eq_emod_of_nonneg h
theorem sq_le {a b : Int} (h0 : 0 ≤ a) (h : a ≤ b) : a * a ≤ b * b := Int.mul_le_mul h h h0 (by omega)
theorem sq_bound {a b : Int} (h0 : -b ≤ a) (h : a ≤ b) : 0 ≤ a * a ∧ a * a ≤ b * b := by
  rcases (by omega : 0 ≤ a ∨ a < 0) with h1 | h1
  · exact ⟨Int.mul_nonneg h1 h1, sq_le h1 h⟩
  · have e : a * a = (-a) * (-a) := by rw [Int.neg_mul_neg]
    rw [e]
    exact ⟨Int.mul_nonneg (by omega) (by omega), sq_le (by omega) (by omega)⟩
/-- A root is one number alone. -/
theorem root_one {n r s : Int} (hr0 : 0 ≤ r) (hs0 : 0 ≤ s) (h1 : r * r ≤ n) (h2 : n < (r + 1) * (r + 1)) (h3 : s * s ≤ n) (h4 : n < (s + 1) * (s + 1)) : r = s := by
  rcases (by omega : r < s ∨ r = s ∨ s < r) with h | h | h
  · have := sq_le (a := r + 1) (b := s) (by omega) (by omega); omega
  · exact h
  · have := sq_le (a := s + 1) (b := r) (by omega) (by omega); omega

end Go.Proofs.Ytdmndbehfdnneaa.Plain

/- Wide products, as two halves of 64 bits. -/
namespace Go.Proofs.Ytdmndbehfdnneaa.Plain
open Go.RowKit Go.Proofs.YtdmndbehfdnneaaW.PrintWords Go.Proofs.YtdmndbehfdnneaaW.PrintLast

theorem u64w (n : Int) : IntKind.u64.wrap n = n % 18446744073709551616 := IntKind.wrap_u64 n
theorem u64_id {n : Int} (h0 : 0 ≤ n) (h1 : n < 18446744073709551616) : IntKind.u64.wrap n = n := by rw [u64w]; omega
theorem tdiv_w (z b : Int) : Int.tdiv (IntKind.u64.wrap z) b = IntKind.u64.wrap z / b := tdiv_nn (by rw [u64w]; omega) b
theorem tmod_w (z b : Int) : Int.tmod (IntKind.u64.wrap z) b = IntKind.u64.wrap z % b := tmod_nn (by rw [u64w]; omega) b
theorem or_join (i : Nat) (x y : Int) (hx0 : 0 ≤ x) (hx1 : x < 18446744073709551616) (hx : x.toNat % 2 ^ i = 0) (hy0 : 0 ≤ y) (hy : y.toNat < 2 ^ i) (hy1 : y < 18446744073709551616) : Go.bits .or .u64 x y = x + y := by
  rw [u64_or x y hx0 hx1 hy0 hy1, nat_join i _ _ hx hy]
  omega
theorem or32 {h l : Int} (h0 : 0 ≤ h) (h1 : h < 4294967296) (l0 : 0 ≤ l) (l1 : l < 4294967296) : Go.bits .or .u64 (h * 4294967296) l = h * 4294967296 + l :=
  or_join 32 _ _ (by omega) (by omega) (by omega) l0 (by omega) (by omega)
theorem or48 {h l : Int} (h0 : 0 ≤ h) (h1 : h < 65536) (l0 : 0 ≤ l) (l1 : l < 281474976710656) : Go.bits .or .u64 (h * 281474976710656) l = h * 281474976710656 + l :=
  or_join 48 _ _ (by omega) (by omega) (by omega) l0 (by omega) (by omega)

/-- A wide number's halves. -/
def wide (v : Int) : Int × Int := (v / 18446744073709551616, v % 18446744073709551616)
theorem wide_eq {v h l : Int} (l0 : 0 ≤ l) (l1 : l < 18446744073709551616) (h1 : v = h * 18446744073709551616 + l) : (h, l) = wide v := by
  unfold wide
  congr 1 <;> omega
theorem split_ab (a b : Int) : a * b = a / 4294967296 * (b / 4294967296) * 18446744073709551616 + (a / 4294967296 * (b % 4294967296) + a % 4294967296 * (b / 4294967296)) * 4294967296 + a % 4294967296 * (b % 4294967296) := by
  have h := split_mul (a / 4294967296) (a % 4294967296) (b / 4294967296) (b % 4294967296)
  rw [show a / 4294967296 * 4294967296 + a % 4294967296 = a by omega, show b / 4294967296 * 4294967296 + b % 4294967296 = b by omega] at h
  exact h
theorem wide_mul {a b A B C D : Int} (ha0 : 0 ≤ a) (ha1 : a < 18446744073709551616) (hb0 : 0 ≤ b) (hb1 : b < 18446744073709551616)
    (hA : a / 4294967296 * (b / 4294967296) = A) (hB : a / 4294967296 * (b % 4294967296) = B) (hC : a % 4294967296 * (b / 4294967296) = C) (hD : a % 4294967296 * (b % 4294967296) = D) :
    a * b = A * 18446744073709551616 + (B + C) * 4294967296 + D ∧ (0 ≤ A ∧ A ≤ 18446744065119617025) ∧ (0 ≤ B ∧ B ≤ 18446744065119617025) ∧ (0 ≤ C ∧ C ≤ 18446744065119617025) ∧ 0 ≤ D ∧ D ≤ 18446744065119617025 := by
  refine ⟨?_, ?_, ?_, ?_, ?_⟩
  · rw [← hA, ← hB, ← hC, ← hD]; exact split_ab a b
  · rw [← hA]; exact prod_bound _ _ (by omega) (by omega) (by omega) (by omega)
  · rw [← hB]; exact prod_bound _ _ (by omega) (by omega) (by omega) (by omega)
  · rw [← hC]; exact prod_bound _ _ (by omega) (by omega) (by omega) (by omega)
  · rw [← hD]; exact prod_bound _ _ (by omega) (by omega) (by omega) (by omega)

theorem div_between {n b q : Int} (hb : 0 < b) (h0 : q * b ≤ n) (h1 : n < (q + 1) * b) : n / b = q :=
  Int.le_antisymm (Int.lt_add_one_iff.1 (Int.ediv_lt_of_lt_mul hb h1)) (Int.le_ediv_of_mul_le hb h0)
theorem tdiv_neg_num {a : Int} (h : a < 0) (b : Int) : Int.tdiv a b = -((-a) / b) ∧ Int.tmod a b = -((-a) % b) := by
  obtain ⟨c, rfl⟩ : ∃ c, a = -c := ⟨-a, by omega⟩
  rw [Int.neg_tdiv, Int.neg_tmod, tdiv_nn (by omega), tmod_nn (by omega), Int.neg_neg]
  exact ⟨rfl, rfl⟩
/-- A quotient rounded down, by the machine's. -/
theorem down_num (a : Int) {b : Int} (hb : 0 < b) : (if Int.tmod a b < 0 then Int.tdiv a b - 1 else Int.tdiv a b) = a / b := by
  rcases (by omega : 0 ≤ a ∨ a < 0) with h | h
  · rw [tmod_nn h, tdiv_nn h, if_neg (by have := Int.emod_nonneg a (by omega : b ≠ 0); omega)]
  · obtain ⟨h1, h2⟩ := tdiv_neg_num h b
    rw [h1, h2]
    have e := Int.mul_ediv_add_emod (-a) b
    have e0 := Int.emod_nonneg (-a) (by omega : b ≠ 0)
    have e1 := Int.emod_lt_of_pos (-a) hb
    generalize (-a) / b = q at *
    generalize (-a) % b = r at *
    split
    · refine (div_between hb ?_ ?_).symm
      · rw [show -q - 1 = -(q + 1) by omega, Int.neg_mul, Int.add_mul, Int.mul_comm q]; omega
      · rw [show -q - 1 + 1 = -q by omega, Int.neg_mul, Int.mul_comm q]; omega
    · refine (div_between hb ?_ ?_).symm
      · rw [Int.neg_mul, Int.mul_comm q]; omega
      · rw [show -q + 1 = -(q - 1) by omega, Int.neg_mul, Int.sub_mul, Int.mul_comm q]; omega
theorem tdiv_small {a b : Int} (hb : 0 < b) (h0 : -9223372036854775807 ≤ a) (h1 : a ≤ 9223372036854775807) : -9223372036854775807 ≤ Int.tdiv a b ∧ Int.tdiv a b ≤ 9223372036854775807 := by
  rcases (by omega : 0 ≤ a ∨ a < 0) with h | h
  · rw [tdiv_nn h]
    have h2 := Int.ediv_nonneg h (by omega : 0 ≤ b)
    have h3 := Int.ediv_le_self b h
    omega
  · rw [(tdiv_neg_num h b).1]
    have h2 := Int.ediv_nonneg (by omega : 0 ≤ -a) (by omega : 0 ≤ b)
    have h3 := Int.ediv_le_self b (by omega : 0 ≤ -a)
    omega

end Go.Proofs.Ytdmndbehfdnneaa.Plain

/- Loops whose rounds run inner loops. -/
namespace Go.Proofs.Ytdmndbehfdnneaa.Plain
open Go.RowKit Go.Proofs.YtdmndbehfdnneaaW.PrintWords Go.Proofs.YtdmndbehfdnneaaW.PrintLast
set_option linter.unusedVariables false

/-- Two loops, one in the other, that ask. -/
theorem all2_ev (N : Nat) (n : Nat → Nat) (P : Nat → Nat → Bool) (hN : N ≤ 9223372036854775806) (hn : ∀ i, i < N → n i ≤ 9223372036854775806) (g0 : Nat → Int → Option Bool) (g1 : Nat → Nat → Int → Option Bool)
    (h0 : ∀ k (i : Nat), i < N → g0 (k + 1) i = g1 k i 0) (h0e : ∀ k, g0 (k + 1) N = some true)
    (h1 : ∀ k (i j : Nat), i < N → j < n i → g1 (k + 1) i j = if P i j = true then g1 k i (wrap64 ((j : Int) + 1)) else some false)
    (h1e : ∀ k (i : Nat), i < N → g1 (k + 1) i (n i) = g0 k (wrap64 ((i : Int) + 1))) :
    Ev (fun k => g0 k 0) ((List.range N).all fun i => (List.range (n i)).all (P i)) := by
  classical
  have key : ∀ i, i ≤ N → Ev (fun k => g0 k (i : Nat)) (decide (∀ i', i ≤ i' → i' < N → ∀ j, j < n i' → P i' j = true)) := by
    refine up (p := fun i => Ev (fun k => g0 k (i : Nat)) (decide (∀ i', i ≤ i' → i' < N → ∀ j, j < n i' → P i' j = true))) N ?_ ?_
    · rw [decide_eq_true (by intro i' h1 h2; omega)]
      exact ev_some fun k => h0e k
    · intro i hi ih
      have key1 : ∀ j, j ≤ n i → Ev (fun k => g1 k i (j : Nat)) (decide ((∀ j', j ≤ j' → j' < n i → P i j' = true) ∧ ∀ i', i + 1 ≤ i' → i' < N → ∀ j, j < n i' → P i' j = true)) := by
        refine up (p := fun j => Ev (fun k => g1 k i (j : Nat)) (decide ((∀ j', j ≤ j' → j' < n i → P i j' = true) ∧ ∀ i', i + 1 ≤ i' → i' < N → ∀ j, j < n i' → P i' j = true))) (n i) ?_ ?_
        · refine Ev.step (f := fun k => g0 k ((i + 1 : Nat) : Int)) (fun k => ?_) ?_
          · rw [h1e k i hi, wrap_id (by omega) (by omega)]; rfl
          · have e : ((∀ j', n i ≤ j' → j' < n i → P i j' = true) ∧ ∀ i', i + 1 ≤ i' → i' < N → ∀ j, j < n i' → P i' j = true) ↔ ∀ i', i + 1 ≤ i' → i' < N → ∀ j, j < n i' → P i' j = true := ⟨fun h => h.2, fun h => ⟨fun j' a b => by omega, h⟩⟩
            rw [decide_eq_decide.2 e]
            exact ih
        · intro j hj ihj
          cases hP : P i j
          · rw [decide_eq_false (fun h => by have := h.1 j (Nat.le_refl _) hj; rw [hP] at this; cases this)]
            exact ev_some fun k => by rw [h1 k i j hi hj, hP]; rfl
          · have e : ((∀ j', j ≤ j' → j' < n i → P i j' = true) ∧ ∀ i', i + 1 ≤ i' → i' < N → ∀ j, j < n i' → P i' j = true) ↔ ((∀ j', j + 1 ≤ j' → j' < n i → P i j' = true) ∧ ∀ i', i + 1 ≤ i' → i' < N → ∀ j, j < n i' → P i' j = true) := by
              refine ⟨fun h => ⟨fun j' a b => h.1 j' (by omega) b, h.2⟩, fun h => ⟨fun j' a b => ?_, h.2⟩⟩
              rcases Nat.lt_or_ge j j' with c | c
              · exact h.1 j' (by omega) b
              · rw [show j' = j by omega]; exact hP
            rw [decide_eq_decide.2 e]
            refine Ev.step (f := fun k => g1 k i ((j + 1 : Nat) : Int)) (fun k => ?_) ihj
            have := hn i hi
            rw [h1 k i j hi hj, hP, if_pos rfl, wrap_id (by omega) (by omega)]; rfl
      have e : (∀ i', i ≤ i' → i' < N → ∀ j, j < n i' → P i' j = true) ↔ ((∀ j', 0 ≤ j' → j' < n i → P i j' = true) ∧ ∀ i', i + 1 ≤ i' → i' < N → ∀ j, j < n i' → P i' j = true) := by
        refine ⟨fun h => ⟨fun j' a b => h i (Nat.le_refl _) hi j' b, fun i' a b => h i' (by omega) b⟩, fun h i' a b j c => ?_⟩
        rcases Nat.lt_or_ge i i' with d | d
        · exact h.2 i' (by omega) b j c
        · have : i' = i := by omega
          subst this
          exact h.1 j (Nat.zero_le _) c
      rw [decide_eq_decide.2 e]
      exact Ev.step (f := fun k => g1 k i ((0 : Nat) : Int)) (fun k => by rw [h0 k i hi]; rfl) (key1 0 (Nat.zero_le _))
  have := key 0 (Nat.zero_le _)
  have e : decide (∀ i', 0 ≤ i' → i' < N → ∀ j, j < n i' → P i' j = true) = ((List.range N).all fun i => (List.range (n i)).all (P i)) := by
    rw [Bool.eq_iff_iff]
    simp
  rw [e] at this
  exact this

/-- What two loops, one in the other, have gathered at a place. -/
def gath {γ : Type} (n : Nat → Nat) (f : Nat → Nat → List γ) (i j : Nat) : List γ := ((List.range i).flatMap fun a => (List.range (n a)).flatMap (f a)) ++ (List.range j).flatMap (f i)
theorem gath_in {γ : Type} (n : Nat → Nat) (f : Nat → Nat → List γ) (i j : Nat) : gath n f i j ++ f i j = gath n f i (j + 1) := by simp [gath, List.range_succ]
theorem gath_out {γ : Type} (n : Nat → Nat) (f : Nat → Nat → List γ) (i : Nat) : gath n f i (n i) = gath n f (i + 1) 0 := by simp [gath, List.range_succ]
/-- Two loops, one in the other, that gather. -/
theorem gath_ev {γ ρ : Type} (N : Nat) (n : Nat → Nat) (f : Nat → Nat → List γ) (fin : List γ → ρ) (hN : N ≤ 9223372036854775806) (hn : ∀ i, i < N → n i ≤ 9223372036854775806) (g0 : Nat → Int → List γ → Option ρ) (g1 : Nat → Nat → Int → List γ → Option ρ)
    (h0 : ∀ k (i : Nat) acc, i < N → g0 (k + 1) i acc = g1 k i 0 acc) (h0e : ∀ k acc, g0 (k + 1) N acc = some (fin acc))
    (h1 : ∀ k (i j : Nat), i < N → j < n i → g1 (k + 1) i j (gath n f i j) = g1 k i (wrap64 ((j : Int) + 1)) (gath n f i j ++ f i j))
    (h1e : ∀ k (i : Nat) acc, i < N → g1 (k + 1) i (n i) acc = g0 k (wrap64 ((i : Int) + 1)) acc) :
    Ev (fun k => g0 k 0 []) (fin (gath n f N 0)) := by
  have key : ∀ i, i ≤ N → Ev (fun k => g0 k (i : Nat) (gath n f i 0)) (fin (gath n f N 0)) := by
    refine up (p := fun i => Ev (fun k => g0 k (i : Nat) (gath n f i 0)) (fin (gath n f N 0))) N ?_ ?_
    · exact ev_some fun k => h0e k _
    · intro i hi ih
      have key1 : ∀ j, j ≤ n i → Ev (fun k => g1 k i (j : Nat) (gath n f i j)) (fin (gath n f N 0)) := by
        refine up (p := fun j => Ev (fun k => g1 k i (j : Nat) (gath n f i j)) (fin (gath n f N 0))) (n i) ?_ ?_
        · refine Ev.step (f := fun k => g0 k ((i + 1 : Nat) : Int) (gath n f (i + 1) 0)) (fun k => ?_) ih
          rw [h1e k i _ hi, gath_out, wrap_id (by omega) (by omega)]; rfl
        · intro j hj ihj
          refine Ev.step (f := fun k => g1 k i ((j + 1 : Nat) : Int) (gath n f i (j + 1))) (fun k => ?_) ihj
          have := hn i hi
          rw [h1 k i j hi hj, gath_in, wrap_id (by omega) (by omega)]; rfl
      exact Ev.step (f := fun k => g1 k i ((0 : Nat) : Int) (gath n f i 0)) (fun k => by rw [h0 k i _ hi]; rfl) (key1 0 (Nat.zero_le _))
  exact key 0 (Nat.zero_le _)
/-- How much is gathered at most. -/
def sumTo (n : Nat → Nat) : Nat → Nat
  | 0 => 0
  | i + 1 => sumTo n i + n i
theorem flat_len {γ : Type} (f : Nat → List γ) (h : ∀ j, (f j).length ≤ 1) (j : Nat) : ((List.range j).flatMap f).length ≤ j := by
  induction j with
  | zero => simp
  | succ j ih => have := h j; simp [List.range_succ] at ih ⊢; omega
theorem gath_len {γ : Type} (n : Nat → Nat) (f : Nat → Nat → List γ) (h : ∀ i j, (f i j).length ≤ 1) (i j : Nat) : (gath n f i j).length ≤ sumTo n i + j := by
  have h2 := flat_len (f i) (h i) j
  have h1 : ∀ i, ((List.range i).flatMap fun a => (List.range (n a)).flatMap (f a)).length ≤ sumTo n i := by
    intro i
    induction i with
    | zero => simp [sumTo]
    | succ i ih =>
      have := flat_len (f i) (h i) (n i)
      simp only [List.range_succ, List.flatMap_append, List.length_append, sumTo]
      simp only [List.flatMap_cons, List.flatMap_nil, List.append_nil]
      omega
  have := h1 i
  unfold gath
  rw [List.length_append]
  omega
theorem sumTo_le (n : Nat → Nat) {i j : Nat} (h : i ≤ j) : sumTo n i ≤ sumTo n j := by
  induction j with
  | zero => have : i = 0 := by omega
            subst this; exact Nat.le_refl _
  | succ j ih =>
    rcases Nat.lt_or_ge i (j + 1) with c | c
    · have := ih (by omega)
      show sumTo n i ≤ sumTo n j + n j
      omega
    · rw [show i = j + 1 by omega]; exact Nat.le_refl _

/-- A loop over a list with a state that a round makes anew, an inner loop's answer among what it uses. -/
theorem copy_evs {α β : Type} (f : α → β) (xs : List α) (z : α) (y : β) (hn : xs.length ≤ 9223372036854775806) (g : Nat → List β → Int → Option (List β))
    (h : ∀ (i : Nat) ys R, i < xs.length → ys.length = xs.length → Ev (fun k => g k (ys.set i (f (xs.getD i z))) (wrap64 ((i : Int) + 1))) R → Ev (fun k => g k ys i) R)
    (he : ∀ k ys, g (k + 1) ys xs.length = some ys) (ys : List β) (hl : ys.length = xs.length) : Ev (fun k => g k ys 0) (xs.map f) := by
  have key : ∀ i, i ≤ xs.length → Ev (fun k => g k ((xs.map f).take i ++ ys.drop i) (i : Nat)) (xs.map f) := by
    refine up (p := fun i => Ev (fun k => g k ((xs.map f).take i ++ ys.drop i) (i : Nat)) (xs.map f)) xs.length ?_ ?_
    · have e : (xs.map f).take xs.length ++ ys.drop xs.length = xs.map f := by
        have := copied_all (xs.map f) ys (by simpa using hl)
        simpa using this
      rw [e]
      exact ev_some fun k => he k _
    · intro i hi ih
      have e := copied (xs.map f) ys (by simpa using hl) y i (by simpa using hi)
      have e2 : (xs.map f).getD i y = f (xs.getD i z) := by simp [hi]
      rw [e2] at e
      refine h i _ _ hi (by simp [List.length_take, List.length_drop]; omega) ?_
      rw [e, wrap_id (by omega) (by omega)]
      exact ih
  have := key 0 (Nat.zero_le _)
  simpa using this
theorem flat_hom {α γ δ : Type} (φ : List γ → List δ) (h0 : φ [] = []) (h1 : ∀ a b, φ (a ++ b) = φ a ++ φ b) (g : α → List γ) (l : List α) : φ (l.flatMap g) = l.flatMap (fun a => φ (g a)) := by
  induction l with
  | nil => simpa using h0
  | cons x l ih => simp only [List.flatMap_cons, h1, ih]
theorem gath_hom {γ δ : Type} (φ : List γ → List δ) (h0 : φ [] = []) (h1 : ∀ a b, φ (a ++ b) = φ a ++ φ b) (n : Nat → Nat) (f : Nat → Nat → List γ) (i j : Nat) : φ (gath n f i j) = gath n (fun a b => φ (f a b)) i j := by
  unfold gath
  rw [h1, flat_hom φ h0 h1, flat_hom φ h0 h1]
  congr 1
  congr 1
  funext a
  rw [flat_hom φ h0 h1]
/-- A loop over a list with a state, inner loops in its rounds. -/
theorem fold_evs {α σ ρ : Type} (xs : List α) (z : α) (step : σ → α → σ) (I : σ → Prop) (hI : ∀ s x, I s → I (step s x)) (fin : σ → ρ) (hn : xs.length ≤ 9223372036854775806) (g : Nat → Int → σ → Option ρ)
    (h : ∀ (i : Nat) s R, i < xs.length → I s → Ev (fun k => g k (wrap64 ((i : Int) + 1)) (step s (xs.getD i z))) R → Ev (fun k => g k i s) R)
    (he : ∀ k s, I s → g (k + 1) xs.length s = some (fin s)) (s : σ) (hs : I s) : Ev (fun k => g k 0 s) (fin (xs.foldl step s)) := by
  have key : ∀ i, i ≤ xs.length → ∀ s, I s → Ev (fun k => g k (i : Nat) s) (fin ((xs.drop i).foldl step s)) := by
    refine up (p := fun i => ∀ s, I s → Ev (fun k => g k (i : Nat) s) (fin ((xs.drop i).foldl step s))) xs.length ?_ ?_
    · intro s hs
      rw [List.drop_length]
      exact ev_some fun k => he k s hs
    · intro i hi ih s hs
      rw [List.drop_eq_getElem_cons hi]
      have hz : xs.getD i z = xs[i] := by simp [hi]
      refine h i s _ hi hs ?_
      rw [hz, wrap_id (by omega) (by omega)]
      exact ih _ (hI _ _ hs)
  exact key 0 (Nat.zero_le _) s hs
theorem fold_filter {α β σ : Type} (c : α → Option β) (st : σ → β → σ) (su : σ → α → σ) (I : σ → Prop) (hI : ∀ s x, I s → I (su s x)) (h : ∀ s x, I s → su s x = match c x with | none => s | some y => st s y) (xs : List α) : ∀ s, I s → (xs.filterMap c).foldl st s = xs.foldl su s := by
  induction xs with
  | nil => intro s _; rfl
  | cons x xs ih =>
    intro s hs
    have hx := h s x hs
    cases hc : c x with
    | none =>
      have hx' : su s x = s := by rw [hx, hc]
      rw [List.filterMap_cons_none hc, List.foldl_cons, ih s hs, hx']
    | some y =>
      have hx' : su s x = st s y := by rw [hx, hc]
      have hi : I (st s y) := by rw [← hx']; exact hI s x hs
      rw [List.filterMap_cons_some hc, List.foldl_cons, List.foldl_cons, hx', ih _ hi]
/-- A loop that asks of each element, with inner loops. -/
theorem all_evs (n : Nat) (hn : n ≤ 9223372036854775806) (g : Nat → Int → Option Bool)
    (h : ∀ (i : Nat) R, i < n → Ev (fun k => g k (wrap64 ((i : Int) + 1))) R → Ev (fun k => g k i) R) (he : ∀ k, g (k + 1) n = some true) : Ev (fun k => g k 0) true := by
  have key : ∀ i, i ≤ n → Ev (fun k => g k (i : Nat)) true := by
    refine up (p := fun i => Ev (fun k => g k (i : Nat)) true) n ?_ ?_
    · exact ev_some fun k => he k
    · intro i hi ih
      refine h i _ hi ?_
      rw [wrap_id (by omega) (by omega)]
      exact ih
  exact key 0 (Nat.zero_le _)

end Go.Proofs.Ytdmndbehfdnneaa.Plain

/- Bounds asked by both sides. -/
namespace Go.Proofs.Ytdmndbehfdnneaa.HFnExactWindingAt
open Go.RowKit Go.Proofs.YtdmndbehfdnneaaW.PrintWords Go.Proofs.YtdmndbehfdnneaaW.PrintLast Go.Proofs.Ytdmndbehfdnneaa.Plain
set_option linter.unusedSimpArgs false
set_option linter.unusedVariables false

theorem in_ (a b c : Int) : spec_l1In.f a b c = some (decide (b ≤ a ∧ a ≤ c)) := by
  unfold spec_l1In.f
  by_cases h : a ≥ b
  · rw [if_pos h]; simp [show b ≤ a from h]
  · rw [if_neg h]; simp [show ¬ b ≤ a from h]
theorem within_ (a b c : Int) : impl_within.f a b c = some (decide (b ≤ a ∧ a ≤ c)) := in_ a b c

end Go.Proofs.Ytdmndbehfdnneaa.HFnExactWindingAt

/- Lines: measured, copied and compared. -/
namespace Go.Proofs.Ytdmndbehfdnneaa.HFnExactWindingAt
open Go.RowKit Go.Proofs.YtdmndbehfdnneaaW.PrintWords Go.Proofs.YtdmndbehfdnneaaW.PrintLast Go.Proofs.Ytdmndbehfdnneaa.Plain
set_option linter.unusedSimpArgs false
set_option linter.unusedVariables false

def toPt (x : S86) : S25 := ⟨x.f0, x.f1⟩
def toLn (x : S158) : S164 := ⟨x.f0.map toPt, x.f1⟩
/-- How many points a line has. -/
def pts (l : List S164) (i : Nat) : Nat := (l.getD i z164).f0.length
def lawPts (l : List S158) (i : Nat) : Nat := (l.getD i z158).f0.length

theorem toPoints (l : List S86) (hl : l.length ≤ 1048576) : Ev (fun k => laws_toPointS.f k l) (l.map toPt) := by
  unfold laws_toPointS.f
  have h := copy_ev toPt l z86 z25 (by omega) (fun k ys i => laws_toPointS.l0 k l ys i) (fun k i ys hi hy => by
    show laws_toPointS.l0 (k + 1) l ys i = _
    rw [laws_toPointS.l0, if_pos (by omega), if_pos (by omega)]
    simp only [laws_toPoint.f, Option.bind_some]
    rw [if_pos (by omega)]; rfl) (fun k ys => by
    show laws_toPointS.l0 (k + 1) l ys _ = _
    rw [laws_toPointS.l0, if_neg (by omega)]) (List.replicate ((l.length : Int)).toNat z25) (by simp)
  simp only [if_pos (show (0 : Int) ≤ l.length by omega), if_pos (show (l.length : Int).toNat ≤ 17592186044416 by omega)]
  exact h
theorem toLine (l : List S86) (b : Bool) (hl : l.length ≤ 1048576) : Ev (fun k => laws_toLine.f k l b) (l.map toPt, b) := by
  unfold laws_toLine.f
  exact Ev.bind (f := fun _ t => some (t, b)) (toPoints l hl) (Ev.now _)
theorem toLines (l : List S158) (hl : l.length ≤ 1048576) (hp : ∀ i, i < l.length → lawPts l i ≤ 1048576) : Ev (fun k => laws_toLineS.f k l) (l.map toLn) := by
  unfold laws_toLineS.f
  simp only [if_pos (show (0 : Int) ≤ l.length by omega), if_pos (show (l.length : Int).toNat ≤ 8796093022208 by omega)]
  refine copy_evs toLn l z158 z164 (by omega) (fun k ys i => laws_toLineS.l0 k l ys i) (fun i ys R hi hy hR => ?_) (fun k ys => by
    show laws_toLineS.l0 (k + 1) l ys _ = _
    rw [laws_toLineS.l0, if_neg (by omega)]) (List.replicate ((l.length : Int)).toNat z164) (by simp)
  refine Ev.step (f := fun k => (laws_toLine.f k ((rd_T158 l i).f0) ((rd_T158 l i).f1)).bind fun bt160 => (if (i : Int) < (ys.length : Int) then (laws_toLineS.l0 k l (ys.set (i : Int).toNat (⟨bt160.1, bt160.2⟩ : S164)) (wrap64 (i + 1))) else (none))) (fun k => by
    show laws_toLineS.l0 (k + 1) l ys i = _
    rw [laws_toLineS.l0, if_pos (by omega), if_pos (by omega)]) ?_
  refine Ev.bind (toLine _ _ (hp i hi)) ?_
  simp only [if_pos (show (i : Int) < (ys.length : Int) by omega)]
  exact hR

theorem eqPoints (l : List S25) (hl : l.length ≤ 9223372036854775806) : Ev (fun k => laws_eqPointS.f k l l) true := by
  unfold laws_eqPointS.f
  have h := all_ev (fun _ : S25 => true) l z25 (by omega) (fun k i => laws_eqPointS.l0 k l l i) (fun k i hi => by
    show laws_eqPointS.l0 (k + 1) l l i = _
    rw [laws_eqPointS.l0, if_pos (by omega), if_pos (by omega), if_pos (by omega)]
    simp [laws_eqPoint.f]) (fun k => by
    show laws_eqPointS.l0 (k + 1) l l _ = _
    rw [laws_eqPointS.l0, if_neg (by omega)])
  rw [List.all_eq_true.2 (fun _ _ => rfl)] at h
  simp only [if_true]
  exact h
theorem eqLine (l : List S25) (b : Bool) (hl : l.length ≤ 9223372036854775806) : Ev (fun k => laws_eqLine.f k l b l b) true := by
  unfold laws_eqLine.f
  refine Ev.bind (eqPoints l hl) ?_
  exact ev_const fun k => by simp
theorem eqLines (l : List S164) (hl : l.length ≤ 9223372036854775806) (hp : ∀ i, i < l.length → pts l i ≤ 9223372036854775806) : Ev (fun k => laws_eqLineS.f k l l) true := by
  unfold laws_eqLineS.f
  simp only [if_true]
  refine all_evs l.length (by omega) (fun k i => laws_eqLineS.l0 k l l i) (fun i R hi hR => ?_) (fun k => by
    show laws_eqLineS.l0 (k + 1) l l _ = _
    rw [laws_eqLineS.l0, if_neg (by omega)])
  refine Ev.step (f := fun k => (laws_eqLine.f k ((rd_T164 l i).f0) ((rd_T164 l i).f1) ((rd_T164 l i).f0) ((rd_T164 l i).f1)).bind fun t218 => (if t218 = true then (laws_eqLineS.l0 k l l (wrap64 (i + 1))) else (some false))) (fun k => by
    show laws_eqLineS.l0 (k + 1) l l i = _
    rw [laws_eqLineS.l0, if_pos (by omega), if_pos (by omega), if_pos (by omega)]) ?_
  refine Ev.bind (eqLine _ _ (hp i hi)) ?_
  simp only [if_true]
  exact hR

theorem szLines (l : List S158) (n : Nat) (hl0 : l.length ≤ 9223372036854775807) (hl1 : ∀ i, i < l.length → lawPts l i ≤ 9223372036854775807) (hn : n ≤ 1048576) : ∃ t, Ev (fun k => laws_szLineS.f k l n) t ∧ (t < 0 ∨ (l.length + sumTo (lawPts l) l.length ≤ n ∧ t = ((n - l.length - sumTo (lawPts l) l.length : Nat) : Int))) := by
  unfold laws_szLineS.f
  rw [wrap_id (n := (n : Int) - l.length) (by omega) (by omega)]
  by_cases h : (n : Int) - l.length < 0
  · simp only [if_pos h]
    exact ⟨-1, Ev.now _, .inl (by omega)⟩
  simp only [if_neg h]
  have key : ∀ i, i ≤ l.length → ∀ s : Int, 0 ≤ s → s = (n : Int) - l.length - sumTo (lawPts l) i → ∃ t, Ev (fun k => laws_szLineS.l0 k l s (i : Nat)) t ∧ (t < 0 ∨ (l.length + sumTo (lawPts l) l.length ≤ n ∧ t = ((n - l.length - sumTo (lawPts l) l.length : Nat) : Int))) := by
    refine up (p := fun i => ∀ s : Int, 0 ≤ s → s = (n : Int) - l.length - sumTo (lawPts l) i → ∃ t, Ev (fun k => laws_szLineS.l0 k l s (i : Nat)) t ∧ (t < 0 ∨ (l.length + sumTo (lawPts l) l.length ≤ n ∧ t = ((n - l.length - sumTo (lawPts l) l.length : Nat) : Int)))) l.length ?_ ?_
    · intro s h0 hs
      exact ⟨s, ev_some fun k => by rw [laws_szLineS.l0, if_neg (by omega)], .inr (by omega)⟩
    · intro i hi ih s h0 hs
      have hb := hl1 i hi
      have e1 : laws_szLine.f ((rd_T158 l i).f0) ((rd_T158 l i).f1) s = some (if s - lawPts l i < 0 then -1 else s - lawPts l i) := by
        unfold laws_szLine.f laws_szPointS.f
        show (if wrap64 (s - ((lawPts l i : Nat) : Int)) < 0 then some (-1) else some (wrap64 (s - ((lawPts l i : Nat) : Int)))).bind _ = _
        rw [wrap_id (by omega) (by omega)]
        split
        · rfl
        · rename_i hc; simp only [Option.bind_some, if_neg hc]
      by_cases hc : s - lawPts l i < 0
      · refine ⟨-1, ev_some fun k => ?_, .inl (by omega)⟩
        rw [laws_szLineS.l0, if_pos (by omega), if_pos (by omega), e1, if_pos hc, Option.bind_some, if_pos (by omega)]
      · obtain ⟨t, ht, hh⟩ := ih (s - lawPts l i) (by omega) (by rw [hs]; show _ = (n : Int) - l.length - ((sumTo (lawPts l) i + lawPts l i : Nat) : Int); omega)
        refine ⟨t, Ev.step (f := fun k => laws_szLineS.l0 k l (s - lawPts l i) ((i + 1 : Nat) : Int)) (fun k => ?_) ht, hh⟩
        rw [laws_szLineS.l0, if_pos (by omega), if_pos (by omega), e1, if_neg hc, Option.bind_some, if_neg hc, wrap_id (n := (i : Int) + 1) (by omega) (by omega)]
        rfl
  exact key 0 (Nat.zero_le _) _ (by omega) (by simp [sumTo])

theorem pts_toLn (l : List S158) (i : Nat) (hi : i < l.length) : pts (l.map toLn) i = lawPts l i := by
  simp [pts, lawPts, toLn, List.getD, hi]
theorem sum_same {n m : Nat → Nat} {j : Nat} (h : ∀ i, i < j → n i = m i) : sumTo n j = sumTo m j := by
  induction j with
  | zero => rfl
  | succ j ih => simp only [sumTo]; rw [ih (fun i hi => h i (by omega)), h j (by omega)]
theorem le_sum (n : Nat → Nat) {i j : Nat} (h : i < j) : n i ≤ sumTo n j := Nat.le_trans (by show n i ≤ sumTo n i + n i; omega) (sumTo_le n (show i + 1 ≤ j from h))

end Go.Proofs.Ytdmndbehfdnneaa.HFnExactWindingAt

/- Segments of lines, by both sides. -/
namespace Go.Proofs.Ytdmndbehfdnneaa.HFnExactWindingAt
open Go.RowKit Go.Proofs.YtdmndbehfdnneaaW.PrintWords Go.Proofs.YtdmndbehfdnneaaW.PrintLast Go.Proofs.Ytdmndbehfdnneaa.Plain
set_option linter.unusedSimpArgs false
set_option linter.unusedVariables false

/-- Near. -/
def near (x y : Int) : Bool := decide (-67108864 ≤ x ∧ x ≤ 67108864) && decide (-67108864 ≤ y ∧ y ≤ 67108864)
theorem near_of {x y : Int} (h : near x y = true) : (-67108864 ≤ x ∧ x ≤ 67108864) ∧ -67108864 ≤ y ∧ y ≤ 67108864 := by simpa [near] using h
theorem specNear (x y : Int) : spec_l10Point.f x y = some (near x y) := by
  unfold spec_l10Point.f near
  simp only [in_, Option.bind_some, decide_eq_true_eq]
  by_cases h : -67108864 ≤ x ∧ x ≤ 67108864
  · simp only [if_pos h, decide_eq_true h, Bool.true_and]
  · simp only [if_neg h, decide_eq_false h, Bool.false_and]
theorem implNear (x y : Int) : impl_isNear.f x y = some (near x y) := specNear x y

theorem lt_pts {l : List S164} {i j : Nat} (h : j < pts l i) : (j : Int) < ((rd_T164 l (i : Int)).f0.length : Int) := Int.ofNat_lt.2 h
/-- The j-th point of the i-th line. -/
def pt (l : List S164) (i j : Nat) : S25 := (l.getD i z164).f0.getD j z25
def allNear (l : List S164) : Bool := (List.range l.length).all fun i => (List.range (pts l i)).all fun j => near (pt l i j).f0 (pt l i j).f1
def linesOk (l : List S164) : Bool := if sumTo (pts l) l.length > 4800 then false else allNear l

theorem specMany (l : List S164) (hl : l.length ≤ 1048576) (hs : sumTo (pts l) l.length ≤ 1048576) : Ev (fun k => spec_l9Many.f k l) (sumTo (pts l) l.length : Nat) := by
  have key : ∀ i, i ≤ l.length → Ev (fun k => spec_l9Many.l0 k (sumTo (pts l) i : Nat) l l.length (i : Nat)) ((sumTo (pts l) l.length : Nat) : Int) := by
    refine up (p := fun i => Ev (fun k => spec_l9Many.l0 k (sumTo (pts l) i : Nat) l l.length (i : Nat)) ((sumTo (pts l) l.length : Nat) : Int)) l.length ?_ ?_
    · exact ev_some fun k => by rw [spec_l9Many.l0, if_neg (by omega)]
    · intro i hi ih
      have hb := sumTo_le (pts l) (show i + 1 ≤ l.length from hi)
      have hc : sumTo (pts l) (i + 1) = sumTo (pts l) i + pts l i := rfl
      refine Ev.step (f := fun k => spec_l9Many.l0 k (sumTo (pts l) (i + 1) : Nat) l l.length ((i + 1 : Nat) : Int)) (fun k => ?_) ih
      rw [spec_l9Many.l0, if_pos (by omega), if_pos (by omega), if_pos (by omega)]
      show spec_l9Many.l0 k (wrap64 (((sumTo (pts l) i : Nat) : Int) + ((pts l i : Nat) : Int))) _ _ _ = _
      rw [wrap_id (by omega) (by omega), wrap_id (n := (i : Int) + 1) (by omega) (by omega), hc]
      rfl
  exact key 0 (Nat.zero_le _)
theorem implMany (l : List S164) (hl : l.length ≤ 1048576) (hs : sumTo (pts l) l.length ≤ 1048576) : Ev (fun k => impl_countPoints.f k l) (sumTo (pts l) l.length : Nat) := by
  have e : ∀ k a b c d, impl_countPoints.l0 k a b c d = spec_l9Many.l0 k a b c d := by
    intro k
    induction k with
    | zero => intros; rfl
    | succ k ih => intros; simp only [impl_countPoints.l0, spec_l9Many.l0, ih]
  have := specMany l hl hs
  unfold spec_l9Many.f at this
  unfold impl_countPoints.f
  simp only [e]
  exact this
theorem specAll (l : List S164) (hl : l.length ≤ 1048576) (hs : sumTo (pts l) l.length ≤ 1048576) : Ev (fun k => spec_l11Lines.l0 k l l.length 0) (allNear l) :=
  all2_ev l.length (pts l) (fun i j => near (pt l i j).f0 (pt l i j).f1) (by omega) (fun i hi => by have := le_sum (pts l) hi; omega) (fun k i => spec_l11Lines.l0 k l l.length i) (fun k i j => spec_l11Lines.l1 k l l.length i ((rd_T164 l i).f0) (((rd_T164 l i).f0).length : Int) j)
    (fun k i hi => by
      show spec_l11Lines.l0 (k + 1) l l.length i = _
      rw [spec_l11Lines.l0, if_pos (by omega), if_pos (by omega), if_pos (by omega)])
    (fun k => by
      show spec_l11Lines.l0 (k + 1) l l.length _ = _
      rw [spec_l11Lines.l0, if_neg (by omega)])
    (fun k i j hi hj => by
      show spec_l11Lines.l1 (k + 1) l l.length i ((rd_T164 l i).f0) ((pts l i : Nat) : Int) j = _
      rw [spec_l11Lines.l1, if_pos (by omega), if_pos (by omega), if_pos (lt_pts hj), specNear]
      rfl)
    (fun k i hi => by
      show spec_l11Lines.l1 (k + 1) l l.length i ((rd_T164 l i).f0) ((pts l i : Nat) : Int) ((pts l i : Nat) : Int) = _
      rw [spec_l11Lines.l1, if_neg (by omega)])
theorem implAll (l : List S164) (hl : l.length ≤ 1048576) (hs : sumTo (pts l) l.length ≤ 1048576) : Ev (fun k => impl_areNear.f k l) (allNear l) :=
  all2_ev l.length (pts l) (fun i j => near (pt l i j).f0 (pt l i j).f1) (by omega) (fun i hi => by have := le_sum (pts l) hi; omega) (fun k i => impl_areNear.l0 k l l.length i) (fun k i j => impl_areNear.l1 k l l.length i ((rd_T164 l i).f0) (((rd_T164 l i).f0).length : Int) j)
    (fun k i hi => by
      show impl_areNear.l0 (k + 1) l l.length i = _
      rw [impl_areNear.l0, if_pos (by omega), if_pos (by omega), if_pos (by omega)])
    (fun k => by
      show impl_areNear.l0 (k + 1) l l.length _ = _
      rw [impl_areNear.l0, if_neg (by omega)])
    (fun k i j hi hj => by
      show impl_areNear.l1 (k + 1) l l.length i ((rd_T164 l i).f0) ((pts l i : Nat) : Int) j = _
      rw [impl_areNear.l1, if_pos (by omega), if_pos (by omega), if_pos (lt_pts hj), implNear]
      rfl)
    (fun k i hi => by
      show impl_areNear.l1 (k + 1) l l.length i ((rd_T164 l i).f0) ((pts l i : Nat) : Int) ((pts l i : Nat) : Int) = _
      rw [impl_areNear.l1, if_neg (by omega)])
theorem specLines (l : List S164) (hl : l.length ≤ 1048576) (hs : sumTo (pts l) l.length ≤ 1048576) : Ev (fun k => spec_l11Lines.f k l) (linesOk l) := by
  unfold spec_l11Lines.f
  refine Ev.bind (specMany l hl hs) ?_
  unfold linesOk
  by_cases h : sumTo (pts l) l.length > 4800
  · simp only [if_pos h, if_pos (show ((sumTo (pts l) l.length : Nat) : Int) > 4800 by omega)]; exact Ev.now _
  · simp only [if_neg h, if_neg (show ¬ ((sumTo (pts l) l.length : Nat) : Int) > 4800 by omega)]; exact specAll l hl hs

/-- A fine place. -/
def fine (n : Int) : Int := (n * 16 + 32768) / 65536
theorem specFine {n : Int} (h0 : -67108864 ≤ n) (h1 : n ≤ 67108864) : spec_l11Fine.f n = some (fine n) := by
  unfold spec_l11Fine.f spec_l1Down.f
  rw [wrap_id (n := n * 16) (by omega) (by omega), wrap_id (n := n * 16 + 32768) (by omega) (by omega), if_neg (by omega)]
  have e := down_num (n * 16 + 32768) (show (0 : Int) < 65536 by omega)
  have s := tdiv_small (a := n * 16 + 32768) (show (0 : Int) < 65536 by omega) (by omega) (by omega)
  rw [wrap_id (n := Int.tdiv (n * 16 + 32768) 65536) (by omega) (by omega)]
  unfold fine
  rcases (by omega : 0 ≤ n * 16 + 32768 ∨ n * 16 + 32768 < 0) with h | h
  · have e1 : Int.tdiv (n * 16 + 32768) 65536 = (n * 16 + 32768) / 65536 := tdiv_nn h _
    rw [decide_eq_false (show ¬ n * 16 + 32768 < 0 by omega), decide_eq_false (show ¬ (65536 : Int) < 0 by omega), if_neg (c := (false != false) = true) (by simp), e1]
    split <;> rfl
  · have e1 := (tdiv_neg_num h 65536).2
    rw [decide_eq_true h, decide_eq_false (show ¬ (65536 : Int) < 0 by omega), if_pos (c := (true != false) = true) rfl]
    split
    · rename_i hz
      rw [if_neg (by omega)] at e
      rw [e]; rfl
    · rename_i hz
      rw [if_pos (by omega)] at e
      rw [wrap_id (by omega) (by omega), e]; rfl
theorem implDown {n : Int} (h0 : -67108864 ≤ n) (h1 : n ≤ 67108864) : impl_down.f (wrap64 ((wrap64 (n * 16)) + 32768)) 65536 = some (fine n) := by
  unfold impl_down.f
  rw [wrap_id (n := n * 16) (by omega) (by omega), wrap_id (n := n * 16 + 32768) (by omega) (by omega), if_neg (by omega)]
  have e := down_num (n * 16 + 32768) (show (0 : Int) < 65536 by omega)
  have s := tdiv_small (a := n * 16 + 32768) (show (0 : Int) < 65536 by omega) (by omega) (by omega)
  rw [wrap_id (n := Int.tdiv (n * 16 + 32768) 65536) (by omega) (by omega)]
  unfold fine
  split
  · rename_i h
    rw [if_pos h] at e
    rw [wrap_id (by omega) (by omega), e]
  · rename_i h
    rw [if_neg h] at e
    rw [e]
theorem implFine {x y : Int} (h : near x y = true) : impl_FineOf.f x y = some (fine x, fine y, true) := by
  have n := near_of h
  unfold impl_FineOf.f
  simp only [implNear, Option.bind_some, h, if_true, implDown n.1.1 n.1.2, implDown n.2.1 n.2.2]

/-- The next point's number. -/
def nx (l : List S164) (i j : Nat) : Nat := (j + 1) % pts l i
def edgeA (l : List S164) (i j : Nat) : S170 := ⟨fine (pt l i j).f0, fine (pt l i j).f1, fine (pt l i (nx l i j)).f0, fine (pt l i (nx l i j)).f1⟩
def conv (e : S170) : Option S188 := if e.f1 = e.f3 then none else some ⟨e.f0, e.f1, e.f2, e.f3⟩
def edges (l : List S164) : List S170 := gath (pts l) (fun i j => [edgeA l i j]) l.length 0
theorem near_at {l : List S164} (h : allNear l = true) {i j : Nat} (hi : i < l.length) (hj : j < pts l i) : near (pt l i j).f0 (pt l i j).f1 = true := by
  unfold allNear at h
  rw [List.all_eq_true] at h
  have h1 := h i (List.mem_range.2 hi)
  rw [List.all_eq_true] at h1
  exact h1 j (List.mem_range.2 hj)
theorem next_num {l : List S164} {i j : Nat} (hj : j < pts l i) (hb : pts l i ≤ 1048576) : Int.tmod (wrap64 ((j : Int) + 1)) ((pts l i : Nat) : Int) = ((nx l i j : Nat) : Int) ∧ nx l i j < pts l i := by
  rw [wrap_id (by omega) (by omega), tmod_nn (by omega)]
  refine ⟨rfl, Nat.mod_lt _ (by omega)⟩

theorem specEdges (l : List S164) (hl : l.length ≤ 1048576) (hs : sumTo (pts l) l.length ≤ 1048576) (h : allNear l = true) : Ev (fun k => spec_l11Edges.f k l) ((edges l).filterMap conv) := by
  have hh := gath_hom (List.filterMap conv) rfl (fun a b => List.filterMap_append) (pts l) (fun i j => [edgeA l i j]) l.length 0
  unfold edges
  rw [hh]
  have hone : ∀ i j, (List.filterMap conv [edgeA l i j]).length ≤ 1 := fun i j => by
    cases hc : conv (edgeA l i j) <;> simp [hc]
  exact gath_ev l.length (pts l) (fun i j => List.filterMap conv [edgeA l i j]) (fun ys => ys) (by omega) (fun i hi => by have := le_sum (pts l) hi; omega)
    (fun k i acc => spec_l11Edges.l0 k acc l l.length i) (fun k i j acc => spec_l11Edges.l1 k acc (((rd_T164 l i).f0).length : Int) l l.length i ((rd_T164 l i).f0) (((rd_T164 l i).f0).length : Int) j ((rd_T164 l i).f0) ((rd_T164 l i).f1))
    (fun k i acc hi => by
      show spec_l11Edges.l0 (k + 1) acc l l.length i = _
      rw [spec_l11Edges.l0, if_pos (by omega), if_pos (by omega), if_pos (by omega)])
    (fun k acc => by
      show spec_l11Edges.l0 (k + 1) acc l l.length _ = _
      rw [spec_l11Edges.l0, if_neg (by omega)])
    (fun k i j hi hj => by
      have hb := le_sum (pts l) hi
      obtain ⟨e1, e2⟩ := next_num hj (by omega)
      have n1 := near_of (near_at h hi hj)
      have n2 := near_of (near_at h hi e2)
      have hg := gath_len (pts l) (fun i j => List.filterMap conv [edgeA l i j]) hone i j
      have hg2 := sumTo_le (pts l) (show i + 1 ≤ l.length from hi)
      have hg3 : sumTo (pts l) (i + 1) = sumTo (pts l) i + pts l i := rfl
      generalize hA : gath (pts l) (fun i j => List.filterMap conv [edgeA l i j]) i j = acc at hg ⊢
      show spec_l11Edges.l1 (k + 1) acc ((pts l i : Nat) : Int) l l.length i ((rd_T164 l i).f0) ((pts l i : Nat) : Int) j ((rd_T164 l i).f0) ((rd_T164 l i).f1) = _
      rw [spec_l11Edges.l1, if_pos (by omega), if_pos (by omega), if_pos (lt_pts hj), if_neg (by omega), e1, if_pos (by omega), if_pos (lt_pts e2)]
      have p1 : rd_T25 ((rd_T164 l i).f0) j = pt l i j := rfl
      have p2 : rd_T25 ((rd_T164 l i).f0) (nx l i j : Nat) = pt l i (nx l i j) := rfl
      rw [p1, p2, specFine n1.1.1 n1.1.2, Option.bind_some, specFine n1.2.1 n1.2.2, Option.bind_some, specFine n2.1.1 n2.1.2, Option.bind_some, specFine n2.2.1 n2.2.2, Option.bind_some]
      by_cases hc : fine (pt l i j).f1 = fine (pt l i (nx l i j)).f1
      · have e : List.filterMap conv [edgeA l i j] = [] := by simp [conv, edgeA, hc]
        rw [if_pos hc, e, List.append_nil]
        rfl
      · have e : List.filterMap conv [edgeA l i j] = [⟨fine (pt l i j).f0, fine (pt l i j).f1, fine (pt l i (nx l i j)).f0, fine (pt l i (nx l i j)).f1⟩] := by simp [conv, edgeA, hc]
        rw [if_neg hc, if_pos (by omega), e]
        rfl)
    (fun k i acc hi => by
      show spec_l11Edges.l1 (k + 1) acc ((pts l i : Nat) : Int) l l.length i ((rd_T164 l i).f0) ((pts l i : Nat) : Int) ((pts l i : Nat) : Int) ((rd_T164 l i).f0) ((rd_T164 l i).f1) = _
      rw [spec_l11Edges.l1, if_neg (by omega)])
theorem implEdges (l : List S164) (hl : l.length ≤ 1048576) (hs : sumTo (pts l) l.length ≤ 1048576) : Ev (fun k => impl_edgesOf.f k l) (if linesOk l = true then (edges l, true) else ([], false)) := by
  have none_ : Ev (fun k => impl_edgesOf.j0 k l true) ([], false) := ev_some fun k => by rw [impl_edgesOf.j0, if_pos rfl]
  unfold impl_edgesOf.f
  refine Ev.bind (implMany l hl hs) ?_
  unfold linesOk
  by_cases h : sumTo (pts l) l.length > 4800
  · simp only [if_pos h, if_pos (show ((sumTo (pts l) l.length : Nat) : Int) > 4800 by omega)]; exact none_
  simp only [if_neg h, if_neg (show ¬ ((sumTo (pts l) l.length : Nat) : Int) > 4800 by omega)]
  refine Ev.bind (implAll l hl hs) ?_
  cases hn : allNear l
  · exact none_
  simp only [if_true, Bool.not_true]
  refine Ev.step (f := fun k => impl_edgesOf.l0 k [] l l.length 0) (fun k => by rw [impl_edgesOf.j0, if_neg (by simp)]) ?_
  exact gath_ev l.length (pts l) (fun i j => [edgeA l i j]) (fun ys => (ys, true)) (by omega) (fun i hi => by have := le_sum (pts l) hi; omega)
    (fun k i acc => impl_edgesOf.l0 k acc l l.length i) (fun k i j acc => impl_edgesOf.l1 k acc (((rd_T164 l i).f0).length : Int) l l.length i ((rd_T164 l i).f0) (((rd_T164 l i).f0).length : Int) j ((rd_T164 l i).f0) ((rd_T164 l i).f1))
    (fun k i acc hi => by
      show impl_edgesOf.l0 (k + 1) acc l l.length i = _
      rw [impl_edgesOf.l0, if_pos (by omega), if_pos (by omega), if_pos (by omega)])
    (fun k acc => by
      show impl_edgesOf.l0 (k + 1) acc l l.length _ = _
      rw [impl_edgesOf.l0, if_neg (by omega)])
    (fun k i j hi hj => by
      have hb := le_sum (pts l) hi
      obtain ⟨e1, e2⟩ := next_num hj (by omega)
      have n1 := near_at hn hi hj
      have n2 := near_at hn hi e2
      have hg := gath_len (pts l) (fun i j => [edgeA l i j]) (fun i j => by simp) i j
      have hg2 := sumTo_le (pts l) (show i + 1 ≤ l.length from hi)
      have hg3 : sumTo (pts l) (i + 1) = sumTo (pts l) i + pts l i := rfl
      generalize hA : gath (pts l) (fun i j => [edgeA l i j]) i j = acc at hg ⊢
      show impl_edgesOf.l1 (k + 1) acc ((pts l i : Nat) : Int) l l.length i ((rd_T164 l i).f0) ((pts l i : Nat) : Int) j ((rd_T164 l i).f0) ((rd_T164 l i).f1) = _
      have p1 : rd_T25 ((rd_T164 l i).f0) j = pt l i j := rfl
      have p2 : rd_T25 ((rd_T164 l i).f0) (nx l i j : Nat) = pt l i (nx l i j) := rfl
      rw [impl_edgesOf.l1, if_pos (by omega), if_pos (by omega), if_pos (lt_pts hj), p1, implFine n1, Option.bind_some, if_neg (by omega), e1, if_pos (by omega), if_pos (lt_pts e2), p2, implFine n2, Option.bind_some, if_pos (by omega)]
      rfl)
    (fun k i acc hi => by
      show impl_edgesOf.l1 (k + 1) acc ((pts l i : Nat) : Int) l l.length i ((rd_T164 l i).f0) ((pts l i : Nat) : Int) ((pts l i : Nat) : Int) ((rd_T164 l i).f0) ((rd_T164 l i).f1) = _
      rw [impl_edgesOf.l1, if_neg (by omega)])
theorem edges_len (l : List S164) : (edges l).length ≤ sumTo (pts l) l.length := by
  have := gath_len (pts l) (fun i j => [edgeA l i j]) (fun i j => by simp) l.length 0
  exact this

end Go.Proofs.Ytdmndbehfdnneaa.HFnExactWindingAt

/- How segments go around a place, by both sides. -/
namespace Go.Proofs.Ytdmndbehfdnneaa.HFnExactWindingAt
open Go.RowKit Go.Proofs.YtdmndbehfdnneaaW.PrintWords Go.Proofs.YtdmndbehfdnneaaW.PrintLast Go.Proofs.Ytdmndbehfdnneaa.Plain
set_option linter.unusedSimpArgs false
set_option linter.unusedVariables false

def dOf (a b c d x y : Int) : Int := wrap64 ((wrap64 ((wrap64 (c - a)) * (wrap64 (y - b)))) - (wrap64 ((wrap64 (x - a)) * (wrap64 (d - b)))))
def windOf (a b c d x y : Int) : Int := if b ≤ y ∧ y < d ∧ dOf a b c d x y > 0 then 1 else if d ≤ y ∧ y < b ∧ dOf a b c d x y < 0 then -1 else 0
def stepS (x y s : Int) (e : S188) : Int := if windOf e.f0 e.f1 e.f2 e.f3 x y = 1 then wrap64 (s + 1) else if windOf e.f0 e.f1 e.f2 e.f3 x y = -1 then wrap64 (s - 1) else s
def stepI (x y s : Int) (e : S170) : Int := wrap64 (s + windOf e.f0 e.f1 e.f2 e.f3 x y)
theorem wrap_wrap (n : Int) : wrap64 (wrap64 n) = wrap64 n := wrap_id (wrap_lo n) (wrap_hi n)
theorem implWinds (k : Nat) (a b c d x y : Int) : impl_edge_winds.f (k + 1) a b c d x y = some (windOf a b c d x y) := by
  unfold impl_edge_winds.f windOf
  show (if b ≤ y then (if y < d then impl_edge_winds.j0 (k + 1) y (dOf a b c d x y) (decide (dOf a b c d x y > 0)) a b c d else impl_edge_winds.j0 (k + 1) y (dOf a b c d x y) false a b c d) else impl_edge_winds.j0 (k + 1) y (dOf a b c d x y) false a b c d) = _
  generalize dOf a b c d x y = t
  simp only [impl_edge_winds.j0]
  by_cases h1 : b ≤ y <;> by_cases h2 : y < d <;> by_cases h3 : t > 0 <;> by_cases h4 : d ≤ y <;> by_cases h5 : y < b <;> by_cases h6 : t < 0 <;> simp [h1, h2, h3, h4, h5, h6] <;> omega
theorem specWindStep (k : Nat) (l : List S188) (i : Nat) (hi : i < l.length) (hl : l.length ≤ 1048576) (x y s : Int) :
    spec_l11Winding.l0 (k + 2) x y s l l.length i = spec_l11Winding.l0 k x y (stepS x y s (l.getD i z188)) l l.length (wrap64 ((i : Int) + 1)) := by
  rw [spec_l11Winding.l0, if_pos (by omega), if_pos (by omega), if_pos (by omega)]
  have e : rd_T188 l (i : Int) = l.getD i z188 := rfl
  rw [e]
  generalize l.getD i z188 = v
  obtain ⟨a, b, c, d⟩ := v
  unfold stepS windOf
  show (if b ≤ y then (if y < d then spec_l11Winding.j1 (k + 1) x y s (dOf a b c d x y) l l.length i (decide (dOf a b c d x y > 0)) a b c d else spec_l11Winding.j1 (k + 1) x y s (dOf a b c d x y) l l.length i false a b c d) else spec_l11Winding.j1 (k + 1) x y s (dOf a b c d x y) l l.length i false a b c d) = _
  generalize dOf a b c d x y = t
  simp only [spec_l11Winding.j1]
  by_cases h1 : b ≤ y <;> by_cases h2 : y < d <;> by_cases h3 : t > 0 <;> by_cases h4 : d ≤ y <;> by_cases h5 : y < b <;> by_cases h6 : t < 0 <;> simp [h1, h2, h3, h4, h5, h6] <;> omega
theorem specWinding (l : List S188) (hl : l.length ≤ 1048576) (x y : Int) : Ev (fun k => spec_l11Winding.f k l x y) (l.foldl (stepS x y) 0) := by
  unfold spec_l11Winding.f
  exact fold_evs l z188 (stepS x y) (fun _ => True) (fun _ _ _ => trivial) (fun s => s) (by omega) (fun k i s => spec_l11Winding.l0 k x y s l l.length i) (fun i s R hi _ hR => by
    obtain ⟨K, hK⟩ := hR
    refine ⟨K + 2, fun k hk => ?_⟩
    obtain ⟨m, rfl⟩ : ∃ m, k = m + 2 := ⟨k - 2, by omega⟩
    show spec_l11Winding.l0 (m + 2) x y s l l.length i = _
    rw [specWindStep m l i hi hl]
    exact hK m (by omega)) (fun k s _ => by
    show spec_l11Winding.l0 (k + 1) x y s l l.length _ = _
    rw [spec_l11Winding.l0, if_neg (by omega)]) 0 trivial
theorem same_fold (l : List S170) (x y : Int) : (l.filterMap conv).foldl (stepS x y) 0 = l.foldl (stepI x y) 0 := by
  refine fold_filter conv (stepS x y) (stepI x y) (fun s => wrap64 s = s) (fun s e _ => wrap_wrap _) (fun s e hs => ?_) l 0 (wrap_id (by omega) (by omega))
  obtain ⟨a, b, c, d⟩ := e
  unfold conv stepI
  by_cases h : b = d
  · simp only [if_pos h]
    have : windOf a b c d x y = 0 := by
      unfold windOf
      rw [if_neg (by omega), if_neg (by omega)]
    rw [this, Int.add_zero, hs]
  · simp only [if_neg h]
    unfold stepS
    have : windOf a b c d x y = 1 ∨ windOf a b c d x y = -1 ∨ windOf a b c d x y = 0 := by
      unfold windOf
      split
      · exact .inl rfl
      · split
        · exact .inr (.inl rfl)
        · exact .inr (.inr rfl)
    rcases this with h1 | h1 | h1
    · rw [if_pos h1, h1]
    · rw [if_neg (by rw [h1]; decide), if_pos h1, h1]; rfl
    · rw [if_neg (by rw [h1]; decide), if_neg (by rw [h1]; decide), h1, Int.add_zero, hs]

end Go.Proofs.Ytdmndbehfdnneaa.HFnExactWindingAt

/- WindingAt, as numbers: the program's answer is the reference's. -/
namespace Go.Proofs.Ytdmndbehfdnneaa.Pure
open Go.RowKit Go.Proofs.Ytdmndbehfdnneaa.HFnExactWindingAt Go.Proofs.YtdmndbehfdnneaaW.PrintWords Go.Proofs.YtdmndbehfdnneaaW.PrintLast Go.Proofs.Ytdmndbehfdnneaa.Plain
set_option linter.unusedSimpArgs false
set_option linter.unusedVariables false

def windingAt (l : List S164) (x y : Int) : Int × Bool := if linesOk l = true then (if -20000 ≤ x ∧ x ≤ 20000 then (if -20000 ≤ y ∧ y ≤ 20000 then ((edges l).foldl (stepI x y) 0, true) else (0, false)) else (0, false)) else (0, false)
theorem near_of_ok {l : List S164} (h : linesOk l = true) : allNear l = true := by
  unfold linesOk at h
  split at h
  · cases h
  · exact h
theorem specWindingAt (l : List S164) (x y : Int) (hl : l.length ≤ 1048576) (hs : sumTo (pts l) l.length ≤ 1048576) : Ev (fun k => spec_WindingAt.f k l x y) (windingAt l x y) := by
  have none_ : Ev (fun k => spec_WindingAt.j0 k l x y true) (0, false) := ev_some fun k => by rw [spec_WindingAt.j0, if_pos rfl]
  unfold spec_WindingAt.f windingAt
  simp only [in_, Option.bind_some]
  refine Ev.bind (specLines l hl hs) ?_
  cases hn : linesOk l
  · exact none_
  simp only [if_true]
  by_cases hx : -20000 ≤ x ∧ x ≤ 20000
  · by_cases hy : -20000 ≤ y ∧ y ≤ 20000
    · simp only [if_pos hx, if_pos hy, decide_eq_true hx, decide_eq_true hy, if_true, Bool.not_true]
      refine Ev.step (f := fun k => ((spec_l11Edges.f k l).bind fun t136 => ((spec_l11Winding.f k t136 x y).bind fun t139 => (some (t139, true))))) (fun k => by rw [spec_WindingAt.j0, if_neg (by simp)]) ?_
      refine Ev.bind (specEdges l hl hs (near_of_ok hn)) ?_
      rw [← same_fold]
      exact Ev.bind (specWinding _ (Nat.le_trans (List.length_filterMap_le _ _) (Nat.le_trans (edges_len l) hs)) x y) (Ev.now _)
    · simp only [if_pos hx, if_neg hy, decide_eq_true hx, decide_eq_false hy, if_true, Bool.not_false]; exact none_
  · simp only [if_neg hx, decide_eq_false hx, Bool.false_eq_true, if_false]; exact none_
theorem implWindingAt (l : List S164) (x y : Int) (hl : l.length ≤ 1048576) (hs : sumTo (pts l) l.length ≤ 1048576) : Ev (fun k => impl_WindingAt.f k l x y) (windingAt l x y) := by
  have none_ : ∀ es, Ev (fun k => impl_WindingAt.j0 k x y es true) (0, false) := fun es => ev_some fun k => by rw [impl_WindingAt.j0, if_pos rfl]
  unfold impl_WindingAt.f windingAt
  simp only [within_]
  refine Ev.bind (implEdges l hl hs) ?_
  cases hn : linesOk l
  · exact none_ _
  simp only [if_true, Option.bind_some]
  have he := Nat.le_trans (edges_len l) hs
  generalize edges l = es at he ⊢
  by_cases hx : -20000 ≤ x ∧ x ≤ 20000
  · by_cases hy : -20000 ≤ y ∧ y ≤ 20000
    · simp only [if_pos hx, if_pos hy, decide_eq_true hx, decide_eq_true hy, if_true, Bool.not_true]
      refine Ev.step (f := fun k => impl_WindingAt.l0 k x y 0 es es.length 0) (fun k => by rw [impl_WindingAt.j0, if_neg (by simp)]) ?_
      exact fold_evs es z170 (stepI x y) (fun _ => True) (fun _ _ _ => trivial) (fun s => (s, true)) (by omega) (fun k i s => impl_WindingAt.l0 k x y s es es.length i) (fun i s R hi _ hR => by
        obtain ⟨K, hK⟩ := hR
        refine ⟨K + 2, fun k hk => ?_⟩
        obtain ⟨m, rfl⟩ : ∃ m, k = m + 1 + 1 := ⟨k - 2, by omega⟩
        show impl_WindingAt.l0 (m + 1 + 1) x y s es es.length i = _
        rw [impl_WindingAt.l0, if_pos (by omega), if_pos (by omega), if_pos (by omega), implWinds, Option.bind_some]
        exact hK (m + 1) (by omega)) (fun k s _ => by
        show impl_WindingAt.l0 (k + 1) x y s es es.length _ = _
        rw [impl_WindingAt.l0, if_neg (by omega)]) 0 trivial
    · simp only [if_pos hx, if_neg hy, decide_eq_true hx, decide_eq_false hy, if_true, Bool.not_false]; exact none_ _
  · simp only [if_neg hx, decide_eq_false hx, Bool.false_eq_true, if_false]; exact none_ _
theorem FnExactWindingAt : ∀ (l0 : List (S158)) (a1 : Int) (a2 : Int), ((∀ x158 ∈ l0, ((∀ x86 ∈ x158.f0, ((Lit.int .i64 x86.f0).wf = true) ∧ ((Lit.int .i64 x86.f1).wf = true)) ∧ x158.f0.length ≤ 9223372036854775807) ∧ (True)) ∧ l0.length ≤ 9223372036854775807) → ((Lit.int .i64 a1).wf = true) → ((Lit.int .i64 a2).wf = true) → ∃ k, HFnExactWindingAt.laws_FnExactWindingAt.f k l0 a1 a2 = some true := by
  intro l0 x y hl0 _ _
  refine Ev.rounds ?_
  unfold laws_FnExactWindingAt.f
  obtain ⟨t, ht, hh⟩ := szLines l0 1048576 hl0.2 (fun i hi => by
    have := hl0.1 (l0.getD i z158) (by simp [List.getD, hi])
    exact this.1.2) (by omega)
  refine Ev.bind ht ?_
  by_cases hc : t < 0
  · simp only [if_pos hc]; exact Ev.now _
  simp only [if_neg hc]
  have hb := hh.resolve_left hc
  have hl : l0.length ≤ 1048576 := by omega
  have hp : ∀ i, i < l0.length → lawPts l0 i ≤ 1048576 := fun i hi => by have := le_sum (lawPts l0) hi; omega
  have tl := toLines l0 hl hp
  obtain ⟨l, el⟩ : ∃ l : List S164, l = l0.map toLn := ⟨_, rfl⟩
  rw [← el] at tl
  have hl' : l.length = l0.length := by rw [el, List.length_map]
  have hsum : sumTo (pts l) l.length ≤ 1048576 := by
    rw [hl', el, sum_same (fun i hi => pts_toLn l0 i hi)]; omega
  have hpp : ∀ i, i < l.length → pts l i ≤ 9223372036854775806 := fun i hi => by have := le_sum (pts l) hi; omega
  have hs := specWindingAt l x y (by omega) hsum
  have hi := implWindingAt l x y (by omega) hsum
  generalize windingAt l x y = r at hs hi
  obtain ⟨r1, r2⟩ := r
  refine Ev.bind tl (Ev.bind hs (Ev.bind tl (Ev.bind hi ?_)))
  simp only [if_true, bne_self_eq_false]
  refine Ev.step (f := fun k => ((laws_toLineS.f k l0).bind fun t230 => ((laws_eqLineS.f k l t230).bind fun t233 => (if t233 = true then (some true) else (some false))))) (fun k => by rw [laws_FnExactWindingAt.j0, if_neg (by simp)]) ?_
  exact Ev.bind tl (Ev.bind (eqLines l (by omega) hpp) (Ev.now _))

end Go.Proofs.Ytdmndbehfdnneaa.Pure
