/- Plain words: rounds, numbers, lists, loops. -/
import Derived.Test.YtigkodlbjimikaaVcB
namespace Go.Proofs.Ytigkodlbjimikaa.Vp
open Go Go.RowKit Go.Proofs.Ytigkodlbjimikaa.Vc
set_option linter.unusedVariables false
set_option linter.unusedSimpArgs false

/-! ### rounds -/
/-- From some number of rounds on. -/
def Ev {α : Type} (f : Nat → Option α) (r : α) : Prop := ∃ K, ∀ k, K ≤ k → f k = some r
section
variable {α β : Type} {f g : Nat → Option α} {r : α}
theorem Ev.now (r : α) : Ev (fun _ => some r) r := ⟨0, fun _ _ => rfl⟩
theorem Ev.step (h : ∀ k, f (k + 1) = g k) (hg : Ev g r) : Ev f r := by
  obtain ⟨K, hK⟩ := hg
  refine ⟨K + 1, fun k hk => ?_⟩
  obtain ⟨k, rfl⟩ : ∃ m, k = m + 1 := ⟨k - 1, by omega⟩
  rw [h]; exact hK k (by omega)
theorem Ev.bind {m : Nat → Option β} {c : Nat → β → Option α} {a : β} (hm : Ev m a) (hc : Ev (fun k => c k a) r) : Ev (fun k => (m k).bind fun x => c k x) r := by
  obtain ⟨K, hK⟩ := hm
  obtain ⟨L, hL⟩ := hc
  refine ⟨max K L, fun k hk => ?_⟩
  show (m k).bind _ = _
  rw [hK k (by omega)]
  exact hL k (by omega)
theorem Ev.congr (h : ∀ k, f k = g k) (hg : Ev g r) : Ev f r := by
  obtain ⟨K, hK⟩ := hg
  exact ⟨K, fun k hk => by rw [h]; exact hK k hk⟩
theorem Ev.get (h : Ev f r) : ∃ k, f k = some r := by
  obtain ⟨K, hK⟩ := h
  exact ⟨K, hK K (Nat.le_refl _)⟩
theorem Ev.tt {c : Bool} {a b : Nat → Option α} (hc : c = true) (h : Ev a r) : Ev (fun k => bif c then a k else b k) r := by rw [hc]; exact h
theorem Ev.ff {c : Bool} {a b : Nat → Option α} (hc : c = false) (h : Ev b r) : Ev (fun k => bif c then a k else b k) r := by rw [hc]; exact h
theorem Ev.ret {s : α} (h : r = s) : Ev (fun _ => some s) r := by rw [h]; exact .now _
end

/-! ### numbers -/
theorem wr_id {x : Int} (h0 : -9223372036854775808 ≤ x) (h1 : x ≤ 9223372036854775807) : wr .i64 x = x := by
  show wrap64 x = x
  unfold wrap64; omega
theorem ilt_t {x y : Int} (h : x < y) : ilt x y = true := decide_eq_true h
theorem ilt_f {x y : Int} (h : y ≤ x) : ilt x y = false := decide_eq_false (by omega)
theorem ile_t {x y : Int} (h : x ≤ y) : ile x y = true := decide_eq_true h
theorem ile_f {x y : Int} (h : y < x) : ile x y = false := decide_eq_false (by omega)
theorem ieq_t {x y : Int} (h : x = y) : ieq x y = true := by unfold ieq; simp [h]
theorem ieq_f {x y : Int} (h : x ≠ y) : ieq x y = false := by unfold ieq; simp [h]
theorem and_t {x y : Bool} (h : x = true) (k : y = true) : and_ x y = true := by rw [h, k]; rfl
theorem not_t {x : Bool} (h : x = false) : not_ x = true := by rw [h]; rfl
theorem not_f {x : Bool} (h : x = true) : not_ x = false := by rw [h]; rfl
theorem in_t {i n : Int} (h0 : 0 ≤ i) (h1 : i < n) : and_ (ile 0 i) (ilt i n) = true := and_t (ile_t h0) (ilt_t h1)
theorem len_t {n m : Int} (h0 : 0 ≤ n) (h1 : n ≤ m) : and_ (ile 0 n) (ile n m) = true := and_t (ile_t h0) (ile_t h1)
theorem iadd_ (x y : Int) : iadd x y = x + y := rfl
theorem isub_ (x y : Int) : isub x y = x - y := rfl
theorem imul_ (x y : Int) : imul x y = x * y := rfl
theorem ilt_d (x y : Int) : ilt x y = decide (x < y) := rfl
theorem ile_d (x y : Int) : ile x y = decide (x ≤ y) := rfl
theorem ieq_d (x y : Int) : ieq x y = decide (x = y) := by unfold ieq; by_cases h : x = y <;> simp [h]

theorem tdiv_nn {a : Int} (h : 0 ≤ a) (b : Int) : Int.tdiv a b = a / b := Int.tdiv_eq_ediv_of_nonneg h
theorem sq_le {a b : Int} (h0 : 0 ≤ a) (h : a ≤ b) : a * a ≤ b * b := Int.mul_le_mul h h h0 (by omega)
theorem sq_bound {a b : Int} (h0 : -b ≤ a) (h : a ≤ b) : 0 ≤ a * a ∧ a * a ≤ b * b := by
  rcases (by omega : 0 ≤ a ∨ a < 0) with h1 | h1
  · exact ⟨Int.mul_nonneg h1 h1, sq_le h1 h⟩
  · have e : a * a = (-a) * (-a) := by rw [Int.neg_mul_neg]
    rw [e]
    exact ⟨Int.mul_nonneg (by omega) (by omega), sq_le (by omega) (by omega)⟩
/-- A root is one number alone. -/
theorem root_one {n r s : Int} (hr0 : 0 ≤ r) (hs0 : 0 ≤ s) (h1 : r * r ≤ n) (h2 : n < (r + 1) * (r + 1)) (h3 : s * s ≤ n) (h4 : n < (s + 1) * (s + 1)) : r = s := by
  rcases (by omega : r < s ∨ r = s ∨ s < r) with h | h | h
  · have := sq_le (a := r + 1) (b := s) (by omega) (by omega); omega
  · exact h
  · have := sq_le (a := s + 1) (b := r) (by omega) (by omega); omega

/-! ### lists -/
section
variable {α : Type}
theorem llen_ (xs : List α) : llen xs = (xs.length : Int) := rfl
theorem lapp_ (xs ys : List α) : lapp xs ys = xs ++ ys := rfl
theorem lget_nat {t : Ty} (xs : List t.den) (i : Nat) : lget xs (i : Int) = xs.getD i t.dflt := by unfold lget; rw [Int.toNat_natCast]
theorem lget_lt {t : Ty} (xs : List t.den) (i : Nat) (h : i < xs.length) : lget xs (i : Int) = xs[i] := by rw [lget_nat, List.getD_eq_getElem?_getD, List.getElem?_eq_getElem h]; rfl
theorem lset_nat {t : Ty} (xs : List t.den) (i : Nat) (x : t.den) : lset xs (i : Int) x = xs.set i x := by unfold lset; rw [Int.toNat_natCast]
theorem lrep_nat (n : Nat) (x : α) : lrep (n : Int) x = List.replicate n x := by unfold lrep; rw [Int.toNat_natCast]
theorem set_take {s : List α} {i : Nat} (h : i < s.length) (y : α) : (s.set i y).take (i + 1) = s.take i ++ [y] := by
  rw [List.take_add_one]
  congr 1
  · rw [List.take_set_of_le (Nat.le_refl _)]
  · simp [h]
end

/-! ### loops -/
section
variable {σ ρ : Type}
/-- n rounds with a state. -/
def forTo (f : Nat → σ → σ) : Nat → σ → σ
  | 0, s => s
  | n + 1, s => f n (forTo f n s)
theorem loop_ev (F : Nat → Int → σ → Option ρ) (n : Nat) (f : Nat → σ → σ) (I : Nat → σ → Prop) (fin : σ → ρ) (hI : ∀ i s, i < n → I i s → I (i + 1) (f i s))
    (hs : ∀ i s r, i < n → I i s → Ev (fun k => F k (((i + 1 : Nat) : Int)) (f i s)) r → Ev (fun k => F k (i : Int) s) r) (he : ∀ s, I n s → Ev (fun k => F k (n : Int) s) (fin s)) (s0 : σ) (h0 : I 0 s0) :
    Ev (fun k => F k 0 s0) (fin (forTo f n s0)) ∧ I n (forTo f n s0) := by
  have inv : ∀ i, i ≤ n → I i (forTo f i s0) := by
    intro i
    induction i with
    | zero => intro _; exact h0
    | succ i ih => intro hi; exact hI i _ (by omega) (ih (by omega))
  have key : ∀ j, j ≤ n → Ev (fun k => F k ((n - j : Nat) : Int) (forTo f (n - j) s0)) (fin (forTo f n s0)) := by
    intro j
    induction j with
    | zero => intro _; exact he _ (inv n (Nat.le_refl _))
    | succ j ih =>
      intro hj
      refine hs (n - (j + 1)) _ _ (by omega) (inv _ (by omega)) ?_
      have := ih (by omega)
      rw [show n - j = n - (j + 1) + 1 by omega] at this
      exact this
  have := key n (Nat.le_refl _)
  rw [Nat.sub_self] at this
  exact ⟨this, inv n (Nat.le_refl _)⟩
/-- A loop that ends where something does not hold. -/
theorem all_ev (F : Nat → Int → Option ρ) (n : Nat) (P : Nat → Bool) (rt rf : ρ) (hs : ∀ i r, i < n → P i = true → Ev (fun k => F k (((i + 1 : Nat) : Int))) r → Ev (fun k => F k (i : Int)) r)
    (hf : ∀ i, i < n → P i = false → Ev (fun k => F k (i : Int)) rf) (he : Ev (fun k => F k (n : Int)) rt) : Ev (fun k => F k 0) (bif (List.range n).all P then rt else rf) := by
  have key : ∀ j, j ≤ n → Ev (fun k => F k ((n - j : Nat) : Int)) (bif (List.range' (n - j) j).all P then rt else rf) := by
    intro j
    induction j with
    | zero => intro _; exact he
    | succ j ih =>
      intro hj
      rw [List.range'_succ, List.all_cons]
      have e : n - (j + 1) + 1 = n - j := by omega
      cases hP : P (n - (j + 1)) with
      | true =>
        rw [Bool.true_and, e]
        refine hs _ _ (by omega) hP ?_
        rw [e]; exact ih (by omega)
      | false => rw [Bool.false_and]; exact hf _ (by omega) hP
  have := key n (Nat.le_refl _)
  rw [Nat.sub_self, ← List.range_eq_range'] at this
  exact this
end

end Go.Proofs.Ytigkodlbjimikaa.Vp
