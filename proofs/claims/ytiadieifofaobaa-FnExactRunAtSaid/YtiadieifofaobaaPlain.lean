/- Small facts on numbers and lists, with no program in sight. -/
import Derived.Test.YtiadieifofaobaaWMore
import Derived.OpenShut
namespace Go.Proofs.Ytiadieifofaobaa.Plain
open Go.RowKit Go.Proofs.YtiadieifofaobaaW.PrintWords Go.Proofs.YtiadieifofaobaaW.PrintLast
set_option linter.unusedSimpArgs false
set_option linter.unusedVariables false

theorem wf64 {a : Int} (h : (Lit.int .i64 a).wf = true) : -9223372036854775808 ≤ a ∧ a ≤ 9223372036854775807 := bounds_i64 h
theorem wrap_id {n : Int} (h0 : -9223372036854775808 ≤ n) (h1 : n ≤ 9223372036854775807) : wrap64 n = n := by unfold wrap64; omega
theorem wrap_lo (n : Int) : -9223372036854775808 ≤ wrap64 n := by unfold wrap64; omega
theorem wrap_hi (n : Int) : wrap64 n ≤ 9223372036854775807 := by unfold wrap64; omega
theorem rd_nat (xs : List Int) (i : Nat) (h : i < xs.length) : rd xs (i : Int) = xs[i] := by simp [rd, h]

/-- A loop that goes up: what holds from i on, out of what holds from i + 1 on. -/
theorem up {p : Nat → Prop} (n : Nat) (h0 : p n) (h1 : ∀ i, i < n → p (i + 1) → p i) : ∀ i, i ≤ n → p i := by
  intro i hi
  obtain ⟨d, rfl⟩ : ∃ d, n = i + d := ⟨n - i, by omega⟩
  clear hi
  induction d generalizing i with
  | zero => exact h0
  | succ d ih => exact h1 i (by omega) (ih (i + 1) (by rw [show i + 1 + d = i + (d + 1) by omega]; exact h0) (fun j hj => h1 j (by omega)))

/-- A copy, element by element: the first i are those of xs, the others as they were. -/
theorem copied {α : Type} (xs ys : List α) (hl : ys.length = xs.length) (z : α) (i : Nat) (hi : i < xs.length) :
    (xs.take i ++ ys.drop i).set i (xs.getD i z) = xs.take (i + 1) ++ ys.drop (i + 1) := by
  apply List.ext_getElem?
  intro j
  have h1 : (xs.take i).length = i := by rw [List.length_take]; omega
  have h2 : (xs.take (i + 1)).length = i + 1 := by rw [List.length_take]; omega
  rw [List.getElem?_set]
  by_cases hj : i = j
  · subst hj
    rw [if_pos rfl, if_pos (by rw [List.length_append, h1, List.length_drop]; omega), List.getElem?_append_left (by omega), List.getElem?_take_of_lt (by omega)]
    simp [List.getD, hi]
  · rw [if_neg hj]
    rcases Nat.lt_or_ge j i with h | h
    · rw [List.getElem?_append_left (by omega), List.getElem?_append_left (by omega), List.getElem?_take_of_lt h, List.getElem?_take_of_lt (by omega)]
    · rw [List.getElem?_append_right (by omega), List.getElem?_append_right (by omega), List.getElem?_drop, List.getElem?_drop, h1, h2]
      congr 1
      omega
theorem copied_all {α : Type} (xs ys : List α) (hl : ys.length = xs.length) : xs.take xs.length ++ ys.drop xs.length = xs := by
  rw [List.take_length, List.drop_of_length_le (by omega), List.append_nil]

/-- 'Ev' of a thing that is there from one round on. -/
theorem ev_some {α : Type} {g : Nat → Option α} {r : α} (h : ∀ k, g (k + 1) = some r) : Ev g r := ⟨1, fun k hk => by obtain ⟨m, rfl⟩ : ∃ m, k = m + 1 := ⟨k - 1, by omega⟩; exact h m⟩
theorem ev_const {α : Type} {g : Nat → Option α} {r : α} (h : ∀ k, g k = some r) : Ev g r := ⟨0, fun k _ => h k⟩

/-- A loop over a list that ends early or goes on with a state. -/
def run {α σ ρ : Type} (F : σ → α → ρ ⊕ σ) (fin : σ → ρ) : List α → σ → ρ
  | [], s => fin s
  | x :: xs, s => match F s x with
    | .inl r => r
    | .inr s' => run F fin xs s'

theorem run_ev {α σ ρ : Type} (F : σ → α → ρ ⊕ σ) (fin : σ → ρ) (xs : List α) (z : α) (hn : xs.length ≤ 9223372036854775806) (g : Nat → Int → σ → Option ρ)
    (h : ∀ (k i : Nat) s, i < xs.length → g (k + 1) i s = match F s (xs.getD i z) with | .inl r => some r | .inr s' => g k (wrap64 ((i : Int) + 1)) s')
    (he : ∀ k s, g (k + 1) xs.length s = some (fin s)) (s : σ) : Ev (fun k => g k 0 s) (run F fin xs s) := by
  have key : ∀ i, i ≤ xs.length → ∀ s, Ev (fun k => g k (i : Nat) s) (run F fin (xs.drop i) s) := by
    refine up (p := fun i => ∀ s, Ev (fun k => g k (i : Nat) s) (run F fin (xs.drop i) s)) xs.length ?_ ?_
    · intro s
      rw [List.drop_length]
      exact ev_some fun k => he k s
    · intro i hi ih s
      rw [List.drop_eq_getElem_cons hi]
      have hz : xs.getD i z = xs[i] := by simp [hi]
      cases hF : F s xs[i] with
      | inl r =>
        simp only [run, hF]
        exact ev_some fun k => by rw [h k i s hi, hz, hF]
      | inr s' =>
        simp only [run, hF]
        refine Ev.step (f := fun k => g k ((i + 1 : Nat) : Int) s') (fun k => ?_) (ih s')
        show g (k + 1) (i : Nat) s = _
        rw [h k i s hi, hz, hF]
        show g k (wrap64 ((i : Int) + 1)) s' = _
        rw [wrap_id (by omega) (by omega)]
        rfl
  exact key 0 (Nat.zero_le _) s

/-- A loop that asks of each element. -/
theorem all_ev {α : Type} (P : α → Bool) (xs : List α) (z : α) (hn : xs.length ≤ 9223372036854775806) (g : Nat → Int → Option Bool)
    (h : ∀ (k i : Nat), i < xs.length → g (k + 1) i = if P (xs.getD i z) = true then g k (wrap64 ((i : Int) + 1)) else some false)
    (he : ∀ k, g (k + 1) xs.length = some true) : Ev (fun k => g k 0) (xs.all P) := by
  have := run_ev (σ := Unit) (fun _ x => if P x = true then .inr () else .inl false) (fun _ => true) xs z hn (fun k i _ => g k i) (fun k i s hi => by
    rw [h k i hi]; cases hP : P (xs.getD i z) <;> simp [hP]) (fun k s => he k) ()
  have e : ∀ l : List α, run (fun _ x => if P x = true then .inr () else .inl false) (fun _ => true) l () = l.all P := by
    intro l
    induction l with
    | nil => rfl
    | cons x l ih => cases hP : P x <;> simp [run, hP, ih]
  rw [e] at this
  exact this

/-- A copy into new memory. -/
theorem copy_ev {α β : Type} (f : α → β) (xs : List α) (z : α) (y : β) (hn : xs.length ≤ 9223372036854775806) (g : Nat → List β → Int → Option (List β))
    (h : ∀ (k i : Nat) ys, i < xs.length → ys.length = xs.length → g (k + 1) ys i = g k (ys.set i (f (xs.getD i z))) (wrap64 ((i : Int) + 1)))
    (he : ∀ k ys, g (k + 1) ys xs.length = some ys) (ys : List β) (hl : ys.length = xs.length) : Ev (fun k => g k ys 0) (xs.map f) := by
  have key : ∀ i, i ≤ xs.length → Ev (fun k => g k ((xs.map f).take i ++ ys.drop i) (i : Nat)) (xs.map f) := by
    refine up (p := fun i => Ev (fun k => g k ((xs.map f).take i ++ ys.drop i) (i : Nat)) (xs.map f)) xs.length ?_ ?_
    · have e : (xs.map f).take xs.length ++ ys.drop xs.length = xs.map f := by
        have := copied_all (xs.map f) ys (by simpa using hl)
        simpa using this
      rw [e]
      exact ev_some fun k => he k _
    · intro i hi ih
      have e := copied (xs.map f) ys (by simpa using hl) y i (by simpa using hi)
      have e2 : (xs.map f).getD i y = f (xs.getD i z) := by simp [hi]
      rw [e2] at e
      refine Ev.step (f := fun k => g k ((xs.map f).take (i + 1) ++ ys.drop (i + 1)) ((i + 1 : Nat) : Int)) (fun k => ?_) ih
      show g (k + 1) _ _ = _
      rw [h k i _ hi (by simp [List.length_take, List.length_drop]; omega), e, wrap_id (by omega) (by omega)]
      rfl
  have := key 0 (Nat.zero_le _)
  simpa using this

end Go.Proofs.Ytiadieifofaobaa.Plain
