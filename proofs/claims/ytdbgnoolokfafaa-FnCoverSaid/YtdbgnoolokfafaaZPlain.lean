/- Small facts on numbers and lists, with no program in sight. -/
import Derived.Test.YtdbgnoolokfafaaZWMore
import Derived.OpenShut
namespace Go.Proofs.Ytdbgnoolokfafaa.Plain
open Go.RowKit Go.Proofs.YtdbgnoolokfafaaW.PrintWords Go.Proofs.YtdbgnoolokfafaaW.PrintLast
set_option linter.unusedSimpArgs false
set_option linter.unusedVariables false
theorem wrap_id {n : Int} (h0 : -9223372036854775808 ≤ n) (h1 : n ≤ 9223372036854775807) : wrap64 n = n := by unfold wrap64; omega
theorem wrap_lo (n : Int) : -9223372036854775808 ≤ wrap64 n := by unfold wrap64; omega
theorem wrap_hi (n : Int) : wrap64 n ≤ 9223372036854775807 := by unfold wrap64; omega
theorem rd_nat (xs : List Int) (i : Nat) (h : i < xs.length) : rd xs (i : Int) = xs[i] := by simp [rd, h]
/-- A loop that goes up: what holds from i on, out of what holds from i + 1 on. -/
theorem up {p : Nat → Prop} (n : Nat) (h0 : p n) (h1 : ∀ i, i < n → p (i + 1) → p i) : ∀ i, i ≤ n → p i := by
  intro i hi
  obtain ⟨d, rfl⟩ : ∃ d, n = i + d := ⟨n - i, by omega⟩
  clear hi
  induction d generalizing i with
  | zero => exact h0
  | succ d ih => exact h1 i (by omega) (ih (i + 1) (by rw [show i + 1 + d = i + (d + 1) by omega]; exact h0) (fun j hj => h1 j (by omega)))
/-- 'Ev' of a thing that is there from one round on. -/
theorem ev_some {α : Type} {g : Nat → Option α} {r : α} (h : ∀ k, g (k + 1) = some r) : Ev g r := ⟨1, fun k hk => by obtain ⟨m, rfl⟩ : ∃ m, k = m + 1 := ⟨k - 1, by omega⟩; exact h m⟩
/-- A loop over a list that ends early or goes on with a state. -/
def run {α σ ρ : Type} (F : σ → α → ρ ⊕ σ) (fin : σ → ρ) : List α → σ → ρ
  | [], s => fin s
  | x :: xs, s => match F s x with
    | .inl r => r
    | .inr s' => run F fin xs s'
theorem run_ev {α σ ρ : Type} (F : σ → α → ρ ⊕ σ) (fin : σ → ρ) (xs : List α) (z : α) (hn : xs.length ≤ 9223372036854775806) (g : Nat → Int → σ → Option ρ)
    (h : ∀ (k i : Nat) s, i < xs.length → g (k + 1) i s = match F s (xs.getD i z) with | .inl r => some r | .inr s' => g k (wrap64 ((i : Int) + 1)) s')
    (he : ∀ k s, g (k + 1) xs.length s = some (fin s)) (s : σ) : Ev (fun k => g k 0 s) (run F fin xs s) := by
  have key : ∀ i, i ≤ xs.length → ∀ s, Ev (fun k => g k (i : Nat) s) (run F fin (xs.drop i) s) := by
    refine up (p := fun i => ∀ s, Ev (fun k => g k (i : Nat) s) (run F fin (xs.drop i) s)) xs.length ?_ ?_
    · intro s
      rw [List.drop_length]
      exact ev_some fun k => he k s
    · intro i hi ih s
      rw [List.drop_eq_getElem_cons hi]
      have hz : xs.getD i z = xs[i] := by simp [hi]
      cases hF : F s xs[i] with
      | inl r =>
        simp only [run, hF]
        exact ev_some fun k => by rw [h k i s hi, hz, hF]
      | inr s' =>
        simp only [run, hF]
        refine Ev.step (f := fun k => g k ((i + 1 : Nat) : Int) s') (fun k => ?_) (ih s')
        show g (k + 1) (i : Nat) s = _
        rw [h k i s hi, hz, hF]
        show g k (wrap64 ((i : Int) + 1)) s' = _
        rw [wrap_id (by omega) (by omega)]
        rfl
  exact key 0 (Nat.zero_le _) s
/-- A loop that asks of each element. -/
theorem all_ev {α : Type} (P : α → Bool) (xs : List α) (z : α) (hn : xs.length ≤ 9223372036854775806) (g : Nat → Int → Option Bool)
    (h : ∀ (k i : Nat), i < xs.length → g (k + 1) i = if P (xs.getD i z) = true then g k (wrap64 ((i : Int) + 1)) else some false)
    (he : ∀ k, g (k + 1) xs.length = some true) : Ev (fun k => g k 0) (xs.all P) := by
  have := run_ev (σ := Unit) (fun _ x => if P x = true then .inr () else .inl false) (fun _ => true) xs z hn (fun k i _ => g k i) (fun k i s hi => by
    rw [h k i hi]; cases hP : P (xs.getD i z) <;> simp [hP]) (fun k s => he k) ()
  have e : ∀ l : List α, run (fun _ x => if P x = true then .inr () else .inl false) (fun _ => true) l () = l.all P := by
    intro l
    induction l with
    | nil => rfl
    | cons x l ih => cases hP : P x <;> simp [run, hP, ih]
  rw [e] at this
  exact this
end Go.Proofs.Ytdbgnoolokfafaa.Plain
