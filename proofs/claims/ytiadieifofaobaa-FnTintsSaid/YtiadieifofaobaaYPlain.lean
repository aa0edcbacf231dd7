/- Small facts on numbers and lists, with no program in sight. -/
import Derived.Test.YtiadieifofaobaaYWMore
import Derived.OpenShut
namespace Go.Proofs.Ytiadieifofaobaa.Plain
open Go.RowKit Go.Proofs.YtiadieifofaobaaW.PrintWords Go.Proofs.YtiadieifofaobaaW.PrintLast
set_option linter.unusedSimpArgs false
set_option linter.unusedVariables false
theorem wrap_id {n : Int} (h0 : -9223372036854775808 ≤ n) (h1 : n ≤ 9223372036854775807) : wrap64 n = n := by unfold wrap64; omega
theorem rd_nat (xs : List Int) (i : Nat) (h : i < xs.length) : rd xs (i : Int) = xs[i] := by simp [rd, h]
/-- A loop that goes up: what holds from i on, out of what holds from i + 1 on. -/
theorem up {p : Nat → Prop} (n : Nat) (h0 : p n) (h1 : ∀ i, i < n → p (i + 1) → p i) : ∀ i, i ≤ n → p i := by
  intro i hi
  obtain ⟨d, rfl⟩ : ∃ d, n = i + d := ⟨n - i, by omega⟩
  clear hi
  induction d generalizing i with
  | zero => exact h0
  | succ d ih => exact h1 i (by omega) (ih (i + 1) (by rw [show i + 1 + d = i + (d + 1) by omega]; exact h0) (fun j hj => h1 j (by omega)))
/-- 'Ev' of a thing that is there from one round on. -/
theorem ev_some {α : Type} {g : Nat → Option α} {r : α} (h : ∀ k, g (k + 1) = some r) : Ev g r := ⟨1, fun k hk => by obtain ⟨m, rfl⟩ : ∃ m, k = m + 1 := ⟨k - 1, by omega⟩; exact h m⟩
/-- A loop over a list that ends early or goes on with a state. -/
def run {α σ ρ : Type} (F : σ → α → ρ ⊕ σ) (fin : σ → ρ) : List α → σ → ρ
  | [], s => fin s
  | x :: xs, s => match F s x with
    | .inl r => r
    | .inr s' => run F fin xs s'
end Go.Proofs.Ytiadieifofaobaa.Plain
