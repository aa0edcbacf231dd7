/- The program's root by halving. -/
import Derived.Test.YtdmndbehfdnneaaHFnFixedx
import Derived.Test.YtdmndbehfdnneaaNum
namespace Go.Proofs.Ytdmndbehfdnneaa.HFnFixed
open Go.RowKit Go.Proofs.YtdmndbehfdnneaaW.PrintWords Go.Proofs.YtdmndbehfdnneaaW.PrintLast Go.Proofs.Ytdmndbehfdnneaa.Plain
set_option linter.unusedSimpArgs false
set_option linter.unusedVariables false

theorem root_loop (n : Int) : ∀ (d : Nat) (lo hi : Int), hi - lo = d → 0 ≤ lo → lo ≤ hi → hi ≤ 1073741824 → lo * lo ≤ n → n < (hi + 1) * (hi + 1) →
    ∃ r, Ev (fun k => impl_root.l0 k n lo hi) r ∧ 0 ≤ r ∧ r ≤ hi ∧ r * r ≤ n ∧ n < (r + 1) * (r + 1) := by
  intro d
  induction d using Nat.strongRecOn with
  | _ d ih =>
    intro lo hi hd h0 h1 h2 hl hh
    by_cases hlt : lo < hi
    · have em : wrap64 (Int.tdiv (wrap64 ((wrap64 (lo + hi)) + 1)) 2) = (lo + hi + 1) / 2 := by
        rw [wrap_id (n := lo + hi) (by omega) (by omega), wrap_id (n := lo + hi + 1) (by omega) (by omega), tdiv_nn (by omega), wrap_id (by omega) (by omega)]
      have hm : 0 ≤ (lo + hi + 1) / 2 ∧ (lo + hi + 1) / 2 ≤ 1073741824 ∧ lo < (lo + hi + 1) / 2 ∧ (lo + hi + 1) / 2 ≤ hi := by omega
      generalize hM : (lo + hi + 1) / 2 = m at em hm
      have hs := sq_le hm.1 hm.2.1
      have hs0 : 0 ≤ m * m := Int.mul_nonneg hm.1 hm.1
      have es : wrap64 (m * m) = m * m := wrap_id (by omega) (by omega)
      by_cases hc : m * m ≤ n
      · obtain ⟨r, hr, g⟩ := ih (hi - m).toNat (by omega) m hi (by omega) (by omega) (by omega) h2 hc hh
        refine ⟨r, Ev.step (f := fun k => impl_root.l0 k n m hi) (fun k => ?_) hr, g⟩
        rw [impl_root.l0, if_pos hlt, em, es, if_pos hc]
      · have e1 : wrap64 (m - 1) = m - 1 := wrap_id (by omega) (by omega)
        obtain ⟨r, hr, g0, g1, g⟩ := ih (m - 1 - lo).toNat (by omega) lo (m - 1) (by omega) (by omega) (by omega) (by omega) hl (by rw [show m - 1 + 1 = m by omega]; omega)
        refine ⟨r, Ev.step (f := fun k => impl_root.l0 k n lo (m - 1)) (fun k => ?_) hr, g0, by omega, g⟩
        rw [impl_root.l0, if_pos hlt, em, es, if_neg hc, e1]
    · have : lo = hi := by omega
      subst this
      exact ⟨lo, ev_some fun k => by rw [impl_root.l0, if_neg hlt], h0, Int.le_refl _, hl, hh⟩

/-- The root of a number below 2^60. -/
theorem root_ (n : Int) (h0 : 0 ≤ n) (h1 : n < 1152921504606846976) : ∃ r, Ev (fun k => impl_root.f k n) r ∧ 0 ≤ r ∧ r ≤ 1073741824 ∧ r * r ≤ n ∧ n < (r + 1) * (r + 1) := by
  unfold impl_root.f
  exact root_loop n 1073741824 0 1073741824 (by omega) (by omega) (by omega) (by omega) (by omega) (by omega)

end Go.Proofs.Ytdmndbehfdnneaa.HFnFixed
