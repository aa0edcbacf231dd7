/- Near points, and the size between two of them, by both sides. -/
import Derived.Test.YtdmndbehfdnneaaHFnExactSideOfx
import Derived.Test.YtdmndbehfdnneaaInFnExactSideOf
import Derived.Test.YtdmndbehfdnneaaRootFnExactSideOf
namespace Go.Proofs.Ytdmndbehfdnneaa.HFnExactSideOf
open Go.RowKit Go.Proofs.YtdmndbehfdnneaaW.PrintWords Go.Proofs.YtdmndbehfdnneaaW.PrintLast Go.Proofs.Ytdmndbehfdnneaa.Plain
set_option linter.unusedSimpArgs false
set_option linter.unusedVariables false

/-- Near. -/
def near (x y : Int) : Bool := decide (-67108864 ≤ x ∧ x ≤ 67108864) && decide (-67108864 ≤ y ∧ y ≤ 67108864)
theorem near_of {x y : Int} (h : near x y = true) : (-67108864 ≤ x ∧ x ≤ 67108864) ∧ -67108864 ≤ y ∧ y ≤ 67108864 := by simpa [near] using h
theorem specNear (x y : Int) : spec_l10Point.f x y = some (near x y) := by
  unfold spec_l10Point.f near
  simp only [in_, Option.bind_some, decide_eq_true_eq]
  by_cases h : -67108864 ≤ x ∧ x ≤ 67108864
  · simp only [if_pos h, decide_eq_true h, Bool.true_and]
  · simp only [if_neg h, decide_eq_false h, Bool.false_and]
theorem implNear (x y : Int) : impl_isNear.f x y = some (near x y) := specNear x y

theorem size_loop (u v : Int) (hu : -134217728 ≤ u ∧ u ≤ 134217728) (hv : -134217728 ≤ v ∧ v ≤ 134217728) : ∀ (d : Nat) (lo hi : Int), hi - lo = d → 0 ≤ lo → lo ≤ hi → hi ≤ 268435456 → lo * lo ≤ u * u + v * v → u * u + v * v < (hi + 1) * (hi + 1) →
    ∃ r, Ev (fun k => spec_l10Size.l0 k u v lo hi) r ∧ 0 ≤ r ∧ r * r ≤ u * u + v * v ∧ u * u + v * v < (r + 1) * (r + 1) := by
  have bu := sq_bound hu.1 hu.2
  have bv := sq_bound hv.1 hv.2
  have eu : wrap64 (u * u) = u * u := wrap_id (by omega) (by omega)
  have ev : wrap64 (v * v) = v * v := wrap_id (by omega) (by omega)
  have ew : wrap64 (u * u + v * v) = u * u + v * v := wrap_id (by omega) (by omega)
  intro d
  induction d using Nat.strongRecOn with
  | _ d ih =>
    intro lo hi hd h0 h1 h2 hl hh
    by_cases hlt : lo < hi
    · have em : wrap64 (lo + (wrap64 (Int.tdiv (wrap64 ((wrap64 (hi - lo)) + 1)) 2))) = lo + (hi - lo + 1) / 2 := by
        rw [wrap_id (n := hi - lo) (by omega) (by omega), wrap_id (n := hi - lo + 1) (by omega) (by omega), tdiv_nn (by omega), wrap_id (n := (hi - lo + 1) / 2) (by omega) (by omega), wrap_id (by omega) (by omega)]
      have hm : 0 ≤ lo + (hi - lo + 1) / 2 ∧ lo + (hi - lo + 1) / 2 ≤ 268435456 ∧ lo < lo + (hi - lo + 1) / 2 ∧ lo + (hi - lo + 1) / 2 ≤ hi := by omega
      generalize hM : lo + (hi - lo + 1) / 2 = m at em hm
      have hs := sq_le hm.1 hm.2.1
      have hs0 : 0 ≤ m * m := Int.mul_nonneg hm.1 hm.1
      have es : wrap64 (m * m) = m * m := wrap_id (by omega) (by omega)
      by_cases hc : m * m > u * u + v * v
      · have e1 : wrap64 (m - 1) = m - 1 := wrap_id (by omega) (by omega)
        obtain ⟨r, hr, g⟩ := ih (m - 1 - lo).toNat (by omega) lo (m - 1) (by omega) (by omega) (by omega) (by omega) hl (by rw [show m - 1 + 1 = m by omega]; omega)
        refine ⟨r, Ev.step (f := fun k => spec_l10Size.l0 k u v lo (m - 1)) (fun k => ?_) hr, g⟩
        rw [spec_l10Size.l0, if_pos hlt, em, es, eu, ev, ew, if_pos hc, e1]
      · obtain ⟨r, hr, g⟩ := ih (hi - m).toNat (by omega) m hi (by omega) (by omega) (by omega) h2 (by omega) hh
        refine ⟨r, Ev.step (f := fun k => spec_l10Size.l0 k u v m hi) (fun k => ?_) hr, g⟩
        rw [spec_l10Size.l0, if_pos hlt, em, es, eu, ev, ew, if_neg hc]
    · have : lo = hi := by omega
      subst this
      exact ⟨lo, ev_some fun k => by rw [spec_l10Size.l0, if_neg hlt], h0, hl, hh⟩

/-- Both sides measure the same size. -/
theorem sizes (a b c d : Int) (h1 : near a b = true) (h2 : near c d = true) : ∃ r, Ev (fun k => spec_l10Size.f k a b c d) r ∧ Ev (fun k => impl_length.f k a b c d) r ∧ 0 ≤ r ∧ r * r ≤ (c - a) * (c - a) + (d - b) * (d - b) ∧ (c - a) * (c - a) + (d - b) * (d - b) < (r + 1) * (r + 1) := by
  have n1 := near_of h1
  have n2 := near_of h2
  have eu : wrap64 (c - a) = c - a := wrap_id (by omega) (by omega)
  have ev : wrap64 (d - b) = d - b := wrap_id (by omega) (by omega)
  unfold spec_l10Size.f impl_length.f
  rw [eu, ev]
  have hu : -134217728 ≤ c - a ∧ c - a ≤ 134217728 := by omega
  have hv : -134217728 ≤ d - b ∧ d - b ≤ 134217728 := by omega
  generalize c - a = u at hu ⊢
  generalize d - b = v at hv ⊢
  have bu := sq_bound hu.1 hu.2
  have bv := sq_bound hv.1 hv.2
  have euu : wrap64 (u * u) = u * u := wrap_id (by omega) (by omega)
  have evv : wrap64 (v * v) = v * v := wrap_id (by omega) (by omega)
  have eww : wrap64 (u * u + v * v) = u * u + v * v := wrap_id (by omega) (by omega)
  rw [euu, evv, eww]
  obtain ⟨r, hr, g0, g1, g2⟩ := size_loop u v hu hv 268435456 0 268435456 (by omega) (by omega) (by omega) (by omega) (by omega) (by omega)
  obtain ⟨s, hs, k0, _, k1, k2⟩ := root_ (u * u + v * v) (by omega) (by omega)
  have : s = r := root_one k0 g0 k1 k2 g1 g2
  subst this
  exact ⟨s, hr, Ev.bind (f := fun _ t => some t) hs (Ev.now _), g0, g1, g2⟩

end Go.Proofs.Ytdmndbehfdnneaa.HFnExactSideOf
