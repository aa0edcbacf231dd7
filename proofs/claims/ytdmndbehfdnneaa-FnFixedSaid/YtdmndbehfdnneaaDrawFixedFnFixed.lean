/- Fixed numbers are drawn: a draw always tells something. -/
import Derived.Test.YtdmndbehfdnneaaCurFnFixed
namespace Go.Proofs.Ytdmndbehfdnneaa.HFnFixed
open Go.RowKit Go.Proofs.YtdmndbehfdnneaaW.PrintWords Go.Proofs.YtdmndbehfdnneaaW.PrintLast Go.Proofs.Ytdmndbehfdnneaa.Plain
set_option linter.unusedSimpArgs false
set_option linter.unusedVariables false

theorem wide_draw {c : List Int} (hc : Bytes c) {n : Int} (hn : n ≤ 4611686018427380000) : ∀ (d : Nat) (x i a s : Int), i = 8 - d → d ≤ 8 → At a (n + i) → ∃ r a' s', Ev (fun k => spec_l1Cur_wide.l0 k x i c a s) (r, a', s') ∧ At a' (n + 8) := by
  intro d
  induction d with
  | zero =>
    intro x i a s hi _ ha
    exact ⟨x, a, s, ev_some fun k => by rw [spec_l1Cur_wide.l0, if_neg (by omega)], at_le ha (by omega)⟩
  | succ d ih =>
    intro x i a s hi hd ha
    obtain ⟨r, a1, s1, e1, hr, ha1⟩ := next_ hc s ha (by omega)
    obtain ⟨r', a', s', h1, h2⟩ := ih (Go.bits .or .i64 (wrap64 (x * 256)) r) (i + 1) a1 s1 (by omega) (by omega) (at_le ha1 (by omega))
    refine ⟨r', a', s', Ev.step (f := fun k => spec_l1Cur_wide.l0 k (Go.bits .or .i64 (wrap64 (x * 256)) r) (i + 1) c a1 s1) (fun k => ?_) h1, h2⟩
    rw [spec_l1Cur_wide.l0, if_pos (by omega), e1, Option.bind_some, wrap_id (n := i + 1) (by omega) (by omega)]
theorem fixed_draw {c : List Int} (hc : Bytes c) {a n : Int} (s : Int) (ha : At a n) (hn : n ≤ 4611686018427300000) : ∃ r a' s', Ev (fun k => spec_l1Cur_fixed.f k c a s) (r, a', s') ∧ At a' (n + 100) := by
  obtain ⟨p, a1, s1, e1, hp, ha1⟩ := pick_ hc s 7 ha (by omega)
  unfold spec_l1Cur_fixed.f
  simp only [e1, Option.bind_some]
  by_cases h0 : p = 0
  · obtain ⟨r, a2, s2, e2, _, ha2⟩ := among_ hc s1 [0, 65536, (-65536), 1099511627776, (-1099511627776), 1, (-1)] (by simp) ha1 (by omega)
    simp only [if_pos h0, e2, Option.bind_some]
    exact ⟨_, _, _, Ev.now _, at_le ha2 (by omega)⟩
  simp only [if_neg h0]
  by_cases h1 : p = 1
  · obtain ⟨r, a2, s2, e2, ha2⟩ := wide_draw hc (n := n + 2) (by omega) 8 0 0 a1 s1 (by omega) (by omega) (at_le ha1 (by omega))
    simp only [if_pos h1]
    exact ⟨Int.tmod r 1099511627777, a2, s2, Ev.bind (g := fun k => spec_l1Cur_wide.f k c a1 s1) (a := (r, a2, s2)) e2 (Ev.now _), at_le ha2 (by omega)⟩
  simp only [if_neg h1]
  by_cases h2 : p = 2
  · obtain ⟨r, a2, s2, e2, _, ha2⟩ := pick_ hc s1 65536 ha1 (by omega)
    simp only [if_pos h2, e2, Option.bind_some]
    exact ⟨_, _, _, Ev.now _, at_le ha2 (by omega)⟩
  simp only [if_neg h2]
  obtain ⟨r, a2, s2, e2, _, ha2⟩ := pick_ hc s1 41 ha1 (by omega)
  obtain ⟨q, a3, s3, e3, hq, ha3⟩ := among_ hc s2 [1, 2, 3, 4, 7] (by simp) ha2 (by omega)
  obtain ⟨t, a4, s4, e4, _, ha4⟩ := pick_ hc s3 3 ha3 (by omega)
  obtain ⟨b, a5, s5, e5, ha5⟩ := one_ hc s4 60 ha4 (by omega)
  have hq0 : q ≠ 0 := by simp at hq; omega
  simp only [e2, Option.bind_some, e3, if_neg hq0, e4, e5]
  cases b with
  | false => exact ⟨_, _, _, Ev.now _, at_le ha5 (by omega)⟩
  | true =>
    obtain ⟨z, a6, s6, e6, _, ha6⟩ := among_ hc s5 [1099511627777, (-1099511627777), 9223372036854775807, (-9223372036854775808)] (by simp) ha5 (by omega)
    simp only [if_true, e6, Option.bind_some]
    exact ⟨_, _, _, Ev.now _, at_le ha6 (by omega)⟩

end Go.Proofs.Ytdmndbehfdnneaa.HFnFixed
