/- FnFixed, as numbers: products do not hang on their order, quotients and roots are the reference's. -/
import Derived.Test.YtdmndbehfdnneaaDrawFixedFnFixed
import Derived.Test.YtdmndbehfdnneaaFixFnFixed
import Derived.Test.YtdmndbehfdnneaaRootFnFixed
namespace Go.Proofs.Ytdmndbehfdnneaa.Pure
open Go.RowKit Go.Proofs.Ytdmndbehfdnneaa.HFnFixed Go.Proofs.YtdmndbehfdnneaaW.PrintWords Go.Proofs.YtdmndbehfdnneaaW.PrintLast Go.Proofs.Ytdmndbehfdnneaa.Plain
set_option linter.unusedSimpArgs false
set_option linter.unusedVariables false

theorem specRoot_loop (v : Int) (hv0 : 0 ≤ v) : ∀ (d : Nat) (lo hi : Int), hi - lo = d → 0 ≤ lo → lo ≤ hi → hi ≤ 1099511627776 → lo * lo ≤ v → v < (hi + 1) * (hi + 1) →
    ∃ r, Ev (fun k => spec_l1Root.l0 k lo hi (wide v).1 (wide v).2) r ∧ 0 ≤ r ∧ r ≤ 1099511627776 ∧ r * r ≤ v ∧ v < (r + 1) * (r + 1) := by
  intro d
  induction d using Nat.strongRecOn with
  | _ d ih =>
    intro lo hi hd h0 h1 h2 hl hh
    by_cases hlt : lo < hi
    · have em : IntKind.u64.wrap (lo + (IntKind.u64.wrap (Int.tdiv (IntKind.u64.wrap ((IntKind.u64.wrap (hi - lo)) + 1)) 2))) = (lo + hi + 1) / 2 := by
        rw [tdiv_w]; simp only [u64w]; omega
      have hm : 0 ≤ (lo + hi + 1) / 2 ∧ (lo + hi + 1) / 2 ≤ 1099511627776 ∧ lo < (lo + hi + 1) / 2 ∧ (lo + hi + 1) / 2 ≤ hi := by omega
      generalize hM : (lo + hi + 1) / 2 = m at em hm
      by_cases hc : v < m * m
      · have e1 : IntKind.u64.wrap (m - 1) = m - 1 := u64_id (by omega) (by omega)
        obtain ⟨r, hr, g⟩ := ih (m - 1 - lo).toNat (by omega) lo (m - 1) (by omega) (by omega) (by omega) (by omega) hl (by rw [show m - 1 + 1 = m by omega]; exact hc)
        refine ⟨r, Ev.step (f := fun k => spec_l1Root.l0 k lo (m - 1) (wide v).1 (wide v).2) (fun k => ?_) hr, g⟩
        rw [spec_l1Root.l0, if_pos hlt, em, times (by omega) (by omega) (by omega) (by omega), Option.bind_some, less, Option.bind_some, if_pos (decide_eq_true hc), e1]
      · obtain ⟨r, hr, g⟩ := ih (hi - m).toNat (by omega) m hi (by omega) (by omega) (by omega) h2 (by omega) hh
        refine ⟨r, Ev.step (f := fun k => spec_l1Root.l0 k m hi (wide v).1 (wide v).2) (fun k => ?_) hr, g⟩
        rw [spec_l1Root.l0, if_pos hlt, em, times (by omega) (by omega) (by omega) (by omega), Option.bind_some, less, Option.bind_some, if_neg (by simpa using hc)]
    · have : lo = hi := by omega
      subst this
      exact ⟨lo, ev_some fun k => by rw [spec_l1Root.l0, if_neg hlt], h0, h2, hl, hh⟩
/-- Both sides tell one root. -/
theorem roots (x : Int) : ∃ r, Ev (fun k => spec_FixRoot.f k x) r ∧ Ev (fun k => impl_FixRoot.f k x) r ∧ (0 ≤ x → x ≤ 1099511627776 → 0 ≤ r ∧ r ≤ 1073741824 ∧ r * r ≤ x * 65536 ∧ x * 65536 < (r + 1) * (r + 1)) := by
  have none_ : Ev (fun k => spec_FixRoot.j0 k x true) 0 := ev_some fun k => by rw [spec_FixRoot.j0, if_pos rfl]
  unfold spec_FixRoot.f impl_FixRoot.f spec_GoodFixed.f
  simp only [in_, within_, Option.bind_some]
  by_cases h0 : x < 0
  · simp only [if_pos h0, decide_eq_false (show ¬ (0 ≤ x ∧ x ≤ 1099511627776) by omega), Bool.false_eq_true, if_false]
    exact ⟨0, none_, Ev.now _, fun h => by omega⟩
  simp only [if_neg h0]
  by_cases h1 : x ≤ 1099511627776
  · simp only [decide_eq_true (show 0 ≤ x ∧ x ≤ 1099511627776 by omega), decide_eq_true (show -1099511627776 ≤ x ∧ x ≤ 1099511627776 by omega), Bool.not_true, if_true]
    obtain ⟨s, hs, s0, s1, s2, s3⟩ := specRoot_loop (x * 65536) (by omega) 1099511627776 0 1099511627776 (by omega) (by omega) (by omega) (by omega) (by omega) (by omega)
    obtain ⟨r, hr, r0, r1, r2, r3⟩ := root_ (x * 65536) (by omega) (by omega)
    have e : s = r := root_one s0 r0 s2 s3 r2 r3
    subst e
    refine ⟨s, ?_, ?_, fun _ _ => ⟨r0, r1, r2, r3⟩⟩
    · refine Ev.step (f := fun k => (spec_l1Root.f k (wide (x * 65536)).1 (wide (x * 65536)).2 1099511627776).bind fun t240 => (some (wrap64 (t240)))) (fun k => ?_) ?_
      · rw [spec_FixRoot.j0, if_neg (by simp), u64_id (by omega) (by omega), times (by omega) (by omega) (by omega) (by omega), Option.bind_some]
      · refine Ev.bind hs (ev_const fun k => ?_)
        rw [wrap_id (by omega) (by omega)]
    · rw [wrap_id (by omega) (by omega)]
      exact Ev.bind hr (Ev.now _)
  · simp only [decide_eq_false (show ¬ (0 ≤ x ∧ x ≤ 1099511627776) by omega), decide_eq_false (show ¬ (-1099511627776 ≤ x ∧ x ≤ 1099511627776) by omega), Bool.not_false, Bool.false_eq_true, if_false]
    exact ⟨0, none_, Ev.now _, fun _ h => by omega⟩
theorem fixMul_comm (a b : Int) : fixMul a b = fixMul b a := by
  unfold fixMul
  rw [Int.mul_comm b a, Bool.and_comm]
theorem two_draw {c : List Int} (hc : Bytes c) : ∃ a b, Ev (fun k => spec_DrawFixMul.f k c) (a, b) := by
  obtain ⟨a, a1, s1, e1, ha1⟩ := fixed_draw hc (a := 0) (n := 0) 0 ⟨by omega, by omega⟩ (by omega)
  obtain ⟨b, a2, s2, e2, ha2⟩ := fixed_draw hc s1 ha1 (by omega)
  refine ⟨a, b, ?_⟩
  unfold spec_DrawFixMul.f spec_l1Two.f
  exact Ev.bind (Ev.bind e1 (Ev.bind e2 (Ev.now _))) (Ev.now _)
theorem root_draw {c : List Int} (hc : Bytes c) : ∃ x, Ev (fun k => spec_DrawFixRoot.f k c) x := by
  obtain ⟨a, a1, s1, e1, ha1⟩ := fixed_draw hc (a := 0) (n := 0) 0 ⟨by omega, by omega⟩ (by omega)
  obtain ⟨b, a2, s2, e2, ha2⟩ := one_ hc s1 8 ha1 (by omega)
  unfold spec_DrawFixRoot.f
  by_cases h0 : a < 0
  · by_cases h1 : a ≥ -1099511627776
    · cases b with
      | true => exact ⟨_, Ev.bind e1 (ev_const fun k => by simp only [if_pos h0, if_pos h1, e2, Option.bind_some, if_true]; rfl)⟩
      | false => exact ⟨_, Ev.bind e1 (ev_const fun k => by simp only [if_pos h0, if_pos h1, e2, Option.bind_some, Bool.false_eq_true, if_false]; rfl)⟩
    · exact ⟨_, Ev.bind e1 (ev_const fun k => by simp only [if_pos h0, if_neg h1]; rfl)⟩
  · exact ⟨_, Ev.bind e1 (ev_const fun k => by simp only [if_neg h0]; rfl)⟩

theorem FnFixed : laws_FnFixed.Pure := by
  intro l m _ hl1 hl2 _ hm1 hm2
  have hl : Bytes l := ⟨fun x hx => by have := hl2 x hx; have h := bounds_u8 this; omega, by omega⟩
  have hm : Bytes m := ⟨fun x hx => by have := hm2 x hx; have h := bounds_u8 this; omega, by omega⟩
  refine Ev.rounds ?_
  unfold laws_FnFixed.f
  by_cases h : wrap64 ((l.length : Int) + (m.length : Int)) > 1048576
  · simp only [if_pos h]; exact Ev.now _
  simp only [if_neg h]
  obtain ⟨a, b, hd⟩ := two_draw hl
  obtain ⟨x, hx⟩ := root_draw hm
  obtain ⟨r, hs, hi, hb⟩ := roots x
  refine Ev.bind hd (Ev.bind (implFixMul a b) (Ev.bind (specFixMul a b) ?_))
  simp only [if_true]
  refine Ev.bind (implFixMul a b) (Ev.bind (implFixMul b a) ?_)
  simp only [if_pos (fixMul_comm a b)]
  refine Ev.bind (implFixDiv a b) (Ev.bind (specFixDiv a b) ?_)
  simp only [bne_self_eq_false]
  refine Ev.step (f := fun k => ((spec_DrawFixRoot.f k m).bind fun t249 => ((impl_FixRoot.f k t249).bind fun t250 => (if t249 < 0 then ((spec_FixRoot.f k t249).bind fun t251 => (some (t250 == t251))) else (if t249 > 1073741824 then ((spec_FixRoot.f k t249).bind fun t252 => (some (t250 == t252))) else (if (wrap64 (t250 * t250)) ≤ (wrap64 (t249 * 65536)) then (some (decide ((wrap64 ((wrap64 (t250 + 1)) * (wrap64 (t250 + 1)))) > (wrap64 (t249 * 65536))))) else (some false))))))) (fun k => by rw [laws_FnFixed.j0, if_neg (by simp)]) ?_
  refine Ev.bind hx (Ev.bind hi ?_)
  by_cases h0 : x < 0
  · simp only [if_pos h0]
    exact Ev.bind hs (ev_const fun k => by simp)
  simp only [if_neg h0]
  by_cases h1 : x > 1073741824
  · simp only [if_pos h1]
    exact Ev.bind hs (ev_const fun k => by simp)
  simp only [if_neg h1]
  obtain ⟨b0, b1, b2, b3⟩ := hb (by omega) (by omega)
  have q1 := sq_le b0 b1
  have q2 := sq_le (a := r + 1) (b := 1073741825) (by omega) (by omega)
  have q0 : 0 ≤ r * r := Int.mul_nonneg b0 b0
  rw [wrap_id (n := r * r) (by omega) (by omega), wrap_id (n := x * 65536) (by omega) (by omega), wrap_id (n := r + 1) (by omega) (by omega), wrap_id (n := (r + 1) * (r + 1)) (by omega) (by omega)]
  simp only [if_pos b2, decide_eq_true b3]
  exact Ev.now _

end Go.Proofs.Ytdmndbehfdnneaa.Pure
