/- Merged: Down, EqPts, FixM, FixPts, In, MarkPts, Pts, PureFnExactRectOf, Sin. -/
import Derived.Test.YtdbgnoolokfafaaHFnExactRectOfx
import Derived.Test.YtdbgnoolokfafaaPlain
import Derived.Test.YtdbgnoolokfafaaHFnExactRectOfx
import Derived.Test.YtdbgnoolokfafaaWide
import Derived.Test.YtdbgnoolokfafaaMarks
import Derived.Test.YtdbgnoolokfafaaSteps
import Derived.Test.YtdbgnoolokfafaaFor
/- Bounds asked by both sides. -/
namespace Go.Proofs.Ytdbgnoolokfafaa.HFnExactRectOf
open Go.RowKit Go.Proofs.YtdbgnoolokfafaaW.PrintWords Go.Proofs.YtdbgnoolokfafaaW.PrintLast Go.Proofs.Ytdbgnoolokfafaa.Plain
set_option linter.unusedSimpArgs false
set_option linter.unusedVariables false

theorem in_ (a b c : Int) : spec_l1In.f a b c = some (decide (b ≤ a ∧ a ≤ c)) := by
  unfold spec_l1In.f
  by_cases h : a ≥ b
  · rw [if_pos h]; simp [show b ≤ a from h]
  · rw [if_neg h]; simp [show ¬ b ≤ a from h]
theorem within_ (a b c : Int) : impl_within.f a b c = some (decide (b ≤ a ∧ a ≤ c)) := in_ a b c

end Go.Proofs.Ytdbgnoolokfafaa.HFnExactRectOf

/- Fixed numbers: products and quotients, by both sides. -/
namespace Go.Proofs.Ytdbgnoolokfafaa.HFnExactRectOf
open Go.RowKit Go.Proofs.Ytdbgnoolokfafaa.HFnExactRectOf Go.Proofs.YtdbgnoolokfafaaW.PrintWords Go.Proofs.YtdbgnoolokfafaaW.PrintLast Go.Proofs.Ytdbgnoolokfafaa.Plain
set_option linter.unusedSimpArgs false
set_option linter.unusedVariables false

theorem times {a b : Int} (ha0 : 0 ≤ a) (ha1 : a < 18446744073709551616) (hb0 : 0 ≤ b) (hb1 : b < 18446744073709551616) : spec_l1Times.f a b = some (wide (a * b)) := by
  unfold spec_l1Times.f
  simp only [tdiv_w, tmod_w, tdiv_nn ha0, tmod_nn ha0, tdiv_nn hb0, tmod_nn hb0]
  rw [u64_id (n := a / 4294967296) (by omega) (by omega), u64_id (n := b / 4294967296) (by omega) (by omega)]
  obtain ⟨h, h1, h2, h3, h4⟩ := wide_mul ha0 ha1 hb0 hb1 rfl rfl rfl rfl
  generalize a / 4294967296 * (b / 4294967296) = A at *
  generalize a / 4294967296 * (b % 4294967296) = B at *
  generalize a % 4294967296 * (b / 4294967296) = C at *
  generalize a % 4294967296 * (b % 4294967296) = D at *
  rw [h]
  rw [u64_id (n := A) (by omega) (by omega), u64_id (n := B) (by omega) (by omega), u64_id (n := C) (by omega) (by omega), u64_id (n := D) (by omega) (by omega)]
  simp only [u64w]
  refine congrArg some ?_
  have e : ∀ m : Int, m * 4294967296 % 18446744073709551616 = m % 4294967296 * 4294967296 := fun m => by omega
  simp only [e]
  rw [or32 (by omega) (by omega) (by omega) (by omega)]
  exact wide_eq (by omega) (by omega) (by omega)

theorem plus {v b : Int} (h0 : 0 ≤ v) (hb0 : 0 ≤ b) (hb1 : b < 18446744073709551616) (h1 : v + b < 340282366920938463463374607431768211456) : spec_l1Plus.f (wide v).1 (wide v).2 b = some (wide (v + b)) := by
  unfold spec_l1Plus.f wide
  simp only [u64w]
  split
  · refine congrArg some (wide_eq (by omega) (by omega) (by omega))
  · refine congrArg some (wide_eq (by omega) (by omega) (by omega))
theorem sum {v : Int} (h0 : 0 ≤ v) (h1 : v + v < 340282366920938463463374607431768211456) : spec_l1Sum.f (wide v).1 (wide v).2 (wide v).1 (wide v).2 = some (wide (v + v)) := by
  unfold spec_l1Sum.f
  rw [plus h0 (by unfold wide; omega) (by unfold wide; omega) (by unfold wide; omega)]
  simp only [Option.bind_some, u64w]
  unfold wide
  refine congrArg some (wide_eq (by omega) (by omega) (by omega))
theorem less {v u : Int} : spec_l1Less.f (wide v).1 (wide v).2 (wide u).1 (wide u).2 = some (decide (v < u)) := by
  unfold spec_l1Less.f wide
  split
  · rw [decide_eq_true (by omega)]
  · split
    · refine congrArg some (decide_eq_decide.2 ?_); omega
    · rw [decide_eq_false (by omega)]

/-- The greatest q, most at most, with q times b at most v. -/
theorem over_loop (v b : Int) (hb0 : 0 ≤ b) (hb1 : b < 18446744073709551616) : ∀ (d : Nat) (lo hi most : Int), hi - lo = d → 0 ≤ lo → lo ≤ hi → hi ≤ most → most ≤ 4398046511104 → lo * b ≤ v → (hi < most → v < (hi + 1) * b) →
    ∃ r, Ev (fun k => spec_l1Over.l0 k b lo hi (wide v).1 (wide v).2) r ∧ 0 ≤ r ∧ r ≤ most ∧ r * b ≤ v ∧ (r < most → v < (r + 1) * b) := by
  intro d
  induction d using Nat.strongRecOn with
  | _ d ih =>
    intro lo hi most hd h0 h1 h2 h3 hl hh
    by_cases hlt : lo < hi
    · have em : IntKind.u64.wrap (lo + (IntKind.u64.wrap (Int.tdiv (IntKind.u64.wrap ((IntKind.u64.wrap (hi - lo)) + 1)) 2))) = (lo + hi + 1) / 2 := by
        rw [tdiv_w]; simp only [u64w]; omega
      have hm : 0 ≤ (lo + hi + 1) / 2 ∧ (lo + hi + 1) / 2 ≤ most ∧ lo < (lo + hi + 1) / 2 ∧ (lo + hi + 1) / 2 ≤ hi := by omega
      generalize hM : (lo + hi + 1) / 2 = m at em hm
      by_cases hc : v < m * b
      · have e1 : IntKind.u64.wrap (m - 1) = m - 1 := u64_id (by omega) (by omega)
        obtain ⟨r, hr, g⟩ := ih (m - 1 - lo).toNat (by omega) lo (m - 1) most (by omega) (by omega) (by omega) (by omega) h3 hl (fun _ => by rw [show m - 1 + 1 = m by omega]; exact hc)
        refine ⟨r, Ev.step (f := fun k => spec_l1Over.l0 k b lo (m - 1) (wide v).1 (wide v).2) (fun k => ?_) hr, g⟩
        rw [spec_l1Over.l0, if_pos hlt, em, times (by omega) (by omega) hb0 hb1, Option.bind_some, less, Option.bind_some, if_pos (decide_eq_true hc), e1]
      · obtain ⟨r, hr, g⟩ := ih (hi - m).toNat (by omega) m hi most (by omega) (by omega) (by omega) (by omega) h3 (by omega) hh
        refine ⟨r, Ev.step (f := fun k => spec_l1Over.l0 k b m hi (wide v).1 (wide v).2) (fun k => ?_) hr, g⟩
        rw [spec_l1Over.l0, if_pos hlt, em, times (by omega) (by omega) hb0 hb1, Option.bind_some, less, Option.bind_some, if_neg (by simpa using hc)]
    · have : lo = hi := by omega
      subst this
      exact ⟨lo, ev_some fun k => by rw [spec_l1Over.l0, if_neg hlt], h0, h2, hl, hh⟩

/-- sign, size and divisor: the nearest, cut. -/
def nearOf (neg : Bool) (v b : Int) : Int := max (-1099511627776) (min 1099511627776 (if neg = true then -((2 * v + b - 1) / (2 * b)) else (2 * v + b) / (2 * b)))
theorem cut_spec (n : Int) : spec_l1Cut.f n = some (max (-1099511627776) (min 1099511627776 n)) := by
  unfold spec_l1Cut.f
  split
  · exact congrArg some (by omega)
  · split
    · exact congrArg some (by omega)
    · exact congrArg some (by omega)
theorem nearOf_ev (neg : Bool) {v b : Int} (hv0 : 0 ≤ v) (hv1 : v ≤ 1208925819614629174706176) (hb0 : 0 < b) (hb1 : b ≤ 1099511627776) : Ev (fun k => spec_l1Near.f k neg (wide v).1 (wide v).2 b) (nearOf neg v b) := by
  have hv : (neg = true ∧ 2 * v + b - 1 = 2 * v + b - 1) ∨ neg = false := by cases neg <;> simp
  obtain ⟨t, ht, ht0, ht1, hnear⟩ : ∃ t, t = (if neg = true then 2 * v + b - 1 else 2 * v + b) ∧ 0 ≤ t ∧ t ≤ 4835703278458516698824704 ∧ nearOf neg v b = max (-1099511627776) (min 1099511627776 (if neg = true then -(t / (2 * b)) else t / (2 * b))) := by
    refine ⟨_, rfl, ?_, ?_, ?_⟩
    · cases neg <;> simp <;> omega
    · cases neg <;> simp <;> omega
    · cases neg <;> simp [nearOf]
  obtain ⟨r, hr, hr0, hr1, hr2, hr3⟩ := over_loop t (2 * b) (by omega) (by omega) 4398046511104 0 4398046511104 4398046511104 (by omega) (by omega) (by omega) (by omega) (by omega) (by omega) (by intro h; omega)
  have hq : r = min 4398046511104 (t / (2 * b)) := by
    by_cases hm : r < 4398046511104
    · rw [div_between (by omega) hr2 (hr3 hm)]; omega
    · have : r = 4398046511104 := by omega
      subst this
      have := Int.le_ediv_of_mul_le (by omega : 0 < 2 * b) hr2
      omega
  refine Ev.step (f := fun k => (spec_l1Over.l0 k (2 * b) 0 4398046511104 (wide t).1 (wide t).2).bind fun t127 => (if neg = true then ((spec_l1Cut.f (wrap64 (-(wrap64 (t127))))).bind fun t128 => (some t128)) else ((spec_l1Cut.f (wrap64 (t127))).bind fun t129 => (some t129)))) (fun k => ?_) (Ev.bind hr (ev_const fun k => ?_))
  · have e2 : IntKind.u64.wrap (2 * b) = 2 * b := u64_id (by omega) (by omega)
    unfold spec_l1Near.f
    rw [sum hv0 (by omega), Option.bind_some, plus (by omega) (by omega) (by omega) (by omega), Option.bind_some]
    cases neg with
    | false =>
      have : t = v + v + b := by simp at ht; omega
      rw [this, if_neg (by simp), spec_l1Near.j0, e2]
      rfl
    | true =>
      have ht' : t = v + v + b - 1 := by simp at ht; omega
      have hs : IntKind.u64.wrap ((wide (v + v + b)).2 - 1) = (wide t).2 := by rw [u64w, ht']; unfold wide; simp only; omega
      rw [if_pos rfl, hs]
      split
      · rename_i h0
        have hh : IntKind.u64.wrap ((wide (v + v + b)).1 - 1) = (wide t).1 := by
          rw [u64w, ht']; unfold wide at h0 ⊢; simp only at h0 ⊢; omega
        rw [hh, spec_l1Near.j0, e2]
        rfl
      · rename_i h0
        have hh : (wide (v + v + b)).1 = (wide t).1 := by
          rw [ht']; unfold wide at h0 ⊢; simp only at h0 ⊢; omega
        rw [hh, spec_l1Near.j0, e2]
        rfl
  · show (if neg = true then _ else _) = some (nearOf neg v b)
    have w1 : wrap64 r = r := wrap_id (by omega) (by omega)
    have w2 : wrap64 (-r) = -r := wrap_id (by omega) (by omega)
    have hq0 : 0 ≤ t / (2 * b) := Int.ediv_nonneg ht0 (by omega)
    rw [hnear]
    cases neg with
    | false =>
      rw [if_neg (by simp), if_neg (by simp), w1, cut_spec, Option.bind_some]
      exact congrArg some (by omega)
    | true =>
      rw [if_pos rfl, if_pos rfl, w1, w2, cut_spec, Option.bind_some]
      exact congrArg some (by omega)

theorem bne_signs (a b : Int) : ((decide (a < 0)) != (decide (b < 0))) = decide ((a < 0) ≠ (b < 0)) := by
  by_cases h : a < 0 <;> by_cases h2 : b < 0 <;> simp [h, h2]
def fixed (a : Int) : Bool := decide (-1099511627776 ≤ a ∧ a ≤ 1099511627776)
def fixMul (a b : Int) : Int := if (fixed a && fixed b) = true then max (-1099511627776) (min 1099511627776 ((a * b + 32768) / 65536)) else 0
def fixDiv (a b : Int) : Int := if (fixed a && fixed b && (b != 0)) = true then (if b < 0 then max (-1099511627776) (min 1099511627776 ((2 * (-a) * 65536 + (-b)) / (2 * (-b)))) else max (-1099511627776) (min 1099511627776 ((2 * a * 65536 + b) / (2 * b)))) else 0

theorem abs_spec {a : Int} (h0 : -1099511627776 ≤ a) (h1 : a ≤ 1099511627776) : spec_l1Abs.f a = some (if a < 0 then -a else a) := by
  unfold spec_l1Abs.f
  split
  · rw [wrap_id (by omega) (by omega)]
  · rfl
theorem abs_mul (a b : Int) : (if a < 0 then -a else a) * (if b < 0 then -b else b) = if ((decide (a < 0)) != (decide (b < 0))) = true then -(a * b) else a * b := by
  by_cases h : a < 0 <;> by_cases h2 : b < 0 <;> simp [h, h2, Int.neg_mul, Int.mul_neg]
/-- A quotient of what is below 0: halves go up, too. -/
theorem neg_half (p b : Int) (hb : 0 < b) : -((2 * p + b - 1) / (2 * b)) = (2 * (-p) + b) / (2 * b) := by
  have h1 := Int.mul_ediv_add_emod (2 * p + b - 1) (2 * b)
  have h2 := Int.emod_nonneg (2 * p + b - 1) (by omega : 2 * b ≠ 0)
  have h3 := Int.emod_lt_of_pos (2 * p + b - 1) (by omega : 0 < 2 * b)
  generalize (2 * p + b - 1) / (2 * b) = q at *
  generalize (2 * p + b - 1) % (2 * b) = r at *
  refine (div_between (by omega) ?_ ?_).symm
  · rw [Int.neg_mul, Int.mul_comm q]; omega
  · rw [show -q + 1 = -(q - 1) by omega, Int.neg_mul, Int.sub_mul, Int.mul_comm q]; omega
theorem size_le {a b : Int} (h0 : -1099511627776 ≤ a) (h1 : a ≤ 1099511627776) (h2 : -1099511627776 ≤ b) (h3 : b ≤ 1099511627776) : 0 ≤ (if a < 0 then -a else a) * (if b < 0 then -b else b) ∧ (if a < 0 then -a else a) * (if b < 0 then -b else b) ≤ 1208925819614629174706176 := by
  have ha : 0 ≤ (if a < 0 then -a else a) ∧ (if a < 0 then -a else a) ≤ 1099511627776 := by split <;> omega
  have hb : 0 ≤ (if b < 0 then -b else b) ∧ (if b < 0 then -b else b) ≤ 1099511627776 := by split <;> omega
  refine ⟨Int.mul_nonneg ha.1 hb.1, ?_⟩
  have := Int.mul_le_mul ha.2 hb.2 hb.1 (by omega)
  simpa using this
theorem specFixMul (a b : Int) : Ev (fun k => spec_FixMul.f k a b) (fixMul a b) := by
  unfold spec_FixMul.f spec_GoodFixed.f
  simp only [in_, Option.bind_some, decide_eq_true_eq]
  unfold fixMul fixed
  by_cases ha : -1099511627776 ≤ a ∧ a ≤ 1099511627776
  · simp only [if_pos ha]
    by_cases hb : -1099511627776 ≤ b ∧ b ≤ 1099511627776
    · simp only [decide_eq_true ha, decide_eq_true hb]
      refine Ev.step (f := fun k => (spec_l1Near.f k ((decide (a < 0)) != (decide (b < 0))) (wide ((if a < 0 then -a else a) * (if b < 0 then -b else b))).1 (wide ((if a < 0 then -a else a) * (if b < 0 then -b else b))).2 65536).bind fun t136 => (some t136)) (fun k => ?_) ?_
      · have w1 : ∀ x : Int, -1099511627776 ≤ x → x ≤ 1099511627776 → IntKind.u64.wrap (if x < 0 then -x else x) = if x < 0 then -x else x := fun x h0 h1 => u64_id (by split <;> omega) (by split <;> omega)
        rw [spec_FixMul.j0, if_neg (by simp), abs_spec ha.1 ha.2, Option.bind_some, abs_spec hb.1 hb.2, Option.bind_some, w1 a ha.1 ha.2, w1 b hb.1 hb.2, times (by split <;> omega) (by split <;> omega) (by split <;> omega) (by split <;> omega), Option.bind_some]
      · have hs := size_le ha.1 ha.2 hb.1 hb.2
        refine Ev.bind (nearOf_ev _ hs.1 hs.2 (by omega) (by omega)) (ev_const fun k => ?_)
        refine congrArg some ?_
        rw [show (true && true) = true from rfl, if_pos rfl]
        unfold nearOf
        rw [abs_mul]
        by_cases hn : ((decide (a < 0)) != (decide (b < 0))) = true
        · rw [if_pos hn, if_pos hn, neg_half _ _ (by omega), Int.neg_neg]; congr 2; omega
        · rw [if_neg hn, if_neg hn]; congr 2; omega
    · simp only [decide_eq_false hb]
      refine ev_some fun k => ?_
      rw [spec_FixMul.j0, if_pos (by simp), if_neg (by simp)]
  · simp only [if_neg ha, decide_eq_false ha]
    refine ev_some fun k => ?_
    rw [spec_FixMul.j0, if_pos rfl, if_neg (by simp)]
theorem areFixed_two (a b : Int) (k : Nat) : impl_areFixed.f (k + 3) [a, b] = some (fixed a && fixed b) := by
  unfold impl_areFixed.f impl_areFixed.l0 impl_areFixed.l0 impl_areFixed.l0 impl_GoodFixed.f fixed
  simp only [within_, Option.bind_some, decide_eq_true_eq]
  have w1 : wrap64 (0 + 1) = 1 := wrap_id (by omega) (by omega)
  have w2 : wrap64 (1 + 1) = 2 := wrap_id (by omega) (by omega)
  have r0 : rd [a, b] 0 = a := rfl
  have r1 : rd [a, b] 1 = b := rfl
  simp only [w1, w2, r0, r1, List.length_cons, List.length_nil]
  by_cases ha : -1099511627776 ≤ a ∧ a ≤ 1099511627776 <;> by_cases hb : -1099511627776 ≤ b ∧ b ≤ 1099511627776 <;> simp [ha, hb]
theorem down_ {a b : Int} (hb : 0 < b) (h0 : -9223372036854775807 ≤ a) (h1 : a ≤ 9223372036854775807) : impl_down.f a b = some (a / b) := by
  unfold impl_down.f
  have e := down_num a hb
  have s := tdiv_small hb h0 h1
  rw [if_neg (by omega), wrap_id (n := Int.tdiv a b) (by omega) (by omega)]
  split
  · rename_i h
    rw [if_pos h] at e
    rw [wrap_id (by omega) (by omega), e]
  · rename_i h
    rw [if_neg h] at e
    rw [e]
theorem cut_ (n : Int) : impl_cut.f n (-1099511627776) 1099511627776 = some (max (-1099511627776) (min 1099511627776 n)) := by
  unfold impl_cut.f mx mn
  refine congrArg some ?_
  split <;> split <;> omega
theorem mx_abs {x : Int} (h0 : -1099511627776 ≤ x) (h1 : x ≤ 1099511627776) : mx x (wrap64 (-x)) = if x < 0 then -x else x := by
  rw [wrap_id (by omega) (by omega)]
  unfold mx
  split <;> split <;> omega
theorem mul64 {x y : Int} (hx0 : 0 ≤ x) (hx : x < 18446744073709551616) (hy0 : 0 ≤ y) (hy : y < 18446744073709551616) : bits_Mul64.f x y = some (wide (x * y)) := by
  unfold bits_Mul64.f wide
  have h := mul64_arith x y hx0 hx hy0 hy
  rw [and_low32 x hx0 hx, and_low32 y hy0 hy]
  rw [show ∀ z : Int, Go.bits .and .u64 (IntKind.u64.wrap z) 4294967295 = IntKind.u64.wrap z % 4294967296 from fun z => and_low32 _ (by rw [u64w]; omega) (by rw [u64w]; omega)]
  simp only [u64w] at h ⊢
  rw [h]
theorem big_mul {p : Int} (neg : Bool) (hp0 : 0 ≤ p) (hp1 : p ≤ 1208925819614629174706176) (k : Nat) :
    impl_FixMul.j1 (k + 1) neg (wide p).1 (wide p).2 (if neg = true then 32767 else 32768) = some (max (-1099511627776) (min 1099511627776 (if neg = true then (-p + 32768) / 65536 else (p + 32768) / 65536))) := by
  obtain ⟨m, hm, hm0, hm1⟩ : ∃ m : Int, m = (if neg = true then 32767 else 32768) ∧ 32767 ≤ m ∧ m ≤ 32768 := ⟨_, rfl, by split <;> omega, by split <;> omega⟩
  rw [← hm, impl_FixMul.j1]
  unfold bits_Add64.f wide
  rw [if_pos (by simp only; omega), Option.bind_some]
  simp only [u64w]
  have e1 : (p / 18446744073709551616 + (p % 18446744073709551616 + m + 0) / 18446744073709551616) % 18446744073709551616 = (p + m) / 18446744073709551616 := by omega
  have e2 : (p % 18446744073709551616 + m + 0) % 18446744073709551616 = (p + m) % 18446744073709551616 := by omega
  rw [e1, e2]
  obtain ⟨t, ht⟩ : ∃ t, t = p + m := ⟨_, rfl⟩
  rw [← ht]
  by_cases hc : t / 18446744073709551616 / 65536 = 0
  · rw [if_pos hc]
    have e3 : t / 18446744073709551616 * 281474976710656 % 18446744073709551616 = t / 18446744073709551616 * 281474976710656 := by omega
    rw [e3, or48 (by omega) (by omega) (by omega) (by omega)]
    have e4 : t / 18446744073709551616 * 281474976710656 + t % 18446744073709551616 / 65536 = t / 65536 := by omega
    rw [e4]
    have e5 : wrap64 (mn (t / 65536) 1099511627776) = min 1099511627776 (t / 65536) := by
      unfold mn
      split
      · rw [wrap_id (by omega) (by omega)]; omega
      · rw [wrap_id (by omega) (by omega)]; omega
    rw [e5]
    cases neg with
    | false =>
      rw [if_neg (by simp)] at hm ⊢
      rw [if_neg (by simp)]
      exact congrArg some (by omega)
    | true =>
      rw [if_pos rfl] at hm ⊢
      rw [if_pos rfl, wrap_id (by omega) (by omega)]
      exact congrArg some (by omega)
  · rw [if_neg hc]
    cases neg with
    | false =>
      rw [if_neg (by simp)] at hm ⊢
      rw [if_neg (by simp)]
      exact congrArg some (by omega)
    | true =>
      rw [if_pos rfl] at hm ⊢
      rw [if_pos rfl]
      exact congrArg some (by omega)
theorem implFixMul (a b : Int) : Ev (fun k => impl_FixMul.f k a b) (fixMul a b) := by
  refine ⟨3, fun k hk => ?_⟩
  obtain ⟨k, rfl⟩ : ∃ m, k = m + 3 := ⟨k - 3, by omega⟩
  show impl_FixMul.f (k + 3) a b = _
  unfold impl_FixMul.f fixMul
  rw [areFixed_two, Option.bind_some]
  cases hf : (fixed a && fixed b) with
  | false => rw [if_neg (by simp), if_neg (by simp)]
  | true =>
    have hf1 : (-1099511627776 ≤ a ∧ a ≤ 1099511627776) ∧ -1099511627776 ≤ b ∧ b ≤ 1099511627776 := by simpa [fixed] using hf
    have hbig : impl_FixMul.j0 (k + 3) a b false = some (max (-1099511627776) (min 1099511627776 ((a * b + 32768) / 65536))) := by
      have hs := size_le hf1.1.1 hf1.1.2 hf1.2.1 hf1.2.2
      rw [impl_FixMul.j0, if_neg (by simp), mx_abs hf1.1.1 hf1.1.2, mx_abs hf1.2.1 hf1.2.2]
      rw [u64_id (n := if a < 0 then -a else a) (by split <;> omega) (by split <;> omega), u64_id (n := if b < 0 then -b else b) (by split <;> omega) (by split <;> omega), mul64 (by split <;> omega) (by split <;> omega) (by split <;> omega) (by split <;> omega), Option.bind_some]
      have hb := big_mul ((decide (a < 0)) != (decide (b < 0))) hs.1 hs.2 (k + 1)
      rw [abs_mul] at hb ⊢
      cases hn : ((decide (a < 0)) != (decide (b < 0))) with
      | false =>
        rw [hn] at hb
        simp only [Bool.false_eq_true, if_false] at hb ⊢
        exact hb
      | true =>
        rw [hn] at hb
        simp only [if_true, Int.neg_neg] at hb ⊢
        exact hb
    rw [if_pos rfl, if_pos rfl]
    simp only [within_, Option.bind_some, decide_eq_true_eq]
    split
    · rename_i h1
      by_cases h2 : -1073741824 ≤ b ∧ b ≤ 1073741824
      · have hp : -1152921504606846976 ≤ a * b ∧ a * b ≤ 1152921504606846976 := by
          have h := size_le (a := a) (b := b) (by omega) (by omega) (by omega) (by omega)
          have ha : 0 ≤ (if a < 0 then -a else a) ∧ (if a < 0 then -a else a) ≤ 1073741824 := by split <;> omega
          have hb : 0 ≤ (if b < 0 then -b else b) ∧ (if b < 0 then -b else b) ≤ 1073741824 := by split <;> omega
          have hm := Int.mul_le_mul ha.2 hb.2 hb.1 (by omega)
          rw [abs_mul] at hm h
          split at hm <;> rename_i hn
          · rw [if_pos hn] at h; omega
          · rw [if_neg hn] at h; omega
        rw [decide_eq_true h2, impl_FixMul.j0, if_pos rfl, wrap_id (n := a * b) (by omega) (by omega), wrap_id (n := a * b + 32768) (by omega) (by omega), down_ (by omega) (by omega) (by omega), Option.bind_some, cut_, Option.bind_some]
      · rw [decide_eq_false h2]; exact hbig
    · exact hbig

end Go.Proofs.Ytdbgnoolokfafaa.HFnExactRectOf

/- Quotients rounded down, numbers that are fixed, by both sides. -/
namespace Go.Proofs.Ytdbgnoolokfafaa.HFnExactRectOf
open Go.RowKit Go.Proofs.YtdbgnoolokfafaaW.PrintWords Go.Proofs.YtdbgnoolokfafaaW.PrintLast Go.Proofs.Ytdbgnoolokfafaa.Plain
set_option linter.unusedSimpArgs false
set_option linter.unusedVariables false

theorem specDown {a b : Int} (hb : 0 < b) (h0 : -9223372036854775807 ≤ a) (h1 : a ≤ 9223372036854775807) : spec_l1Down.f a b = some (a / b) := by
  unfold spec_l1Down.f
  have s := tdiv_small hb h0 h1
  rw [if_neg (by omega), wrap_id (n := Int.tdiv a b) (by omega) (by omega)]
  have e := down_num a hb
  rcases (by omega : 0 ≤ a ∨ a < 0) with h | h
  · have e1 : Int.tdiv a b = a / b := tdiv_nn h b
    have e2 : decide (a < 0) = decide (b < 0) := by rw [decide_eq_false (by omega), decide_eq_false (by omega)]
    rw [e2, if_neg (c := (decide (b < 0) != decide (b < 0)) = true) (by simp), e1]
    split <;> rfl
  · have e1 := (tdiv_neg_num h b).2
    have e0 := Int.emod_nonneg (-a) (by omega : b ≠ 0)
    rw [decide_eq_true h, decide_eq_false (by omega : ¬ b < 0), if_pos (c := (true != false) = true) rfl]
    split
    · rename_i hz
      rw [if_neg (by omega)] at e
      rw [e]
    · rename_i hz
      rw [if_pos (by omega)] at e
      have h2 := Int.ediv_nonneg (by omega : 0 ≤ -a) (by omega : 0 ≤ b)
      rw [wrap_id (by omega) (by omega), e]

theorem areFixed_ev (l : List Int) (hl : l.length ≤ 1048576) : Ev (fun k => impl_areFixed.f k l) (l.all fixed) := by
  unfold impl_areFixed.f
  exact all_ev fixed l 0 (by omega) (fun k i => impl_areFixed.l0 k l l.length i) (fun k i hi => by
    show impl_areFixed.l0 (k + 1) l _ i = _
    rw [impl_areFixed.l0, if_pos (by omega), if_pos (by omega), if_pos (by omega)]
    unfold impl_GoodFixed.f
    simp only [within_, Option.bind_some]
    rfl) (fun k => by
    show impl_areFixed.l0 (k + 1) _ _ _ = _
    rw [impl_areFixed.l0, if_neg (by omega)])
theorem fixMul_bd (a b : Int) : -1099511627776 ≤ fixMul a b ∧ fixMul a b ≤ 1099511627776 := by
  unfold fixMul
  split <;> omega

end Go.Proofs.Ytdbgnoolokfafaa.HFnExactRectOf

/- Sines and cosines, by both sides. -/
namespace Go.Proofs.Ytdbgnoolokfafaa.HFnExactRectOf
open Go.RowKit Go.Proofs.YtdbgnoolokfafaaW.PrintWords Go.Proofs.YtdbgnoolokfafaaW.PrintLast Go.Proofs.Ytdbgnoolokfafaa.Plain
set_option linter.unusedSimpArgs false
set_option linter.unusedVariables false

theorem specMod {a : Int} (h0 : -9223372036854775807 ≤ a) (h1 : a ≤ 9223372036854775807) : spec_l1Mod.f a 4096 = some (a % 4096) := by
  unfold spec_l1Mod.f
  rw [specDown (by omega) h0 h1, Option.bind_some, wrap_id (n := 4096 * (a / 4096)) (by omega) (by omega), wrap_id (by omega) (by omega)]
  congr 1
  omega
theorem implTurned {a : Int} (h0 : -9223372036854775807 ≤ a) (h1 : a ≤ 9223372036854775807) : impl_turned.f a = some (a % 4096) := by
  unfold impl_turned.f
  have l := Int.tmod_lt_of_pos a (show (0 : Int) < 4096 by decide)
  have g : -4096 < Int.tmod a 4096 := by
    have := Int.tmod_lt_of_pos (-a) (show (0 : Int) < 4096 by decide)
    rw [Int.neg_tmod] at this
    omega
  rw [wrap_id (n := Int.tmod a 4096 + 4096) (by omega) (by omega), tmod_nn (by omega)]
  congr 1
  have e := Int.tmod_add_mul_tdiv a 4096
  omega
theorem sinAll_bd {m : Int} (h0 : 0 ≤ m) (h1 : m < 4096) : -65536 ≤ sinAll m ∧ sinAll m ≤ 65536 := by
  unfold sinAll
  split
  · have := sinMid_bd (m := m - 2048) (by omega) (by omega); omega
  · have := sinMid_bd (m := m) (by omega) (by omega); omega
theorem implSin {a : Int} (h0 : -9223372036854775807 ≤ a) (h1 : a ≤ 9223372036854775807) : impl_SinOf.f a = some (sinAll (a % 4096)) := by
  unfold impl_SinOf.f
  rw [implTurned h0 h1, Option.bind_some, if_pos (by omega)]
theorem implCos {a : Int} (h0 : -9223372036854775807 ≤ a) (h1 : a ≤ 9223372036854775807) : impl_CosOf.f a = some (sinAll ((a % 4096 + 1024) % 4096)) := by
  unfold impl_CosOf.f
  rw [implTurned h0 h1, Option.bind_some, wrap_id (by omega) (by omega), implSin (by omega) (by omega), Option.bind_some]
theorem rd_sin (i : Int) : rd [0, 6424, 12785, 19024, 25080, 30893, 36410, 41576, 46341, 50660, 54491, 57798, 60547, 62714, 64277, 65220, 65536] i = sinAt i := rfl
theorem specLow (k : Nat) (a m : Int) (ha0 : -9223372036854775807 ≤ a) (ha1 : a ≤ 9223372036854775807) (hm : a % 4096 = m) (h1 : m ≤ 1024) : spec_SinOf.f (k + 1) a = some (sinLow m) := by
  have h0 : 0 ≤ m := by omega
  rw [spec_SinOf.f, specMod ha0 ha1, Option.bind_some, hm, if_neg (by omega), if_neg (by omega)]
  unfold sinLow
  by_cases c : m = 1024
  · rw [if_pos c, if_pos c]
  · rw [if_neg c, if_neg c]
    unfold spec_l1Table.f
    rw [Option.bind_some, tdiv_nn h0, tmod_nn h0, wrap_id (n := m / 64) (by omega) (by omega), wrap_id (n := m / 64 + 1) (by omega) (by omega), if_pos (by omega)]
    rw [if_pos (show m / 64 < (([0, 6424, 12785, 19024, 25080, 30893, 36410, 41576, 46341, 50660, 54491, 57798, 60547, 62714, 64277, 65220, 65536] : List Int).length : Int) by simp; omega), if_pos (by omega)]
    rw [if_pos (show m / 64 + 1 < (([0, 6424, 12785, 19024, 25080, 30893, 36410, 41576, 46341, 50660, 54491, 57798, 60547, 62714, 64277, 65220, 65536] : List Int).length : Int) by simp; omega), rd_sin, rd_sin]
    have k1 := sinAt_le (m / 64)
    have k2 := sinAt_le (m / 64 + 1)
    have l3 : 0 ≤ m % 64 := by omega
    have l4 : m % 64 < 64 := by omega
    generalize sinAt (m / 64) = s1 at *
    generalize sinAt (m / 64 + 1) = s2 at *
    generalize m % 64 = p at *
    have m1 : 0 ≤ s1 * (64 - p) := Int.mul_nonneg k1.1 (by omega)
    have m2 : s1 * (64 - p) ≤ 65536 * 64 := Int.mul_le_mul k1.2 (by omega) (by omega) (by omega)
    have m3 : 0 ≤ s2 * p := Int.mul_nonneg k2.1 (by omega)
    have m4 : s2 * p ≤ 65536 * 64 := Int.mul_le_mul k2.2 (by omega) (by omega) (by omega)
    rw [wrap_id (n := 64 - p) (by omega) (by omega)]
    generalize s1 * (64 - p) = u at m1 m2 ⊢
    generalize s2 * p = v at m3 m4 ⊢
    rw [wrap_id (n := u) (by omega) (by omega), wrap_id (n := v) (by omega) (by omega), wrap_id (n := u + v) (by omega) (by omega), wrap_id (n := u + v + 32) (by omega) (by omega), tdiv_nn (by omega), wrap_id (by omega) (by omega)]
theorem specMid (k : Nat) (a m : Int) (ha0 : -9223372036854775807 ≤ a) (ha1 : a ≤ 9223372036854775807) (hm : a % 4096 = m) (h1 : m < 2048) : spec_SinOf.f (k + 2) a = some (sinMid m) := by
  unfold sinMid
  by_cases c : m > 1024
  · rw [if_pos c, spec_SinOf.f, specMod ha0 ha1, Option.bind_some, hm, if_neg (by omega), if_pos c, wrap_id (by omega) (by omega), specLow k (2048 - m) (2048 - m) (by omega) (by omega) (by omega) (by omega), Option.bind_some]
  · rw [if_neg c]; exact specLow (k + 1) a m ha0 ha1 hm (by omega)
theorem specSin_ (k : Nat) (a : Int) (ha0 : -9223372036854775807 ≤ a) (ha1 : a ≤ 9223372036854775807) : spec_SinOf.f (k + 3) a = some (sinAll (a % 4096)) := by
  unfold sinAll
  by_cases c : a % 4096 ≥ 2048
  · have bd := sinMid_bd (m := a % 4096 - 2048) (by omega) (by omega)
    rw [if_pos c, spec_SinOf.f, specMod ha0 ha1, Option.bind_some, if_pos c, wrap_id (by omega) (by omega), specMid k (a % 4096 - 2048) (a % 4096 - 2048) (by omega) (by omega) (by omega) (by omega), Option.bind_some, wrap_id (by omega) (by omega)]
  · rw [if_neg c]; exact specMid (k + 1) a _ ha0 ha1 rfl (by omega)
theorem specSin (a : Int) (ha0 : -9223372036854775807 ≤ a) (ha1 : a ≤ 9223372036854775807) : Ev (fun k => spec_SinOf.f k a) (sinAll (a % 4096)) := ⟨3, fun k hk => by
  obtain ⟨m, rfl⟩ : ∃ m, k = m + 3 := ⟨k - 3, by omega⟩
  exact specSin_ m a ha0 ha1⟩
theorem specCos (a : Int) (ha0 : -9223372036854775807 ≤ a) (ha1 : a ≤ 9223372036854775807) : Ev (fun k => spec_CosOf.f k a) (sinAll ((a % 4096 + 1024) % 4096)) := by
  unfold spec_CosOf.f
  simp only [specMod ha0 ha1, Option.bind_some, wrap_id (n := a % 4096 + 1024) (by omega) (by omega)]
  exact Ev.bind (specSin _ (by omega) (by omega)) (Ev.now _)

/-- A point of a circle's line. -/
def roundX (cx rx k : Int) : Int := cx + fixMul rx (sinAll ((128 * k % 4096 + 1024) % 4096))
def roundY (cy ry k : Int) : Int := cy + fixMul ry (sinAll (128 * k % 4096))
theorem specRound (cx cy rx ry k : Int) (hx0 : -4611686018427387904 ≤ cx) (hx1 : cx ≤ 4611686018427387904) (hy0 : -4611686018427387904 ≤ cy) (hy1 : cy ≤ 4611686018427387904) (hk0 : 0 ≤ k) (hk1 : k ≤ 4096) :
    Ev (fun n => spec_l9Round.f n cx cy rx ry k) (roundX cx rx k, roundY cy ry k) := by
  have b1 := fixMul_bd rx (sinAll ((128 * k % 4096 + 1024) % 4096))
  have b2 := fixMul_bd ry (sinAll (128 * k % 4096))
  unfold spec_l9Round.f roundX roundY
  rw [wrap_id (n := 128 * k) (by omega) (by omega)]
  refine Ev.bind (specCos _ (by omega) (by omega)) (Ev.bind (specFixMul _ _) (Ev.bind (specSin _ (by omega) (by omega)) (Ev.bind (specFixMul _ _) ?_)))
  rw [wrap_id (by omega) (by omega), wrap_id (by omega) (by omega)]
  exact Ev.now _
theorem implRound (cx cy rx ry k : Int) (hx0 : -4611686018427387904 ≤ cx) (hx1 : cx ≤ 4611686018427387904) (hy0 : -4611686018427387904 ≤ cy) (hy1 : cy ≤ 4611686018427387904) (hk0 : 0 ≤ k) (hk1 : k ≤ 4096) :
    Ev (fun n => impl_onCircle.f n cx cy rx ry k) (roundX cx rx k, roundY cy ry k) := by
  have b1 := fixMul_bd rx (sinAll ((128 * k % 4096 + 1024) % 4096))
  have b2 := fixMul_bd ry (sinAll (128 * k % 4096))
  unfold impl_onCircle.f roundX roundY
  rw [wrap_id (n := k * 128) (by omega) (by omega), show k * 128 = 128 * k by omega]
  simp only [implCos (a := 128 * k) (by omega) (by omega), implSin (a := 128 * k) (by omega) (by omega), Option.bind_some]
  refine Ev.bind (implFixMul _ _) (Ev.bind (implFixMul _ _) ?_)
  rw [wrap_id (by omega) (by omega), wrap_id (by omega) (by omega)]
  exact Ev.now _

end Go.Proofs.Ytdbgnoolokfafaa.HFnExactRectOf

/- Points are marked from any number on, and hold their marks; lists of points that are fixed. -/
namespace Go.Proofs.Ytdbgnoolokfafaa.HFnExactRectOf
open Go.RowKit Go.Proofs.YtdbgnoolokfafaaW.PrintWords Go.Proofs.YtdbgnoolokfafaaW.PrintLast Go.Proofs.Ytdbgnoolokfafaa.Plain
set_option linter.unusedSimpArgs false
set_option linter.unusedVariables false

/-- The i-th mark. -/
def ptMark (m i : Nat) : S25 := ⟨((m + 2 * i : Nat) : Int), ((m + 2 * i + 1 : Nat) : Int)⟩
theorem w1 (n : Nat) (h : n ≤ 4611686018427387904) : wrap64 ((n : Int) + 1) = ((n + 1 : Nat) : Int) := by rw [wrap_id (by omega) (by omega)]; rfl
theorem markPts (l : List S25) (m : Nat) (hl : l.length ≤ 4194304) (hm : m ≤ 41943040) : Ev (fun k => laws_markPointS.f k l m) (((m + 2 * l.length : Nat) : Int), over (ptMark m) l l.length) := by
  unfold laws_markPointS.f
  refine mark_ev 2 m (ptMark m) l (by omega) (by omega) (fun k ys m i => laws_markPointS.l0 k ys m i) (fun k i ys hi hy => ?_) (fun k ys q hy => ?_)
  · show laws_markPointS.l0 (k + 1) ys _ i = _
    rw [laws_markPointS.l0, if_pos (by omega), if_pos (by omega)]
    simp only [Option.bind_some, rd_T25, Int.toNat_natCast, set_set_, w1 (m + 2 * i) (by omega), w1 (m + 2 * i + 1) (by omega), getD_set_ ys i (by omega)]
    rfl
  · show laws_markPointS.l0 (k + 1) ys _ _ = _
    rw [laws_markPointS.l0, if_neg (by omega)]
theorem heldPts (l : List S25) (m : Nat) (hl : l.length ≤ 4194304) (hm : m ≤ 41943040) : Ev (fun k => laws_heldPointS.f k (over (ptMark m) l l.length) m) ((m + 2 * l.length : Nat) : Int) := by
  unfold laws_heldPointS.f
  have ho := over_len (ptMark m) l l.length (Nat.le_refl _)
  refine held_ev 2 m l.length (by omega) (by omega) (fun k q i => laws_heldPointS.l0 k (over (ptMark m) l l.length) q i) (fun k i hi => ?_) (fun k q => ?_)
  · show laws_heldPointS.l0 (k + 1) _ _ i = _
    have hg : rd_T25 (over (ptMark m) l l.length) i = ptMark m i := over_get (ptMark m) l l.length i hi _
    rw [laws_heldPointS.l0, if_pos (by omega), if_pos (by omega), hg]
    simp only [w1 (m + 2 * i) (by omega), w1 (m + 2 * i + 1) (by omega)]
    simp only [ptMark, if_true]
    rfl
  · show laws_heldPointS.l0 (k + 1) _ _ _ = _
    rw [laws_heldPointS.l0, if_neg (by omega)]

end Go.Proofs.Ytdbgnoolokfafaa.HFnExactRectOf

/- Points of lines, counted. -/
namespace Go.Proofs.Ytdbgnoolokfafaa.HFnExactRectOf
open Go.RowKit Go.Proofs.YtdbgnoolokfafaaW.PrintWords Go.Proofs.YtdbgnoolokfafaaW.PrintLast Go.Proofs.Ytdbgnoolokfafaa.Plain
set_option linter.unusedSimpArgs false
set_option linter.unusedVariables false

/-- How many points a line has. -/
def pts (l : List S83) (i : Nat) : Nat := (l.getD i z83).f0.length
theorem sum_same {n m : Nat → Nat} {j : Nat} (h : ∀ i, i < j → n i = m i) : sumTo n j = sumTo m j := by
  induction j with
  | zero => rfl
  | succ j ih => simp only [sumTo]; rw [ih (fun i hi => h i (by omega)), h j (by omega)]
theorem le_sum (n : Nat → Nat) {i j : Nat} (h : i < j) : n i ≤ sumTo n j := Nat.le_trans (by show n i ≤ sumTo n i + n i; omega) (sumTo_le n (show i + 1 ≤ j from h))

end Go.Proofs.Ytdbgnoolokfafaa.HFnExactRectOf

/- Points and a line, compared. -/
namespace Go.Proofs.Ytdbgnoolokfafaa.HFnExactRectOf
open Go.RowKit Go.Proofs.YtdbgnoolokfafaaW.PrintWords Go.Proofs.YtdbgnoolokfafaaW.PrintLast Go.Proofs.Ytdbgnoolokfafaa.Plain
set_option linter.unusedSimpArgs false
set_option linter.unusedVariables false

theorem eqPoints (l : List S25) (hl : l.length ≤ 9223372036854775806) : Ev (fun k => laws_eqPointS.f k l l) true := by
  unfold laws_eqPointS.f
  have h := all_ev (fun _ : S25 => true) l z25 (by omega) (fun k i => laws_eqPointS.l0 k l l i) (fun k i hi => by
    show laws_eqPointS.l0 (k + 1) l l i = _
    rw [laws_eqPointS.l0, if_pos (by omega), if_pos (by omega), if_pos (by omega)]
    simp [laws_eqPoint.f]) (fun k => by
    show laws_eqPointS.l0 (k + 1) l l _ = _
    rw [laws_eqPointS.l0, if_neg (by omega)])
  rw [List.all_eq_true.2 (fun _ _ => rfl)] at h
  simp only [if_true]
  exact h
theorem eqLine (l : List S25) (b : Bool) (hl : l.length ≤ 9223372036854775806) : Ev (fun k => laws_eqLine.f k l b l b) true := by
  unfold laws_eqLine.f
  refine Ev.bind (eqPoints l hl) ?_
  exact ev_const fun k => by simp

end Go.Proofs.Ytdbgnoolokfafaa.HFnExactRectOf

/- Points that are fixed, lines that are good, by both sides. -/
namespace Go.Proofs.Ytdbgnoolokfafaa.HFnExactRectOf
open Go.RowKit Go.Proofs.YtdbgnoolokfafaaW.PrintWords Go.Proofs.YtdbgnoolokfafaaW.PrintLast Go.Proofs.Ytdbgnoolokfafaa.Plain
set_option linter.unusedSimpArgs false
set_option linter.unusedVariables false

def fixedPt (p : S25) : Bool := fixed p.f0 && fixed p.f1
theorem specGoodFixed (x : Int) : spec_GoodFixed.f x = some (fixed x) := by
  unfold spec_GoodFixed.f
  simp only [in_, Option.bind_some]
  rfl
theorem specFixedPt (x y : Int) : spec_l9Point.f x y = some (fixed x && fixed y) := by
  unfold spec_l9Point.f
  simp only [specGoodFixed, Option.bind_some]
  cases fixed x <;> simp
theorem many_ev (l : List S83) (hl : l.length ≤ 1048576) (hs : sumTo (pts l) l.length ≤ 1048576) : Ev (fun k => spec_l9Many.f k l) (sumTo (pts l) l.length : Nat) := by
  have key : ∀ i, i ≤ l.length → Ev (fun k => spec_l9Many.l0 k (sumTo (pts l) i : Nat) l l.length (i : Nat)) ((sumTo (pts l) l.length : Nat) : Int) := by
    refine up (p := fun i => Ev (fun k => spec_l9Many.l0 k (sumTo (pts l) i : Nat) l l.length (i : Nat)) ((sumTo (pts l) l.length : Nat) : Int)) l.length ?_ ?_
    · exact ev_some fun k => by rw [spec_l9Many.l0, if_neg (by omega)]
    · intro i hi ih
      have hb := sumTo_le (pts l) (show i + 1 ≤ l.length from hi)
      have hc : sumTo (pts l) (i + 1) = sumTo (pts l) i + pts l i := rfl
      refine Ev.step (f := fun k => spec_l9Many.l0 k (sumTo (pts l) (i + 1) : Nat) l l.length ((i + 1 : Nat) : Int)) (fun k => ?_) ih
      rw [spec_l9Many.l0, if_pos (by omega), if_pos (by omega), if_pos (by omega)]
      show spec_l9Many.l0 k (wrap64 (((sumTo (pts l) i : Nat) : Int) + ((pts l i : Nat) : Int))) _ _ _ = _
      rw [wrap_id (by omega) (by omega), wrap_id (n := (i : Int) + 1) (by omega) (by omega), hc]
      rfl
  exact key 0 (Nat.zero_le _)
def ptAt (l : List S83) (i j : Nat) : S25 := (l.getD i z83).f0.getD j z25
def allFixed (l : List S83) : Bool := (List.range l.length).all fun i => (List.range (pts l i)).all fun j => fixedPt (ptAt l i j)
def goodLines (l : List S83) : Bool := if allFixed l = true then decide (sumTo (pts l) l.length ≤ 600) else false
theorem lt_pts' {l : List S83} {i j : Nat} (h : j < pts l i) : (j : Int) < ((rd_T83 l (i : Int)).f0.length : Int) := Int.ofNat_lt.2 h
theorem specGoodLines (l : List S83) (hl : l.length ≤ 1048576) (hs : sumTo (pts l) l.length ≤ 1048576) : Ev (fun k => spec_l9Good.f k l) (goodLines l) := by
  unfold spec_l9Good.f
  have inner : ∀ (i : Nat) (Q : Bool), i < l.length → (((List.range (pts l i)).all fun j => fixedPt (ptAt l i j)) = true → Ev (fun k => spec_l9Good.l0 k l l l.length (wrap64 ((i : Int) + 1))) Q) → Ev (fun k => spec_l9Good.l0 k l l l.length (i : Nat)) (if ((List.range (pts l i)).all fun j => fixedPt (ptAt l i j)) = true then Q else false) := by
    intro i Q hi hQ
    have hb := le_sum (pts l) hi
    refine Ev.step (f := fun k => spec_l9Good.l1 k l l l.length (i : Int) ((rd_T83 l i).f0) ((pts l i : Nat) : Int) 0) (fun k => by
      rw [spec_l9Good.l0, if_pos (by omega), if_pos (by omega), if_pos (by omega)]; rfl) ?_
    refine ask_ev (pts l i) (fun j => fixedPt (ptAt l i j)) (fun k j => spec_l9Good.l1 k l l l.length (i : Int) ((rd_T83 l i).f0) ((pts l i : Nat) : Int) j) Q false (by omega) (fun j R hj hP hR => ?_) (fun j hj hP => ?_) (fun hall => ?_)
    · refine Ev.step (fun k => ?_) hR
      show spec_l9Good.l1 (k + 1) _ _ _ _ _ _ _ = _
      rw [spec_l9Good.l1, if_pos (by omega), if_pos (by omega), if_pos (lt_pts' hj), specFixedPt]
      show (some (fixedPt (ptAt l i j))).bind _ = _
      rw [hP, Option.bind_some, if_pos rfl]
    · refine ev_some fun k => ?_
      rw [spec_l9Good.l1, if_pos (by omega), if_pos (by omega), if_pos (lt_pts' hj), specFixedPt]
      show (some (fixedPt (ptAt l i j))).bind _ = _
      rw [hP, Option.bind_some, if_neg (by simp)]
    · refine Ev.step (fun k => ?_) (hQ (by rw [List.all_eq_true]; exact fun j hj => hall j (List.mem_range.1 hj)))
      show spec_l9Good.l1 (k + 1) _ _ _ _ _ _ _ = _
      rw [spec_l9Good.l1, if_neg (by omega)]
  refine ask_ev l.length (fun i => (List.range (pts l i)).all fun j => fixedPt (ptAt l i j)) (fun k i => spec_l9Good.l0 k l l l.length i) (decide (sumTo (pts l) l.length ≤ 600)) false (by omega) (fun i R hi hP hR => ?_) (fun i hi hP => ?_) (fun _ => ?_)
  · have := inner i R hi (fun _ => hR)
    rwa [if_pos hP] at this
  · have := inner i true hi (fun h => by rw [hP] at h; cases h)
    rwa [if_neg (by rw [hP]; simp)] at this
  · refine Ev.step (f := fun k => (spec_l9Many.f k l).bind fun t156 => some (decide (t156 ≤ 600))) (fun k => by rw [spec_l9Good.l0, if_neg (by omega)]) ?_
    refine Ev.bind (many_ev l hl hs) ?_
    rw [show decide (((sumTo (pts l) l.length : Nat) : Int) ≤ 600) = decide (sumTo (pts l) l.length ≤ 600) from decide_eq_decide.2 (by omega)]
    exact Ev.now _
theorem implPoints (l : List S25) (hl : l.length ≤ 1048576) : Ev (fun k => impl_arePoints.f k l) (l.all fixedPt) := by
  unfold impl_arePoints.f
  rw [← if_tf (l.all fixedPt), ← range_all fixedPt z25 l]
  have body : ∀ (i : Nat) (Q : Bool), i < l.length → (fixedPt (l.getD i z25) = true → Ev (fun k => impl_arePoints.l0 k l l.length (wrap64 ((i : Int) + 1))) Q) → Ev (fun k => impl_arePoints.l0 k l l.length (i : Nat)) (if fixedPt (l.getD i z25) = true then Q else false) := by
    intro i Q hi hQ
    refine Ev.step (f := fun k => (impl_areFixed.f k [(rd_T25 l i).f0, (rd_T25 l i).f1]).bind fun t204 => (if t204 = true then (impl_arePoints.l0 k l l.length (wrap64 ((i : Int) + 1))) else (some false))) (fun k => by
      rw [impl_arePoints.l0, if_pos (by omega), if_pos (by omega), if_pos (by omega)]) ?_
    refine Ev.bind (areFixed_ev _ (by simp)) ?_
    have e2 : [(rd_T25 l i).f0, (rd_T25 l i).f1].all fixed = fixedPt (l.getD i z25) := by
      simp only [List.all_cons, List.all_nil, Bool.and_true]
      rfl
    rw [e2]
    cases hP : fixedPt (l.getD i z25)
    · exact Ev.now _
    · simp only [if_true]
      exact hQ hP
  refine ask_ev l.length (fun i => fixedPt (l.getD i z25)) (fun k i => impl_arePoints.l0 k l l.length i) true false (by omega) (fun i R hi hP hR => ?_) (fun i hi hP => ?_) (fun _ => ?_)
  · have := body i R hi (fun _ => hR)
    rwa [if_pos hP] at this
  · have := body i true hi (fun h => by rw [hP] at h; cases h)
    rwa [if_neg (by rw [hP]; simp)] at this
  · exact ev_some fun k => by rw [impl_arePoints.l0, if_neg (by omega)]

end Go.Proofs.Ytdbgnoolokfafaa.HFnExactRectOf

/- RectOf, as numbers: the program's answer is the reference's, field by field, and its memory is its own. -/
namespace Go.Proofs.Ytdbgnoolokfafaa.Pure
open Go.RowKit Go.Proofs.Ytdbgnoolokfafaa.HFnExactRectOf Go.Proofs.YtdbgnoolokfafaaW.PrintWords Go.Proofs.YtdbgnoolokfafaaW.PrintLast Go.Proofs.Ytdbgnoolokfafaa.Plain
set_option linter.unusedSimpArgs false
set_option linter.unusedVariables false

abbrev Pt := S25
/-- Four corners. -/
def p4 (x y w h : Int) : List Pt := [⟨x, y⟩, ⟨x + w, y⟩, ⟨x + w, y + h⟩, ⟨x, y + h⟩]
/-- The middles of the four quarters. -/
def qs (x y w h r : Int) : List Pt := [⟨x + w - r, y + h - r⟩, ⟨x + r, y + h - r⟩, ⟨x + r, y + r⟩, ⟨x + w - r, y + r⟩]
def small (w h r : Int) : Int := mn (mn r (w / 2)) (h / 2)
def ptq (cs : List Pt) (r : Int) (i t : Nat) : Pt := ⟨roundX (cs.getD i z25).f0 r ((8 * i + t : Nat) : Int), roundY (cs.getD i z25).f1 r ((8 * i + t : Nat) : Int)⟩
def four (pt : Nat → Nat → Pt) : List Pt := (List.range 4).flatMap fun i => (List.range 9).map (pt i)
theorem four_len (pt : Nat → Nat → Pt) : (four pt).length = 36 := by simp [four, List.range_succ]
def rectPts (x y w h r : Int) : List Pt := if small w h r = 0 then p4 x y w h else four (ptq (qs x y w h (small w h r)) (small w h r))
theorem rect_len (x y w h r : Int) : (rectPts x y w h r).length ≤ 36 := by
  unfold rectPts
  split
  · simp [p4]
  · rw [four_len]; exact Nat.le_refl _
def inMax (n : Int) : Bool := decide (0 ≤ n ∧ n ≤ 1099511627776)
def rectOk (x y w h r : Int) : Bool := fixed x && (fixed y && (inMax w && (inMax h && inMax r)))
def rectOf (x y w h r : Int) : List Pt × Bool × Bool := if rectOk x y w h r = true then (if (rectPts x y w h r).all fixedPt = true then (rectPts x y w h r, true, true) else ([], false, false)) else ([], false, false)
theorem fixed_bd {x : Int} (h : fixed x = true) : -1099511627776 ≤ x ∧ x ≤ 1099511627776 := of_decide_eq_true h
theorem ok_of {x y w h r : Int} (k : rectOk x y w h r = true) : (-1099511627776 ≤ x ∧ x ≤ 1099511627776) ∧ (-1099511627776 ≤ y ∧ y ≤ 1099511627776) ∧ (0 ≤ w ∧ w ≤ 1099511627776) ∧ (0 ≤ h ∧ h ≤ 1099511627776) ∧ 0 ≤ r ∧ r ≤ 1099511627776 := by
  unfold rectOk inMax at k
  simp only [Bool.and_eq_true, decide_eq_true_eq] at k
  exact ⟨fixed_bd k.1, fixed_bd k.2.1, k.2.2.1, k.2.2.2.1, k.2.2.2.2⟩
theorem small_bd {w h r : Int} (hw : 0 ≤ w ∧ w ≤ 1099511627776) (hh : 0 ≤ h ∧ h ≤ 1099511627776) (hr : 0 ≤ r ∧ r ≤ 1099511627776) : 0 ≤ small w h r ∧ small w h r ≤ 1099511627776 := by
  unfold small mn
  repeat' split
  all_goals omega

theorem grow_rect {ρ : Type} (pt : Nat → Nat → Pt) (R : ρ) (g0 : Nat → Int → List Pt → Option ρ) (g1 : Nat → Nat → Int → List Pt → Option ρ)
    (h0 : ∀ k (i : Nat) s, i < 4 → g0 (k + 1) i s = g1 k i 0 s)
    (h1 : ∀ (i t : Nat) s, i < 4 → t < 9 → s.length ≤ 36 → Ev (fun k => g1 k i (wrap64 ((t : Int) + 1)) (s ++ [pt i t])) R → Ev (fun k => g1 k i (t : Nat) s) R)
    (h1x : ∀ k (i : Nat) s, i < 4 → g1 (k + 1) i (9 : Nat) s = g0 k (wrap64 ((i : Int) + 1)) s)
    (hx : Ev (fun k => g0 k (4 : Nat) (four pt)) R) : Ev (fun k => g0 k 0 []) R := by
  refine for_ev 4 (fun i s => s ++ (List.range 9).map (pt i)) (fun i s => s.length = 9 * i) g0 R [] (by omega) (fun i s hi hI hn => ?_) (fun i s hi hI => by simp [hI]; omega) rfl (fun _ => ?_)
  · refine Ev.step (f := fun k => g1 k i 0 s) (fun k => h0 k i s hi) ?_
    refine for_ev 9 (fun t s => s ++ [pt i t]) (fun t s => s.length = 9 * i + t) (fun k t s => g1 k i t s) R s (by omega) (fun t s ht hI2 hn2 => h1 i t s hi ht (by omega) hn2) (fun t s ht hI2 => by simp [hI2]; omega) (by omega) (fun _ => ?_)
    rw [forTo_map (pt i)]
    exact Ev.step (fun k => h1x k i _ hi) hn
  · rw [forTo_flat (fun i => (List.range 9).map (pt i))]
    exact hx
theorem one_good (l : List Pt) (b : Bool) (hl : l.length ≤ 600) : goodLines [⟨l, b⟩] = l.all fixedPt := by
  unfold goodLines allFixed
  have e : ((List.range [(⟨l, b⟩ : S83)].length).all fun i => (List.range (pts [(⟨l, b⟩ : S83)] i)).all fun j => fixedPt (ptAt [(⟨l, b⟩ : S83)] i j)) = l.all fixedPt := by
    rw [← range_all fixedPt z25 l]
    show ((List.range 1).all fun i => (List.range (pts [(⟨l, b⟩ : S83)] i)).all fun j => fixedPt (ptAt [(⟨l, b⟩ : S83)] i j)) = _
    simp [List.range_succ, pts, ptAt]
  rw [e]
  have e2 : sumTo (pts [(⟨l, b⟩ : S83)]) [(⟨l, b⟩ : S83)].length = l.length := by simp [sumTo, pts]
  rw [e2, decide_eq_true hl]
  cases l.all fixedPt <;> rfl
/-- How it ends, by the reference. -/
theorem specEnd (l : List Pt) (hl : l.length ≤ 36) : Ev (fun k => (spec_l9Good.f k (([(⟨l, true⟩ : S83)] : List (S83)))).bind fun t176 => (if t176 = true then (some (l, true, true)) else (some (([] : List Pt), false, false)))) (if l.all fixedPt = true then (l, true, true) else ([], false, false)) := by
  refine Ev.bind (specGoodLines _ (by simp) (by simp [sumTo, pts]; omega)) ?_
  rw [one_good l true (by omega)]
  cases l.all fixedPt
  · exact Ev.now _
  · exact Ev.now _
/-- .. and by the program. -/
theorem implEnd (l : List Pt) (hl : l.length ≤ 36) : Ev (fun k => (impl_closedOf.f k l).bind fun bt220 => (some (bt220.1, bt220.2.1, bt220.2.2))) (if l.all fixedPt = true then (l, true, true) else ([], false, false)) := by
  refine Ev.bind (a := if l.all fixedPt = true then (l, true, true) else ([], false, false)) ?_ (Ev.now _)
  unfold impl_closedOf.f
  refine Ev.bind (implPoints l (by omega)) ?_
  cases l.all fixedPt
  · exact Ev.now _
  · exact Ev.now _
theorem p4_lit {x y w h : Int} (hx : -1099511627776 ≤ x ∧ x ≤ 1099511627776) (hy : -1099511627776 ≤ y ∧ y ≤ 1099511627776) (hw : 0 ≤ w ∧ w ≤ 1099511627776) (hh : 0 ≤ h ∧ h ≤ 1099511627776) :
    ([(⟨x, y⟩ : Pt), (⟨wrap64 (x + w), y⟩ : Pt), (⟨wrap64 (x + w), wrap64 (y + h)⟩ : Pt), (⟨x, wrap64 (y + h)⟩ : Pt)] : List Pt) = p4 x y w h := by
  rw [wrap_id (n := x + w) (by omega) (by omega), wrap_id (n := y + h) (by omega) (by omega)]
  rfl
theorem qs_lit {x y w h r : Int} (hx : -1099511627776 ≤ x ∧ x ≤ 1099511627776) (hy : -1099511627776 ≤ y ∧ y ≤ 1099511627776) (hw : 0 ≤ w ∧ w ≤ 1099511627776) (hh : 0 ≤ h ∧ h ≤ 1099511627776) (hr : 0 ≤ r ∧ r ≤ 1099511627776) :
    ([(⟨wrap64 ((wrap64 (x + w)) - r), wrap64 ((wrap64 (y + h)) - r)⟩ : Pt), (⟨wrap64 (x + r), wrap64 ((wrap64 (y + h)) - r)⟩ : Pt), (⟨wrap64 (x + r), wrap64 (y + r)⟩ : Pt), (⟨wrap64 ((wrap64 (x + w)) - r), wrap64 (y + r)⟩ : Pt)] : List Pt) = qs x y w h r := by
  rw [wrap_id (n := x + w) (by omega) (by omega), wrap_id (n := y + h) (by omega) (by omega), wrap_id (n := x + w - r) (by omega) (by omega), wrap_id (n := y + h - r) (by omega) (by omega), wrap_id (n := x + r) (by omega) (by omega), wrap_id (n := y + r) (by omega) (by omega)]
  rfl
theorem qs_bd {x y w h r : Int} (hx : -1099511627776 ≤ x ∧ x ≤ 1099511627776) (hy : -1099511627776 ≤ y ∧ y ≤ 1099511627776) (hw : 0 ≤ w ∧ w ≤ 1099511627776) (hh : 0 ≤ h ∧ h ≤ 1099511627776) (hr : 0 ≤ r ∧ r ≤ 1099511627776) :
    ∀ p ∈ qs x y w h r, (-4611686018427387904 ≤ p.f0 ∧ p.f0 ≤ 4611686018427387904) ∧ -4611686018427387904 ≤ p.f1 ∧ p.f1 ≤ 4611686018427387904 := by
  intro p hp
  simp only [qs, List.mem_cons, List.not_mem_nil, or_false] at hp
  rcases hp with rfl | rfl | rfl | rfl <;> (simp only []; omega)
theorem specRectOf (x y w h r : Int) : Ev (fun k => spec_RectOf.f k x y w h r) (rectOf x y w h r) := by
  have none_ : rectOk x y w h r = false → Ev (fun k => spec_RectOf.j0 k x y w h r true) (rectOf x y w h r) := by
    intro hn
    unfold rectOf
    rw [hn]
    exact ev_some fun k => by rw [spec_RectOf.j0, if_pos rfl]; rfl
  have some_ : rectOk x y w h r = true → Ev (fun k => spec_RectOf.j0 k x y w h r false) (rectOf x y w h r) := by
    intro hok
    obtain ⟨hx, hy, hw, hh, hr⟩ := ok_of hok
    have hsm := small_bd hw hh hr
    unfold rectOf
    rw [if_pos hok]
    have hlen := rect_len x y w h r
    have hj2 : Ev (fun k => spec_RectOf.j2 k x y w h (small w h r)) (if (rectPts x y w h r).all fixedPt = true then (rectPts x y w h r, true, true) else ([], false, false)) := by
      unfold rectPts at hlen ⊢
      by_cases h0 : small w h r = 0
      · rw [if_pos h0] at hlen ⊢
        refine Ev.step (f := fun k => (spec_l9Good.f k (([(⟨p4 x y w h, true⟩ : S83)] : List (S83)))).bind fun t176 => (if t176 = true then (some (p4 x y w h, true, true)) else (some (([] : List Pt), false, false)))) (fun k => by
          rw [spec_RectOf.j2, if_pos h0, Option.bind_some, p4_lit hx hy hw hh]) ?_
        exact specEnd _ hlen
      · rw [if_neg h0] at hlen ⊢
        have hq := qs_bd hx hy hw hh hsm
        have ql : (qs x y w h (small w h r)).length = 4 := rfl
        refine Ev.step (f := fun k => spec_RectOf.l0 k (small w h r) (qs x y w h (small w h r)) ((qs x y w h (small w h r)).length : Int) 0 [] true) (fun k => by
          rw [spec_RectOf.j2, if_neg h0, Option.bind_some, qs_lit hx hy hw hh hsm]) ?_
        generalize small w h r = s at hsm hq hlen ql ⊢
        generalize qs x y w h s = cs at hq hlen ql ⊢
        refine grow_rect (ptq cs s) _ (fun k i acc => spec_RectOf.l0 k s cs (cs.length : Int) i acc true) (fun k i t acc => spec_RectOf.l1 k s (i : Int) t cs (cs.length : Int) (i : Int) acc true ((rd_T25 cs i).f0) ((rd_T25 cs i).f1)) (fun k i acc hi => ?_) (fun i t acc hi ht hacc hn => ?_) (fun k i acc hi => ?_) ?_
        · show spec_RectOf.l0 (k + 1) _ _ _ _ _ _ = _
          rw [spec_RectOf.l0, if_pos (by omega), if_pos (by omega), if_pos (by omega)]
        · have hp := hq (cs.getD i z25) (by simp [List.getD, show i < cs.length by omega])
          refine Ev.step (f := fun k => (spec_l9Round.f k ((rd_T25 cs i).f0) ((rd_T25 cs i).f1) s s ((8 * i + t : Nat) : Int)).bind fun bt202 => (if acc.length < 8796093022208 then (spec_RectOf.l1 k s (i : Int) (wrap64 ((t : Int) + 1)) cs (cs.length : Int) (i : Int) (acc ++ [(⟨bt202.1, bt202.2⟩ : Pt)]) true ((rd_T25 cs i).f0) ((rd_T25 cs i).f1)) else (none))) (fun k => by
            rw [spec_RectOf.l1, if_pos (by omega), wrap_id (n := 8 * (i : Int)) (by omega) (by omega), wrap_id (n := 8 * (i : Int) + t) (by omega) (by omega), show 8 * (i : Int) + (t : Int) = ((8 * i + t : Nat) : Int) by omega]) ?_
          refine Ev.bind (specRound _ _ s s _ hp.1.1 hp.1.2 hp.2.1 hp.2.2 (by omega) (by omega)) ?_
          simp only [if_pos (show acc.length < 8796093022208 by omega)]
          exact hn
        · show spec_RectOf.l1 (k + 1) _ _ _ _ _ _ _ _ _ _ = _
          rw [spec_RectOf.l1, if_neg (by omega)]
        · generalize four (ptq cs s) = l at hlen ⊢
          refine Ev.step (f := fun k => (spec_l9Good.f k (([(⟨l, true⟩ : S83)] : List (S83)))).bind fun t176 => (if t176 = true then (some (l, true, true)) else (some (([] : List Pt), false, false)))) (fun k => by
            rw [spec_RectOf.l0, if_neg (by omega)]) ?_
          exact specEnd _ hlen
    have w2 : wrap64 (Int.tdiv w 2) = w / 2 := by rw [tdiv_nn hw.1, wrap_id (by omega) (by omega)]
    have h2 : wrap64 (Int.tdiv h 2) = h / 2 := by rw [tdiv_nn hh.1, wrap_id (by omega) (by omega)]
    have hj1 : Ev (fun k => spec_RectOf.j1 k x y w h (mn r (w / 2))) (if (rectPts x y w h r).all fixedPt = true then (rectPts x y w h r, true, true) else ([], false, false)) := by
      refine Ev.step (fun k => ?_) hj2
      show spec_RectOf.j1 (k + 1) _ _ _ _ _ = _
      rw [spec_RectOf.j1, h2]
      unfold small mn
      generalize (if w / 2 < r then w / 2 else r) = q
      by_cases hc : q > h / 2
      · rw [if_pos hc, if_pos hc]
      · rw [if_neg hc, if_neg hc]
    refine Ev.step (fun k => ?_) hj1
    show spec_RectOf.j0 (k + 1) _ _ _ _ _ _ = _
    rw [spec_RectOf.j0, if_neg (by simp), w2]
    unfold mn
    by_cases hc : r > w / 2
    · rw [if_pos hc, if_pos hc]
    · rw [if_neg hc, if_neg hc]
  unfold spec_RectOf.f
  simp only [specGoodFixed, in_, Option.bind_some, decide_eq_true_eq]
  have key : ∀ b, rectOk x y w h r = b → Ev (fun k => spec_RectOf.j0 k x y w h r (!b)) (rectOf x y w h r) := by
    intro b hb
    cases b
    · exact none_ hb
    · exact some_ hb
  cases h1 : fixed x
  · simp only [Bool.false_eq_true, if_false]; exact key false (by simp [rectOk, h1])
  cases h2 : fixed y
  · simp only [Bool.false_eq_true, if_false, if_true]; exact key false (by simp [rectOk, h1, h2])
  simp only [if_true]
  by_cases h3 : 0 ≤ w ∧ w ≤ 1099511627776
  · by_cases h4 : 0 ≤ h ∧ h ≤ 1099511627776
    · simp only [if_pos h3, if_pos h4]
      exact key _ (by simp only [rectOk, inMax, h1, h2, decide_eq_true h3, decide_eq_true h4, Bool.true_and])
    · simp only [if_pos h3, if_neg h4]
      exact key false (by simp only [rectOk, inMax, h1, h2, decide_eq_true h3, decide_eq_false h4, Bool.true_and, Bool.false_and])
  · simp only [if_neg h3]
    exact key false (by simp only [rectOk, inMax, h1, h2, decide_eq_false h3, Bool.true_and, Bool.false_and])
theorem implRectOf (x y w h r : Int) : Ev (fun k => impl_RectOf.f k x y w h r) (rectOf x y w h r) := by
  have none_ : rectOk x y w h r = false → Ev (fun k => impl_RectOf.j0 k x y w h r true) (rectOf x y w h r) := by
    intro hn
    unfold rectOf
    rw [hn]
    exact ev_some fun k => by rw [impl_RectOf.j0, if_pos rfl]; rfl
  have some_ : rectOk x y w h r = true → Ev (fun k => impl_RectOf.j0 k x y w h r false) (rectOf x y w h r) := by
    intro hok
    obtain ⟨hx, hy, hw, hh, hr⟩ := ok_of hok
    have hsm := small_bd hw hh hr
    unfold rectOf
    rw [if_pos hok]
    have hlen := rect_len x y w h r
    have w2 : wrap64 (Int.tdiv w 2) = w / 2 := by rw [tdiv_nn hw.1, wrap_id (by omega) (by omega)]
    have h2 : wrap64 (Int.tdiv h 2) = h / 2 := by rw [tdiv_nn hh.1, wrap_id (by omega) (by omega)]
    have es : mn (mn r (w / 2)) (h / 2) = small w h r := rfl
    unfold rectPts at hlen ⊢
    by_cases h0 : small w h r = 0
    · rw [if_pos h0] at hlen ⊢
      refine Ev.step (f := fun k => (impl_closedOf.f k (p4 x y w h)).bind fun bt220 => (some (bt220.1, bt220.2.1, bt220.2.2))) (fun k => by
        rw [impl_RectOf.j0, if_neg (by simp), w2, h2, es, if_pos h0, p4_lit hx hy hw hh]) ?_
      exact implEnd _ hlen
    · rw [if_neg h0] at hlen ⊢
      have hq := qs_bd hx hy hw hh hsm
      have ql : (qs x y w h (small w h r)).length = 4 := rfl
      refine Ev.step (f := fun k => impl_RectOf.l0 k (small w h r) [] (qs x y w h (small w h r)) ((qs x y w h (small w h r)).length : Int) 0) (fun k => by
        rw [impl_RectOf.j0, if_neg (by simp), w2, h2, es, if_neg h0, Option.bind_some, qs_lit hx hy hw hh hsm]) ?_
      generalize small w h r = s at hsm hq hlen ql ⊢
      generalize qs x y w h s = cs at hq hlen ql ⊢
      refine grow_rect (ptq cs s) _ (fun k i acc => impl_RectOf.l0 k s acc cs (cs.length : Int) i) (fun k i t acc => impl_RectOf.l1 k s acc (i : Int) (8 * (i : Int) + t) cs (cs.length : Int) (i : Int) ((rd_T25 cs i).f0) ((rd_T25 cs i).f1)) (fun k i acc hi => ?_) (fun i t acc hi ht hacc hn => ?_) (fun k i acc hi => ?_) ?_
      · show impl_RectOf.l0 (k + 1) _ _ _ _ _ = _
        rw [impl_RectOf.l0, if_pos (by omega), if_pos (by omega), if_pos (by omega), wrap_id (n := 8 * (i : Int)) (by omega) (by omega), Int.add_zero]
      · have hp := hq (cs.getD i z25) (by simp [List.getD, show i < cs.length by omega])
        rw [wrap_id (by omega) (by omega)] at hn
        refine Ev.step (f := fun k => (impl_onCircle.f k ((rd_T25 cs i).f0) ((rd_T25 cs i).f1) s s ((8 * i + t : Nat) : Int)).bind fun bt202 => (if acc.length < 8796093022208 then (impl_RectOf.l1 k s (acc ++ [(⟨bt202.1, bt202.2⟩ : Pt)]) (i : Int) (8 * (i : Int) + (t + 1)) cs (cs.length : Int) (i : Int) ((rd_T25 cs i).f0) ((rd_T25 cs i).f1)) else (none))) (fun k => by
          rw [impl_RectOf.l1, wrap_id (n := 8 * (i : Int)) (by omega) (by omega), wrap_id (n := 8 * (i : Int) + 8) (by omega) (by omega), if_pos (by omega), wrap_id (n := 8 * (i : Int) + t + 1) (by omega) (by omega), show 8 * (i : Int) + (t : Int) + 1 = 8 * (i : Int) + (t + 1) by omega, show 8 * (i : Int) + (t : Int) = ((8 * i + t : Nat) : Int) by omega]) ?_
        refine Ev.bind (implRound _ _ s s _ hp.1.1 hp.1.2 hp.2.1 hp.2.2 (by omega) (by omega)) ?_
        simp only [if_pos (show acc.length < 8796093022208 by omega)]
        exact hn
      · show impl_RectOf.l1 (k + 1) _ _ _ _ _ _ _ _ _ = _
        rw [impl_RectOf.l1, wrap_id (n := 8 * (i : Int)) (by omega) (by omega), wrap_id (n := 8 * (i : Int) + 8) (by omega) (by omega), if_neg (by omega)]
      · generalize four (ptq cs s) = l at hlen ⊢
        refine Ev.step (f := fun k => (impl_closedOf.f k l).bind fun bt220 => (some (bt220.1, bt220.2.1, bt220.2.2))) (fun k => by
          rw [impl_RectOf.l0, if_neg (by omega)]) ?_
        exact implEnd _ hlen
  have key : ∀ b, rectOk x y w h r = b → Ev (fun k => impl_RectOf.j0 k x y w h r (!b)) (rectOf x y w h r) := by
    intro b hb
    cases b
    · exact none_ hb
    · exact some_ hb
  unfold impl_RectOf.f
  refine Ev.bind (areFixed_ev _ (by simp)) ?_
  have e : [x, y, w, h, r].all fixed = (fixed x && (fixed y && (fixed w && (fixed h && fixed r)))) := by simp
  have no : ∀ n : Int, fixed n = false → inMax n = false := fun n hn => by
    unfold fixed at hn
    unfold inMax
    have := of_decide_eq_false hn
    exact decide_eq_false (by omega)
  have neg : ∀ n : Int, n < 0 → inMax n = false := fun n hn => decide_eq_false (by omega)
  rw [e]
  cases h1 : fixed x
  · simp only [Bool.false_and, Bool.false_eq_true, if_false]; exact key false (by simp [rectOk, h1])
  cases h2 : fixed y
  · simp only [Bool.false_and, Bool.true_and, Bool.false_eq_true, if_false]; exact key false (by simp [rectOk, h2])
  cases h3 : fixed w
  · simp only [Bool.false_and, Bool.true_and, Bool.false_eq_true, if_false]; exact key false (by simp [rectOk, no w h3])
  cases h4 : fixed h
  · simp only [Bool.false_and, Bool.true_and, Bool.false_eq_true, if_false]; exact key false (by simp [rectOk, no h h4])
  cases h5 : fixed r
  · simp only [Bool.true_and, Bool.false_eq_true, if_false]; exact key false (by simp [rectOk, no r h5])
  simp only [Bool.true_and, if_true]
  by_cases c3 : w < 0
  · simp only [if_pos c3]; exact key false (by simp [rectOk, neg w c3])
  by_cases c4 : h < 0
  · simp only [if_neg c3, if_pos c4]; exact key false (by simp [rectOk, neg h c4])
  simp only [if_neg c3, if_neg c4]
  have b3 := fixed_bd h3
  have b4 := fixed_bd h4
  have b5 := fixed_bd h5
  have i3 : inMax w = true := decide_eq_true (by omega)
  have i4 : inMax h = true := decide_eq_true (by omega)
  by_cases c5 : r < 0
  · rw [decide_eq_true c5]; exact key false (by simp [rectOk, neg r c5])
  · have i5 : inMax r = true := decide_eq_true (by omega)
    rw [decide_eq_false c5]; exact key true (by simp only [rectOk, h1, h2, i3, i4, i5, Bool.and_true])
theorem rectOf_len (x y w h r : Int) : (rectOf x y w h r).1.length ≤ 36 := by
  have := rect_len x y w h r
  unfold rectOf
  repeat' split
  · exact this
  · simp
  · simp
theorem markLine_ (l : List Pt) (b : Bool) (m : Nat) (hl : l.length ≤ 4194304) (hm : m ≤ 41943040) : Ev (fun k => laws_markLine.f k l b m) (((m + 2 * l.length : Nat) : Int), over (ptMark m) l l.length) := by
  unfold laws_markLine.f
  exact Ev.bind (f := fun _ t => some (t.1, t.2)) (markPts l m hl hm) (Ev.now _)
theorem heldLine_ (l : List Pt) (b : Bool) (m : Nat) (hl : l.length ≤ 4194304) (hm : m ≤ 41943040) : Ev (fun k => laws_heldLine.f k (over (ptMark m) l l.length) b m) ((m + 2 * l.length : Nat) : Int) := by
  unfold laws_heldLine.f
  refine Ev.bind (f := fun _ t => if t < 0 then some (-1) else some t) (heldPts l m hl hm) ?_
  simp only [if_neg (show ¬ ((m + 2 * l.length : Nat) : Int) < 0 by omega)]
  exact Ev.now _
theorem FnExactRectOf : laws_FnExactRectOf.Pure := by
  intro x y w h q _ _ _ _ _
  refine Ev.rounds ?_
  unfold laws_FnExactRectOf.f
  obtain ⟨r, b, o, hR⟩ : ∃ r b o, rectOf x y w h q = (r, b, o) := ⟨_, _, _, rfl⟩
  have hr : r.length ≤ 36 := by have := rectOf_len x y w h q; rw [hR] at this; exact this
  have hs := specRectOf x y w h q
  have hi := implRectOf x y w h q
  rw [hR] at hs hi
  refine Ev.bind hs (Ev.bind hi (Ev.bind (eqLine r b (by omega)) ?_))
  simp only [if_true, bne_self_eq_false]
  have hj1 : Ev (fun k => laws_FnExactRectOf.j1 k ((1 + 2 * r.length : Nat) : Int) false (over (ptMark 1) r r.length) b) true := by
    refine Ev.step (f := fun k => (laws_heldLine.f k (over (ptMark 1) r r.length) b 1).bind fun t247 => (if t247 < 0 then (some false) else (if t247 = ((1 + 2 * r.length : Nat) : Int) then (some true) else (some false)))) (fun k => by rw [laws_FnExactRectOf.j1, if_neg (by simp)]) ?_
    refine Ev.bind (heldLine_ r b 1 (by omega) (by omega)) ?_
    simp only [if_neg (show ¬ ((1 + 2 * r.length : Nat) : Int) < 0 by omega), if_true]
    exact Ev.now _
  apply Ev.step
  · intro k
    rw [laws_FnExactRectOf.j0, if_neg (by simp)]
  refine Ev.bind (markLine_ r b 1 (by omega) (by omega)) (Ev.bind (heldLine_ r b 1 (by omega) (by omega)) ?_)
  simp only [if_neg (show ¬ ((1 + 2 * r.length : Nat) : Int) < 0 by omega), if_true]
  refine Ev.bind hi (Ev.bind (eqLine r b (by omega)) ?_)
  simp only [if_true, bne_self_eq_false]
  exact hj1

end Go.Proofs.Ytdbgnoolokfafaa.Pure
