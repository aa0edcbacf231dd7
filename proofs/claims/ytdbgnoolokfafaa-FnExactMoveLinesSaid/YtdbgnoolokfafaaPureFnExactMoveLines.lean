/- Merged: EqPts, FixM, FixPts, Fixed, GoodAff, In, Lines, MarkLines, MarkPts, Move, Pts, PureFnExactMoveLines. -/
import Derived.Test.YtdbgnoolokfafaaHFnExactMoveLinesx
import Derived.Test.YtdbgnoolokfafaaPlain
import Derived.Test.YtdbgnoolokfafaaHFnExactMoveLinesx
import Derived.Test.YtdbgnoolokfafaaWide
import Derived.Test.YtdbgnoolokfafaaMarks
import Derived.Test.YtdbgnoolokfafaaSteps
import Derived.Test.YtdbgnoolokfafaaFor
/- Bounds asked by both sides. -/
namespace Go.Proofs.Ytdbgnoolokfafaa.HFnExactMoveLines
open Go.RowKit Go.Proofs.YtdbgnoolokfafaaW.PrintWords Go.Proofs.YtdbgnoolokfafaaW.PrintLast Go.Proofs.Ytdbgnoolokfafaa.Plain
set_option linter.unusedSimpArgs false
set_option linter.unusedVariables false

theorem in_ (a b c : Int) : spec_l1In.f a b c = some (decide (b ≤ a ∧ a ≤ c)) := by
  unfold spec_l1In.f
  by_cases h : a ≥ b
  · rw [if_pos h]; simp [show b ≤ a from h]
  · rw [if_neg h]; simp [show ¬ b ≤ a from h]
theorem within_ (a b c : Int) : impl_within.f a b c = some (decide (b ≤ a ∧ a ≤ c)) := in_ a b c

end Go.Proofs.Ytdbgnoolokfafaa.HFnExactMoveLines

/- Fixed numbers: products and quotients, by both sides. -/
namespace Go.Proofs.Ytdbgnoolokfafaa.HFnExactMoveLines
open Go.RowKit Go.Proofs.Ytdbgnoolokfafaa.HFnExactMoveLines Go.Proofs.YtdbgnoolokfafaaW.PrintWords Go.Proofs.YtdbgnoolokfafaaW.PrintLast Go.Proofs.Ytdbgnoolokfafaa.Plain
set_option linter.unusedSimpArgs false
set_option linter.unusedVariables false

theorem times {a b : Int} (ha0 : 0 ≤ a) (ha1 : a < 18446744073709551616) (hb0 : 0 ≤ b) (hb1 : b < 18446744073709551616) : spec_l1Times.f a b = some (wide (a * b)) := by
  unfold spec_l1Times.f
  simp only [tdiv_w, tmod_w, tdiv_nn ha0, tmod_nn ha0, tdiv_nn hb0, tmod_nn hb0]
  rw [u64_id (n := a / 4294967296) (by omega) (by omega), u64_id (n := b / 4294967296) (by omega) (by omega)]
  obtain ⟨h, h1, h2, h3, h4⟩ := wide_mul ha0 ha1 hb0 hb1 rfl rfl rfl rfl
  generalize a / 4294967296 * (b / 4294967296) = A at *
  generalize a / 4294967296 * (b % 4294967296) = B at *
  generalize a % 4294967296 * (b / 4294967296) = C at *
  generalize a % 4294967296 * (b % 4294967296) = D at *
  rw [h]
  rw [u64_id (n := A) (by omega) (by omega), u64_id (n := B) (by omega) (by omega), u64_id (n := C) (by omega) (by omega), u64_id (n := D) (by omega) (by omega)]
  simp only [u64w]
  refine congrArg some ?_
  have e : ∀ m : Int, m * 4294967296 % 18446744073709551616 = m % 4294967296 * 4294967296 := fun m => by omega
  simp only [e]
  rw [or32 (by omega) (by omega) (by omega) (by omega)]
  exact wide_eq (by omega) (by omega) (by omega)

theorem plus {v b : Int} (h0 : 0 ≤ v) (hb0 : 0 ≤ b) (hb1 : b < 18446744073709551616) (h1 : v + b < 340282366920938463463374607431768211456) : spec_l1Plus.f (wide v).1 (wide v).2 b = some (wide (v + b)) := by
  unfold spec_l1Plus.f wide
  simp only [u64w]
  split
  · refine congrArg some (wide_eq (by omega) (by omega) (by omega))
  · refine congrArg some (wide_eq (by omega) (by omega) (by omega))
theorem sum {v : Int} (h0 : 0 ≤ v) (h1 : v + v < 340282366920938463463374607431768211456) : spec_l1Sum.f (wide v).1 (wide v).2 (wide v).1 (wide v).2 = some (wide (v + v)) := by
  unfold spec_l1Sum.f
  rw [plus h0 (by unfold wide; omega) (by unfold wide; omega) (by unfold wide; omega)]
  simp only [Option.bind_some, u64w]
  unfold wide
  refine congrArg some (wide_eq (by omega) (by omega) (by omega))
theorem less {v u : Int} : spec_l1Less.f (wide v).1 (wide v).2 (wide u).1 (wide u).2 = some (decide (v < u)) := by
  unfold spec_l1Less.f wide
  split
  · rw [decide_eq_true (by omega)]
  · split
    · refine congrArg some (decide_eq_decide.2 ?_); omega
    · rw [decide_eq_false (by omega)]

/-- The greatest q, most at most, with q times b at most v. -/
theorem over_loop (v b : Int) (hb0 : 0 ≤ b) (hb1 : b < 18446744073709551616) : ∀ (d : Nat) (lo hi most : Int), hi - lo = d → 0 ≤ lo → lo ≤ hi → hi ≤ most → most ≤ 4398046511104 → lo * b ≤ v → (hi < most → v < (hi + 1) * b) →
    ∃ r, Ev (fun k => spec_l1Over.l0 k b lo hi (wide v).1 (wide v).2) r ∧ 0 ≤ r ∧ r ≤ most ∧ r * b ≤ v ∧ (r < most → v < (r + 1) * b) := by
  intro d
  induction d using Nat.strongRecOn with
  | _ d ih =>
    intro lo hi most hd h0 h1 h2 h3 hl hh
    by_cases hlt : lo < hi
    · have em : IntKind.u64.wrap (lo + (IntKind.u64.wrap (Int.tdiv (IntKind.u64.wrap ((IntKind.u64.wrap (hi - lo)) + 1)) 2))) = (lo + hi + 1) / 2 := by
        rw [tdiv_w]; simp only [u64w]; omega
      have hm : 0 ≤ (lo + hi + 1) / 2 ∧ (lo + hi + 1) / 2 ≤ most ∧ lo < (lo + hi + 1) / 2 ∧ (lo + hi + 1) / 2 ≤ hi := by omega
      generalize hM : (lo + hi + 1) / 2 = m at em hm
      by_cases hc : v < m * b
      · have e1 : IntKind.u64.wrap (m - 1) = m - 1 := u64_id (by omega) (by omega)
        obtain ⟨r, hr, g⟩ := ih (m - 1 - lo).toNat (by omega) lo (m - 1) most (by omega) (by omega) (by omega) (by omega) h3 hl (fun _ => by rw [show m - 1 + 1 = m by omega]; exact hc)
        refine ⟨r, Ev.step (f := fun k => spec_l1Over.l0 k b lo (m - 1) (wide v).1 (wide v).2) (fun k => ?_) hr, g⟩
        rw [spec_l1Over.l0, if_pos hlt, em, times (by omega) (by omega) hb0 hb1, Option.bind_some, less, Option.bind_some, if_pos (decide_eq_true hc), e1]
      · obtain ⟨r, hr, g⟩ := ih (hi - m).toNat (by omega) m hi most (by omega) (by omega) (by omega) (by omega) h3 (by omega) hh
        refine ⟨r, Ev.step (f := fun k => spec_l1Over.l0 k b m hi (wide v).1 (wide v).2) (fun k => ?_) hr, g⟩
        rw [spec_l1Over.l0, if_pos hlt, em, times (by omega) (by omega) hb0 hb1, Option.bind_some, less, Option.bind_some, if_neg (by simpa using hc)]
    · have : lo = hi := by omega
      subst this
      exact ⟨lo, ev_some fun k => by rw [spec_l1Over.l0, if_neg hlt], h0, h2, hl, hh⟩

/-- sign, size and divisor: the nearest, cut. -/
def nearOf (neg : Bool) (v b : Int) : Int := max (-1099511627776) (min 1099511627776 (if neg = true then -((2 * v + b - 1) / (2 * b)) else (2 * v + b) / (2 * b)))
theorem cut_spec (n : Int) : spec_l1Cut.f n = some (max (-1099511627776) (min 1099511627776 n)) := by
  unfold spec_l1Cut.f
  split
  · exact congrArg some (by omega)
  · split
    · exact congrArg some (by omega)
    · exact congrArg some (by omega)
theorem nearOf_ev (neg : Bool) {v b : Int} (hv0 : 0 ≤ v) (hv1 : v ≤ 1208925819614629174706176) (hb0 : 0 < b) (hb1 : b ≤ 1099511627776) : Ev (fun k => spec_l1Near.f k neg (wide v).1 (wide v).2 b) (nearOf neg v b) := by
  have hv : (neg = true ∧ 2 * v + b - 1 = 2 * v + b - 1) ∨ neg = false := by cases neg <;> simp
  obtain ⟨t, ht, ht0, ht1, hnear⟩ : ∃ t, t = (if neg = true then 2 * v + b - 1 else 2 * v + b) ∧ 0 ≤ t ∧ t ≤ 4835703278458516698824704 ∧ nearOf neg v b = max (-1099511627776) (min 1099511627776 (if neg = true then -(t / (2 * b)) else t / (2 * b))) := by
    refine ⟨_, rfl, ?_, ?_, ?_⟩
    · cases neg <;> simp <;> omega
    · cases neg <;> simp <;> omega
    · cases neg <;> simp [nearOf]
  obtain ⟨r, hr, hr0, hr1, hr2, hr3⟩ := over_loop t (2 * b) (by omega) (by omega) 4398046511104 0 4398046511104 4398046511104 (by omega) (by omega) (by omega) (by omega) (by omega) (by omega) (by intro h; omega)
  have hq : r = min 4398046511104 (t / (2 * b)) := by
    by_cases hm : r < 4398046511104
    · rw [div_between (by omega) hr2 (hr3 hm)]; omega
    · have : r = 4398046511104 := by omega
      subst this
      have := Int.le_ediv_of_mul_le (by omega : 0 < 2 * b) hr2
      omega
  refine Ev.step (f := fun k => (spec_l1Over.l0 k (2 * b) 0 4398046511104 (wide t).1 (wide t).2).bind fun t127 => (if neg = true then ((spec_l1Cut.f (wrap64 (-(wrap64 (t127))))).bind fun t128 => (some t128)) else ((spec_l1Cut.f (wrap64 (t127))).bind fun t129 => (some t129)))) (fun k => ?_) (Ev.bind hr (ev_const fun k => ?_))
  · have e2 : IntKind.u64.wrap (2 * b) = 2 * b := u64_id (by omega) (by omega)
    unfold spec_l1Near.f
    rw [sum hv0 (by omega), Option.bind_some, plus (by omega) (by omega) (by omega) (by omega), Option.bind_some]
    cases neg with
    | false =>
      have : t = v + v + b := by simp at ht; omega
      rw [this, if_neg (by simp), spec_l1Near.j0, e2]
      rfl
    | true =>
      have ht' : t = v + v + b - 1 := by simp at ht; omega
      have hs : IntKind.u64.wrap ((wide (v + v + b)).2 - 1) = (wide t).2 := by rw [u64w, ht']; unfold wide; simp only; omega
      rw [if_pos rfl, hs]
      split
      · rename_i h0
        have hh : IntKind.u64.wrap ((wide (v + v + b)).1 - 1) = (wide t).1 := by
          rw [u64w, ht']; unfold wide at h0 ⊢; simp only at h0 ⊢; omega
        rw [hh, spec_l1Near.j0, e2]
        rfl
      · rename_i h0
        have hh : (wide (v + v + b)).1 = (wide t).1 := by
          rw [ht']; unfold wide at h0 ⊢; simp only at h0 ⊢; omega
        rw [hh, spec_l1Near.j0, e2]
        rfl
  · show (if neg = true then _ else _) = some (nearOf neg v b)
    have w1 : wrap64 r = r := wrap_id (by omega) (by omega)
    have w2 : wrap64 (-r) = -r := wrap_id (by omega) (by omega)
    have hq0 : 0 ≤ t / (2 * b) := Int.ediv_nonneg ht0 (by omega)
    rw [hnear]
    cases neg with
    | false =>
      rw [if_neg (by simp), if_neg (by simp), w1, cut_spec, Option.bind_some]
      exact congrArg some (by omega)
    | true =>
      rw [if_pos rfl, if_pos rfl, w1, w2, cut_spec, Option.bind_some]
      exact congrArg some (by omega)

theorem bne_signs (a b : Int) : ((decide (a < 0)) != (decide (b < 0))) = decide ((a < 0) ≠ (b < 0)) := by
  by_cases h : a < 0 <;> by_cases h2 : b < 0 <;> simp [h, h2]
def fixed (a : Int) : Bool := decide (-1099511627776 ≤ a ∧ a ≤ 1099511627776)
def fixMul (a b : Int) : Int := if (fixed a && fixed b) = true then max (-1099511627776) (min 1099511627776 ((a * b + 32768) / 65536)) else 0
def fixDiv (a b : Int) : Int := if (fixed a && fixed b && (b != 0)) = true then (if b < 0 then max (-1099511627776) (min 1099511627776 ((2 * (-a) * 65536 + (-b)) / (2 * (-b)))) else max (-1099511627776) (min 1099511627776 ((2 * a * 65536 + b) / (2 * b)))) else 0

theorem abs_spec {a : Int} (h0 : -1099511627776 ≤ a) (h1 : a ≤ 1099511627776) : spec_l1Abs.f a = some (if a < 0 then -a else a) := by
  unfold spec_l1Abs.f
  split
  · rw [wrap_id (by omega) (by omega)]
  · rfl
theorem abs_mul (a b : Int) : (if a < 0 then -a else a) * (if b < 0 then -b else b) = if ((decide (a < 0)) != (decide (b < 0))) = true then -(a * b) else a * b := by
  by_cases h : a < 0 <;> by_cases h2 : b < 0 <;> simp [h, h2, Int.neg_mul, Int.mul_neg]
/-- A quotient of what is below 0: halves go up, too. -/
theorem neg_half (p b : Int) (hb : 0 < b) : -((2 * p + b - 1) / (2 * b)) = (2 * (-p) + b) / (2 * b) := by
  have h1 := Int.mul_ediv_add_emod (2 * p + b - 1) (2 * b)
  have h2 := Int.emod_nonneg (2 * p + b - 1) (by omega : 2 * b ≠ 0)
  have h3 := Int.emod_lt_of_pos (2 * p + b - 1) (by omega : 0 < 2 * b)
  generalize (2 * p + b - 1) / (2 * b) = q at *
  generalize (2 * p + b - 1) % (2 * b) = r at *
  refine (div_between (by omega) ?_ ?_).symm
  · rw [Int.neg_mul, Int.mul_comm q]; omega
  · rw [show -q + 1 = -(q - 1) by omega, Int.neg_mul, Int.sub_mul, Int.mul_comm q]; omega
theorem size_le {a b : Int} (h0 : -1099511627776 ≤ a) (h1 : a ≤ 1099511627776) (h2 : -1099511627776 ≤ b) (h3 : b ≤ 1099511627776) : 0 ≤ (if a < 0 then -a else a) * (if b < 0 then -b else b) ∧ (if a < 0 then -a else a) * (if b < 0 then -b else b) ≤ 1208925819614629174706176 := by
  have ha : 0 ≤ (if a < 0 then -a else a) ∧ (if a < 0 then -a else a) ≤ 1099511627776 := by split <;> omega
  have hb : 0 ≤ (if b < 0 then -b else b) ∧ (if b < 0 then -b else b) ≤ 1099511627776 := by split <;> omega
  refine ⟨Int.mul_nonneg ha.1 hb.1, ?_⟩
  have := Int.mul_le_mul ha.2 hb.2 hb.1 (by omega)
  simpa using this
theorem specFixMul (a b : Int) : Ev (fun k => spec_FixMul.f k a b) (fixMul a b) := by
  unfold spec_FixMul.f spec_GoodFixed.f
  simp only [in_, Option.bind_some, decide_eq_true_eq]
  unfold fixMul fixed
  by_cases ha : -1099511627776 ≤ a ∧ a ≤ 1099511627776
  · simp only [if_pos ha]
    by_cases hb : -1099511627776 ≤ b ∧ b ≤ 1099511627776
    · simp only [decide_eq_true ha, decide_eq_true hb]
      refine Ev.step (f := fun k => (spec_l1Near.f k ((decide (a < 0)) != (decide (b < 0))) (wide ((if a < 0 then -a else a) * (if b < 0 then -b else b))).1 (wide ((if a < 0 then -a else a) * (if b < 0 then -b else b))).2 65536).bind fun t136 => (some t136)) (fun k => ?_) ?_
      · have w1 : ∀ x : Int, -1099511627776 ≤ x → x ≤ 1099511627776 → IntKind.u64.wrap (if x < 0 then -x else x) = if x < 0 then -x else x := fun x h0 h1 => u64_id (by split <;> omega) (by split <;> omega)
        rw [spec_FixMul.j0, if_neg (by simp), abs_spec ha.1 ha.2, Option.bind_some, abs_spec hb.1 hb.2, Option.bind_some, w1 a ha.1 ha.2, w1 b hb.1 hb.2, times (by split <;> omega) (by split <;> omega) (by split <;> omega) (by split <;> omega), Option.bind_some]
      · have hs := size_le ha.1 ha.2 hb.1 hb.2
        refine Ev.bind (nearOf_ev _ hs.1 hs.2 (by omega) (by omega)) (ev_const fun k => ?_)
        refine congrArg some ?_
        rw [show (true && true) = true from rfl, if_pos rfl]
        unfold nearOf
        rw [abs_mul]
        by_cases hn : ((decide (a < 0)) != (decide (b < 0))) = true
        · rw [if_pos hn, if_pos hn, neg_half _ _ (by omega), Int.neg_neg]; congr 2; omega
        · rw [if_neg hn, if_neg hn]; congr 2; omega
    · simp only [decide_eq_false hb]
      refine ev_some fun k => ?_
      rw [spec_FixMul.j0, if_pos (by simp), if_neg (by simp)]
  · simp only [if_neg ha, decide_eq_false ha]
    refine ev_some fun k => ?_
    rw [spec_FixMul.j0, if_pos rfl, if_neg (by simp)]
theorem areFixed_two (a b : Int) (k : Nat) : impl_areFixed.f (k + 3) [a, b] = some (fixed a && fixed b) := by
  unfold impl_areFixed.f impl_areFixed.l0 impl_areFixed.l0 impl_areFixed.l0 impl_GoodFixed.f fixed
  simp only [within_, Option.bind_some, decide_eq_true_eq]
  have w1 : wrap64 (0 + 1) = 1 := wrap_id (by omega) (by omega)
  have w2 : wrap64 (1 + 1) = 2 := wrap_id (by omega) (by omega)
  have r0 : rd [a, b] 0 = a := rfl
  have r1 : rd [a, b] 1 = b := rfl
  simp only [w1, w2, r0, r1, List.length_cons, List.length_nil]
  by_cases ha : -1099511627776 ≤ a ∧ a ≤ 1099511627776 <;> by_cases hb : -1099511627776 ≤ b ∧ b ≤ 1099511627776 <;> simp [ha, hb]
theorem down_ {a b : Int} (hb : 0 < b) (h0 : -9223372036854775807 ≤ a) (h1 : a ≤ 9223372036854775807) : impl_down.f a b = some (a / b) := by
  unfold impl_down.f
  have e := down_num a hb
  have s := tdiv_small hb h0 h1
  rw [if_neg (by omega), wrap_id (n := Int.tdiv a b) (by omega) (by omega)]
  split
  · rename_i h
    rw [if_pos h] at e
    rw [wrap_id (by omega) (by omega), e]
  · rename_i h
    rw [if_neg h] at e
    rw [e]
theorem cut_ (n : Int) : impl_cut.f n (-1099511627776) 1099511627776 = some (max (-1099511627776) (min 1099511627776 n)) := by
  unfold impl_cut.f mx mn
  refine congrArg some ?_
  split <;> split <;> omega
theorem mx_abs {x : Int} (h0 : -1099511627776 ≤ x) (h1 : x ≤ 1099511627776) : mx x (wrap64 (-x)) = if x < 0 then -x else x := by
  rw [wrap_id (by omega) (by omega)]
  unfold mx
  split <;> split <;> omega
theorem mul64 {x y : Int} (hx0 : 0 ≤ x) (hx : x < 18446744073709551616) (hy0 : 0 ≤ y) (hy : y < 18446744073709551616) : bits_Mul64.f x y = some (wide (x * y)) := by
  unfold bits_Mul64.f wide
  have h := mul64_arith x y hx0 hx hy0 hy
  rw [and_low32 x hx0 hx, and_low32 y hy0 hy]
  rw [show ∀ z : Int, Go.bits .and .u64 (IntKind.u64.wrap z) 4294967295 = IntKind.u64.wrap z % 4294967296 from fun z => and_low32 _ (by rw [u64w]; omega) (by rw [u64w]; omega)]
  simp only [u64w] at h ⊢
  rw [h]
theorem big_mul {p : Int} (neg : Bool) (hp0 : 0 ≤ p) (hp1 : p ≤ 1208925819614629174706176) (k : Nat) :
    impl_FixMul.j1 (k + 1) neg (wide p).1 (wide p).2 (if neg = true then 32767 else 32768) = some (max (-1099511627776) (min 1099511627776 (if neg = true then (-p + 32768) / 65536 else (p + 32768) / 65536))) := by
  obtain ⟨m, hm, hm0, hm1⟩ : ∃ m : Int, m = (if neg = true then 32767 else 32768) ∧ 32767 ≤ m ∧ m ≤ 32768 := ⟨_, rfl, by split <;> omega, by split <;> omega⟩
  rw [← hm, impl_FixMul.j1]
  unfold bits_Add64.f wide
  rw [if_pos (by simp only; omega), Option.bind_some]
  simp only [u64w]
  have e1 : (p / 18446744073709551616 + (p % 18446744073709551616 + m + 0) / 18446744073709551616) % 18446744073709551616 = (p + m) / 18446744073709551616 := by omega
  have e2 : (p % 18446744073709551616 + m + 0) % 18446744073709551616 = (p + m) % 18446744073709551616 := by omega
  rw [e1, e2]
  obtain ⟨t, ht⟩ : ∃ t, t = p + m := ⟨_, rfl⟩
  rw [← ht]
  by_cases hc : t / 18446744073709551616 / 65536 = 0
  · rw [if_pos hc]
    have e3 : t / 18446744073709551616 * 281474976710656 % 18446744073709551616 = t / 18446744073709551616 * 281474976710656 := by omega
    rw [e3, or48 (by omega) (by omega) (by omega) (by omega)]
    have e4 : t / 18446744073709551616 * 281474976710656 + t % 18446744073709551616 / 65536 = t / 65536 := by omega
    rw [e4]
    have e5 : wrap64 (mn (t / 65536) 1099511627776) = min 1099511627776 (t / 65536) := by
      unfold mn
      split
      · rw [wrap_id (by omega) (by omega)]; omega
      · rw [wrap_id (by omega) (by omega)]; omega
    rw [e5]
    cases neg with
    | false =>
      rw [if_neg (by simp)] at hm ⊢
      rw [if_neg (by simp)]
      exact congrArg some (by omega)
    | true =>
      rw [if_pos rfl] at hm ⊢
      rw [if_pos rfl, wrap_id (by omega) (by omega)]
      exact congrArg some (by omega)
  · rw [if_neg hc]
    cases neg with
    | false =>
      rw [if_neg (by simp)] at hm ⊢
      rw [if_neg (by simp)]
      exact congrArg some (by omega)
    | true =>
      rw [if_pos rfl] at hm ⊢
      rw [if_pos rfl]
      exact congrArg some (by omega)
theorem implFixMul (a b : Int) : Ev (fun k => impl_FixMul.f k a b) (fixMul a b) := by
  refine ⟨3, fun k hk => ?_⟩
  obtain ⟨k, rfl⟩ : ∃ m, k = m + 3 := ⟨k - 3, by omega⟩
  show impl_FixMul.f (k + 3) a b = _
  unfold impl_FixMul.f fixMul
  rw [areFixed_two, Option.bind_some]
  cases hf : (fixed a && fixed b) with
  | false => rw [if_neg (by simp), if_neg (by simp)]
  | true =>
    have hf1 : (-1099511627776 ≤ a ∧ a ≤ 1099511627776) ∧ -1099511627776 ≤ b ∧ b ≤ 1099511627776 := by simpa [fixed] using hf
    have hbig : impl_FixMul.j0 (k + 3) a b false = some (max (-1099511627776) (min 1099511627776 ((a * b + 32768) / 65536))) := by
      have hs := size_le hf1.1.1 hf1.1.2 hf1.2.1 hf1.2.2
      rw [impl_FixMul.j0, if_neg (by simp), mx_abs hf1.1.1 hf1.1.2, mx_abs hf1.2.1 hf1.2.2]
      rw [u64_id (n := if a < 0 then -a else a) (by split <;> omega) (by split <;> omega), u64_id (n := if b < 0 then -b else b) (by split <;> omega) (by split <;> omega), mul64 (by split <;> omega) (by split <;> omega) (by split <;> omega) (by split <;> omega), Option.bind_some]
      have hb := big_mul ((decide (a < 0)) != (decide (b < 0))) hs.1 hs.2 (k + 1)
      rw [abs_mul] at hb ⊢
      cases hn : ((decide (a < 0)) != (decide (b < 0))) with
      | false =>
        rw [hn] at hb
        simp only [Bool.false_eq_true, if_false] at hb ⊢
        exact hb
      | true =>
        rw [hn] at hb
        simp only [if_true, Int.neg_neg] at hb ⊢
        exact hb
    rw [if_pos rfl, if_pos rfl]
    simp only [within_, Option.bind_some, decide_eq_true_eq]
    split
    · rename_i h1
      by_cases h2 : -1073741824 ≤ b ∧ b ≤ 1073741824
      · have hp : -1152921504606846976 ≤ a * b ∧ a * b ≤ 1152921504606846976 := by
          have h := size_le (a := a) (b := b) (by omega) (by omega) (by omega) (by omega)
          have ha : 0 ≤ (if a < 0 then -a else a) ∧ (if a < 0 then -a else a) ≤ 1073741824 := by split <;> omega
          have hb : 0 ≤ (if b < 0 then -b else b) ∧ (if b < 0 then -b else b) ≤ 1073741824 := by split <;> omega
          have hm := Int.mul_le_mul ha.2 hb.2 hb.1 (by omega)
          rw [abs_mul] at hm h
          split at hm <;> rename_i hn
          · rw [if_pos hn] at h; omega
          · rw [if_neg hn] at h; omega
        rw [decide_eq_true h2, impl_FixMul.j0, if_pos rfl, wrap_id (n := a * b) (by omega) (by omega), wrap_id (n := a * b + 32768) (by omega) (by omega), down_ (by omega) (by omega) (by omega), Option.bind_some, cut_, Option.bind_some]
      · rw [decide_eq_false h2]; exact hbig
    · exact hbig

end Go.Proofs.Ytdbgnoolokfafaa.HFnExactMoveLines

/- Numbers that are fixed, by the program. -/
namespace Go.Proofs.Ytdbgnoolokfafaa.HFnExactMoveLines
open Go.RowKit Go.Proofs.YtdbgnoolokfafaaW.PrintWords Go.Proofs.YtdbgnoolokfafaaW.PrintLast Go.Proofs.Ytdbgnoolokfafaa.Plain
set_option linter.unusedSimpArgs false
set_option linter.unusedVariables false

theorem areFixed_ev (l : List Int) (hl : l.length ≤ 1048576) : Ev (fun k => impl_areFixed.f k l) (l.all fixed) := by
  unfold impl_areFixed.f
  exact all_ev fixed l 0 (by omega) (fun k i => impl_areFixed.l0 k l l.length i) (fun k i hi => by
    show impl_areFixed.l0 (k + 1) l _ i = _
    rw [impl_areFixed.l0, if_pos (by omega), if_pos (by omega), if_pos (by omega)]
    unfold impl_GoodFixed.f
    simp only [within_, Option.bind_some]
    rfl) (fun k => by
    show impl_areFixed.l0 (k + 1) _ _ _ = _
    rw [impl_areFixed.l0, if_neg (by omega)])
theorem fixMul_bd (a b : Int) : -1099511627776 ≤ fixMul a b ∧ fixMul a b ≤ 1099511627776 := by
  unfold fixMul
  split <;> omega

end Go.Proofs.Ytdbgnoolokfafaa.HFnExactMoveLines

/- Affine maps that are good, by both sides. -/
namespace Go.Proofs.Ytdbgnoolokfafaa.HFnExactMoveLines
open Go.RowKit Go.Proofs.YtdbgnoolokfafaaW.PrintWords Go.Proofs.YtdbgnoolokfafaaW.PrintLast Go.Proofs.Ytdbgnoolokfafaa.Plain
set_option linter.unusedSimpArgs false
set_option linter.unusedVariables false

def goodAffine (a b c d e f : Int) : Bool := [a, b, c, d, e, f].all fun x => decide (-4294967296 ≤ x ∧ x ≤ 4294967296)
theorem specGoodAffine (a b c d e f : Int) : Ev (fun k => spec_GoodAffine.f k a b c d e f) (goodAffine a b c d e f) := by
  have h := all_ev (fun x : Int => decide (-4294967296 ≤ x ∧ x ≤ 4294967296)) [a, b, c, d, e, f] 0 (by simp) (fun k i => spec_GoodAffine.l0 k [a, b, c, d, e, f] ([a, b, c, d, e, f].length : Int) i) (fun k i hi => by
    show spec_GoodAffine.l0 (k + 1) [a, b, c, d, e, f] _ i = _
    rw [spec_GoodAffine.l0, if_pos (by omega), if_pos (by omega), if_pos (by omega), in_]; rfl) (fun k => by
    show spec_GoodAffine.l0 (k + 1) _ _ _ = _
    rw [spec_GoodAffine.l0, if_neg (by omega)])
  exact h
theorem implGoodAffine (a b c d e f : Int) : Ev (fun k => impl_GoodAffine.f k a b c d e f) (goodAffine a b c d e f) := by
  have h := all_ev (fun x : Int => decide (-4294967296 ≤ x ∧ x ≤ 4294967296)) [a, b, c, d, e, f] 0 (by simp) (fun k i => impl_GoodAffine.l0 k [a, b, c, d, e, f] ([a, b, c, d, e, f].length : Int) i) (fun k i hi => by
    show impl_GoodAffine.l0 (k + 1) [a, b, c, d, e, f] _ i = _
    rw [impl_GoodAffine.l0, if_pos (by omega), if_pos (by omega), if_pos (by omega), within_]; rfl) (fun k => by
    show impl_GoodAffine.l0 (k + 1) _ _ _ = _
    rw [impl_GoodAffine.l0, if_neg (by omega)])
  exact h

end Go.Proofs.Ytdbgnoolokfafaa.HFnExactMoveLines

/- Points are marked from any number on, and hold their marks; lists of points that are fixed. -/
namespace Go.Proofs.Ytdbgnoolokfafaa.HFnExactMoveLines
open Go.RowKit Go.Proofs.YtdbgnoolokfafaaW.PrintWords Go.Proofs.YtdbgnoolokfafaaW.PrintLast Go.Proofs.Ytdbgnoolokfafaa.Plain
set_option linter.unusedSimpArgs false
set_option linter.unusedVariables false

/-- The i-th mark. -/
def ptMark (m i : Nat) : S25 := ⟨((m + 2 * i : Nat) : Int), ((m + 2 * i + 1 : Nat) : Int)⟩
theorem w1 (n : Nat) (h : n ≤ 4611686018427387904) : wrap64 ((n : Int) + 1) = ((n + 1 : Nat) : Int) := by rw [wrap_id (by omega) (by omega)]; rfl
theorem markPts (l : List S25) (m : Nat) (hl : l.length ≤ 4194304) (hm : m ≤ 41943040) : Ev (fun k => laws_markPointS.f k l m) (((m + 2 * l.length : Nat) : Int), over (ptMark m) l l.length) := by
  unfold laws_markPointS.f
  refine mark_ev 2 m (ptMark m) l (by omega) (by omega) (fun k ys m i => laws_markPointS.l0 k ys m i) (fun k i ys hi hy => ?_) (fun k ys q hy => ?_)
  · show laws_markPointS.l0 (k + 1) ys _ i = _
    rw [laws_markPointS.l0, if_pos (by omega), if_pos (by omega)]
    simp only [Option.bind_some, rd_T25, Int.toNat_natCast, set_set_, w1 (m + 2 * i) (by omega), w1 (m + 2 * i + 1) (by omega), getD_set_ ys i (by omega)]
    rfl
  · show laws_markPointS.l0 (k + 1) ys _ _ = _
    rw [laws_markPointS.l0, if_neg (by omega)]
theorem heldPts (l : List S25) (m : Nat) (hl : l.length ≤ 4194304) (hm : m ≤ 41943040) : Ev (fun k => laws_heldPointS.f k (over (ptMark m) l l.length) m) ((m + 2 * l.length : Nat) : Int) := by
  unfold laws_heldPointS.f
  have ho := over_len (ptMark m) l l.length (Nat.le_refl _)
  refine held_ev 2 m l.length (by omega) (by omega) (fun k q i => laws_heldPointS.l0 k (over (ptMark m) l l.length) q i) (fun k i hi => ?_) (fun k q => ?_)
  · show laws_heldPointS.l0 (k + 1) _ _ i = _
    have hg : rd_T25 (over (ptMark m) l l.length) i = ptMark m i := over_get (ptMark m) l l.length i hi _
    rw [laws_heldPointS.l0, if_pos (by omega), if_pos (by omega), hg]
    simp only [w1 (m + 2 * i) (by omega), w1 (m + 2 * i + 1) (by omega)]
    simp only [ptMark, if_true]
    rfl
  · show laws_heldPointS.l0 (k + 1) _ _ _ = _
    rw [laws_heldPointS.l0, if_neg (by omega)]

end Go.Proofs.Ytdbgnoolokfafaa.HFnExactMoveLines

/- Points of lines, counted. -/
namespace Go.Proofs.Ytdbgnoolokfafaa.HFnExactMoveLines
open Go.RowKit Go.Proofs.YtdbgnoolokfafaaW.PrintWords Go.Proofs.YtdbgnoolokfafaaW.PrintLast Go.Proofs.Ytdbgnoolokfafaa.Plain
set_option linter.unusedSimpArgs false
set_option linter.unusedVariables false

/-- How many points a line has. -/
def pts (l : List S83) (i : Nat) : Nat := (l.getD i z83).f0.length
theorem sum_same {n m : Nat → Nat} {j : Nat} (h : ∀ i, i < j → n i = m i) : sumTo n j = sumTo m j := by
  induction j with
  | zero => rfl
  | succ j ih => simp only [sumTo]; rw [ih (fun i hi => h i (by omega)), h j (by omega)]
theorem le_sum (n : Nat → Nat) {i j : Nat} (h : i < j) : n i ≤ sumTo n j := Nat.le_trans (by show n i ≤ sumTo n i + n i; omega) (sumTo_le n (show i + 1 ≤ j from h))

end Go.Proofs.Ytdbgnoolokfafaa.HFnExactMoveLines

/- Points and a line, compared. -/
namespace Go.Proofs.Ytdbgnoolokfafaa.HFnExactMoveLines
open Go.RowKit Go.Proofs.YtdbgnoolokfafaaW.PrintWords Go.Proofs.YtdbgnoolokfafaaW.PrintLast Go.Proofs.Ytdbgnoolokfafaa.Plain
set_option linter.unusedSimpArgs false
set_option linter.unusedVariables false

theorem eqPoints (l : List S25) (hl : l.length ≤ 9223372036854775806) : Ev (fun k => laws_eqPointS.f k l l) true := by
  unfold laws_eqPointS.f
  have h := all_ev (fun _ : S25 => true) l z25 (by omega) (fun k i => laws_eqPointS.l0 k l l i) (fun k i hi => by
    show laws_eqPointS.l0 (k + 1) l l i = _
    rw [laws_eqPointS.l0, if_pos (by omega), if_pos (by omega), if_pos (by omega)]
    simp [laws_eqPoint.f]) (fun k => by
    show laws_eqPointS.l0 (k + 1) l l _ = _
    rw [laws_eqPointS.l0, if_neg (by omega)])
  rw [List.all_eq_true.2 (fun _ _ => rfl)] at h
  simp only [if_true]
  exact h
theorem eqLine (l : List S25) (b : Bool) (hl : l.length ≤ 9223372036854775806) : Ev (fun k => laws_eqLine.f k l b l b) true := by
  unfold laws_eqLine.f
  refine Ev.bind (eqPoints l hl) ?_
  exact ev_const fun k => by simp

end Go.Proofs.Ytdbgnoolokfafaa.HFnExactMoveLines

/- Points that are fixed, lines that are good, by both sides. -/
namespace Go.Proofs.Ytdbgnoolokfafaa.HFnExactMoveLines
open Go.RowKit Go.Proofs.YtdbgnoolokfafaaW.PrintWords Go.Proofs.YtdbgnoolokfafaaW.PrintLast Go.Proofs.Ytdbgnoolokfafaa.Plain
set_option linter.unusedSimpArgs false
set_option linter.unusedVariables false

def fixedPt (p : S25) : Bool := fixed p.f0 && fixed p.f1
theorem specGoodFixed (x : Int) : spec_GoodFixed.f x = some (fixed x) := by
  unfold spec_GoodFixed.f
  simp only [in_, Option.bind_some]
  rfl
theorem specFixedPt (x y : Int) : spec_l9Point.f x y = some (fixed x && fixed y) := by
  unfold spec_l9Point.f
  simp only [specGoodFixed, Option.bind_some]
  cases fixed x <;> simp
theorem many_ev (l : List S83) (hl : l.length ≤ 1048576) (hs : sumTo (pts l) l.length ≤ 1048576) : Ev (fun k => spec_l9Many.f k l) (sumTo (pts l) l.length : Nat) := by
  have key : ∀ i, i ≤ l.length → Ev (fun k => spec_l9Many.l0 k (sumTo (pts l) i : Nat) l l.length (i : Nat)) ((sumTo (pts l) l.length : Nat) : Int) := by
    refine up (p := fun i => Ev (fun k => spec_l9Many.l0 k (sumTo (pts l) i : Nat) l l.length (i : Nat)) ((sumTo (pts l) l.length : Nat) : Int)) l.length ?_ ?_
    · exact ev_some fun k => by rw [spec_l9Many.l0, if_neg (by omega)]
    · intro i hi ih
      have hb := sumTo_le (pts l) (show i + 1 ≤ l.length from hi)
      have hc : sumTo (pts l) (i + 1) = sumTo (pts l) i + pts l i := rfl
      refine Ev.step (f := fun k => spec_l9Many.l0 k (sumTo (pts l) (i + 1) : Nat) l l.length ((i + 1 : Nat) : Int)) (fun k => ?_) ih
      rw [spec_l9Many.l0, if_pos (by omega), if_pos (by omega), if_pos (by omega)]
      show spec_l9Many.l0 k (wrap64 (((sumTo (pts l) i : Nat) : Int) + ((pts l i : Nat) : Int))) _ _ _ = _
      rw [wrap_id (by omega) (by omega), wrap_id (n := (i : Int) + 1) (by omega) (by omega), hc]
      rfl
  exact key 0 (Nat.zero_le _)
def ptAt (l : List S83) (i j : Nat) : S25 := (l.getD i z83).f0.getD j z25
def allFixed (l : List S83) : Bool := (List.range l.length).all fun i => (List.range (pts l i)).all fun j => fixedPt (ptAt l i j)
def goodLines (l : List S83) : Bool := if allFixed l = true then decide (sumTo (pts l) l.length ≤ 600) else false
theorem lt_pts' {l : List S83} {i j : Nat} (h : j < pts l i) : (j : Int) < ((rd_T83 l (i : Int)).f0.length : Int) := Int.ofNat_lt.2 h
theorem specGoodLines (l : List S83) (hl : l.length ≤ 1048576) (hs : sumTo (pts l) l.length ≤ 1048576) : Ev (fun k => spec_l9Good.f k l) (goodLines l) := by
  unfold spec_l9Good.f
  have inner : ∀ (i : Nat) (Q : Bool), i < l.length → (((List.range (pts l i)).all fun j => fixedPt (ptAt l i j)) = true → Ev (fun k => spec_l9Good.l0 k l l l.length (wrap64 ((i : Int) + 1))) Q) → Ev (fun k => spec_l9Good.l0 k l l l.length (i : Nat)) (if ((List.range (pts l i)).all fun j => fixedPt (ptAt l i j)) = true then Q else false) := by
    intro i Q hi hQ
    have hb := le_sum (pts l) hi
    refine Ev.step (f := fun k => spec_l9Good.l1 k l l l.length (i : Int) ((rd_T83 l i).f0) ((pts l i : Nat) : Int) 0) (fun k => by
      rw [spec_l9Good.l0, if_pos (by omega), if_pos (by omega), if_pos (by omega)]; rfl) ?_
    refine ask_ev (pts l i) (fun j => fixedPt (ptAt l i j)) (fun k j => spec_l9Good.l1 k l l l.length (i : Int) ((rd_T83 l i).f0) ((pts l i : Nat) : Int) j) Q false (by omega) (fun j R hj hP hR => ?_) (fun j hj hP => ?_) (fun hall => ?_)
    · refine Ev.step (fun k => ?_) hR
      show spec_l9Good.l1 (k + 1) _ _ _ _ _ _ _ = _
      rw [spec_l9Good.l1, if_pos (by omega), if_pos (by omega), if_pos (lt_pts' hj), specFixedPt]
      show (some (fixedPt (ptAt l i j))).bind _ = _
      rw [hP, Option.bind_some, if_pos rfl]
    · refine ev_some fun k => ?_
      rw [spec_l9Good.l1, if_pos (by omega), if_pos (by omega), if_pos (lt_pts' hj), specFixedPt]
      show (some (fixedPt (ptAt l i j))).bind _ = _
      rw [hP, Option.bind_some, if_neg (by simp)]
    · refine Ev.step (fun k => ?_) (hQ (by rw [List.all_eq_true]; exact fun j hj => hall j (List.mem_range.1 hj)))
      show spec_l9Good.l1 (k + 1) _ _ _ _ _ _ _ = _
      rw [spec_l9Good.l1, if_neg (by omega)]
  refine ask_ev l.length (fun i => (List.range (pts l i)).all fun j => fixedPt (ptAt l i j)) (fun k i => spec_l9Good.l0 k l l l.length i) (decide (sumTo (pts l) l.length ≤ 600)) false (by omega) (fun i R hi hP hR => ?_) (fun i hi hP => ?_) (fun _ => ?_)
  · have := inner i R hi (fun _ => hR)
    rwa [if_pos hP] at this
  · have := inner i true hi (fun h => by rw [hP] at h; cases h)
    rwa [if_neg (by rw [hP]; simp)] at this
  · refine Ev.step (f := fun k => (spec_l9Many.f k l).bind fun t156 => some (decide (t156 ≤ 600))) (fun k => by rw [spec_l9Good.l0, if_neg (by omega)]) ?_
    refine Ev.bind (many_ev l hl hs) ?_
    rw [show decide (((sumTo (pts l) l.length : Nat) : Int) ≤ 600) = decide (sumTo (pts l) l.length ≤ 600) from decide_eq_decide.2 (by omega)]
    exact Ev.now _
theorem implPoints (l : List S25) (hl : l.length ≤ 1048576) : Ev (fun k => impl_arePoints.f k l) (l.all fixedPt) := by
  unfold impl_arePoints.f
  rw [← if_tf (l.all fixedPt), ← range_all fixedPt z25 l]
  have body : ∀ (i : Nat) (Q : Bool), i < l.length → (fixedPt (l.getD i z25) = true → Ev (fun k => impl_arePoints.l0 k l l.length (wrap64 ((i : Int) + 1))) Q) → Ev (fun k => impl_arePoints.l0 k l l.length (i : Nat)) (if fixedPt (l.getD i z25) = true then Q else false) := by
    intro i Q hi hQ
    refine Ev.step (f := fun k => (impl_areFixed.f k [(rd_T25 l i).f0, (rd_T25 l i).f1]).bind fun t204 => (if t204 = true then (impl_arePoints.l0 k l l.length (wrap64 ((i : Int) + 1))) else (some false))) (fun k => by
      rw [impl_arePoints.l0, if_pos (by omega), if_pos (by omega), if_pos (by omega)]) ?_
    refine Ev.bind (areFixed_ev _ (by simp)) ?_
    have e2 : [(rd_T25 l i).f0, (rd_T25 l i).f1].all fixed = fixedPt (l.getD i z25) := by
      simp only [List.all_cons, List.all_nil, Bool.and_true]
      rfl
    rw [e2]
    cases hP : fixedPt (l.getD i z25)
    · exact Ev.now _
    · simp only [if_true]
      exact hQ hP
  refine ask_ev l.length (fun i => fixedPt (l.getD i z25)) (fun k i => impl_arePoints.l0 k l l.length i) true false (by omega) (fun i R hi hP hR => ?_) (fun i hi hP => ?_) (fun _ => ?_)
  · have := body i R hi (fun _ => hR)
    rwa [if_pos hP] at this
  · have := body i true hi (fun h => by rw [hP] at h; cases h)
    rwa [if_neg (by rw [hP]; simp)] at this
  · exact ev_some fun k => by rw [impl_arePoints.l0, if_neg (by omega)]

end Go.Proofs.Ytdbgnoolokfafaa.HFnExactMoveLines

/- Lines: measured, copied and compared. -/
namespace Go.Proofs.Ytdbgnoolokfafaa.HFnExactMoveLines
open Go.RowKit Go.Proofs.YtdbgnoolokfafaaW.PrintWords Go.Proofs.YtdbgnoolokfafaaW.PrintLast Go.Proofs.Ytdbgnoolokfafaa.Plain
set_option linter.unusedSimpArgs false
set_option linter.unusedVariables false

def toPt (x : S134) : S25 := ⟨x.f0, x.f1⟩
def toLn (x : S116) : S83 := ⟨x.f0.map toPt, x.f1⟩
def lawPts (l : List S116) (i : Nat) : Nat := (l.getD i z116).f0.length

theorem toPoints (l : List S134) (hl : l.length ≤ 1048576) : Ev (fun k => laws_toPointS.f k l) (l.map toPt) := by
  unfold laws_toPointS.f
  have h := copy_ev toPt l z134 z25 (by omega) (fun k ys i => laws_toPointS.l0 k l ys i) (fun k i ys hi hy => by
    show laws_toPointS.l0 (k + 1) l ys i = _
    rw [laws_toPointS.l0, if_pos (by omega), if_pos (by omega)]
    simp only [laws_toPoint.f, Option.bind_some]
    rw [if_pos (by omega)]; rfl) (fun k ys => by
    show laws_toPointS.l0 (k + 1) l ys _ = _
    rw [laws_toPointS.l0, if_neg (by omega)]) (List.replicate ((l.length : Int)).toNat z25) (by simp)
  simp only [if_pos (show (0 : Int) ≤ l.length by omega), if_pos (show (l.length : Int).toNat ≤ 17592186044416 by omega)]
  exact h
theorem toLine (l : List S134) (b : Bool) (hl : l.length ≤ 1048576) : Ev (fun k => laws_toLine.f k l b) (l.map toPt, b) := by
  unfold laws_toLine.f
  exact Ev.bind (f := fun _ t => some (t, b)) (toPoints l hl) (Ev.now _)
theorem toLines (l : List S116) (hl : l.length ≤ 1048576) (hp : ∀ i, i < l.length → lawPts l i ≤ 1048576) : Ev (fun k => laws_toLineS.f k l) (l.map toLn) := by
  unfold laws_toLineS.f
  simp only [if_pos (show (0 : Int) ≤ l.length by omega), if_pos (show (l.length : Int).toNat ≤ 8796093022208 by omega)]
  refine copy_evs toLn l z116 z83 (by omega) (fun k ys i => laws_toLineS.l0 k l ys i) (fun i ys R hi hy hR => ?_) (fun k ys => by
    show laws_toLineS.l0 (k + 1) l ys _ = _
    rw [laws_toLineS.l0, if_neg (by omega)]) (List.replicate ((l.length : Int)).toNat z83) (by simp)
  refine Ev.step (f := fun k => (laws_toLine.f k ((rd_T116 l i).f0) ((rd_T116 l i).f1)).bind fun bt160 => (if (i : Int) < (ys.length : Int) then (laws_toLineS.l0 k l (ys.set (i : Int).toNat (⟨bt160.1, bt160.2⟩ : S83)) (wrap64 (i + 1))) else (none))) (fun k => by
    show laws_toLineS.l0 (k + 1) l ys i = _
    rw [laws_toLineS.l0, if_pos (by omega), if_pos (by omega)]) ?_
  refine Ev.bind (toLine _ _ (hp i hi)) ?_
  simp only [if_pos (show (i : Int) < (ys.length : Int) by omega)]
  exact hR

theorem eqLines (l : List S83) (hl : l.length ≤ 9223372036854775806) (hp : ∀ i, i < l.length → pts l i ≤ 9223372036854775806) : Ev (fun k => laws_eqLineS.f k l l) true := by
  unfold laws_eqLineS.f
  simp only [if_true]
  refine all_evs l.length (by omega) (fun k i => laws_eqLineS.l0 k l l i) (fun i R hi hR => ?_) (fun k => by
    show laws_eqLineS.l0 (k + 1) l l _ = _
    rw [laws_eqLineS.l0, if_neg (by omega)])
  refine Ev.step (f := fun k => (laws_eqLine.f k ((rd_T83 l i).f0) ((rd_T83 l i).f1) ((rd_T83 l i).f0) ((rd_T83 l i).f1)).bind fun t218 => (if t218 = true then (laws_eqLineS.l0 k l l (wrap64 (i + 1))) else (some false))) (fun k => by
    show laws_eqLineS.l0 (k + 1) l l i = _
    rw [laws_eqLineS.l0, if_pos (by omega), if_pos (by omega), if_pos (by omega)]) ?_
  refine Ev.bind (eqLine _ _ (hp i hi)) ?_
  simp only [if_true]
  exact hR

theorem szLines (l : List S116) (n : Nat) (hl0 : l.length ≤ 9223372036854775807) (hl1 : ∀ i, i < l.length → lawPts l i ≤ 9223372036854775807) (hn : n ≤ 1048576) : ∃ t, Ev (fun k => laws_szLineS.f k l n) t ∧ (t < 0 ∨ (l.length + sumTo (lawPts l) l.length ≤ n ∧ t = ((n - l.length - sumTo (lawPts l) l.length : Nat) : Int))) := by
  unfold laws_szLineS.f
  rw [wrap_id (n := (n : Int) - l.length) (by omega) (by omega)]
  by_cases h : (n : Int) - l.length < 0
  · simp only [if_pos h]
    exact ⟨-1, Ev.now _, .inl (by omega)⟩
  simp only [if_neg h]
  have key : ∀ i, i ≤ l.length → ∀ s : Int, 0 ≤ s → s = (n : Int) - l.length - sumTo (lawPts l) i → ∃ t, Ev (fun k => laws_szLineS.l0 k l s (i : Nat)) t ∧ (t < 0 ∨ (l.length + sumTo (lawPts l) l.length ≤ n ∧ t = ((n - l.length - sumTo (lawPts l) l.length : Nat) : Int))) := by
    refine up (p := fun i => ∀ s : Int, 0 ≤ s → s = (n : Int) - l.length - sumTo (lawPts l) i → ∃ t, Ev (fun k => laws_szLineS.l0 k l s (i : Nat)) t ∧ (t < 0 ∨ (l.length + sumTo (lawPts l) l.length ≤ n ∧ t = ((n - l.length - sumTo (lawPts l) l.length : Nat) : Int)))) l.length ?_ ?_
    · intro s h0 hs
      exact ⟨s, ev_some fun k => by rw [laws_szLineS.l0, if_neg (by omega)], .inr (by omega)⟩
    · intro i hi ih s h0 hs
      have hb := hl1 i hi
      have e1 : laws_szLine.f ((rd_T116 l i).f0) ((rd_T116 l i).f1) s = some (if s - lawPts l i < 0 then -1 else s - lawPts l i) := by
        unfold laws_szLine.f laws_szPointS.f
        show (if wrap64 (s - ((lawPts l i : Nat) : Int)) < 0 then some (-1) else some (wrap64 (s - ((lawPts l i : Nat) : Int)))).bind _ = _
        rw [wrap_id (by omega) (by omega)]
        split
        · rfl
        · rename_i hc; simp only [Option.bind_some, if_neg hc]
      by_cases hc : s - lawPts l i < 0
      · refine ⟨-1, ev_some fun k => ?_, .inl (by omega)⟩
        rw [laws_szLineS.l0, if_pos (by omega), if_pos (by omega), e1, if_pos hc, Option.bind_some, if_pos (by omega)]
      · obtain ⟨t, ht, hh⟩ := ih (s - lawPts l i) (by omega) (by rw [hs]; show _ = (n : Int) - l.length - ((sumTo (lawPts l) i + lawPts l i : Nat) : Int); omega)
        refine ⟨t, Ev.step (f := fun k => laws_szLineS.l0 k l (s - lawPts l i) ((i + 1 : Nat) : Int)) (fun k => ?_) ht, hh⟩
        rw [laws_szLineS.l0, if_pos (by omega), if_pos (by omega), e1, if_neg hc, Option.bind_some, if_neg hc, wrap_id (n := (i : Int) + 1) (by omega) (by omega)]
        rfl
  exact key 0 (Nat.zero_le _) _ (by omega) (by simp [sumTo])

theorem pts_toLn (l : List S116) (i : Nat) (hi : i < l.length) : pts (l.map toLn) i = lawPts l i := by
  simp [pts, lawPts, toLn, List.getD, hi]

end Go.Proofs.Ytdbgnoolokfafaa.HFnExactMoveLines

/- Lines are marked, and hold their marks. -/
namespace Go.Proofs.Ytdbgnoolokfafaa.HFnExactMoveLines
open Go.RowKit Go.Proofs.YtdbgnoolokfafaaW.PrintWords Go.Proofs.YtdbgnoolokfafaaW.PrintLast Go.Proofs.Ytdbgnoolokfafaa.Plain
set_option linter.unusedSimpArgs false
set_option linter.unusedVariables false

/-- The first mark of the i-th line. -/
def mAt (m : Nat) (l : List S83) (i : Nat) : Nat := m + 2 * sumTo (pts l) i + i
/-- The i-th line, marked. -/
def lnMark (m : Nat) (l : List S83) (i : Nat) : S83 := ⟨over (ptMark (mAt m l i)) (l.getD i z83).f0 (pts l i), (Int.tmod ((mAt m l i + 2 * pts l i : Nat) : Int) 3 == 0)⟩
theorem over_ge {α : Type} (f : Nat → α) (xs : List α) (i j : Nat) (h : i ≤ j) (hi : i ≤ xs.length) (z : α) : (over f xs i).getD j z = xs.getD j z := by
  have h1 : ((List.range i).map f).length = i := by simp
  simp only [over, List.getD]
  rw [List.getElem?_append_right (by omega), List.getElem?_drop, h1, show i + (j - i) = j by omega]
theorem mAt_succ (m : Nat) (l : List S83) (i : Nat) : mAt m l (i + 1) = mAt m l i + 2 * pts l i + 1 := by
  unfold mAt
  show m + 2 * (sumTo (pts l) i + pts l i) + (i + 1) = _
  omega
theorem mAt_le (m : Nat) (l : List S83) {i : Nat} (h : i ≤ l.length) : mAt m l i ≤ mAt m l l.length := by
  have := sumTo_le (pts l) h
  unfold mAt
  omega
theorem markLines (l : List S83) (m : Nat) (hm : mAt m l l.length ≤ 4194304) : Ev (fun k => laws_markLineS.f k l m) ((mAt m l l.length : Nat), over (lnMark m l) l l.length) := by
  unfold laws_markLineS.f
  have key : ∀ i, i ≤ l.length → Ev (fun k => laws_markLineS.l0 k (over (lnMark m l) l i) ((mAt m l i : Nat) : Int) (i : Nat)) (((mAt m l l.length : Nat) : Int), over (lnMark m l) l l.length) := by
    refine up (p := fun i => Ev (fun k => laws_markLineS.l0 k (over (lnMark m l) l i) ((mAt m l i : Nat) : Int) (i : Nat)) (((mAt m l l.length : Nat) : Int), over (lnMark m l) l l.length)) l.length ?_ ?_
    · exact ev_some fun k => by rw [laws_markLineS.l0, if_neg (by rw [over_len _ _ _ (Nat.le_refl _)]; omega)]
    · intro i hi ih
      have hle := mAt_le m l (show i + 1 ≤ l.length from hi)
      rw [mAt_succ] at hle
      have hl : l.length ≤ 4194304 := by unfold mAt at hm; omega
      have hget : rd_T83 (over (lnMark m l) l i) (i : Int) = l.getD i z83 := over_ge (lnMark m l) l i i (Nat.le_refl _) (by omega) _
      refine Ev.step (f := fun k => (laws_markPointS.f k ((l.getD i z83).f0) ((mAt m l i : Nat) : Int)).bind fun bt => (laws_markLineS.l0 k ((over (lnMark m l) l i).set (i : Int).toNat (⟨bt.2, (Int.tmod bt.1 3 == 0)⟩ : S83)) (wrap64 (bt.1 + 1)) (wrap64 ((i : Int) + 1)))) (fun k => by
        rw [laws_markLineS.l0, if_pos (by rw [over_len _ _ _ (by omega)]; omega), if_pos (by omega), hget]) ?_
      refine Ev.bind (markPts _ _ (by show pts l i ≤ _; omega) (by omega)) ?_
      have hset : (over (lnMark m l) l i).set (i : Int).toNat (⟨over (ptMark (mAt m l i)) (l.getD i z83).f0 (l.getD i z83).f0.length, (Int.tmod ((mAt m l i + 2 * (l.getD i z83).f0.length : Nat) : Int) 3 == 0)⟩ : S83) = over (lnMark m l) l (i + 1) := over_set (lnMark m l) l i hi
      rw [hset, w1 _ (by show mAt m l i + 2 * pts l i ≤ _; omega), w1 _ (by omega)]
      rw [mAt_succ] at ih
      exact ih
  have := key 0 (Nat.zero_le _)
  rw [over_zero] at this
  exact this
theorem heldLines (l : List S83) (m : Nat) (hm : mAt m l l.length ≤ 4194304) : Ev (fun k => laws_heldLineS.f k (over (lnMark m l) l l.length) m) ((mAt m l l.length : Nat) : Int) := by
  unfold laws_heldLineS.f
  have ho := over_len (lnMark m l) l l.length (Nat.le_refl _)
  have key : ∀ i, i ≤ l.length → Ev (fun k => laws_heldLineS.l0 k (over (lnMark m l) l l.length) ((mAt m l i : Nat) : Int) (i : Nat)) ((mAt m l l.length : Nat) : Int) := by
    refine up (p := fun i => Ev (fun k => laws_heldLineS.l0 k (over (lnMark m l) l l.length) ((mAt m l i : Nat) : Int) (i : Nat)) ((mAt m l l.length : Nat) : Int)) l.length ?_ ?_
    · exact ev_some fun k => by rw [laws_heldLineS.l0, if_neg (by omega)]
    · intro i hi ih
      have hle := mAt_le m l (show i + 1 ≤ l.length from hi)
      rw [mAt_succ] at hle
      have hl : l.length ≤ 4194304 := by unfold mAt at hm; omega
      have hget : rd_T83 (over (lnMark m l) l l.length) (i : Int) = lnMark m l i := over_get (lnMark m l) l l.length i hi _
      apply Ev.step
      · intro k
        show laws_heldLineS.l0 (k + 1) _ _ _ = _
        rw [laws_heldLineS.l0, if_pos (by omega), if_pos (by omega), hget]
      refine Ev.bind (heldPts (l.getD i z83).f0 (mAt m l i) (by show pts l i ≤ _; omega) (by omega)) ?_
      have e : ((lnMark m l i).f1 != (Int.tmod ((mAt m l i + 2 * (l.getD i z83).f0.length : Nat) : Int) 3 == 0)) = false := bne_self_eq_false _
      simp only [if_neg (show ¬ ((mAt m l i + 2 * (l.getD i z83).f0.length : Nat) : Int) < 0 by omega), e, Bool.false_eq_true, if_false]
      rw [w1 _ (by show mAt m l i + 2 * pts l i ≤ _; omega), w1 _ (by omega)]
      rw [mAt_succ] at ih
      exact ih
  exact key 0 (Nat.zero_le _)

end Go.Proofs.Ytdbgnoolokfafaa.HFnExactMoveLines

/- Lines are moved, by both sides. -/
namespace Go.Proofs.Ytdbgnoolokfafaa.HFnExactMoveLines
open Go.RowKit Go.Proofs.YtdbgnoolokfafaaW.PrintWords Go.Proofs.YtdbgnoolokfafaaW.PrintLast Go.Proofs.Ytdbgnoolokfafaa.Plain
set_option linter.unusedSimpArgs false
set_option linter.unusedVariables false

/-- A point, moved. -/
def mvP (a b c d e f : Int) (p : S25) : S25 := ⟨wrap64 ((wrap64 (fixMul a p.f0 + fixMul c p.f1)) + e), wrap64 ((wrap64 (fixMul b p.f0 + fixMul d p.f1)) + f)⟩
def mvL (a b c d e f : Int) (x : S83) : S83 := ⟨x.f0.map (mvP a b c d e f), x.f1⟩
def mvd (a b c d e f : Int) (l : List S83) : List S83 := l.map (mvL a b c d e f)
theorem mvd_pts (a b c d e f : Int) (l : List S83) (i : Nat) (hi : i < l.length) : pts (mvd a b c d e f l) i = pts l i := by simp [pts, mvd, mvL, List.getD, hi]
theorem mvd_sum (a b c d e f : Int) (l : List S83) : sumTo (pts (mvd a b c d e f l)) (mvd a b c d e f l).length = sumTo (pts l) l.length := by
  rw [show (mvd a b c d e f l).length = l.length by simp [mvd]]
  exact sum_same (fun i hi => mvd_pts a b c d e f l i hi)
theorem take_snoc {α : Type} (l : List α) (i : Nat) (hi : i < l.length) (z : α) : l.take i ++ [l.getD i z] = l.take (i + 1) := by
  rw [List.take_succ_eq_append_getElem hi]
  simp [List.getD, hi]
theorem specMove (a b c d e f : Int) (l : List S83) (hl : l.length ≤ 1048576) (hs : sumTo (pts l) l.length ≤ 1048576) : Ev (fun k => spec_l9Move.f k a b c d e f l) (mvd a b c d e f l) := by
  unfold spec_l9Move.f
  refine for_ev l.length (fun i acc => acc ++ [mvL a b c d e f (l.getD i z83)]) (fun i acc => acc.length = i) (fun k i acc => spec_l9Move.l0 k acc l l.length i a b c d e f) _ [] (by omega) (fun i acc hi hI hn => ?_) (fun i acc hi hI => by simp [hI]) rfl (fun _ => ?_)
  · have hb := le_sum (pts l) hi
    refine Ev.step (f := fun k => spec_l9Move.l1 k acc l l.length (i : Int) ((rd_T83 l i).f0) ((pts l i : Nat) : Int) 0 a b c d e f [] ((rd_T83 l i).f1)) (fun k => by
      rw [spec_l9Move.l0, if_pos (by omega), if_pos (by omega), if_pos (by omega)]; rfl) ?_
    have hps : (rd_T83 l (i : Int)) = l.getD i z83 := rfl
    have hpl : (l.getD i z83).f0.length = pts l i := rfl
    rw [hps]
    generalize l.getD i z83 = x at hpl hn ⊢
    obtain ⟨ps, pb⟩ := x
    simp only [] at hpl ⊢
    refine for_ev (pts l i) (fun j s => s ++ [mvP a b c d e f (ps.getD j z25)]) (fun j s => s.length = j) (fun k j s => spec_l9Move.l1 k acc l l.length (i : Int) ps ((pts l i : Nat) : Int) j a b c d e f s pb) _ [] (by omega) (fun j s hj hJ hn2 => ?_) (fun j s hj hJ => by simp [hJ]) rfl (fun _ => ?_)
    · apply Ev.step
      · intro k
        show spec_l9Move.l1 (k + 1) _ _ _ _ _ _ _ _ _ _ _ _ _ _ _ = _
        rw [spec_l9Move.l1, if_pos (by omega), if_pos (by omega), if_pos (by omega)]
      refine Ev.bind (specFixMul _ _) (Ev.bind (specFixMul _ _) (Ev.bind (specFixMul _ _) (Ev.bind (specFixMul _ _) ?_)))
      simp only [if_pos (show s.length < 8796093022208 by omega)]
      exact hn2
    · rw [forTo_map (fun j => mvP a b c d e f (ps.getD j z25))]
      have e1 : (List.range (pts l i)).map (fun j => mvP a b c d e f (ps.getD j z25)) = ps.map (mvP a b c d e f) := by
        apply List.ext_getElem
        · simp [hpl]
        · intro j h1 h2
          simp only [List.length_map] at h2
          simp [List.getD, h2]
      rw [List.nil_append, e1]
      refine Ev.step (fun k => ?_) hn
      show spec_l9Move.l1 (k + 1) _ _ _ _ _ _ _ _ _ _ _ _ _ _ _ = _
      rw [spec_l9Move.l1, if_neg (by omega), if_pos (by omega)]
      rfl
  · rw [forTo_map (fun i => mvL a b c d e f (l.getD i z83))]
    have e1 : (List.range l.length).map (fun i => mvL a b c d e f (l.getD i z83)) = mvd a b c d e f l := by
      apply List.ext_getElem
      · simp [mvd]
      · intro j h1 h2
        simp only [mvd, List.length_map] at h2
        simp [mvd, List.getD, h2]
    rw [List.nil_append, e1]
    exact ev_some fun k => by rw [spec_l9Move.l0, if_neg (by omega)]
/-- MoveLines. -/
def moveLines (a b c d e f : Int) (l : List S83) : List S83 × Bool := if goodAffine a b c d e f = true then (if goodLines l = true then (if allFixed (mvd a b c d e f l) = true then (mvd a b c d e f l, true) else ([], false)) else ([], false)) else ([], false)
theorem good_sum {l : List S83} (h : goodLines l = true) : sumTo (pts l) l.length ≤ 600 := by
  unfold goodLines at h
  split at h
  · exact of_decide_eq_true h
  · cases h
theorem specMoveLines (a b c d e f : Int) (l : List S83) (hl : l.length ≤ 1048576) (hs : sumTo (pts l) l.length ≤ 1048576) : Ev (fun k => spec_MoveLines.f k a b c d e f l) (moveLines a b c d e f l) := by
  have none_ : Ev (fun k => spec_MoveLines.j0 k l true a b c d e f) ([], false) := ev_some fun k => by rw [spec_MoveLines.j0, if_pos rfl]
  unfold spec_MoveLines.f moveLines
  refine Ev.bind (specGoodAffine a b c d e f) ?_
  cases h1 : goodAffine a b c d e f
  · exact none_
  simp only [if_true]
  refine Ev.bind (specGoodLines l hl hs) ?_
  cases h2 : goodLines l
  · exact none_
  simp only [if_true, Bool.not_true]
  apply Ev.step
  · intro k
    show spec_MoveLines.j0 (k + 1) _ _ _ _ _ _ _ _ = _
    rw [spec_MoveLines.j0, if_neg (by simp)]
  refine Ev.bind (specMove a b c d e f l hl hs) ?_
  have hms := mvd_sum a b c d e f l
  have hml : (mvd a b c d e f l).length = l.length := by simp [mvd]
  refine Ev.bind (specGoodLines _ (by omega) (by omega)) ?_
  unfold goodLines
  have h600 := good_sum h2
  cases h3 : allFixed (mvd a b c d e f l)
  · exact Ev.now _
  · simp only [if_true, decide_eq_true (show sumTo (pts (mvd a b c d e f l)) (mvd a b c d e f l).length ≤ 600 by omega)]
    exact Ev.now _
theorem implMany' (l : List S83) (hl : l.length ≤ 1048576) (hs : sumTo (pts l) l.length ≤ 1048576) : Ev (fun k => impl_countPoints.f k l) (sumTo (pts l) l.length : Nat) := by
  have e : ∀ k a b c d, impl_countPoints.l0 k a b c d = spec_l9Many.l0 k a b c d := by
    intro k
    induction k with
    | zero => intros; rfl
    | succ k ih => intros; simp only [impl_countPoints.l0, spec_l9Many.l0, ih]
  have := many_ev l hl hs
  unfold spec_l9Many.f at this
  unfold impl_countPoints.f
  simp only [e]
  exact this
theorem implMoved (a b c d e f : Int) (p : S25) : Ev (fun k => impl_moved.f k a b c d e f p.f0 p.f1) ((mvP a b c d e f p).f0, (mvP a b c d e f p).f1) := by
  unfold impl_moved.f
  exact Ev.bind (implFixMul _ _) (Ev.bind (implFixMul _ _) (Ev.bind (implFixMul _ _) (Ev.bind (implFixMul _ _) (Ev.now _))))
theorem implMoveLines (a b c d e f : Int) (l : List S83) (hl : l.length ≤ 1048576) (hs : sumTo (pts l) l.length ≤ 1048576) : Ev (fun k => impl_MoveLines.f k a b c d e f l) (moveLines a b c d e f l) := by
  have none_ : Ev (fun k => impl_MoveLines.j0 k l true a b c d e f) ([], false) := ev_some fun k => by rw [impl_MoveLines.j0, if_pos rfl]
  unfold impl_MoveLines.f moveLines
  refine Ev.bind (implGoodAffine a b c d e f) ?_
  cases h1 : goodAffine a b c d e f
  · exact none_
  simp only [if_true]
  refine Ev.bind (implMany' l hl hs) ?_
  by_cases h6 : sumTo (pts l) l.length > 600
  · have hg : goodLines l = false := by
      unfold goodLines
      split
      · exact decide_eq_false (by omega)
      · rfl
    rw [decide_eq_true (show ((sumTo (pts l) l.length : Nat) : Int) > 600 by omega), hg]
    exact none_
  rw [decide_eq_false (show ¬ ((sumTo (pts l) l.length : Nat) : Int) > 600 by omega)]
  have hg : goodLines l = allFixed l := by
    unfold goodLines
    rw [decide_eq_true (show sumTo (pts l) l.length ≤ 600 by omega)]
    cases allFixed l <;> rfl
  rw [hg]
  refine Ev.step (f := fun k => impl_MoveLines.l0 k [] l l.length 0 a b c d e f) (fun k => by rw [impl_MoveLines.j0, if_neg (by simp)]) ?_
  have hml : (mvd a b c d e f l).length = l.length := by simp [mvd]
  -- what each line is asked
  have hall : (if allFixed l = true then (if allFixed (mvd a b c d e f l) = true then (mvd a b c d e f l, true) else ([], false)) else ([], false)) = (if ((List.range l.length).all fun i => ((List.range (pts l i)).all fun j => fixedPt (ptAt l i j)) && (mvL a b c d e f (l.getD i z83)).f0.all fixedPt) = true then (mvd a b c d e f l, true) else (([] : List S83), false)) := by
    have e1 : ∀ i, i < l.length → (List.range (pts (mvd a b c d e f l) i)).all (fun j => fixedPt (ptAt (mvd a b c d e f l) i j)) = (mvL a b c d e f (l.getD i z83)).f0.all fixedPt := by
      intro i hi
      have e0 : (mvd a b c d e f l).getD i z83 = mvL a b c d e f (l.getD i z83) := by simp [mvd, List.getD, hi]
      unfold pts ptAt
      rw [e0]
      exact range_all fixedPt z25 _
    have e2 : ((List.range l.length).all fun i => ((List.range (pts l i)).all fun j => fixedPt (ptAt l i j)) && (mvL a b c d e f (l.getD i z83)).f0.all fixedPt) = (allFixed l && allFixed (mvd a b c d e f l)) := by
      unfold allFixed
      rw [hml, Bool.eq_iff_iff, Bool.and_eq_true, List.all_eq_true, List.all_eq_true, List.all_eq_true]
      constructor
      · intro h
        refine ⟨fun i hi => ?_, fun i hi => ?_⟩
        · exact (Bool.and_eq_true _ _ ▸ h i hi).1
        · rw [e1 i (List.mem_range.1 hi)]; exact (Bool.and_eq_true _ _ ▸ h i hi).2
      · intro h i hi
        rw [Bool.and_eq_true]
        refine ⟨h.1 i hi, ?_⟩
        have := h.2 i hi
        rwa [e1 i (List.mem_range.1 hi)] at this
    rw [e2]
    cases allFixed l <;> cases allFixed (mvd a b c d e f l) <;> rfl
  rw [hall]
  have line : ∀ (i : Nat) (Q : List S83 × Bool), i < l.length →
      ((((List.range (pts l i)).all fun j => fixedPt (ptAt l i j)) && (mvL a b c d e f (l.getD i z83)).f0.all fixedPt) = true → Ev (fun k => impl_MoveLines.l0 k ((l.take (i + 1)).map (mvL a b c d e f)) l l.length ((i + 1 : Nat) : Int) a b c d e f) Q) →
      Ev (fun k => impl_MoveLines.l0 k ((l.take i).map (mvL a b c d e f)) l l.length (i : Nat) a b c d e f) (if (((List.range (pts l i)).all fun j => fixedPt (ptAt l i j)) && (mvL a b c d e f (l.getD i z83)).f0.all fixedPt) = true then Q else ([], false)) := by
    intro i Q hi hQ
    have hb := le_sum (pts l) hi
    refine Ev.step (f := fun k => impl_MoveLines.l1 k ((l.take i).map (mvL a b c d e f)) l l.length (i : Int) ((rd_T83 l i).f0) ((pts l i : Nat) : Int) 0 a b c d e f [] ((rd_T83 l i).f1)) (fun k => by
      rw [impl_MoveLines.l0, if_pos (by omega), if_pos (by omega), if_pos (by omega)]; rfl) ?_
    have hps : (rd_T83 l (i : Int)) = l.getD i z83 := rfl
    have hts := take_snoc l i hi z83
    have hpt : ∀ j, ptAt l i j = (l.getD i z83).f0.getD j z25 := fun _ => rfl
    have hpl : (l.getD i z83).f0.length = pts l i := rfl
    simp only [hpt] at hQ ⊢
    rw [hps]
    generalize l.getD i z83 = x at hpl hts hQ ⊢
    obtain ⟨ps, pb⟩ := x
    simp only [mvL] at hpl hQ ⊢
    have hsplit : ∀ R : List S83 × Bool, (if ((List.range (pts l i)).all (fun j => fixedPt (ps.getD j z25)) && (ps.map (mvP a b c d e f)).all fixedPt) = true then R else ([], false)) = (if ((List.range (pts l i)).all fun j => fixedPt (ps.getD j z25)) = true then (if (ps.map (mvP a b c d e f)).all fixedPt = true then R else ([], false)) else ([], false)) := by
      intro R
      cases ((List.range (pts l i)).all fun j => fixedPt (ps.getD j z25)) <;> cases ((ps.map (mvP a b c d e f)).all fixedPt) <;> rfl
    show Ev _ (if ((List.range (pts l i)).all (fun j => fixedPt (ps.getD j z25)) && (ps.map (mvP a b c d e f)).all fixedPt) = true then Q else ([], false))
    rw [hsplit]
    have pass : ∀ (j : Nat) (Z : List S83 × Bool), j < pts l i → (fixedPt (ps.getD j z25) = true → Ev (fun k => impl_MoveLines.l1 k ((l.take i).map (mvL a b c d e f)) l l.length (i : Int) ps ((pts l i : Nat) : Int) ((j + 1 : Nat) : Int) a b c d e f ((ps.take (j + 1)).map (mvP a b c d e f)) pb) Z) → Ev (fun k => impl_MoveLines.l1 k ((l.take i).map (mvL a b c d e f)) l l.length (i : Int) ps ((pts l i : Nat) : Int) (j : Nat) a b c d e f ((ps.take j).map (mvP a b c d e f)) pb) (if fixedPt (ps.getD j z25) = true then Z else ([], false)) := by
      intro j Z hj hZ
      apply Ev.step
      · intro k
        show impl_MoveLines.l1 (k + 1) _ _ _ _ _ _ _ _ _ _ _ _ _ _ _ = _
        rw [impl_MoveLines.l1, if_pos (by omega), if_pos (by omega), if_pos (by omega)]
      refine Ev.bind (areFixed_ev _ (by simp)) ?_
      have e2 : [(rd_T25 ps (j : Int)).f0, (rd_T25 ps (j : Int)).f1].all fixed = fixedPt (ps.getD j z25) := by
        simp only [List.all_cons, List.all_nil, Bool.and_true]
        rfl
      rw [e2]
      cases hP : fixedPt (ps.getD j z25)
      · exact Ev.now _
      · simp only [if_true]
        have ht := take_snoc ps j (by omega) z25
        refine Ev.bind (implMoved a b c d e f (ps.getD j z25)) ?_
        have hl2 : ((ps.take j).map (mvP a b c d e f)).length < 8796093022208 := by rw [List.length_map, List.length_take]; omega
        simp only [if_pos hl2]
        have hz := hZ hP
        rw [← ht, List.map_append] at hz
        rw [wrap_id (by omega) (by omega)]
        exact hz
    refine Ev.congr (g := fun k => impl_MoveLines.l1 k ((l.take i).map (mvL a b c d e f)) l l.length (i : Int) ps ((pts l i : Nat) : Int) 0 a b c d e f [] pb) (f := fun k => (fun k (j : Int) => impl_MoveLines.l1 k ((l.take i).map (mvL a b c d e f)) l l.length (i : Int) ps ((pts l i : Nat) : Int) j a b c d e f ((ps.take j.toNat).map (mvP a b c d e f)) pb) k 0) (fun k => rfl) ?_
    refine ask_ev (pts l i) (fun j => fixedPt (ps.getD j z25)) (fun k (j : Int) => impl_MoveLines.l1 k ((l.take i).map (mvL a b c d e f)) l l.length (i : Int) ps ((pts l i : Nat) : Int) j a b c d e f ((ps.take j.toNat).map (mvP a b c d e f)) pb) _ ([], false) (by omega) (fun j Z hj hP hZ => ?_) (fun j hj hP => ?_) (fun hall => ?_)
    · rw [wrap_id (by omega) (by omega)] at hZ
      have := pass j Z hj (fun _ => hZ)
      rwa [if_pos hP] at this
    · have := pass j ([], true) hj (fun h => by rw [hP] at h; cases h)
      rwa [if_neg (by rw [hP]; simp)] at this
    · have htk : ps.take ((pts l i : Nat) : Int).toNat = ps := by rw [Int.toNat_natCast, ← hpl, List.take_length]
      rw [htk]
      apply Ev.step
      · intro k
        show impl_MoveLines.l1 (k + 1) _ _ _ _ _ _ _ _ _ _ _ _ _ _ _ = _
        rw [impl_MoveLines.l1, if_neg (by omega)]
      refine Ev.bind (implPoints _ (by rw [List.length_map]; omega)) ?_
      cases hP : (ps.map (mvP a b c d e f)).all fixedPt
      · exact Ev.now _
      · have hl2 : ((l.take i).map (mvL a b c d e f)).length < 4398046511104 := by rw [List.length_map, List.length_take]; omega
        simp only [if_true, if_pos hl2]
        have hq := hQ (by rw [hP, Bool.and_true, List.all_eq_true]; exact fun j hj => hall j (List.mem_range.1 hj))
        rw [← hts, List.map_append] at hq
        rw [wrap_id (by omega) (by omega)]
        exact hq
  refine Ev.congr (g := fun k => impl_MoveLines.l0 k [] l l.length 0 a b c d e f) (f := fun k => (fun k (i : Int) => impl_MoveLines.l0 k ((l.take i.toNat).map (mvL a b c d e f)) l l.length i a b c d e f) k 0) (fun k => rfl) ?_
  refine ask_ev l.length _ (fun k (i : Int) => impl_MoveLines.l0 k ((l.take i.toNat).map (mvL a b c d e f)) l l.length i a b c d e f) _ ([], false) (by omega) (fun i Z hi hP hZ => ?_) (fun i hi hP => ?_) (fun _ => ?_)
  · rw [wrap_id (by omega) (by omega)] at hZ
    have := line i Z hi (fun _ => hZ)
    rwa [if_pos hP] at this
  · have := line i ([], true) hi (fun h => by rw [hP] at h; cases h)
    rwa [if_neg (by rw [hP]; simp)] at this
  · have htk : l.take ((l.length : Nat) : Int).toNat = l := by rw [Int.toNat_natCast, List.take_length]
    rw [htk]
    exact ev_some fun k => by rw [impl_MoveLines.l0, if_neg (by omega)]; rfl

end Go.Proofs.Ytdbgnoolokfafaa.HFnExactMoveLines

/- MoveLines, as numbers: the program's answer is the reference's, field by field, and its memory is its own. -/
namespace Go.Proofs.Ytdbgnoolokfafaa.Pure
open Go.RowKit Go.Proofs.Ytdbgnoolokfafaa.HFnExactMoveLines Go.Proofs.YtdbgnoolokfafaaW.PrintWords Go.Proofs.YtdbgnoolokfafaaW.PrintLast Go.Proofs.Ytdbgnoolokfafaa.Plain
set_option linter.unusedSimpArgs false
set_option linter.unusedVariables false

theorem move_len (a b c d e f : Int) (l : List S83) : (moveLines a b c d e f l).1.length ≤ l.length ∧ sumTo (pts (moveLines a b c d e f l).1) (moveLines a b c d e f l).1.length ≤ sumTo (pts l) l.length := by
  have h := mvd_sum a b c d e f l
  unfold moveLines
  repeat' split
  · exact ⟨by simp [mvd], Nat.le_of_eq h⟩
  all_goals exact ⟨Nat.zero_le _, Nat.zero_le _⟩
theorem FnExactMoveLines : ∀ (a0_0 : Int) (a0_1 : Int) (a0_2 : Int) (a0_3 : Int) (a0_4 : Int) (a0_5 : Int) (l1 : List (S116)), ((Lit.int .i64 a0_0).wf = true) → ((Lit.int .i64 a0_1).wf = true) → ((Lit.int .i64 a0_2).wf = true) → ((Lit.int .i64 a0_3).wf = true) → ((Lit.int .i64 a0_4).wf = true) → ((Lit.int .i64 a0_5).wf = true) → ((∀ x116 ∈ l1, ((∀ x134 ∈ x116.f0, ((Lit.int .i64 x134.f0).wf = true) ∧ ((Lit.int .i64 x134.f1).wf = true)) ∧ x116.f0.length ≤ 9223372036854775807) ∧ (True)) ∧ l1.length ≤ 9223372036854775807) → ∃ k, HFnExactMoveLines.laws_FnExactMoveLines.f k a0_0 a0_1 a0_2 a0_3 a0_4 a0_5 l1 = some true := by
  intro a b c d e f l0 _ _ _ _ _ _ hl0
  refine Ev.rounds ?_
  unfold laws_FnExactMoveLines.f
  obtain ⟨t, ht, hh⟩ := szLines l0 1048576 hl0.2 (fun i hi => by
    have := hl0.1 (l0.getD i z116) (by simp [List.getD, hi])
    exact this.1.2) (by omega)
  refine Ev.bind ht ?_
  by_cases hc : t < 0
  · simp only [if_pos hc]; exact Ev.now _
  simp only [if_neg hc]
  have hb := hh.resolve_left hc
  have hl : l0.length ≤ 1048576 := by omega
  have hp : ∀ i, i < l0.length → lawPts l0 i ≤ 1048576 := fun i hi => by have := le_sum (lawPts l0) hi; omega
  have tl := toLines l0 hl hp
  obtain ⟨l, el⟩ : ∃ l : List S83, l = l0.map toLn := ⟨_, rfl⟩
  rw [← el] at tl
  have hl' : l.length = l0.length := by rw [el, List.length_map]
  have hsum : l.length + sumTo (pts l) l.length ≤ 1048576 := by
    rw [hl', el, sum_same (fun i hi => pts_toLn l0 i hi)]; omega
  have hpp : ∀ i, i < l.length → pts l i ≤ 9223372036854775806 := fun i hi => by have := le_sum (pts l) hi; omega
  have hs := specMoveLines a b c d e f l (by omega) (by omega)
  have hi := implMoveLines a b c d e f l (by omega) (by omega)
  have hml := move_len a b c d e f l
  generalize moveLines a b c d e f l = r at hs hi hml
  obtain ⟨r1, r2⟩ := r
  simp only [] at hml
  have hpr : ∀ i, i < r1.length → pts r1 i ≤ 9223372036854775806 := fun i hi => by have := le_sum (pts r1) hi; omega
  have m1 : mAt 1 l l.length ≤ 4194304 := by unfold mAt; omega
  have m2 : mAt 1 r1 r1.length ≤ 4194304 := by unfold mAt; omega
  refine Ev.bind tl (Ev.bind hs (Ev.bind hi (Ev.bind (eqLines r1 (by omega) hpr) (Ev.bind (eqLines l (by omega) hpp) (Ev.bind (markLines l 1 m1) (Ev.bind (markLines r1 1 m2) (Ev.bind (heldLines r1 1 m2) ?_)))))))
  rw [if_pos ⟨rfl, rfl, rfl, by omega, by omega, rfl⟩]
  exact Ev.now _

end Go.Proofs.Ytdbgnoolokfafaa.Pure
