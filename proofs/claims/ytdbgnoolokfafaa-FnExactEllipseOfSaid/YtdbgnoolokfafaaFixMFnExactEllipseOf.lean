/- Fixed numbers: products and quotients, by both sides. -/
import Derived.Test.YtdbgnoolokfafaaHFnExactEllipseOfx
import Derived.Test.YtdbgnoolokfafaaInFnExactEllipseOf
import Derived.Test.YtdbgnoolokfafaaWide
namespace Go.Proofs.Ytdbgnoolokfafaa.HFnExactEllipseOf
open Go.RowKit Go.Proofs.Ytdbgnoolokfafaa.HFnExactEllipseOf Go.Proofs.YtdbgnoolokfafaaW.PrintWords Go.Proofs.YtdbgnoolokfafaaW.PrintLast Go.Proofs.Ytdbgnoolokfafaa.Plain
set_option linter.unusedSimpArgs false
set_option linter.unusedVariables false

theorem times {a b : Int} (ha0 : 0 ≤ a) (ha1 : a < 18446744073709551616) (hb0 : 0 ≤ b) (hb1 : b < 18446744073709551616) : spec_l1Times.f a b = some (wide (a * b)) := by
  unfold spec_l1Times.f
  simp only [tdiv_w, tmod_w, tdiv_nn ha0, tmod_nn ha0, tdiv_nn hb0, tmod_nn hb0]
  rw [u64_id (n := a / 4294967296) (by omega) (by omega), u64_id (n := b / 4294967296) (by omega) (by omega)]
  obtain ⟨h, h1, h2, h3, h4⟩ := wide_mul ha0 ha1 hb0 hb1 rfl rfl rfl rfl
  generalize a / 4294967296 * (b / 4294967296) = A at *
  generalize a / 4294967296 * (b % 4294967296) = B at *
  generalize a % 4294967296 * (b / 4294967296) = C at *
  generalize a % 4294967296 * (b % 4294967296) = D at *
  rw [h]
  rw [u64_id (n := A) (by omega) (by omega), u64_id (n := B) (by omega) (by omega), u64_id (n := C) (by omega) (by omega), u64_id (n := D) (by omega) (by omega)]
  simp only [u64w]
  refine congrArg some ?_
  have e : ∀ m : Int, m * 4294967296 % 18446744073709551616 = m % 4294967296 * 4294967296 := fun m => by omega
  simp only [e]
  rw [or32 (by omega) (by omega) (by omega) (by omega)]
  exact wide_eq (by omega) (by omega) (by omega)

theorem plus {v b : Int} (h0 : 0 ≤ v) (hb0 : 0 ≤ b) (hb1 : b < 18446744073709551616) (h1 : v + b < 340282366920938463463374607431768211456) : spec_l1Plus.f (wide v).1 (wide v).2 b = some (wide (v + b)) := by
  unfold spec_l1Plus.f wide
  simp only [u64w]
  split
  · refine congrArg some (wide_eq (by omega) (by omega) (by omega))
  · refine congrArg some (wide_eq (by omega) (by omega) (by omega))
theorem sum {v : Int} (h0 : 0 ≤ v) (h1 : v + v < 340282366920938463463374607431768211456) : spec_l1Sum.f (wide v).1 (wide v).2 (wide v).1 (wide v).2 = some (wide (v + v)) := by
  unfold spec_l1Sum.f
  rw [plus h0 (by unfold wide; omega) (by unfold wide; omega) (by unfold wide; omega)]
  simp only [Option.bind_some, u64w]
  unfold wide
  refine congrArg some (wide_eq (by omega) (by omega) (by omega))
theorem less {v u : Int} : spec_l1Less.f (wide v).1 (wide v).2 (wide u).1 (wide u).2 = some (decide (v < u)) := by
  unfold spec_l1Less.f wide
  split
  · rw [decide_eq_true (by omega)]
  · split
    · refine congrArg some (decide_eq_decide.2 ?_); omega
    · rw [decide_eq_false (by omega)]

/-- The greatest q, most at most, with q times b at most v. -/
theorem over_loop (v b : Int) (hb0 : 0 ≤ b) (hb1 : b < 18446744073709551616) : ∀ (d : Nat) (lo hi most : Int), hi - lo = d → 0 ≤ lo → lo ≤ hi → hi ≤ most → most ≤ 4398046511104 → lo * b ≤ v → (hi < most → v < (hi + 1) * b) →
    ∃ r, Ev (fun k => spec_l1Over.l0 k b lo hi (wide v).1 (wide v).2) r ∧ 0 ≤ r ∧ r ≤ most ∧ r * b ≤ v ∧ (r < most → v < (r + 1) * b) := by
  intro d
  induction d using Nat.strongRecOn with
  | _ d ih =>
    intro lo hi most hd h0 h1 h2 h3 hl hh
    by_cases hlt : lo < hi
    · have em : IntKind.u64.wrap (lo + (IntKind.u64.wrap (Int.tdiv (IntKind.u64.wrap ((IntKind.u64.wrap (hi - lo)) + 1)) 2))) = (lo + hi + 1) / 2 := by
        rw [tdiv_w]; simp only [u64w]; omega
      have hm : 0 ≤ (lo + hi + 1) / 2 ∧ (lo + hi + 1) / 2 ≤ most ∧ lo < (lo + hi + 1) / 2 ∧ (lo + hi + 1) / 2 ≤ hi := by omega
      generalize hM : (lo + hi + 1) / 2 = m at em hm
      by_cases hc : v < m * b
      · have e1 : IntKind.u64.wrap (m - 1) = m - 1 := u64_id (by omega) (by omega)
        obtain ⟨r, hr, g⟩ := ih (m - 1 - lo).toNat (by omega) lo (m - 1) most (by omega) (by omega) (by omega) (by omega) h3 hl (fun _ => by rw [show m - 1 + 1 = m by omega]; exact hc)
        refine ⟨r, Ev.step (f := fun k => spec_l1Over.l0 k b lo (m - 1) (wide v).1 (wide v).2) (fun k => ?_) hr, g⟩
        rw [spec_l1Over.l0, if_pos hlt, em, times (by omega) (by omega) hb0 hb1, Option.bind_some, less, Option.bind_some, if_pos (decide_eq_true hc), e1]
      · obtain ⟨r, hr, g⟩ := ih (hi - m).toNat (by omega) m hi most (by omega) (by omega) (by omega) (by omega) h3 (by omega) hh
        refine ⟨r, Ev.step (f := fun k => spec_l1Over.l0 k b m hi (wide v).1 (wide v).2) (fun k => ?_) hr, g⟩
        rw [spec_l1Over.l0, if_pos hlt, em, times (by omega) (by omega) hb0 hb1, Option.bind_some, less, Option.bind_some, if_neg (by simpa using hc)]
    · have : lo = hi := by omega
      subst this
      exact ⟨lo, ev_some fun k => by rw [spec_l1Over.l0, if_neg hlt], h0, h2, hl, hh⟩

/-- sign, size and divisor: the nearest, cut. -/
def nearOf (neg : Bool) (v b : Int) : Int := max (-1099511627776) (min 1099511627776 (if neg = true then -((2 * v + b - 1) / (2 * b)) else (2 * v + b) / (2 * b)))
theorem cut_spec (n : Int) : spec_l1Cut.f n = some (max (-1099511627776) (min 1099511627776 n)) := by
  unfold spec_l1Cut.f
  split
  · exact congrArg some (by omega)
  · split
    · exact congrArg some (by omega)
    · exact congrArg some (by omega)
theorem nearOf_ev (neg : Bool) {v b : Int} (hv0 : 0 ≤ v) (hv1 : v ≤ 1208925819614629174706176) (hb0 : 0 < b) (hb1 : b ≤ 1099511627776) : Ev (fun k => spec_l1Near.f k neg (wide v).1 (wide v).2 b) (nearOf neg v b) := by
  have hv : (neg = true ∧ 2 * v + b - 1 = 2 * v + b - 1) ∨ neg = false := by cases neg <;> simp
  obtain ⟨t, ht, ht0, ht1, hnear⟩ : ∃ t, t = (if neg = true then 2 * v + b - 1 else 2 * v + b) ∧ 0 ≤ t ∧ t ≤ 4835703278458516698824704 ∧ nearOf neg v b = max (-1099511627776) (min 1099511627776 (if neg = true then -(t / (2 * b)) else t / (2 * b))) := by
    refine ⟨_, rfl, ?_, ?_, ?_⟩
    · cases neg <;> simp <;> omega
    · cases neg <;> simp <;> omega
    · cases neg <;> simp [nearOf]
  obtain ⟨r, hr, hr0, hr1, hr2, hr3⟩ := over_loop t (2 * b) (by omega) (by omega) 4398046511104 0 4398046511104 4398046511104 (by omega) (by omega) (by omega) (by omega) (by omega) (by omega) (by intro h; omega)
  have hq : r = min 4398046511104 (t / (2 * b)) := by
    by_cases hm : r < 4398046511104
    · rw [div_between (by omega) hr2 (hr3 hm)]; omega
    · have : r = 4398046511104 := by omega
      subst this
      have := Int.le_ediv_of_mul_le (by omega : 0 < 2 * b) hr2
      omega
  refine Ev.step (f := fun k => (spec_l1Over.l0 k (2 * b) 0 4398046511104 (wide t).1 (wide t).2).bind fun t127 => (if neg = true then ((spec_l1Cut.f (wrap64 (-(wrap64 (t127))))).bind fun t128 => (some t128)) else ((spec_l1Cut.f (wrap64 (t127))).bind fun t129 => (some t129)))) (fun k => ?_) (Ev.bind hr (ev_const fun k => ?_))
  · have e2 : IntKind.u64.wrap (2 * b) = 2 * b := u64_id (by omega) (by omega)
    unfold spec_l1Near.f
    rw [sum hv0 (by omega), Option.bind_some, plus (by omega) (by omega) (by omega) (by omega), Option.bind_some]
    cases neg with
    | false =>
      have : t = v + v + b := by simp at ht; omega
      rw [this, if_neg (by simp), spec_l1Near.j0, e2]
      rfl
    | true =>
      have ht' : t = v + v + b - 1 := by simp at ht; omega
      have hs : IntKind.u64.wrap ((wide (v + v + b)).2 - 1) = (wide t).2 := by rw [u64w, ht']; unfold wide; simp only; omega
      rw [if_pos rfl, hs]
      split
      · rename_i h0
        have hh : IntKind.u64.wrap ((wide (v + v + b)).1 - 1) = (wide t).1 := by
          rw [u64w, ht']; unfold wide at h0 ⊢; simp only at h0 ⊢; omega
        rw [hh, spec_l1Near.j0, e2]
        rfl
      · rename_i h0
        have hh : (wide (v + v + b)).1 = (wide t).1 := by
          rw [ht']; unfold wide at h0 ⊢; simp only at h0 ⊢; omega
        rw [hh, spec_l1Near.j0, e2]
        rfl
  · show (if neg = true then _ else _) = some (nearOf neg v b)
    have w1 : wrap64 r = r := wrap_id (by omega) (by omega)
    have w2 : wrap64 (-r) = -r := wrap_id (by omega) (by omega)
    have hq0 : 0 ≤ t / (2 * b) := Int.ediv_nonneg ht0 (by omega)
    rw [hnear]
    cases neg with
    | false =>
      rw [if_neg (by simp), if_neg (by simp), w1, cut_spec, Option.bind_some]
      exact congrArg some (by omega)
    | true =>
      rw [if_pos rfl, if_pos rfl, w1, w2, cut_spec, Option.bind_some]
      exact congrArg some (by omega)

theorem bne_signs (a b : Int) : ((decide (a < 0)) != (decide (b < 0))) = decide ((a < 0) ≠ (b < 0)) := by
  by_cases h : a < 0 <;> by_cases h2 : b < 0 <;> simp [h, h2]
def fixed (a : Int) : Bool := decide (-1099511627776 ≤ a ∧ a ≤ 1099511627776)
def fixMul (a b : Int) : Int := if (fixed a && fixed b) = true then max (-1099511627776) (min 1099511627776 ((a * b + 32768) / 65536)) else 0
def fixDiv (a b : Int) : Int := if (fixed a && fixed b && (b != 0)) = true then (if b < 0 then max (-1099511627776) (min 1099511627776 ((2 * (-a) * 65536 + (-b)) / (2 * (-b)))) else max (-1099511627776) (min 1099511627776 ((2 * a * 65536 + b) / (2 * b)))) else 0

theorem abs_spec {a : Int} (h0 : -1099511627776 ≤ a) (h1 : a ≤ 1099511627776) : spec_l1Abs.f a = some (if a < 0 then -a else a) := by
  unfold spec_l1Abs.f
  split
  · rw [wrap_id (by omega) (by omega)]
  · rfl
theorem abs_mul (a b : Int) : (if a < 0 then -a else a) * (if b < 0 then -b else b) = if ((decide (a < 0)) != (decide (b < 0))) = true then -(a * b) else a * b := by
  by_cases h : a < 0 <;> by_cases h2 : b < 0 <;> simp [h, h2, Int.neg_mul, Int.mul_neg]
/-- A quotient of what is below 0: halves go up, too. -/
theorem neg_half (p b : Int) (hb : 0 < b) : -((2 * p + b - 1) / (2 * b)) = (2 * (-p) + b) / (2 * b) := by
  have h1 := Int.mul_ediv_add_emod (2 * p + b - 1) (2 * b)
  have h2 := Int.emod_nonneg (2 * p + b - 1) (by omega : 2 * b ≠ 0)
  have h3 := Int.emod_lt_of_pos (2 * p + b - 1) (by omega : 0 < 2 * b)
  generalize (2 * p + b - 1) / (2 * b) = q at *
  generalize (2 * p + b - 1) % (2 * b) = r at *
  refine (div_between (by omega) ?_ ?_).symm
  · rw [Int.neg_mul, Int.mul_comm q]; omega
  · rw [show -q + 1 = -(q - 1) by omega, Int.neg_mul, Int.sub_mul, Int.mul_comm q]; omega
theorem size_le {a b : Int} (h0 : -1099511627776 ≤ a) (h1 : a ≤ 1099511627776) (h2 : -1099511627776 ≤ b) (h3 : b ≤ 1099511627776) : 0 ≤ (if a < 0 then -a else a) * (if b < 0 then -b else b) ∧ (if a < 0 then -a else a) * (if b < 0 then -b else b) ≤ 1208925819614629174706176 := by
  have ha : 0 ≤ (if a < 0 then -a else a) ∧ (if a < 0 then -a else a) ≤ 1099511627776 := by split <;> omega
  have hb : 0 ≤ (if b < 0 then -b else b) ∧ (if b < 0 then -b else b) ≤ 1099511627776 := by split <;> omega
  refine ⟨Int.mul_nonneg ha.1 hb.1, ?_⟩
  have := Int.mul_le_mul ha.2 hb.2 hb.1 (by omega)
  simpa using this
theorem specFixMul (a b : Int) : Ev (fun k => spec_FixMul.f k a b) (fixMul a b) := by
  unfold spec_FixMul.f spec_GoodFixed.f
  simp only [in_, Option.bind_some, decide_eq_true_eq]
  unfold fixMul fixed
  by_cases ha : -1099511627776 ≤ a ∧ a ≤ 1099511627776
  · simp only [if_pos ha]
    by_cases hb : -1099511627776 ≤ b ∧ b ≤ 1099511627776
    · simp only [decide_eq_true ha, decide_eq_true hb]
      refine Ev.step (f := fun k => (spec_l1Near.f k ((decide (a < 0)) != (decide (b < 0))) (wide ((if a < 0 then -a else a) * (if b < 0 then -b else b))).1 (wide ((if a < 0 then -a else a) * (if b < 0 then -b else b))).2 65536).bind fun t136 => (some t136)) (fun k => ?_) ?_
      · have w1 : ∀ x : Int, -1099511627776 ≤ x → x ≤ 1099511627776 → IntKind.u64.wrap (if x < 0 then -x else x) = if x < 0 then -x else x := fun x h0 h1 => u64_id (by split <;> omega) (by split <;> omega)
        rw [spec_FixMul.j0, if_neg (by simp), abs_spec ha.1 ha.2, Option.bind_some, abs_spec hb.1 hb.2, Option.bind_some, w1 a ha.1 ha.2, w1 b hb.1 hb.2, times (by split <;> omega) (by split <;> omega) (by split <;> omega) (by split <;> omega), Option.bind_some]
      · have hs := size_le ha.1 ha.2 hb.1 hb.2
        refine Ev.bind (nearOf_ev _ hs.1 hs.2 (by omega) (by omega)) (ev_const fun k => ?_)
        refine congrArg some ?_
        rw [show (true && true) = true from rfl, if_pos rfl]
        unfold nearOf
        rw [abs_mul]
        by_cases hn : ((decide (a < 0)) != (decide (b < 0))) = true
        · rw [if_pos hn, if_pos hn, neg_half _ _ (by omega), Int.neg_neg]; congr 2; omega
        · rw [if_neg hn, if_neg hn]; congr 2; omega
    · simp only [decide_eq_false hb]
      refine ev_some fun k => ?_
      rw [spec_FixMul.j0, if_pos (by simp), if_neg (by simp)]
  · simp only [if_neg ha, decide_eq_false ha]
    refine ev_some fun k => ?_
    rw [spec_FixMul.j0, if_pos rfl, if_neg (by simp)]
theorem areFixed_two (a b : Int) (k : Nat) : impl_areFixed.f (k + 3) [a, b] = some (fixed a && fixed b) := by
  unfold impl_areFixed.f impl_areFixed.l0 impl_areFixed.l0 impl_areFixed.l0 impl_GoodFixed.f fixed
  simp only [within_, Option.bind_some, decide_eq_true_eq]
  have w1 : wrap64 (0 + 1) = 1 := wrap_id (by omega) (by omega)
  have w2 : wrap64 (1 + 1) = 2 := wrap_id (by omega) (by omega)
  have r0 : rd [a, b] 0 = a := rfl
  have r1 : rd [a, b] 1 = b := rfl
  simp only [w1, w2, r0, r1, List.length_cons, List.length_nil]
  by_cases ha : -1099511627776 ≤ a ∧ a ≤ 1099511627776 <;> by_cases hb : -1099511627776 ≤ b ∧ b ≤ 1099511627776 <;> simp [ha, hb]
theorem down_ {a b : Int} (hb : 0 < b) (h0 : -9223372036854775807 ≤ a) (h1 : a ≤ 9223372036854775807) : impl_down.f a b = some (a / b) := by
  unfold impl_down.f
  have e := down_num a hb
  have s := tdiv_small hb h0 h1
  rw [if_neg (by omega), wrap_id (n := Int.tdiv a b) (by omega) (by omega)]
  split
  · rename_i h
    rw [if_pos h] at e
    rw [wrap_id (by omega) (by omega), e]
  · rename_i h
    rw [if_neg h] at e
    rw [e]
theorem cut_ (n : Int) : impl_cut.f n (-1099511627776) 1099511627776 = some (max (-1099511627776) (min 1099511627776 n)) := by
  unfold impl_cut.f mx mn
  refine congrArg some ?_
  split <;> split <;> omega
theorem mx_abs {x : Int} (h0 : -1099511627776 ≤ x) (h1 : x ≤ 1099511627776) : mx x (wrap64 (-x)) = if x < 0 then -x else x := by
  rw [wrap_id (by omega) (by omega)]
  unfold mx
  split <;> split <;> omega
theorem mul64 {x y : Int} (hx0 : 0 ≤ x) (hx : x < 18446744073709551616) (hy0 : 0 ≤ y) (hy : y < 18446744073709551616) : bits_Mul64.f x y = some (wide (x * y)) := by
  unfold bits_Mul64.f wide
  have h := mul64_arith x y hx0 hx hy0 hy
  rw [and_low32 x hx0 hx, and_low32 y hy0 hy]
  rw [show ∀ z : Int, Go.bits .and .u64 (IntKind.u64.wrap z) 4294967295 = IntKind.u64.wrap z % 4294967296 from fun z => and_low32 _ (by rw [u64w]; omega) (by rw [u64w]; omega)]
  simp only [u64w] at h ⊢
  rw [h]
theorem big_mul {p : Int} (neg : Bool) (hp0 : 0 ≤ p) (hp1 : p ≤ 1208925819614629174706176) (k : Nat) :
    impl_FixMul.j1 (k + 1) neg (wide p).1 (wide p).2 (if neg = true then 32767 else 32768) = some (max (-1099511627776) (min 1099511627776 (if neg = true then (-p + 32768) / 65536 else (p + 32768) / 65536))) := by
  obtain ⟨m, hm, hm0, hm1⟩ : ∃ m : Int, m = (if neg = true then 32767 else 32768) ∧ 32767 ≤ m ∧ m ≤ 32768 := ⟨_, rfl, by split <;> omega, by split <;> omega⟩
  rw [← hm, impl_FixMul.j1]
  unfold bits_Add64.f wide
  rw [if_pos (by simp only; omega), Option.bind_some]
  simp only [u64w]
  have e1 : (p / 18446744073709551616 + (p % 18446744073709551616 + m + 0) / 18446744073709551616) % 18446744073709551616 = (p + m) / 18446744073709551616 := by omega
  have e2 : (p % 18446744073709551616 + m + 0) % 18446744073709551616 = (p + m) % 18446744073709551616 := by omega
  rw [e1, e2]
  obtain ⟨t, ht⟩ : ∃ t, t = p + m := ⟨_, rfl⟩
  rw [← ht]
  by_cases hc : t / 18446744073709551616 / 65536 = 0
  · rw [if_pos hc]
    have e3 : t / 18446744073709551616 * 281474976710656 % 18446744073709551616 = t / 18446744073709551616 * 281474976710656 := by omega
    rw [e3, or48 (by omega) (by omega) (by omega) (by omega)]
    have e4 : t / 18446744073709551616 * 281474976710656 + t % 18446744073709551616 / 65536 = t / 65536 := by omega
    rw [e4]
    have e5 : wrap64 (mn (t / 65536) 1099511627776) = min 1099511627776 (t / 65536) := by
      unfold mn
      split
      · rw [wrap_id (by omega) (by omega)]; omega
      · rw [wrap_id (by omega) (by omega)]; omega
    rw [e5]
    cases neg with
    | false =>
      rw [if_neg (by simp)] at hm ⊢
      rw [if_neg (by simp)]
      exact congrArg some (by omega)
    | true =>
      rw [if_pos rfl] at hm ⊢
      rw [if_pos rfl, wrap_id (by omega) (by omega)]
      exact congrArg some (by omega)
  · rw [if_neg hc]
    cases neg with
    | false =>
      rw [if_neg (by simp)] at hm ⊢
      rw [if_neg (by simp)]
      exact congrArg some (by omega)
    | true =>
      rw [if_pos rfl] at hm ⊢
      rw [if_pos rfl]
      exact congrArg some (by omega)
theorem implFixMul (a b : Int) : Ev (fun k => impl_FixMul.f k a b) (fixMul a b) := by
  refine ⟨3, fun k hk => ?_⟩
  obtain ⟨k, rfl⟩ : ∃ m, k = m + 3 := ⟨k - 3, by omega⟩
  show impl_FixMul.f (k + 3) a b = _
  unfold impl_FixMul.f fixMul
  rw [areFixed_two, Option.bind_some]
  cases hf : (fixed a && fixed b) with
  | false => rw [if_neg (by simp), if_neg (by simp)]
  | true =>
    have hf1 : (-1099511627776 ≤ a ∧ a ≤ 1099511627776) ∧ -1099511627776 ≤ b ∧ b ≤ 1099511627776 := by simpa [fixed] using hf
    have hbig : impl_FixMul.j0 (k + 3) a b false = some (max (-1099511627776) (min 1099511627776 ((a * b + 32768) / 65536))) := by
      have hs := size_le hf1.1.1 hf1.1.2 hf1.2.1 hf1.2.2
      rw [impl_FixMul.j0, if_neg (by simp), mx_abs hf1.1.1 hf1.1.2, mx_abs hf1.2.1 hf1.2.2]
      rw [u64_id (n := if a < 0 then -a else a) (by split <;> omega) (by split <;> omega), u64_id (n := if b < 0 then -b else b) (by split <;> omega) (by split <;> omega), mul64 (by split <;> omega) (by split <;> omega) (by split <;> omega) (by split <;> omega), Option.bind_some]
      have hb := big_mul ((decide (a < 0)) != (decide (b < 0))) hs.1 hs.2 (k + 1)
      rw [abs_mul] at hb ⊢
      cases hn : ((decide (a < 0)) != (decide (b < 0))) with
      | false =>
        rw [hn] at hb
        simp only [Bool.false_eq_true, if_false] at hb ⊢
        exact hb
      | true =>
        rw [hn] at hb
        simp only [if_true, Int.neg_neg] at hb ⊢
        exact hb
    rw [if_pos rfl, if_pos rfl]
    simp only [within_, Option.bind_some, decide_eq_true_eq]
    split
    · rename_i h1
      by_cases h2 : -1073741824 ≤ b ∧ b ≤ 1073741824
      · have hp : -1152921504606846976 ≤ a * b ∧ a * b ≤ 1152921504606846976 := by
          have h := size_le (a := a) (b := b) (by omega) (by omega) (by omega) (by omega)
          have ha : 0 ≤ (if a < 0 then -a else a) ∧ (if a < 0 then -a else a) ≤ 1073741824 := by split <;> omega
          have hb : 0 ≤ (if b < 0 then -b else b) ∧ (if b < 0 then -b else b) ≤ 1073741824 := by split <;> omega
          have hm := Int.mul_le_mul ha.2 hb.2 hb.1 (by omega)
          rw [abs_mul] at hm h
          split at hm <;> rename_i hn
          · rw [if_pos hn] at h; omega
          · rw [if_neg hn] at h; omega
        rw [decide_eq_true h2, impl_FixMul.j0, if_pos rfl, wrap_id (n := a * b) (by omega) (by omega), wrap_id (n := a * b + 32768) (by omega) (by omega), down_ (by omega) (by omega) (by omega), Option.bind_some, cut_, Option.bind_some]
      · rw [decide_eq_false h2]; exact hbig
    · exact hbig

end Go.Proofs.Ytdbgnoolokfafaa.HFnExactEllipseOf
