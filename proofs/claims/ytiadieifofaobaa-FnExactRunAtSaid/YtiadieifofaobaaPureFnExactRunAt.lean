/- Merged: Down, In, Num, PureFnExactRunAt, Run, Stops, Tint, Wide. -/
import Derived.Test.YtiadieifofaobaaPlain
import Derived.Laws.MathBits
import Derived.Laws.BitsAllLaws
import Derived.Test.YtiadieifofaobaaHFnExactRunAtx
/- More facts on numbers: quotients, squares, roots. -/
namespace Go.Proofs.Ytiadieifofaobaa.Plain
open Go.RowKit Go.Proofs.YtiadieifofaobaaW.PrintWords Go.Proofs.YtiadieifofaobaaW.PrintLast

theorem tdiv_nn {a : Int} (h : 0 ≤ a) (b : Int) : Int.tdiv a b = a / b := Int.tdiv_eq_ediv_of_nonneg h
theorem tmod_nn {a : Int} (h : 0 ≤ a) (b : Int) : Int.tmod a b = a % b := Int.tmod_eq_emod_of_nonneg h
theorem sq_le {a b : Int} (h0 : 0 ≤ a) (h : a ≤ b) : a * a ≤ b * b := Int.mul_le_mul h h h0 (by omega)
theorem sq_bound {a b : Int} (h0 : -b ≤ a) (h : a ≤ b) : 0 ≤ a * a ∧ a * a ≤ b * b := by
  rcases (by omega : 0 ≤ a ∨ a < 0) with h1 | h1
  · exact ⟨Int.mul_nonneg h1 h1, sq_le h1 h⟩
  · have e : a * a = (-a) * (-a) := by rw [Int.neg_mul_neg]
    rw [e]
    exact ⟨Int.mul_nonneg (by omega) (by omega), sq_le (by omega) (by omega)⟩
/-- A root is one number alone. -/
theorem root_one {n r s : Int} (hr0 : 0 ≤ r) (hs0 : 0 ≤ s) (h1 : r * r ≤ n) (h2 : n < (r + 1) * (r + 1)) (h3 : s * s ≤ n) (h4 : n < (s + 1) * (s + 1)) : r = s := by
  rcases (by omega : r < s ∨ r = s ∨ s < r) with h | h | h
  · have := sq_le (a := r + 1) (b := s) (by omega) (by omega); omega
  · exact h
  · have := sq_le (a := s + 1) (b := r) (by omega) (by omega); omega

end Go.Proofs.Ytiadieifofaobaa.Plain

/- Wide products, as two halves of 64 bits. -/
namespace Go.Proofs.Ytiadieifofaobaa.Plain
open Go.RowKit Go.Proofs.YtiadieifofaobaaW.PrintWords Go.Proofs.YtiadieifofaobaaW.PrintLast

theorem u64w (n : Int) : IntKind.u64.wrap n = n % 18446744073709551616 := IntKind.wrap_u64 n
theorem u64_id {n : Int} (h0 : 0 ≤ n) (h1 : n < 18446744073709551616) : IntKind.u64.wrap n = n := by rw [u64w]; omega
theorem tdiv_w (z b : Int) : Int.tdiv (IntKind.u64.wrap z) b = IntKind.u64.wrap z / b := tdiv_nn (by rw [u64w]; omega) b
theorem tmod_w (z b : Int) : Int.tmod (IntKind.u64.wrap z) b = IntKind.u64.wrap z % b := tmod_nn (by rw [u64w]; omega) b
theorem or_join (i : Nat) (x y : Int) (hx0 : 0 ≤ x) (hx1 : x < 18446744073709551616) (hx : x.toNat % 2 ^ i = 0) (hy0 : 0 ≤ y) (hy : y.toNat < 2 ^ i) (hy1 : y < 18446744073709551616) : Go.bits .or .u64 x y = x + y := by
  rw [u64_or x y hx0 hx1 hy0 hy1, nat_join i _ _ hx hy]
  omega
theorem or32 {h l : Int} (h0 : 0 ≤ h) (h1 : h < 4294967296) (l0 : 0 ≤ l) (l1 : l < 4294967296) : Go.bits .or .u64 (h * 4294967296) l = h * 4294967296 + l :=
  or_join 32 _ _ (by omega) (by omega) (by omega) l0 (by omega) (by omega)
theorem or48 {h l : Int} (h0 : 0 ≤ h) (h1 : h < 65536) (l0 : 0 ≤ l) (l1 : l < 281474976710656) : Go.bits .or .u64 (h * 281474976710656) l = h * 281474976710656 + l :=
  or_join 48 _ _ (by omega) (by omega) (by omega) l0 (by omega) (by omega)

/-- A wide number's halves. -/
def wide (v : Int) : Int × Int := (v / 18446744073709551616, v % 18446744073709551616)
theorem wide_eq {v h l : Int} (l0 : 0 ≤ l) (l1 : l < 18446744073709551616) (h1 : v = h * 18446744073709551616 + l) : (h, l) = wide v := by
  unfold wide
  congr 1 <;> omega
theorem split_ab (a b : Int) : a * b = a / 4294967296 * (b / 4294967296) * 18446744073709551616 + (a / 4294967296 * (b % 4294967296) + a % 4294967296 * (b / 4294967296)) * 4294967296 + a % 4294967296 * (b % 4294967296) := by
  have h := split_mul (a / 4294967296) (a % 4294967296) (b / 4294967296) (b % 4294967296)
  rw [show a / 4294967296 * 4294967296 + a % 4294967296 = a by omega, show b / 4294967296 * 4294967296 + b % 4294967296 = b by omega] at h
  exact h
theorem wide_mul {a b A B C D : Int} (ha0 : 0 ≤ a) (ha1 : a < 18446744073709551616) (hb0 : 0 ≤ b) (hb1 : b < 18446744073709551616)
    (hA : a / 4294967296 * (b / 4294967296) = A) (hB : a / 4294967296 * (b % 4294967296) = B) (hC : a % 4294967296 * (b / 4294967296) = C) (hD : a % 4294967296 * (b % 4294967296) = D) :
    a * b = A * 18446744073709551616 + (B + C) * 4294967296 + D ∧ (0 ≤ A ∧ A ≤ 18446744065119617025) ∧ (0 ≤ B ∧ B ≤ 18446744065119617025) ∧ (0 ≤ C ∧ C ≤ 18446744065119617025) ∧ 0 ≤ D ∧ D ≤ 18446744065119617025 := by
  refine ⟨?_, ?_, ?_, ?_, ?_⟩
  · rw [← hA, ← hB, ← hC, ← hD]; exact split_ab a b
  · rw [← hA]; exact prod_bound _ _ (by omega) (by omega) (by omega) (by omega)
  · rw [← hB]; exact prod_bound _ _ (by omega) (by omega) (by omega) (by omega)
  · rw [← hC]; exact prod_bound _ _ (by omega) (by omega) (by omega) (by omega)
  · rw [← hD]; exact prod_bound _ _ (by omega) (by omega) (by omega) (by omega)

theorem div_between {n b q : Int} (hb : 0 < b) (h0 : q * b ≤ n) (h1 : n < (q + 1) * b) : n / b = q :=
  Int.le_antisymm (Int.lt_add_one_iff.1 (Int.ediv_lt_of_lt_mul hb h1)) (Int.le_ediv_of_mul_le hb h0)
theorem tdiv_neg_num {a : Int} (h : a < 0) (b : Int) : Int.tdiv a b = -((-a) / b) ∧ Int.tmod a b = -((-a) % b) := by
  obtain ⟨c, rfl⟩ : ∃ c, a = -c := ⟨-a, by omega⟩
  rw [Int.neg_tdiv, Int.neg_tmod, tdiv_nn (by omega), tmod_nn (by omega), Int.neg_neg]
  exact ⟨rfl, rfl⟩
/-- A quotient rounded down, by the machine's. -/
theorem down_num (a : Int) {b : Int} (hb : 0 < b) : (if Int.tmod a b < 0 then Int.tdiv a b - 1 else Int.tdiv a b) = a / b := by
  rcases (by omega : 0 ≤ a ∨ a < 0) with h | h
  · rw [tmod_nn h, tdiv_nn h, if_neg (by have := Int.emod_nonneg a (by omega : b ≠ 0); omega)]
  · obtain ⟨h1, h2⟩ := tdiv_neg_num h b
    rw [h1, h2]
    have e := Int.mul_ediv_add_emod (-a) b
    have e0 := Int.emod_nonneg (-a) (by omega : b ≠ 0)
    have e1 := Int.emod_lt_of_pos (-a) hb
    generalize (-a) / b = q at *
    generalize (-a) % b = r at *
    split
    · refine (div_between hb ?_ ?_).symm
      · rw [show -q - 1 = -(q + 1) by omega, Int.neg_mul, Int.add_mul, Int.mul_comm q]; omega
      · rw [show -q - 1 + 1 = -q by omega, Int.neg_mul, Int.mul_comm q]; omega
    · refine (div_between hb ?_ ?_).symm
      · rw [Int.neg_mul, Int.mul_comm q]; omega
      · rw [show -q + 1 = -(q - 1) by omega, Int.neg_mul, Int.sub_mul, Int.mul_comm q]; omega
theorem tdiv_small {a b : Int} (hb : 0 < b) (h0 : -9223372036854775807 ≤ a) (h1 : a ≤ 9223372036854775807) : -9223372036854775807 ≤ Int.tdiv a b ∧ Int.tdiv a b ≤ 9223372036854775807 := by
  rcases (by omega : 0 ≤ a ∨ a < 0) with h | h
  · rw [tdiv_nn h]
    have h2 := Int.ediv_nonneg h (by omega : 0 ≤ b)
    have h3 := Int.ediv_le_self b h
    omega
  · rw [(tdiv_neg_num h b).1]
    have h2 := Int.ediv_nonneg (by omega : 0 ≤ -a) (by omega : 0 ≤ b)
    have h3 := Int.ediv_le_self b (by omega : 0 ≤ -a)
    omega

end Go.Proofs.Ytiadieifofaobaa.Plain

/- Bounds asked by both sides. -/
namespace Go.Proofs.Ytiadieifofaobaa.HFnExactRunAt
open Go.RowKit Go.Proofs.YtiadieifofaobaaW.PrintWords Go.Proofs.YtiadieifofaobaaW.PrintLast Go.Proofs.Ytiadieifofaobaa.Plain
set_option linter.unusedSimpArgs false
set_option linter.unusedVariables false

theorem in_ (a b c : Int) : spec_l1In.f a b c = some (decide (b ≤ a ∧ a ≤ c)) := by
  unfold spec_l1In.f
  by_cases h : a ≥ b
  · rw [if_pos h]; simp [show b ≤ a from h]
  · rw [if_neg h]; simp [show ¬ b ≤ a from h]
theorem within_ (a b c : Int) : impl_within.f a b c = some (decide (b ≤ a ∧ a ≤ c)) := in_ a b c

end Go.Proofs.Ytiadieifofaobaa.HFnExactRunAt

/- Tints that are good, asked by both sides. -/
namespace Go.Proofs.Ytiadieifofaobaa.HFnExactRunAt
open Go.RowKit Go.Proofs.YtiadieifofaobaaW.PrintWords Go.Proofs.YtiadieifofaobaaW.PrintLast Go.Proofs.Ytiadieifofaobaa.Plain
set_option linter.unusedSimpArgs false
set_option linter.unusedVariables false

/-- A tint is good. -/
def goodTint (r g b a : Int) : Bool := decide (0 ≤ a ∧ a ≤ 255) && decide (0 ≤ r ∧ r ≤ a) && decide (0 ≤ g ∧ g ≤ a) && decide (0 ≤ b ∧ b ≤ a)
theorem specGoodTint (r g b a : Int) : spec_GoodTint.f r g b a = some (goodTint r g b a) := by
  unfold spec_GoodTint.f goodTint
  simp only [in_, Option.bind_some, decide_eq_true_eq]
  by_cases h1 : 0 ≤ a ∧ a ≤ 255
  · by_cases h2 : 0 ≤ r ∧ r ≤ a
    · by_cases h3 : 0 ≤ g ∧ g ≤ a
      · simp only [if_pos h1, if_pos h2, if_pos h3, decide_eq_true h1, decide_eq_true h2, decide_eq_true h3, Bool.true_and]
      · simp only [if_pos h1, if_pos h2, if_neg h3, decide_eq_false h3, Bool.and_false, Bool.false_and]
    · simp only [if_pos h1, if_neg h2, decide_eq_false h2, Bool.and_false, Bool.false_and]
  · simp only [if_neg h1, decide_eq_false h1, Bool.false_and]
theorem implGoodTint (r g b a : Int) : impl_GoodTint.f r g b a = some (goodTint r g b a) := specGoodTint r g b a

end Go.Proofs.Ytiadieifofaobaa.HFnExactRunAt

/- Stops: copied, compared, and asked whether they are good, by both sides. -/
namespace Go.Proofs.Ytiadieifofaobaa.HFnExactRunAt
open Go.RowKit Go.Proofs.YtiadieifofaobaaW.PrintWords Go.Proofs.YtiadieifofaobaaW.PrintLast Go.Proofs.Ytiadieifofaobaa.Plain
set_option linter.unusedSimpArgs false
set_option linter.unusedVariables false

theorem toStops (l : List S106) (hl : l.length ≤ 1048576) : Ev (fun k => laws_toStopS.f k l) (l.map fun x => ⟨x.f0, ⟨x.f1.f0, x.f1.f1, x.f1.f2, x.f1.f3⟩⟩) := by
  unfold laws_toStopS.f
  have h := copy_ev (fun x : S106 => (⟨x.f0, ⟨x.f1.f0, x.f1.f1, x.f1.f2, x.f1.f3⟩⟩ : S103)) l z106 z103 (by omega) (fun k ys i => laws_toStopS.l0 k l ys i) (fun k i ys hi hy => by
    show laws_toStopS.l0 (k + 1) l ys i = _
    rw [laws_toStopS.l0, if_pos (by omega), if_pos (by omega)]
    simp only [laws_toStop.f, laws_toTint.f, Option.bind_some]
    rw [if_pos (by omega)]; rfl) (fun k ys => by
    show laws_toStopS.l0 (k + 1) l ys _ = _
    rw [laws_toStopS.l0, if_neg (by omega)]) (List.replicate ((l.length : Int)).toNat z103) (by simp)
  simp only [if_pos (show (0 : Int) ≤ l.length by omega), if_pos (show (l.length : Int).toNat ≤ 7036874417766 by omega)]
  exact h

theorem eqStops (l : List S103) (hl : l.length ≤ 9223372036854775806) : Ev (fun k => laws_eqStopS.f k l l) true := by
  unfold laws_eqStopS.f
  have he : ∀ a b c d e : Int, laws_eqStop.f a b c d e a b c d e = some true := fun a b c d e => by simp [laws_eqStop.f, laws_eqTint.f]
  have h := all_ev (fun _ : S103 => true) l z103 (by omega) (fun k i => laws_eqStopS.l0 k l l i) (fun k i hi => by
    show laws_eqStopS.l0 (k + 1) l l i = _
    rw [laws_eqStopS.l0, if_pos (by omega), if_pos (by omega), if_pos (by omega), he]
    simp only [Option.bind_some]) (fun k => by
    show laws_eqStopS.l0 (k + 1) l l _ = _
    rw [laws_eqStopS.l0, if_neg (by omega)])
  rw [List.all_eq_true.2 (fun _ _ => rfl)] at h
  simp only [if_true]
  exact h

/-- A stop is good, and not ahead of the one before it. -/
def stopGood (p : Option S103) (x : S103) : Bool := decide (0 ≤ x.f0 ∧ x.f0 ≤ 65536) && goodTint x.f1.f0 x.f1.f1 x.f1.f2 x.f1.f3 && (match p with | none => true | some q => decide (q.f0 ≤ x.f0))
def stopsGo : Option S103 → List S103 → Bool
  | _, [] => true
  | p, x :: xs => stopGood p x && stopsGo (some x) xs
def stopsGood (l : List S103) : Bool := decide (1 ≤ (l.length : Int) ∧ (l.length : Int) ≤ 8) && stopsGo none l

theorem stops_ev (l : List S103) (hl : l.length ≤ 1048576) (e : Bool) (g : Nat → Int → Option Bool)
    (h0 : ∀ k, 0 < l.length → g (k + 1) 0 = if stopGood none (rd_T103 l 0) = true then g k (wrap64 (0 + 1)) else some false)
    (h : ∀ (k i : Nat), i + 1 < l.length → g (k + 1) ((i + 1 : Nat) : Int) = if stopGood (some (rd_T103 l (i : Nat))) (rd_T103 l ((i + 1 : Nat) : Int)) = true then g k (wrap64 (((i + 1 : Nat) : Int) + 1)) else some false)
    (he : ∀ k, g (k + 1) l.length = some e) : Ev (fun k => g k 0) (stopsGo none l && e) := by
  have hr : ∀ i (hi : i < l.length), rd_T103 l (i : Nat) = l[i] := fun i hi => by simp [rd_T103, hi]
  have key : ∀ i, i < l.length → Ev (fun k => g k ((i + 1 : Nat) : Int)) (stopsGo (some (rd_T103 l (i : Nat))) (l.drop (i + 1)) && e) := by
    intro i hi
    have := up (p := fun i => i < l.length → Ev (fun k => g k ((i + 1 : Nat) : Int)) (stopsGo (some (rd_T103 l (i : Nat))) (l.drop (i + 1)) && e)) (l.length - 1) (fun hj => by
      rw [show l.length - 1 + 1 = l.length by omega, List.drop_length]
      refine ev_some fun k => ?_
      rw [he]; simp [stopsGo]) (fun j hj ih _ => by
      have hj1 : j + 1 < l.length := by omega
      rw [List.drop_eq_getElem_cons hj1]
      have h2 := hr (j + 1) hj1
      cases hP : stopGood (some (rd_T103 l (j : Nat))) (rd_T103 l ((j + 1 : Nat) : Int))
      · refine ev_some fun k => ?_
        rw [h k j hj1, hP]
        rw [h2] at hP
        simp [stopsGo, hP]
      · refine Ev.step (f := fun k => g k ((j + 1 + 1 : Nat) : Int)) (fun k => ?_) ?_
        · show g (k + 1) _ = _
          rw [h k j hj1, hP, if_pos rfl, wrap_id (by omega) (by omega)]; rfl
        · have := ih hj1
          rw [h2] at hP
          simp only [stopsGo, hP, Bool.true_and]
          rw [h2] at this
          exact this) i (by omega)
    exact this hi
  cases l with
  | nil => refine ev_some fun k => ?_; have := he k; simpa [stopsGo] using this
  | cons x xs =>
    have h1 := hr 0 (by simp)
    simp only [List.getElem_cons_zero] at h1
    cases hP : stopGood none x
    · refine ev_some fun k => ?_
      have := h0 k (by simp)
      rw [this, show rd_T103 (x :: xs) 0 = x from h1, hP]
      simp [stopsGo, hP]
    · refine Ev.step (f := fun k => g k ((0 + 1 : Nat) : Int)) (fun k => ?_) ?_
      · have := h0 k (by simp)
        show g (k + 1) 0 = _
        rw [this, show rd_T103 (x :: xs) 0 = x from h1, hP, if_pos rfl, wrap_id (by omega) (by omega)]; rfl
      · have := key 0 (by simp)
        rw [h1] at this
        simpa [stopsGo, hP] using this

theorem specStops (l : List S103) (hl : l.length ≤ 1048576) : Ev (fun k => spec_StopsGood.f k l) (stopsGood l) := by
  have h := stops_ev l hl true (fun k i => spec_StopsGood.l0 k l l l.length i) (fun k h0 => by
    show spec_StopsGood.l0 (k + 1) l l l.length 0 = _
    rw [spec_StopsGood.l0, if_pos (by omega), if_pos (by omega), if_pos (by omega), in_, specGoodTint]
    simp only [Option.bind_some, stopGood, if_neg (show ¬ (0 : Int) > 0 by omega), Bool.and_true]
    cases decide (0 ≤ (rd_T103 l 0).f0 ∧ (rd_T103 l 0).f0 ≤ 65536) <;> simp) (fun k i hi => by
    show spec_StopsGood.l0 (k + 1) l l l.length ((i + 1 : Nat) : Int) = _
    have e : wrap64 (((i + 1 : Nat) : Int) - 1) = (i : Int) := by rw [wrap_id (by omega) (by omega)]; omega
    rw [spec_StopsGood.l0, if_pos (by omega), if_pos (by omega), if_pos (by omega), in_, specGoodTint, e]
    simp only [Option.bind_some, stopGood, if_pos (show ((i + 1 : Nat) : Int) > 0 by omega), if_pos (show (0 : Int) ≤ (i : Int) by omega), if_pos (show (i : Int) < l.length by omega)]
    by_cases hA : 0 ≤ (rd_T103 l ((i + 1 : Nat) : Int)).f0 ∧ (rd_T103 l ((i + 1 : Nat) : Int)).f0 ≤ 65536
    case neg => simp only [decide_eq_false hA, Bool.false_and, Bool.false_eq_true, if_false]
    · simp only [decide_eq_true hA, if_true, Bool.true_and]
      cases goodTint (rd_T103 l ((i + 1 : Nat) : Int)).f1.f0 (rd_T103 l ((i + 1 : Nat) : Int)).f1.f1 (rd_T103 l ((i + 1 : Nat) : Int)).f1.f2 (rd_T103 l ((i + 1 : Nat) : Int)).f1.f3
      · simp
      · by_cases hc : (rd_T103 l (i : Nat)).f0 ≤ (rd_T103 l ((i + 1 : Nat) : Int)).f0
        · simp only [if_true, Bool.true_and, decide_eq_true hc, if_neg (show ¬ (rd_T103 l (i : Nat)).f0 > (rd_T103 l ((i + 1 : Nat) : Int)).f0 by omega)]
        · simp only [if_true, Bool.true_and, decide_eq_false hc, if_pos (show (rd_T103 l (i : Nat)).f0 > (rd_T103 l ((i + 1 : Nat) : Int)).f0 by omega)]; rfl) (fun k => by
    show spec_StopsGood.l0 (k + 1) l l _ _ = _
    rw [spec_StopsGood.l0, if_neg (by omega)])
  unfold spec_StopsGood.f stopsGood
  simp only [in_, Option.bind_some]
  cases decide (1 ≤ (l.length : Int) ∧ (l.length : Int) ≤ 8)
  · exact Ev.now _
  · simpa using h

theorem implStops (l : List S103) (hl : l.length ≤ 1048576) : Ev (fun k => impl_StopsGood.f k l) (stopsGood l) := by
  have h := stops_ev l hl (decide (1 ≤ (l.length : Int) ∧ (l.length : Int) ≤ 8)) (fun k i => impl_StopsGood.l0 k l l l.length i) (fun k h0 => by
    show impl_StopsGood.l0 (k + 1) l l l.length 0 = _
    rw [impl_StopsGood.l0, if_pos (by omega), if_pos (by omega), if_pos (by omega), within_, implGoodTint]
    simp only [Option.bind_some, stopGood, if_neg (show ¬ (0 : Int) > 0 by omega), Bool.and_true]
    cases decide (0 ≤ (rd_T103 l 0).f0 ∧ (rd_T103 l 0).f0 ≤ 65536) <;> simp) (fun k i hi => by
    show impl_StopsGood.l0 (k + 1) l l l.length ((i + 1 : Nat) : Int) = _
    have e : wrap64 (((i + 1 : Nat) : Int) - 1) = (i : Int) := by rw [wrap_id (by omega) (by omega)]; omega
    rw [impl_StopsGood.l0, if_pos (by omega), if_pos (by omega), if_pos (by omega), within_, implGoodTint, e]
    simp only [Option.bind_some, stopGood, if_pos (show ((i + 1 : Nat) : Int) > 0 by omega), if_pos (show (0 : Int) ≤ (i : Int) by omega), if_pos (show (i : Int) < l.length by omega)]
    by_cases hA : 0 ≤ (rd_T103 l ((i + 1 : Nat) : Int)).f0 ∧ (rd_T103 l ((i + 1 : Nat) : Int)).f0 ≤ 65536
    case neg => simp only [decide_eq_false hA, Bool.false_and, Bool.false_eq_true, if_false]
    · simp only [decide_eq_true hA, if_true, Bool.true_and]
      cases goodTint (rd_T103 l ((i + 1 : Nat) : Int)).f1.f0 (rd_T103 l ((i + 1 : Nat) : Int)).f1.f1 (rd_T103 l ((i + 1 : Nat) : Int)).f1.f2 (rd_T103 l ((i + 1 : Nat) : Int)).f1.f3
      · simp
      · by_cases hc : (rd_T103 l (i : Nat)).f0 ≤ (rd_T103 l ((i + 1 : Nat) : Int)).f0
        · simp only [if_true, Bool.true_and, decide_eq_true hc, if_neg (show ¬ (rd_T103 l ((i + 1 : Nat) : Int)).f0 < (rd_T103 l (i : Nat)).f0 by omega)]
        · simp only [if_true, Bool.true_and, decide_eq_false hc, if_pos (show (rd_T103 l ((i + 1 : Nat) : Int)).f0 < (rd_T103 l (i : Nat)).f0 by omega)]; rfl) (fun k => by
    show impl_StopsGood.l0 (k + 1) l l _ _ = _
    rw [impl_StopsGood.l0, if_neg (by omega), within_]
    simp only [Option.bind_some])
  unfold impl_StopsGood.f stopsGood
  rw [Bool.and_comm]
  exact h

end Go.Proofs.Ytiadieifofaobaa.HFnExactRunAt

/- Quotients rounded down, by the reference. -/
namespace Go.Proofs.Ytiadieifofaobaa.HFnExactRunAt
open Go.RowKit Go.Proofs.YtiadieifofaobaaW.PrintWords Go.Proofs.YtiadieifofaobaaW.PrintLast Go.Proofs.Ytiadieifofaobaa.Plain
set_option linter.unusedSimpArgs false
set_option linter.unusedVariables false

theorem specDown {a b : Int} (hb : 0 < b) (h0 : -9223372036854775807 ≤ a) (h1 : a ≤ 9223372036854775807) : spec_l1Down.f a b = some (a / b) := by
  unfold spec_l1Down.f
  have s := tdiv_small hb h0 h1
  rw [if_neg (by omega), wrap_id (n := Int.tdiv a b) (by omega) (by omega)]
  have e := down_num a hb
  rcases (by omega : 0 ≤ a ∨ a < 0) with h | h
  · have e1 : Int.tdiv a b = a / b := tdiv_nn h b
    have e2 : decide (a < 0) = decide (b < 0) := by rw [decide_eq_false (by omega), decide_eq_false (by omega)]
    rw [e2, if_neg (c := (decide (b < 0) != decide (b < 0)) = true) (by simp), e1]
    split <;> rfl
  · have e1 := (tdiv_neg_num h b).2
    have e0 := Int.emod_nonneg (-a) (by omega : b ≠ 0)
    rw [decide_eq_true h, decide_eq_false (by omega : ¬ b < 0), if_pos (c := (true != false) = true) rfl]
    split
    · rename_i hz
      rw [if_neg (by omega)] at e
      rw [e]
    · rename_i hz
      rw [if_pos (by omega)] at e
      have h2 := Int.ediv_nonneg (by omega : 0 ≤ -a) (by omega : 0 ≤ b)
      rw [wrap_id (by omega) (by omega), e]


end Go.Proofs.Ytiadieifofaobaa.HFnExactRunAt

/- Runs of tints: the tint at a place, by both sides. -/
namespace Go.Proofs.Ytiadieifofaobaa.HFnExactRunAt
open Go.RowKit Go.Proofs.YtiadieifofaobaaW.PrintWords Go.Proofs.YtiadieifofaobaaW.PrintLast Go.Proofs.Ytiadieifofaobaa.Plain
set_option linter.unusedSimpArgs false
set_option linter.unusedVariables false

def runLift (t : Int × Int × Int × Int) : Int × Int × Int × Int × Bool := (t.1, t.2.1, t.2.2.1, t.2.2.2, true)
theorem run_l0 : ∀ (k : Nat) (l : List S103) (p i : Int), impl_RunAt.l0 k l p i = (spec_l12Run.l0 k l p i).map runLift
  | 0, _, _, _ => rfl
  | k + 1, l, p, i => by
    simp only [impl_RunAt.l0, spec_l12Run.l0]
    by_cases h1 : 0 ≤ wrap64 (i + 1)
    case neg => simp only [if_neg h1]; rfl
    by_cases h2 : wrap64 (i + 1) < (l.length : Int)
    case neg => simp only [if_pos h1, if_neg h2]; rfl
    by_cases h3 : (rd_T103 l (wrap64 (i + 1))).f0 ≤ p
    · simp only [if_pos h1, if_pos h2, if_pos h3]; exact run_l0 k l p _
    by_cases h4 : 0 ≤ i
    case neg => simp only [if_pos h1, if_pos h2, if_neg h3, if_neg h4]; rfl
    by_cases h5 : i < (l.length : Int)
    case neg => simp only [if_pos h1, if_pos h2, if_neg h3, if_pos h4, if_neg h5]; rfl
    by_cases h6 : wrap64 ((rd_T103 l (wrap64 (i + 1))).f0 - (rd_T103 l i).f0) = 0
    · simp only [if_pos h1, if_pos h2, if_neg h3, if_pos h4, if_pos h5, if_pos h6]; rfl
    · simp only [if_pos h1, if_pos h2, if_neg h3, if_pos h4, if_pos h5, if_neg h6]; rfl
theorem run_g (k : Nat) (l : List S103) (p : Int) (h0 : 0 < l.length) (h1 : l.length ≤ 1048576) : impl_RunAt.g k l p = (spec_l12Run.j0 (k + 1) l p).map runLift := by
  have e : wrap64 ((l.length : Int) - 1) = (l.length : Int) - 1 := wrap_id (by omega) (by omega)
  unfold impl_RunAt.g
  rw [spec_l12Run.j0, e]
  simp only [if_pos (show 0 < (l.length : Int) by omega), if_pos (show 0 ≤ (l.length : Int) - 1 by omega), if_pos (show (l.length : Int) - 1 < (l.length : Int) by omega)]
  by_cases h2 : p ≤ (rd_T103 l 0).f0
  · simp only [if_pos h2]; rfl
  by_cases h3 : (rd_T103 l ((l.length : Int) - 1)).f0 ≤ p
  · simp only [if_neg h2, if_pos h3, if_pos (show p ≥ (rd_T103 l ((l.length : Int) - 1)).f0 from h3)]; rfl
  · simp only [if_neg h2, if_neg h3, if_neg (show ¬ p ≥ (rd_T103 l ((l.length : Int) - 1)).f0 from h3)]; exact run_l0 k l p 0

/-! ### what good stops are -/
theorem rdS (l : List S103) (i : Nat) (h : i < l.length) : rd_T103 l (i : Int) = l[i] := by simp [rd_T103, h]
theorem stopsGo_all : ∀ (l : List S103) (p : Option S103), stopsGo p l = true → (∀ x ∈ l, (0 ≤ x.f0 ∧ x.f0 ≤ 65536) ∧ goodTint x.f1.f0 x.f1.f1 x.f1.f2 x.f1.f3 = true)
  | [], _, _ => fun x hx => by cases hx
  | y :: l, p, h => by
    simp only [stopsGo, Bool.and_eq_true] at h
    intro x hx
    rcases List.mem_cons.1 hx with rfl | hx
    · have := h.1
      simp only [stopGood, Bool.and_eq_true, decide_eq_true_eq] at this
      exact ⟨this.1.1, this.1.2⟩
    · exact stopsGo_all l _ h.2 x hx
theorem mixIn {x y u v M : Int} (hx : 0 ≤ x) (hy : 0 ≤ y) (hx1 : x ≤ M) (hy1 : y ≤ M) (hu : 0 ≤ u) (hv : 0 ≤ v) (hn : 0 < u + v) : 0 ≤ (x * u + y * v) / (u + v) ∧ (x * u + y * v) / (u + v) ≤ M := by
  have a1 := Int.mul_nonneg hx hu
  have a2 := Int.mul_nonneg hy hv
  have b1 := Int.mul_le_mul_of_nonneg_right hx1 hu
  have b2 := Int.mul_le_mul_of_nonneg_right hy1 hv
  refine ⟨Int.ediv_nonneg (by omega) (by omega), Int.ediv_le_of_le_mul hn ?_⟩
  rw [Int.mul_add]
  omega
theorem mixLe {x y x' y' u v : Int} (hx : x ≤ x') (hy : y ≤ y') (hu : 0 ≤ u) (hv : 0 ≤ v) (hn : 0 < u + v) : (x * u + y * v) / (u + v) ≤ (x' * u + y' * v) / (u + v) := by
  have b1 := Int.mul_le_mul_of_nonneg_right hx hu
  have b2 := Int.mul_le_mul_of_nonneg_right hy hv
  exact Int.ediv_le_ediv hn (by omega)
/-- One number between two stops, by the wrapping sums. -/
def mixW (x y b a p : Int) : Int := wrap64 (Int.tdiv (wrap64 ((wrap64 (x * (wrap64 (b - p)))) + (wrap64 (y * (wrap64 (p - a)))))) (wrap64 (b - a)))
theorem mixW_eq {x y a b p : Int} (hx : 0 ≤ x) (hx1 : x ≤ 255) (hy : 0 ≤ y) (hy1 : y ≤ 255) (ha : 0 ≤ a) (hb : b ≤ 65536) (h1 : a ≤ p) (h2 : p < b) : mixW x y b a p = (x * (b - p) + y * (p - a)) / ((b - p) + (p - a)) := by
  have m1 : 0 ≤ x * (b - p) := Int.mul_nonneg hx (by omega)
  have m2 : 0 ≤ y * (p - a) := Int.mul_nonneg hy (by omega)
  have m3 : x * (b - p) ≤ 255 * 65536 := Int.mul_le_mul hx1 (by omega) (by omega) (by omega)
  have m4 : y * (p - a) ≤ 255 * 65536 := Int.mul_le_mul hy1 (by omega) (by omega) (by omega)
  have m5 := mixIn (M := 255) hx hy hx1 hy1 (show 0 ≤ b - p by omega) (show 0 ≤ p - a by omega) (by omega)
  unfold mixW
  rw [wrap_id (n := b - p) (by omega) (by omega), wrap_id (n := p - a) (by omega) (by omega), wrap_id (n := b - a) (by omega) (by omega), wrap_id (n := x * (b - p)) (by omega) (by omega), wrap_id (n := y * (p - a)) (by omega) (by omega), wrap_id (n := x * (b - p) + y * (p - a)) (by omega) (by omega), tdiv_nn (by omega)]
  rw [show b - a = (b - p) + (p - a) by omega]
  exact wrap_id (by omega) (by omega)
def goodT (t : Int × Int × Int × Int) : Prop := goodTint t.1 t.2.1 t.2.2.1 t.2.2.2 = true
theorem good_mix {r g b a r' g' b' a' A B p : Int} (h : goodTint r g b a = true) (h' : goodTint r' g' b' a' = true) (hA : 0 ≤ A) (hB : B ≤ 65536) (h1 : A ≤ p) (h2 : p < B) : goodT (mixW r r' B A p, mixW g g' B A p, mixW b b' B A p, mixW a a' B A p) := by
  simp only [goodTint, Bool.and_eq_true, decide_eq_true_eq] at h h'
  unfold goodT
  simp only []
  rw [mixW_eq (by omega) (by omega) (by omega) (by omega) hA hB h1 h2, mixW_eq (by omega) (by omega) (by omega) (by omega) hA hB h1 h2, mixW_eq (by omega) (by omega) (by omega) (by omega) hA hB h1 h2, mixW_eq (by omega) (by omega) (by omega) (by omega) hA hB h1 h2]
  have hu : 0 ≤ B - p := by omega
  have hv : 0 ≤ p - A := by omega
  have hn : 0 < (B - p) + (p - A) := by omega
  have i1 := mixIn (x := a) (y := a') (M := 255) (by omega) (by omega) (by omega) (by omega) hu hv hn
  have i2 := mixIn (x := r) (y := r') (M := 255) (by omega) (by omega) (by omega) (by omega) hu hv hn
  have i3 := mixIn (x := g) (y := g') (M := 255) (by omega) (by omega) (by omega) (by omega) hu hv hn
  have i4 := mixIn (x := b) (y := b') (M := 255) (by omega) (by omega) (by omega) (by omega) hu hv hn
  have l2 := mixLe (x := r) (y := r') (x' := a) (y' := a') (by omega) (by omega) hu hv hn
  have l3 := mixLe (x := g) (y := g') (x' := a) (y' := a') (by omega) (by omega) hu hv hn
  have l4 := mixLe (x := b) (y := b') (x' := a) (y' := a') (by omega) (by omega) hu hv hn
  simp only [goodTint, Bool.and_eq_true, decide_eq_true_eq]
  exact ⟨⟨⟨i1, i2.1, l2⟩, i3.1, l3⟩, i4.1, l4⟩

/-! ### the place is found -/
theorem run_found (l : List S103) (hl : l.length ≤ 1048576) (hg : ∀ x ∈ l, (0 ≤ x.f0 ∧ x.f0 ≤ 65536) ∧ goodTint x.f1.f0 x.f1.f1 x.f1.f2 x.f1.f3 = true) (p : Int) (hlast : ∀ i : Nat, i + 1 = l.length → p < (rd_T103 l (i : Nat)).f0) :
    ∀ (d i : Nat), i + 1 + d = l.length → (rd_T103 l (i : Nat)).f0 ≤ p → ∃ t, Ev (fun k => spec_l12Run.l0 k l p (i : Nat)) t ∧ goodT t
  | 0, i, hd, hp => absurd (hlast i (by omega)) (by omega)
  | d + 1, i, hd, hp => by
    have e : wrap64 (((i : Nat) : Int) + 1) = ((i + 1 : Nat) : Int) := by rw [wrap_id (by omega) (by omega)]; rfl
    by_cases h : (rd_T103 l ((i + 1 : Nat) : Int)).f0 ≤ p
    · obtain ⟨t, ht, hgt⟩ := run_found l hl hg p hlast d (i + 1) (by omega) h
      refine ⟨t, Ev.step (f := fun k => spec_l12Run.l0 k l p ((i + 1 : Nat) : Int)) (fun k => ?_) ht, hgt⟩
      show spec_l12Run.l0 (k + 1) l p _ = _
      rw [spec_l12Run.l0, e, if_pos (by omega), if_pos (by omega), if_pos h]
    · have g1 := hg _ (List.getElem_mem (show i < l.length by omega))
      have g2 := hg _ (List.getElem_mem (show i + 1 < l.length by omega))
      rw [← rdS l i (by omega)] at g1
      rw [← rdS l (i + 1) (by omega)] at g2
      refine ⟨_, ev_some fun k => ?_, good_mix g1.2 g2.2 g1.1.1 g2.1.2 hp (by omega)⟩
      rw [spec_l12Run.l0, e, if_pos (by omega), if_pos (by omega), if_neg h, if_pos (by omega), if_pos (by omega), if_neg (by rw [wrap_id (by omega) (by omega)]; omega)]
      rfl
theorem run_j0 (l : List S103) (hl : l.length ≤ 1048576) (hs : stopsGood l = true) (p : Int) : ∃ t, Ev (fun k => spec_l12Run.j0 k l p) t ∧ goodT t := by
  simp only [stopsGood, Bool.and_eq_true, decide_eq_true_eq] at hs
  have hg := stopsGo_all l none hs.2
  have h0 : 0 < l.length := by omega
  have e : wrap64 ((l.length : Int) - 1) = ((l.length - 1 : Nat) : Int) := by rw [wrap_id (by omega) (by omega)]; omega
  have z0 : rd_T103 l 0 = l[0] := rdS l 0 h0
  have g0 := hg _ (List.getElem_mem h0)
  have g1 := hg _ (List.getElem_mem (show l.length - 1 < l.length by omega))
  rw [← rdS l (l.length - 1) (by omega)] at g1
  rw [← z0] at g0
  by_cases h1 : p ≤ (rd_T103 l 0).f0
  · refine ⟨((rd_T103 l 0).f1.f0, (rd_T103 l 0).f1.f1, (rd_T103 l 0).f1.f2, (rd_T103 l 0).f1.f3), ev_some fun k => ?_, g0.2⟩
    rw [spec_l12Run.j0, if_pos (by omega), if_pos h1]
  by_cases h2 : p ≥ (rd_T103 l ((l.length - 1 : Nat) : Int)).f0
  · refine ⟨((rd_T103 l ((l.length - 1 : Nat) : Int)).f1.f0, (rd_T103 l ((l.length - 1 : Nat) : Int)).f1.f1, (rd_T103 l ((l.length - 1 : Nat) : Int)).f1.f2, (rd_T103 l ((l.length - 1 : Nat) : Int)).f1.f3), ev_some fun k => ?_, g1.2⟩
    rw [spec_l12Run.j0, if_pos (by omega), if_neg h1, e, if_pos (by omega), if_pos (by omega), if_pos h2]
  · obtain ⟨t, ht, hgt⟩ := run_found l hl hg p (fun i hi => by rw [show i = l.length - 1 by omega]; omega) (l.length - 1) 0 (by omega) (by show (rd_T103 l 0).f0 ≤ p; omega)
    refine ⟨t, Ev.step (f := fun k => spec_l12Run.l0 k l p ((0 : Nat) : Int)) (fun k => ?_) ht, hgt⟩
    show spec_l12Run.j0 (k + 1) l p = _
    rw [spec_l12Run.j0, if_pos (by omega), if_neg h1, e, if_pos (by omega), if_pos (by omega), if_neg h2]; rfl

/-! ### places, by both sides -/
theorem tmod_em (a b : Int) : Int.tmod a b = if 0 ≤ a then a % b else -((-a) % b) := by
  split
  · exact tmod_nn (by assumption) b
  · exact (tdiv_neg_num (by omega) b).2
theorem spec_mod {a b : Int} (h0 : -1099511627776 ≤ a) (h1 : a ≤ 1099511627776) (hb : 0 < b) (hb1 : b ≤ 131072) : spec_l1Mod.f a b = some (a % b) := by
  unfold spec_l1Mod.f
  rw [specDown hb (by omega) (by omega), Option.bind_some]
  have e := Int.mul_ediv_add_emod a b
  have m0 := Int.emod_nonneg a (show b ≠ 0 by omega)
  have m1 := Int.emod_lt_of_pos a hb
  generalize hq : b * (a / b) = q at e
  rw [wrap_id (n := q) (by omega) (by omega), wrap_id (by omega) (by omega)]
  congr 1
  omega
theorem impl_mod1 {a : Int} (h0 : -1099511627776 ≤ a) (h1 : a ≤ 1099511627776) : Int.tmod (wrap64 ((Int.tmod a 65536) + 65536)) 65536 = a % 65536 := by
  have e := tmod_em a 65536
  have hb : -65536 < Int.tmod a 65536 ∧ Int.tmod a 65536 < 65536 := by rw [e]; split <;> omega
  rw [wrap_id (by omega) (by omega), tmod_nn (by omega), e]
  split <;> omega
theorem impl_mod2 {a : Int} (h0 : -1099511627776 ≤ a) (h1 : a ≤ 1099511627776) : Int.tmod (wrap64 ((Int.tmod a 131072) + 131072)) 131072 = a % 131072 := by
  have e := tmod_em a 131072
  have hb : -131072 < Int.tmod a 131072 ∧ Int.tmod a 131072 < 131072 := by rw [e]; split <;> omega
  rw [wrap_id (by omega) (by omega), tmod_nn (by omega), e]
  split <;> omega
theorem run_place {a s : Int} (h0 : -1099511627776 ≤ a) (h1 : a ≤ 1099511627776) (hs : 1 ≤ s ∧ s ≤ 3) (k : Nat) (l : List S103) : spec_l12Run.f k l a s = spec_l12Run.j0 k l (runPlace s a) := by
  unfold spec_l12Run.f runPlace
  rw [spec_mod h0 h1 (by decide) (by decide), spec_mod h0 h1 (by decide) (by decide), impl_mod1 h0 h1, impl_mod2 h0 h1]
  simp only [Option.bind_some]
  by_cases s2 : s = 2
  · rw [if_pos s2, if_neg (show ¬ s = 1 by omega), if_pos s2]
  by_cases s3 : s = 3
  · rw [if_neg s2, if_pos s3, if_neg (show ¬ s = 1 by omega), if_neg s2]
    by_cases h : a % 131072 ≥ 65536
    · rw [if_pos h, if_pos h]
    · rw [if_neg h, if_neg h]
  · rw [if_neg s2, if_neg s3, if_pos (show s = 1 by omega)]
    by_cases n1 : a < 0
    · rw [if_pos n1, if_neg (by decide)]
      congr 1
      unfold mx mn; omega
    · rw [if_neg n1]
      by_cases n2 : a > 65536
      · rw [if_pos n2]; congr 1; unfold mx mn; omega
      · rw [if_neg n2]; congr 1; unfold mx mn; omega
def zeroT : Int × Int × Int × Int × Bool := (0, 0, 0, 0, false)
/-- Both sides answer alike, and what they answer with is a tint. -/
theorem run_both (l : List S103) (hl : l.length ≤ 1048576) (a s : Int) : ∃ r : Int × Int × Int × Int × Bool, Ev (fun k => spec_RunAt.f k l a s) r ∧ Ev (fun k => impl_RunAt.f k l a s) r ∧ (r.2.2.2.2 = true → goodTint r.1 r.2.1 r.2.2.1 r.2.2.2.1 = true) := by
  have sS := specStops l hl
  have iS := implStops l hl
  have hno : ∀ x : Int × Int × Int × Int × Bool, x = zeroT → (x.2.2.2.2 = true → goodTint x.1 x.2.1 x.2.2.1 x.2.2.2.1 = true) := fun x hx h => by subst hx; simp [zeroT] at h
  cases hS : stopsGood l
  · rw [hS] at sS iS
    refine ⟨zeroT, ?_, ?_, hno _ rfl⟩
    · unfold spec_RunAt.f; refine Ev.bind sS ?_; exact Ev.now _
    · unfold impl_RunAt.f; refine Ev.bind iS ?_; exact Ev.now _
  rw [hS] at sS iS
  have gf : impl_GoodFixed.f a = some (decide (-1099511627776 ≤ a ∧ a ≤ 1099511627776)) := by unfold impl_GoodFixed.f; rw [within_]; rfl
  have gs : spec_GoodFixed.f a = some (decide (-1099511627776 ≤ a ∧ a ≤ 1099511627776)) := by unfold spec_GoodFixed.f; rw [in_]; rfl
  by_cases hA : -1099511627776 ≤ a ∧ a ≤ 1099511627776
  case neg =>
    rw [decide_eq_false hA] at gf gs
    refine ⟨zeroT, ?_, ?_, hno _ rfl⟩
    · unfold spec_RunAt.f; refine Ev.bind sS ?_; simp only [if_true, gs, Option.bind_some, Bool.false_eq_true, if_false]; exact Ev.now _
    · unfold impl_RunAt.f; refine Ev.bind iS ?_; simp only [if_true, gf, Option.bind_some, Bool.false_eq_true, if_false]; exact Ev.now _
  rw [decide_eq_true hA] at gf gs
  by_cases hs : 1 ≤ s ∧ s ≤ 3
  case neg =>
    refine ⟨zeroT, ?_, ?_, hno _ rfl⟩
    · unfold spec_RunAt.f; refine Ev.bind sS ?_; simp only [if_true, gs, Option.bind_some, in_, decide_eq_false hs, Bool.false_eq_true, if_false]; exact Ev.now _
    · unfold impl_RunAt.f; refine Ev.bind iS ?_; simp only [if_true, gf, Option.bind_some, within_, decide_eq_false hs, Bool.false_eq_true, if_false]; exact Ev.now _
  obtain ⟨t, ht, hg⟩ := run_j0 l hl hS (runPlace s a)
  have h0 : 0 < l.length := by
    simp only [stopsGood, Bool.and_eq_true, decide_eq_true_eq] at hS
    omega
  refine ⟨runLift t, ?_, ?_, fun _ => hg⟩
  · unfold spec_RunAt.f
    refine Ev.bind sS ?_
    simp only [if_true, gs, Option.bind_some, in_, decide_eq_true hs, run_place hA.1 hA.2 hs]
    exact Ev.bind ht (Ev.now _)
  · unfold impl_RunAt.f
    refine Ev.bind iS ?_
    simp only [if_true, gf, Option.bind_some, within_, decide_eq_true hs]
    obtain ⟨n, hn⟩ := ht
    refine ⟨n, fun k hk => ?_⟩
    have := hn (k + 1) (by omega)
    simp only [] at this
    show impl_RunAt.g k l (runPlace s a) = _
    rw [run_g k l _ h0 hl, this]; rfl

end Go.Proofs.Ytiadieifofaobaa.HFnExactRunAt

/- RunAt, as numbers and lists: the program's answer is the reference's. -/
namespace Go.Proofs.Ytiadieifofaobaa.Pure
open Go.RowKit Go.Proofs.Ytiadieifofaobaa.HFnExactRunAt Go.Proofs.YtiadieifofaobaaW.PrintWords Go.Proofs.YtiadieifofaobaaW.PrintLast Go.Proofs.Ytiadieifofaobaa.Plain
set_option linter.unusedSimpArgs false
set_option linter.unusedVariables false

theorem FnExactRunAt : ∀ (l0 : List (S106)) (a1 : Int) (a2 : Int), ((∀ x106 ∈ l0, ((Lit.int .i64 x106.f0).wf = true) ∧ (((Lit.int .i64 x106.f1.f0).wf = true) ∧ ((Lit.int .i64 x106.f1.f1).wf = true) ∧ ((Lit.int .i64 x106.f1.f2).wf = true) ∧ ((Lit.int .i64 x106.f1.f3).wf = true))) ∧ l0.length ≤ 9223372036854775807) → ((Lit.int .i64 a1).wf = true) → ((Lit.int .i64 a2).wf = true) → ∃ k, HFnExactRunAt.laws_FnExactRunAt.f k l0 a1 a2 = some true := by
  intro l a s ⟨_, hn⟩ _ _
  refine Ev.rounds ?_
  unfold laws_FnExactRunAt.f laws_szStopS.f
  rw [wrap_id (by omega) (by omega)]
  by_cases hl : (1048576 : Int) - l.length < 0
  · simp only [if_pos hl, Option.bind_some]
    exact ev_const fun k => by simp
  simp only [if_neg hl, Option.bind_some]
  have hl' : l.length ≤ 1048576 := by omega
  have hto := toStops l hl'
  generalize hm : (l.map fun x => (⟨x.f0, ⟨x.f1.f0, x.f1.f1, x.f1.f2, x.f1.f3⟩⟩ : S103)) = m at hto
  have hml : m.length ≤ 1048576 := by rw [← hm, List.length_map]; exact hl'
  obtain ⟨r, h1, h2, _⟩ := run_both m hml a s
  refine Ev.bind hto (Ev.bind h1 (Ev.bind hto (Ev.bind h2 ?_)))
  simp only [laws_eqTint.f, if_true, Option.bind_some, bne_self_eq_false]
  refine Ev.step (f := fun k => (laws_toStopS.f k l).bind fun t194 => (laws_eqStopS.f k m t194).bind fun t197 => (if t197 = true then (some true) else (some false))) (fun k => by rw [laws_FnExactRunAt.j0, if_neg (by decide)]) ?_
  refine Ev.bind hto (Ev.bind (eqStops m (by omega)) ?_)
  exact Ev.now _

end Go.Proofs.Ytiadieifofaobaa.Pure
