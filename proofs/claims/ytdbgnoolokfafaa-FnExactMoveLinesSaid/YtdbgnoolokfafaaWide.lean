/- Wide products, as two halves of 64 bits. -/
import Derived.Test.YtdbgnoolokfafaaNum
import Derived.Laws.MathBits
import Derived.Laws.BitsAllLaws
namespace Go.Proofs.Ytdbgnoolokfafaa.Plain
open Go.RowKit Go.Proofs.YtdbgnoolokfafaaW.PrintWords Go.Proofs.YtdbgnoolokfafaaW.PrintLast

theorem u64w (n : Int) : IntKind.u64.wrap n = n % 18446744073709551616 := IntKind.wrap_u64 n
theorem u64_id {n : Int} (h0 : 0 ≤ n) (h1 : n < 18446744073709551616) : IntKind.u64.wrap n = n := by rw [u64w]; omega
theorem tdiv_w (z b : Int) : Int.tdiv (IntKind.u64.wrap z) b = IntKind.u64.wrap z / b := tdiv_nn (by rw [u64w]; omega) b
theorem tmod_w (z b : Int) : Int.tmod (IntKind.u64.wrap z) b = IntKind.u64.wrap z % b := tmod_nn (by rw [u64w]; omega) b
theorem or_join (i : Nat) (x y : Int) (hx0 : 0 ≤ x) (hx1 : x < 18446744073709551616) (hx : x.toNat % 2 ^ i = 0) (hy0 : 0 ≤ y) (hy : y.toNat < 2 ^ i) (hy1 : y < 18446744073709551616) : Go.bits .or .u64 x y = x + y := by
  rw [u64_or x y hx0 hx1 hy0 hy1, nat_join i _ _ hx hy]
  omega
theorem or32 {h l : Int} (h0 : 0 ≤ h) (h1 : h < 4294967296) (l0 : 0 ≤ l) (l1 : l < 4294967296) : Go.bits .or .u64 (h * 4294967296) l = h * 4294967296 + l :=
  or_join 32 _ _ (by omega) (by omega) (by omega) l0 (by omega) (by omega)
theorem or48 {h l : Int} (h0 : 0 ≤ h) (h1 : h < 65536) (l0 : 0 ≤ l) (l1 : l < 281474976710656) : Go.bits .or .u64 (h * 281474976710656) l = h * 281474976710656 + l :=
  or_join 48 _ _ (by omega) (by omega) (by omega) l0 (by omega) (by omega)

/-- A wide number's halves. -/
def wide (v : Int) : Int × Int := (v / 18446744073709551616, v % 18446744073709551616)
theorem wide_eq {v h l : Int} (l0 : 0 ≤ l) (l1 : l < 18446744073709551616) (h1 : v = h * 18446744073709551616 + l) : (h, l) = wide v := by
  unfold wide
  congr 1 <;> omega
theorem split_ab (a b : Int) : a * b = a / 4294967296 * (b / 4294967296) * 18446744073709551616 + (a / 4294967296 * (b % 4294967296) + a % 4294967296 * (b / 4294967296)) * 4294967296 + a % 4294967296 * (b % 4294967296) := by
  have h := split_mul (a / 4294967296) (a % 4294967296) (b / 4294967296) (b % 4294967296)
  rw [show a / 4294967296 * 4294967296 + a % 4294967296 = a by omega, show b / 4294967296 * 4294967296 + b % 4294967296 = b by omega] at h
  exact h
theorem wide_mul {a b A B C D : Int} (ha0 : 0 ≤ a) (ha1 : a < 18446744073709551616) (hb0 : 0 ≤ b) (hb1 : b < 18446744073709551616)
    (hA : a / 4294967296 * (b / 4294967296) = A) (hB : a / 4294967296 * (b % 4294967296) = B) (hC : a % 4294967296 * (b / 4294967296) = C) (hD : a % 4294967296 * (b % 4294967296) = D) :
    a * b = A * 18446744073709551616 + (B + C) * 4294967296 + D ∧ (0 ≤ A ∧ A ≤ 18446744065119617025) ∧ (0 ≤ B ∧ B ≤ 18446744065119617025) ∧ (0 ≤ C ∧ C ≤ 18446744065119617025) ∧ 0 ≤ D ∧ D ≤ 18446744065119617025 := by
  refine ⟨?_, ?_, ?_, ?_, ?_⟩
  · rw [← hA, ← hB, ← hC, ← hD]; exact split_ab a b
  · rw [← hA]; exact prod_bound _ _ (by omega) (by omega) (by omega) (by omega)
  · rw [← hB]; exact prod_bound _ _ (by omega) (by omega) (by omega) (by omega)
  · rw [← hC]; exact prod_bound _ _ (by omega) (by omega) (by omega) (by omega)
  · rw [← hD]; exact prod_bound _ _ (by omega) (by omega) (by omega) (by omega)

theorem div_between {n b q : Int} (hb : 0 < b) (h0 : q * b ≤ n) (h1 : n < (q + 1) * b) : n / b = q :=
  Int.le_antisymm (Int.lt_add_one_iff.1 (Int.ediv_lt_of_lt_mul hb h1)) (Int.le_ediv_of_mul_le hb h0)
theorem tdiv_neg_num {a : Int} (h : a < 0) (b : Int) : Int.tdiv a b = -((-a) / b) ∧ Int.tmod a b = -((-a) % b) := by
  obtain ⟨c, rfl⟩ : ∃ c, a = -c := ⟨-a, by omega⟩
  rw [Int.neg_tdiv, Int.neg_tmod, tdiv_nn (by omega), tmod_nn (by omega), Int.neg_neg]
  exact ⟨rfl, rfl⟩
/-- A quotient rounded down, by the machine's. -/
theorem down_num (a : Int) {b : Int} (hb : 0 < b) : (if Int.tmod a b < 0 then Int.tdiv a b - 1 else Int.tdiv a b) = a / b := by
  rcases (by omega : 0 ≤ a ∨ a < 0) with h | h
  · rw [tmod_nn h, tdiv_nn h, if_neg (by have := Int.emod_nonneg a (by omega : b ≠ 0); omega)]
  · obtain ⟨h1, h2⟩ := tdiv_neg_num h b
    rw [h1, h2]
    have e := Int.mul_ediv_add_emod (-a) b
    have e0 := Int.emod_nonneg (-a) (by omega : b ≠ 0)
    have e1 := Int.emod_lt_of_pos (-a) hb
    generalize (-a) / b = q at *
    generalize (-a) % b = r at *
    split
    · refine (div_between hb ?_ ?_).symm
      · rw [show -q - 1 = -(q + 1) by omega, Int.neg_mul, Int.add_mul, Int.mul_comm q]; omega
      · rw [show -q - 1 + 1 = -q by omega, Int.neg_mul, Int.mul_comm q]; omega
    · refine (div_between hb ?_ ?_).symm
      · rw [Int.neg_mul, Int.mul_comm q]; omega
      · rw [show -q + 1 = -(q - 1) by omega, Int.neg_mul, Int.sub_mul, Int.mul_comm q]; omega
theorem tdiv_small {a b : Int} (hb : 0 < b) (h0 : -9223372036854775807 ≤ a) (h1 : a ≤ 9223372036854775807) : -9223372036854775807 ≤ Int.tdiv a b ∧ Int.tdiv a b ≤ 9223372036854775807 := by
  rcases (by omega : 0 ≤ a ∨ a < 0) with h | h
  · rw [tdiv_nn h]
    have h2 := Int.ediv_nonneg h (by omega : 0 ≤ b)
    have h3 := Int.ediv_le_self b h
    omega
  · rw [(tdiv_neg_num h b).1]
    have h2 := Int.ediv_nonneg (by omega : 0 ≤ -a) (by omega : 0 ≤ b)
    have h3 := Int.ediv_le_self b (by omega : 0 ≤ -a)
    omega

end Go.Proofs.Ytdbgnoolokfafaa.Plain
