/- Sines and cosines, by both sides. -/
import Derived.Test.YtdbgnoolokfafaaDownFnExactEllipseOf
namespace Go.Proofs.Ytdbgnoolokfafaa.HFnExactEllipseOf
open Go.RowKit Go.Proofs.YtdbgnoolokfafaaW.PrintWords Go.Proofs.YtdbgnoolokfafaaW.PrintLast Go.Proofs.Ytdbgnoolokfafaa.Plain
set_option linter.unusedSimpArgs false
set_option linter.unusedVariables false

theorem specMod {a : Int} (h0 : -9223372036854775807 ≤ a) (h1 : a ≤ 9223372036854775807) : spec_l1Mod.f a 4096 = some (a % 4096) := by
  unfold spec_l1Mod.f
  rw [specDown (by omega) h0 h1, Option.bind_some, wrap_id (n := 4096 * (a / 4096)) (by omega) (by omega), wrap_id (by omega) (by omega)]
  congr 1
  omega
theorem implTurned {a : Int} (h0 : -9223372036854775807 ≤ a) (h1 : a ≤ 9223372036854775807) : impl_turned.f a = some (a % 4096) := by
  unfold impl_turned.f
  have l := Int.tmod_lt_of_pos a (show (0 : Int) < 4096 by decide)
  have g : -4096 < Int.tmod a 4096 := by
    have := Int.tmod_lt_of_pos (-a) (show (0 : Int) < 4096 by decide)
    rw [Int.neg_tmod] at this
    omega
  rw [wrap_id (n := Int.tmod a 4096 + 4096) (by omega) (by omega), tmod_nn (by omega)]
  congr 1
  have e := Int.tmod_add_mul_tdiv a 4096
  omega
theorem sinAll_bd {m : Int} (h0 : 0 ≤ m) (h1 : m < 4096) : -65536 ≤ sinAll m ∧ sinAll m ≤ 65536 := by
  unfold sinAll
  split
  · have := sinMid_bd (m := m - 2048) (by omega) (by omega); omega
  · have := sinMid_bd (m := m) (by omega) (by omega); omega
theorem implSin {a : Int} (h0 : -9223372036854775807 ≤ a) (h1 : a ≤ 9223372036854775807) : impl_SinOf.f a = some (sinAll (a % 4096)) := by
  unfold impl_SinOf.f
  rw [implTurned h0 h1, Option.bind_some, if_pos (by omega)]
theorem implCos {a : Int} (h0 : -9223372036854775807 ≤ a) (h1 : a ≤ 9223372036854775807) : impl_CosOf.f a = some (sinAll ((a % 4096 + 1024) % 4096)) := by
  unfold impl_CosOf.f
  rw [implTurned h0 h1, Option.bind_some, wrap_id (by omega) (by omega), implSin (by omega) (by omega), Option.bind_some]
theorem rd_sin (i : Int) : rd [0, 6424, 12785, 19024, 25080, 30893, 36410, 41576, 46341, 50660, 54491, 57798, 60547, 62714, 64277, 65220, 65536] i = sinAt i := rfl
theorem specLow (k : Nat) (a m : Int) (ha0 : -9223372036854775807 ≤ a) (ha1 : a ≤ 9223372036854775807) (hm : a % 4096 = m) (h1 : m ≤ 1024) : spec_SinOf.f (k + 1) a = some (sinLow m) := by
  have h0 : 0 ≤ m := by omega
  rw [spec_SinOf.f, specMod ha0 ha1, Option.bind_some, hm, if_neg (by omega), if_neg (by omega)]
  unfold sinLow
  by_cases c : m = 1024
  · rw [if_pos c, if_pos c]
  · rw [if_neg c, if_neg c]
    unfold spec_l1Table.f
    rw [Option.bind_some, tdiv_nn h0, tmod_nn h0, wrap_id (n := m / 64) (by omega) (by omega), wrap_id (n := m / 64 + 1) (by omega) (by omega), if_pos (by omega)]
    rw [if_pos (show m / 64 < (([0, 6424, 12785, 19024, 25080, 30893, 36410, 41576, 46341, 50660, 54491, 57798, 60547, 62714, 64277, 65220, 65536] : List Int).length : Int) by simp; omega), if_pos (by omega)]
    rw [if_pos (show m / 64 + 1 < (([0, 6424, 12785, 19024, 25080, 30893, 36410, 41576, 46341, 50660, 54491, 57798, 60547, 62714, 64277, 65220, 65536] : List Int).length : Int) by simp; omega), rd_sin, rd_sin]
    have k1 := sinAt_le (m / 64)
    have k2 := sinAt_le (m / 64 + 1)
    have l3 : 0 ≤ m % 64 := by omega
    have l4 : m % 64 < 64 := by omega
    generalize sinAt (m / 64) = s1 at *
    generalize sinAt (m / 64 + 1) = s2 at *
    generalize m % 64 = p at *
    have m1 : 0 ≤ s1 * (64 - p) := Int.mul_nonneg k1.1 (by omega)
    have m2 : s1 * (64 - p) ≤ 65536 * 64 := Int.mul_le_mul k1.2 (by omega) (by omega) (by omega)
    have m3 : 0 ≤ s2 * p := Int.mul_nonneg k2.1 (by omega)
    have m4 : s2 * p ≤ 65536 * 64 := Int.mul_le_mul k2.2 (by omega) (by omega) (by omega)
    rw [wrap_id (n := 64 - p) (by omega) (by omega)]
    generalize s1 * (64 - p) = u at m1 m2 ⊢
    generalize s2 * p = v at m3 m4 ⊢
    rw [wrap_id (n := u) (by omega) (by omega), wrap_id (n := v) (by omega) (by omega), wrap_id (n := u + v) (by omega) (by omega), wrap_id (n := u + v + 32) (by omega) (by omega), tdiv_nn (by omega), wrap_id (by omega) (by omega)]
theorem specMid (k : Nat) (a m : Int) (ha0 : -9223372036854775807 ≤ a) (ha1 : a ≤ 9223372036854775807) (hm : a % 4096 = m) (h1 : m < 2048) : spec_SinOf.f (k + 2) a = some (sinMid m) := by
  unfold sinMid
  by_cases c : m > 1024
  · rw [if_pos c, spec_SinOf.f, specMod ha0 ha1, Option.bind_some, hm, if_neg (by omega), if_pos c, wrap_id (by omega) (by omega), specLow k (2048 - m) (2048 - m) (by omega) (by omega) (by omega) (by omega), Option.bind_some]
  · rw [if_neg c]; exact specLow (k + 1) a m ha0 ha1 hm (by omega)
theorem specSin_ (k : Nat) (a : Int) (ha0 : -9223372036854775807 ≤ a) (ha1 : a ≤ 9223372036854775807) : spec_SinOf.f (k + 3) a = some (sinAll (a % 4096)) := by
  unfold sinAll
  by_cases c : a % 4096 ≥ 2048
  · have bd := sinMid_bd (m := a % 4096 - 2048) (by omega) (by omega)
    rw [if_pos c, spec_SinOf.f, specMod ha0 ha1, Option.bind_some, if_pos c, wrap_id (by omega) (by omega), specMid k (a % 4096 - 2048) (a % 4096 - 2048) (by omega) (by omega) (by omega) (by omega), Option.bind_some, wrap_id (by omega) (by omega)]
  · rw [if_neg c]; exact specMid (k + 1) a _ ha0 ha1 rfl (by omega)
theorem specSin (a : Int) (ha0 : -9223372036854775807 ≤ a) (ha1 : a ≤ 9223372036854775807) : Ev (fun k => spec_SinOf.f k a) (sinAll (a % 4096)) := ⟨3, fun k hk => by
  obtain ⟨m, rfl⟩ : ∃ m, k = m + 3 := ⟨k - 3, by omega⟩
  exact specSin_ m a ha0 ha1⟩
theorem specCos (a : Int) (ha0 : -9223372036854775807 ≤ a) (ha1 : a ≤ 9223372036854775807) : Ev (fun k => spec_CosOf.f k a) (sinAll ((a % 4096 + 1024) % 4096)) := by
  unfold spec_CosOf.f
  simp only [specMod ha0 ha1, Option.bind_some, wrap_id (n := a % 4096 + 1024) (by omega) (by omega)]
  exact Ev.bind (specSin _ (by omega) (by omega)) (Ev.now _)

/-- A point of a circle's line. -/
def roundX (cx rx k : Int) : Int := cx + fixMul rx (sinAll ((128 * k % 4096 + 1024) % 4096))
def roundY (cy ry k : Int) : Int := cy + fixMul ry (sinAll (128 * k % 4096))
theorem specRound (cx cy rx ry k : Int) (hx0 : -4611686018427387904 ≤ cx) (hx1 : cx ≤ 4611686018427387904) (hy0 : -4611686018427387904 ≤ cy) (hy1 : cy ≤ 4611686018427387904) (hk0 : 0 ≤ k) (hk1 : k ≤ 4096) :
    Ev (fun n => spec_l9Round.f n cx cy rx ry k) (roundX cx rx k, roundY cy ry k) := by
  have b1 := fixMul_bd rx (sinAll ((128 * k % 4096 + 1024) % 4096))
  have b2 := fixMul_bd ry (sinAll (128 * k % 4096))
  unfold spec_l9Round.f roundX roundY
  rw [wrap_id (n := 128 * k) (by omega) (by omega)]
  refine Ev.bind (specCos _ (by omega) (by omega)) (Ev.bind (specFixMul _ _) (Ev.bind (specSin _ (by omega) (by omega)) (Ev.bind (specFixMul _ _) ?_)))
  rw [wrap_id (by omega) (by omega), wrap_id (by omega) (by omega)]
  exact Ev.now _
theorem implRound (cx cy rx ry k : Int) (hx0 : -4611686018427387904 ≤ cx) (hx1 : cx ≤ 4611686018427387904) (hy0 : -4611686018427387904 ≤ cy) (hy1 : cy ≤ 4611686018427387904) (hk0 : 0 ≤ k) (hk1 : k ≤ 4096) :
    Ev (fun n => impl_onCircle.f n cx cy rx ry k) (roundX cx rx k, roundY cy ry k) := by
  have b1 := fixMul_bd rx (sinAll ((128 * k % 4096 + 1024) % 4096))
  have b2 := fixMul_bd ry (sinAll (128 * k % 4096))
  unfold impl_onCircle.f roundX roundY
  rw [wrap_id (n := k * 128) (by omega) (by omega), show k * 128 = 128 * k by omega]
  simp only [implCos (a := 128 * k) (by omega) (by omega), implSin (a := 128 * k) (by omega) (by omega), Option.bind_some]
  refine Ev.bind (implFixMul _ _) (Ev.bind (implFixMul _ _) ?_)
  rw [wrap_id (by omega) (by omega), wrap_id (by omega) (by omega)]
  exact Ev.now _

end Go.Proofs.Ytdbgnoolokfafaa.HFnExactEllipseOf
