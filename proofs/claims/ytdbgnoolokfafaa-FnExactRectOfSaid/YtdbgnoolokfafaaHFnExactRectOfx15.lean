-- Printed by a program of this session over the kit's print; functions that the print does not take stand here by hand.
import Derived.Test.YtdbgnoolokfafaaHFnExactRectOfx0
import Derived.Test.YtdbgnoolokfafaaHFnExactRectOfx14
namespace Go.Proofs.Ytdbgnoolokfafaa.HFnExactRectOf
open Go.RowKit Go.Proofs.YtdbgnoolokfafaaW.PrintWords Go.Proofs.YtdbgnoolokfafaaW.PrintLast Go.Proofs.YtdbgnoolokfafaaW.PrintMore
attribute [local go_sem] max2_int min2_int max_two min_two max_three min_three max_four min_four   -- for this text's walks alone
set_option linter.unusedVariables false
set_option linter.unusedSimpArgs false

/-! ### impl_turned: function 220 -/
def impl_turned.f (a0 : Int) : Option (Int) := some (Int.tmod (wrap64 ((Int.tmod a0 4096) + 4096)) 4096)
set_option maxHeartbeats 8000000 in
set_option maxRecDepth 100000 in
theorem impl_turned.calls (a0 : Int) (r : Int) (w : World) (h : impl_turned.f a0 = some r) :
    Calls Try.prog 220 #[.int .i64 a0] w fun e w' => e = .returned (.int .i64 r) ∧ Drawn0 w w' := by
  have H : (some (Int.tmod (wrap64 ((Int.tmod a0 4096) + 4096)) 4096)) = some r := h
  clear h
  obtain rfl := Option.some.inj H
  go_enter Try.func220, Try.ntmps220
  go_wp2
  go_ret
  exact ⟨by first | rfl | (simp; done) | (simp [*]; done), by repeat (first | exact Drawn0.refl _ | apply Drawn0.step)⟩

/-! ### impl_SinOf: function 191 -/
def sinTab : List Int := [0, 6424, 12785, 19024, 25080, 30893, 36410, 41576, 46341, 50660, 54491, 57798, 60547, 62714, 64277, 65220, 65536]
def sinAt (i : Int) : Int := sinTab.getD i.toNat 0
def sinLow (m : Int) : Int := if m = 1024 then 65536 else (sinAt (m / 64) * (64 - m % 64) + sinAt (m / 64 + 1) * (m % 64) + 32) / 64
def sinMid (m : Int) : Int := if m > 1024 then sinLow (2048 - m) else sinLow m
def sinAll (m : Int) : Int := if m ≥ 2048 then -sinMid (m - 2048) else sinMid m
def impl_SinOf.f (a0 : Int) : Option Int := (impl_turned.f a0).bind fun m => if 0 ≤ m ∧ m < 4096 then some (sinAll m) else none
theorem sinAt_le (i : Int) : 0 ≤ sinAt i ∧ sinAt i ≤ 65536 := by
  unfold sinAt
  have h : ∀ x ∈ sinTab, 0 ≤ x ∧ x ≤ 65536 := by decide
  rw [List.getD_eq_getElem?_getD]
  cases e : sinTab[i.toNat]? with
  | none => exact ⟨by decide, by decide⟩
  | some v => exact h v (List.mem_of_getElem? e)
def sinVals : List Value := sinTab.map fun x => .int .i64 x
theorem turned_f {a m : Int} (h : impl_turned.f a = some m) : 0 ≤ m ∧ m < 4096 := by
  unfold impl_turned.f at h
  obtain rfl := Option.some.inj h
  have h1 : 0 ≤ wrap64 (Int.tmod a 4096 + 4096) := by
    have l := Int.tmod_lt_of_pos a (show (0 : Int) < 4096 by decide)
    have g : -4096 < Int.tmod a 4096 := by
      have := Int.tmod_lt_of_pos (-a) (show (0 : Int) < 4096 by decide)
      rw [Int.neg_tmod] at this
      omega
    rw [show wrap64 (Int.tmod a 4096 + 4096) = Int.tmod a 4096 + 4096 by unfold wrap64; omega]
    omega
  rw [Int.tmod_eq_emod_of_nonneg h1]
  omega
theorem turned_small {m : Int} (h0 : 0 ≤ m) (h1 : m < 4096) : impl_turned.f m = some m := by
  unfold impl_turned.f
  rw [Int.tmod_eq_emod_of_nonneg h0, Int.emod_eq_of_lt h0 h1, show wrap64 (m + 4096) = m + 4096 by unfold wrap64; omega, Int.tmod_eq_emod_of_nonneg (by omega)]
  congr 1
  omega
set_option maxHeartbeats 2000000 in
set_option maxRecDepth 100000 in
theorem sin_low (a m : Int) (w : World) (h : impl_turned.f a = some m) (h0 : 0 ≤ m) (h1 : m < 1024) :
    Calls Try.prog 191 #[.int .i64 a] w fun e w' => e = .returned (.int .i64 (sinLow m)) ∧ Below w.heap.size w w' := by
  have H := Lib.hid h
  clear h
  go_enter Try.func191, Try.ntmps191
  go_wp2_with fail
  refine (impl_turned.calls a m _ H.out).mono ?_
  rintro e w1 ⟨rfl, ⟨n, rfl⟩⟩
  go_wp2_with fail
  obtain ⟨W, hW⟩ : ∃ W : World, (w.alloc (.cells #[.int .i64 0, .int .i64 6424, .int .i64 12785, .int .i64 19024, .int .i64 25080, .int .i64 30893, .int .i64 36410, .int .i64 41576, .int .i64 46341, .int .i64 50660, .int .i64 54491, .int .i64 57798, .int .i64 60547, .int .i64 62714, .int .i64 64277, .int .i64 65220, .int .i64 65536] 257)).drewN n = W := ⟨_, rfl⟩
  rw [hW]
  have HB : Hid (Below w.heap.size w W.drew) := by rw [← hW]; exact Lib.hid (pw_below_drewN ((Below.refl _ _).alloc (Nat.le_refl _) _) n).drew
  have b0 : Hid (W.heap[w.heap.size]? = some (.cells (sinVals.toArray) 257)) := by rw [← hW]; exact Lib.hid (blk_drewN (MapKept.heap_alloc w _).1 n)
  clear hW
  have cc : ∀ i : Int, 0 ≤ i → i < 17 → W.cell? ⟨w.heap.size, i.toNat, none⟩ = some (.int .i64 (sinAt i)) := fun i i0 i1 => by
    have e := blk_cell b0.out i.toNat
    rw [e]
    simp [sinVals, sinAt, List.getD_eq_getElem?_getD, show i.toNat < sinTab.length by simp [sinTab]; omega]
  have c1 := cc (m / 64) (by omega) (by omega)
  have c2 := cc (m / 64 + 1) (by omega) (by omega)
  clear cc
  have l1 : 0 ≤ m / 64 := by omega
  have l2 : m / 64 < 16 := by omega
  have l3 : 0 ≤ m % 64 := by omega
  have l4 : m % 64 < 64 := by omega
  obtain ⟨s1, hs1⟩ : ∃ s, sinAt (m / 64) = s := ⟨_, rfl⟩
  obtain ⟨s2, hs2⟩ : ∃ s, sinAt (m / 64 + 1) = s := ⟨_, rfl⟩
  have k1 := sinAt_le (m / 64)
  have k2 := sinAt_le (m / 64 + 1)
  have hr : Hid (sinLow m = (s1 * (64 - m % 64) + s2 * (m % 64) + 32) / 64) := Lib.hid (by unfold sinLow; rw [if_neg (by omega), hs1, hs2])
  rw [hs1] at c1 k1
  rw [hs2] at c2 k2
  clear hs1 hs2
  generalize hq : m / 64 = q at *
  generalize hp : m % 64 = p at *
  clear hq hp
  go_quiet (fail)
  have HBq : Hid (Below w.heap.size w (W.drewN nq)) := Lib.hid (pw_below_drewN (⟨HB.out.os, HB.out.tape, HB.out.output, HB.out.size, HB.out.block⟩ : Below w.heap.size w W) nq)
  have m1 : 0 ≤ s1 * (64 - p) := Int.mul_nonneg k1.1 (by omega)
  have m2 : s1 * (64 - p) ≤ 65536 * 64 := Int.mul_le_mul k1.2 (by omega) (by omega) (by omega)
  have m3 : 0 ≤ s2 * p := Int.mul_nonneg k2.1 (by omega)
  have m4 : s2 * p ≤ 65536 * 64 := Int.mul_le_mul k2.2 (by omega) (by omega) (by omega)
  have e : Hid (wrap64 (Int.tdiv (wrap64 (wrap64 (wrap64 (s1 * (64 - p)) + wrap64 (s2 * p)) + 32)) 64) = sinLow m) := by
    rw [hr.out]
    generalize s1 * (64 - p) = u at m1 m2 ⊢
    generalize s2 * p = v at m3 m4 ⊢
    refine Lib.hid ?_
    rw [show wrap64 u = u by unfold wrap64; omega, show wrap64 v = v by unfold wrap64; omega, show wrap64 (u + v) = u + v by unfold wrap64; omega, show wrap64 (u + v + 32) = u + v + 32 by unfold wrap64; omega, Int.tdiv_eq_ediv_of_nonneg (by omega)]
    unfold wrap64
    omega
  clear m1 m2 m3 m4 hr
  rw [e.out]
  go_wp2
  go_ret
  exact ⟨rfl, HBq.out⟩
set_option maxHeartbeats 2000000 in
set_option maxRecDepth 100000 in
theorem sin_top (a m : Int) (w : World) (h : impl_turned.f a = some m) (h1 : m = 1024) :
    Calls Try.prog 191 #[.int .i64 a] w fun e w' => e = .returned (.int .i64 65536) ∧ Below w.heap.size w w' := by
  subst h1
  have H := Lib.hid h
  clear h
  go_enter Try.func191, Try.ntmps191
  go_wp2_with fail
  refine (impl_turned.calls a 1024 _ H.out).mono ?_
  rintro e w1 ⟨rfl, ⟨n, rfl⟩⟩
  have HB : Hid (Below w.heap.size w ((w.alloc (.cells sinVals.toArray 257)).drewN n)) := Lib.hid (pw_below_drewN ((Below.refl _ _).alloc (Nat.le_refl _) _) n)
  go_wp2
  go_ret
  exact ⟨rfl, HB.out⟩
set_option maxHeartbeats 2000000 in
set_option maxRecDepth 100000 in
theorem sin_mid (a m : Int) (w : World) (h : impl_turned.f a = some m) (h0 : 0 ≤ m) (h1 : m < 2048) :
    Calls Try.prog 191 #[.int .i64 a] w fun e w' => e = .returned (.int .i64 (sinMid m)) ∧ Below w.heap.size w w' := by
  rcases (by omega : m < 1024 ∨ m = 1024 ∨ 1024 < m) with c | c | c
  · unfold sinMid; rw [if_neg (by omega)]; exact sin_low a m w h h0 c
  · unfold sinMid; rw [if_neg (by omega), c]; exact sin_top a m w h c
  · have hr : Hid (sinMid m = sinLow (2048 - m)) := Lib.hid (by unfold sinMid; rw [if_pos (by omega)])
    have H := Lib.hid h
    have H2 := Lib.hid (turned_small (m := 2048 - m) (by omega) (by omega))
    clear h
    rw [hr.out]
    clear hr
    go_enter Try.func191, Try.ntmps191
    go_wp2_with fail
    refine (impl_turned.calls a m _ H.out).mono ?_
    rintro e w1 ⟨rfl, ⟨n, rfl⟩⟩
    have HB : Hid (Below w.heap.size w ((w.alloc (.cells sinVals.toArray 257)).drewN n)) := Lib.hid (pw_below_drewN ((Below.refl _ _).alloc (Nat.le_refl _) _) n)
    go_wp2_with fail
    refine (sin_low (2048 - m) (2048 - m) _ H2.out (by omega) (by omega)).mono ?_
    rintro e w2 ⟨rfl, hb⟩
    have HB2 := Lib.hid (below_step HB.out hb)
    clear hb HB
    go_wp2
    go_ret
    exact ⟨rfl, HB2.out⟩
theorem sinLow_bd {m : Int} (h0 : 0 ≤ m) (h1 : m ≤ 1024) : 0 ≤ sinLow m ∧ sinLow m ≤ 65536 := by
  unfold sinLow
  split
  · omega
  · have k1 := sinAt_le (m / 64)
    have k2 := sinAt_le (m / 64 + 1)
    have l3 : 0 ≤ m % 64 := by omega
    have l4 : m % 64 < 64 := by omega
    generalize sinAt (m / 64) = s1 at *
    generalize sinAt (m / 64 + 1) = s2 at *
    generalize m % 64 = p at *
    have m1 : 0 ≤ s1 * (64 - p) := Int.mul_nonneg k1.1 (by omega)
    have m2 : s1 * (64 - p) ≤ 65536 * (64 - p) := Int.mul_le_mul_of_nonneg_right k1.2 (by omega)
    have m3 : 0 ≤ s2 * p := Int.mul_nonneg k2.1 (by omega)
    have m4 : s2 * p ≤ 65536 * p := Int.mul_le_mul_of_nonneg_right k2.2 (by omega)
    generalize s1 * (64 - p) = u at m1 m2 ⊢
    generalize s2 * p = v at m3 m4 ⊢
    omega
theorem sinMid_bd {m : Int} (h0 : 0 ≤ m) (h1 : m < 2048) : 0 ≤ sinMid m ∧ sinMid m ≤ 65536 := by
  unfold sinMid
  split
  · exact sinLow_bd (by omega) (by omega)
  · exact sinLow_bd (by omega) (by omega)
set_option maxHeartbeats 2000000 in
set_option maxRecDepth 100000 in
theorem sin_all (a m : Int) (w : World) (h : impl_turned.f a = some m) (h0 : 0 ≤ m) (h1 : m < 4096) :
    Calls Try.prog 191 #[.int .i64 a] w fun e w' => e = .returned (.int .i64 (sinAll m)) ∧ Below w.heap.size w w' := by
  rcases (by omega : m < 2048 ∨ 2048 ≤ m) with c | c
  · unfold sinAll; rw [if_neg (by omega)]; exact sin_mid a m w h h0 c
  · have hr : Hid (sinAll m = -sinMid (m - 2048)) := Lib.hid (by unfold sinAll; rw [if_pos (by omega)])
    have bd := sinMid_bd (m := m - 2048) (by omega) (by omega)
    have H := Lib.hid h
    have H2 := Lib.hid (turned_small (m := m - 2048) (by omega) (by omega))
    clear h
    rw [hr.out]
    clear hr
    obtain ⟨s, hs⟩ : ∃ s, sinMid (m - 2048) = s := ⟨_, rfl⟩
    have HS := Lib.hid hs
    rw [hs] at bd ⊢
    clear hs
    go_enter Try.func191, Try.ntmps191
    go_wp2_with fail
    refine (impl_turned.calls a m _ H.out).mono ?_
    rintro e w1 ⟨rfl, ⟨n, rfl⟩⟩
    have HB : Hid (Below w.heap.size w ((w.alloc (.cells sinVals.toArray 257)).drewN n)) := Lib.hid (pw_below_drewN ((Below.refl _ _).alloc (Nat.le_refl _) _) n)
    go_wp2_with fail
    refine (sin_mid (m - 2048) (m - 2048) _ H2.out (by omega) (by omega)).mono ?_
    rintro e w2 ⟨rfl, hb⟩
    have HB2 := Lib.hid (below_step HB.out hb)
    clear hb HB
    rw [HS.out]
    go_wp2
    go_ret
    exact ⟨rfl, HB2.out⟩
theorem impl_SinOf.calls (a0 : Int) (r : Int) (w : World) (h : impl_SinOf.f a0 = some r) :
    Calls Try.prog 191 #[.int .i64 a0] w fun e w' => e = .returned (.int .i64 r) ∧ Below w.heap.size w w' := by
  unfold impl_SinOf.f at h
  obtain ⟨m, e, h⟩ := Option.bind_eq_some_iff.mp h
  obtain ⟨h0, h1⟩ := turned_f e
  rw [if_pos ⟨h0, h1⟩] at h
  obtain rfl := Option.some.inj h
  exact sin_all a0 m w e h0 h1

/-! ### impl_CosOf: function 190 -/
def impl_CosOf.f (a0 : Int) : Option (Int) := (impl_turned.f a0).bind fun t222 => ((impl_SinOf.f (wrap64 (t222 + 1024))).bind fun t223 => (some t223))
set_option maxHeartbeats 8000000 in
set_option maxRecDepth 100000 in
theorem impl_CosOf.calls (a0 : Int) (r : Int) (w : World) (h : impl_CosOf.f a0 = some r) :
    Calls Try.prog 190 #[.int .i64 a0] w fun e w' => e = .returned (.int .i64 r) ∧ Below w.heap.size w w' := by
  have HB := Aside0.mk (Below.refl w.heap.size w)
  have H : ((impl_turned.f a0).bind fun t222 => ((impl_SinOf.f (wrap64 (t222 + 1024))).bind fun t223 => (some t223))) = some r := h
  clear h
  replace H := Option.bind_eq_some_iff.mp H
  obtain ⟨t222, A20, H⟩ := H
  replace H : ((impl_SinOf.f (wrap64 (t222 + 1024))).bind fun t223 => (some t223)) = some r := H
  have A2 := Aside0.mk A20
  clear A20
  replace H := Option.bind_eq_some_iff.mp H
  obtain ⟨t223, A30, H⟩ := H
  replace H : (some t223) = some r := H
  have A3 := Aside0.mk A30
  clear A30
  obtain rfl := Option.some.inj H
  go_enter Try.func190, Try.ntmps190
  go_wp2_with (first | ((with_reducible refine gate_callee (f := 220) rfl ?_); refine goesL_ (some 4) rfl rfl Try.func220 (by kernel_rfl) rfl #[.int .i64 a0] rfl (by (try simp only [List.map_toArray, List.map_cons, List.map_nil]); first | done | rfl | (simp only [List.length_drop, List.length_take]; rfl)) ?_; (with_reducible refine (impl_turned.calls a0 t222 _ A2.out).mono ?_); rintro e w' ⟨rfl, ⟨nd, rfl⟩⟩; refine ⟨_, rfl, ?_⟩) | ((with_reducible refine gate_callee (f := 191) rfl ?_); refine goesL_ (some 6) rfl rfl Try.func191 (by kernel_rfl) rfl #[.int .i64 (wrap64 (t222 + 1024))] rfl (by (try simp only [List.map_toArray, List.map_cons, List.map_nil]); first | done | rfl | (simp only [List.length_drop, List.length_take]; rfl)) ?_; (with_reducible refine (impl_SinOf.calls (wrap64 (t222 + 1024)) t223 _ A3.out).mono ?_); rintro e w4 ⟨rfl, hb⟩; refine ⟨_, rfl, ?_⟩; have n0_ := Aside0.mk (below_step (by repeat (first | (with_reducible first | exact HB.out | apply below_alloc | apply pw_below_drewN | apply below_drew1) | exact HB.out)) hb); clear HB; have HB := n0_; clear n0_; (try clear hb); (try clear hb2); (try clear hk); (try clear hi)))
  go_ret
  exact ⟨by first | rfl | (simp [errW_none, errW_some] <;> rfl) | (simp [*, errW_none, errW_some] <;> rfl), by repeat (first | (with_reducible first | exact HB.out | apply below_alloc | apply pw_below_drewN | apply below_drew1) | exact HB.out)⟩

/-! ### impl_onCircle: function 136 -/
def impl_onCircle.f (k : Nat) (a0 : Int) (a1 : Int) (a2 : Int) (a3 : Int) (a4 : Int) : Option (Int × Int) := (impl_CosOf.f (wrap64 (a4 * 128))).bind fun t225 => ((impl_FixMul.f k a2 t225).bind fun t226 => ((impl_SinOf.f (wrap64 (a4 * 128))).bind fun t227 => ((impl_FixMul.f k a3 t227).bind fun t228 => (some (wrap64 (a0 + t226), wrap64 (a1 + t228))))))
theorem impl_onCircle.mono : ∀ a0 a1 a2 a3 a4 k, LeO (impl_onCircle.f k a0 a1 a2 a3 a4) (impl_onCircle.f (k + 1) a0 a1 a2 a3 a4) := by
  intro a0 a1 a2 a3 a4 k
  unfold impl_onCircle.f
  repeat' first
      | (with_reducible exact impl_FixMul.mono _ _ _)
      | (with_reducible exact LeO.refl _)
      | (with_reducible exact LeO.none _)
      | (with_reducible refine LeO.ite ?_ ?_)
      | (with_reducible refine LeO.bind ?_ (fun _ => ?_))
      | exact impl_FixMul.mono _ _ _
      | exact LeO.none _
      | refine LeO.ite ?_ ?_
      | refine LeO.bind ?_ (fun _ => ?_)
set_option maxHeartbeats 8000000 in
set_option maxRecDepth 100000 in
theorem impl_onCircle.calls (k : Nat) (a0 : Int) (a1 : Int) (a2 : Int) (a3 : Int) (a4 : Int) (r1 : Int) (r2 : Int) (w : World) (h : impl_onCircle.f k a0 a1 a2 a3 a4 = some (r1, r2)) :
    Calls Try.prog 136 #[.int .i64 a0, .int .i64 a1, .int .i64 a2, .int .i64 a3, .int .i64 a4] w fun e w' => e = .returned (.agg #[.int .i64 r1, .int .i64 r2]) ∧ Below w.heap.size w w' := by
  have hu25 := Try.underlying25
  have HB := Aside0.mk (Below.refl w.heap.size w)
  have H : ((impl_CosOf.f (wrap64 (a4 * 128))).bind fun t225 => ((impl_FixMul.f k a2 t225).bind fun t226 => ((impl_SinOf.f (wrap64 (a4 * 128))).bind fun t227 => ((impl_FixMul.f k a3 t227).bind fun t228 => (some (wrap64 (a0 + t226), wrap64 (a1 + t228))))))) = some (r1, r2) := h
  clear h
  replace H := Option.bind_eq_some_iff.mp H
  obtain ⟨t225, A60, H⟩ := H
  replace H : ((impl_FixMul.f k a2 t225).bind fun t226 => ((impl_SinOf.f (wrap64 (a4 * 128))).bind fun t227 => ((impl_FixMul.f k a3 t227).bind fun t228 => (some (wrap64 (a0 + t226), wrap64 (a1 + t228)))))) = some (r1, r2) := H
  have A6 := Aside0.mk A60
  clear A60
  replace H := Option.bind_eq_some_iff.mp H
  obtain ⟨t226, A70, H⟩ := H
  replace H : ((impl_SinOf.f (wrap64 (a4 * 128))).bind fun t227 => ((impl_FixMul.f k a3 t227).bind fun t228 => (some (wrap64 (a0 + t226), wrap64 (a1 + t228))))) = some (r1, r2) := H
  have A7 := Aside0.mk A70
  clear A70
  replace H := Option.bind_eq_some_iff.mp H
  obtain ⟨t227, A80, H⟩ := H
  replace H : ((impl_FixMul.f k a3 t227).bind fun t228 => (some (wrap64 (a0 + t226), wrap64 (a1 + t228)))) = some (r1, r2) := H
  have A8 := Aside0.mk A80
  clear A80
  replace H := Option.bind_eq_some_iff.mp H
  obtain ⟨t228, A90, H⟩ := H
  replace H : (some (wrap64 (a0 + t226), wrap64 (a1 + t228))) = some (r1, r2) := H
  have A9 := Aside0.mk A90
  clear A90
  simp only [Option.some.injEq, Prod.mk.injEq] at H
  obtain ⟨rfl, rfl⟩ := H
  go_enter Try.func136, Try.ntmps136
  go_wp2_with (first | ((with_reducible refine gate_dst (N := 10) rfl ?_); refine box_event ?hg (N := 10) ?hd (cs := #[.int .i64 0, .int .i64 0]) (t := 25) ?hr ?_; (case hd => rfl); (case hg => rfl); (case hr => first | (go_simp; done) | (go_simp; rfl)); intro gb224 hg w10 hbox hb; have n0_ := Aside0.mk (below_step (by repeat (first | (with_reducible first | exact HB.out | apply below_alloc | apply pw_below_drewN | apply below_drew1) | exact HB.out)) hb); have n1_ := Aside0.mk (hbox); have n2_ := Aside0.mk ((by rw [hg]; exact (below_size (by repeat (first | (with_reducible first | exact HB.out | apply below_alloc | apply pw_below_drewN | apply below_drew1) | exact HB.out))) : w.heap.size ≤ gb224)); have n3_ := Aside0.mk ((by rw [hg]; exact (below_size (by repeat (first | (with_reducible first | exact HB.out | apply below_alloc | apply pw_below_drewN | apply below_drew1) | exact HB.out))) : w.heap.size ≤ gb224)); clear HB; have HB := n0_; have BK224 := n1_; have GW224 := n2_; have GE224 := n3_; clear n0_ n1_ n2_ n3_; clear hb hbox hg) | ((with_reducible refine gate_callee (f := 190) rfl ?_); refine goesL_ (some 15) rfl rfl Try.func190 (by kernel_rfl) rfl #[.int .i64 (wrap64 (a4 * 128))] rfl (by (try simp only [List.map_toArray, List.map_cons, List.map_nil]); first | done | rfl | (simp only [List.length_drop, List.length_take]; rfl)) ?_; (with_reducible refine (impl_CosOf.calls (wrap64 (a4 * 128)) t225 _ A6.out).mono ?_); rintro e w11 ⟨rfl, hb⟩; refine ⟨_, rfl, ?_⟩; have n0_ := Aside0.mk (blk_below (g := gb224) (o := .cells #[.int .i64 0, .int .i64 0] 25 (0, 0)) (by (with_reducible repeat (first | refine blk_drewN ?_ _ | refine blk_drew ?_ | refine blk_alloc ?_ _)); exact BK224.out) hb); have n1_ := Aside0.mk (below_step (by repeat (first | (with_reducible first | exact HB.out | apply below_alloc | apply pw_below_drewN | apply below_drew1 | refine below_set ?_ GE224.out) | exact HB.out)) hb); clear BK224; clear HB; have BK224 := n0_; have HB := n1_; clear n0_ n1_; (try clear hb); (try clear hb2); (try clear hk); (try clear hi)) | ((with_reducible refine gate_callee (f := 189) rfl ?_); refine goesL_ (some 16) rfl rfl Try.func189 (by kernel_rfl) rfl #[.int .i64 a2, .int .i64 t225] rfl (by (try simp only [List.map_toArray, List.map_cons, List.map_nil]); first | done | rfl | (simp only [List.length_drop, List.length_take]; rfl)) ?_; (with_reducible refine (impl_FixMul.calls k a2 t225 t226 _ A7.out).mono ?_); rintro e w12 ⟨rfl, hb⟩; refine ⟨_, rfl, ?_⟩; have n0_ := Aside0.mk (blk_below (g := gb224) (o := .cells #[.int .i64 0, .int .i64 0] 25 (0, 0)) (by (with_reducible repeat (first | refine blk_drewN ?_ _ | refine blk_drew ?_ | refine blk_alloc ?_ _)); exact BK224.out) hb); have n1_ := Aside0.mk (below_step (by repeat (first | (with_reducible first | exact HB.out | apply below_alloc | apply pw_below_drewN | apply below_drew1 | refine below_set ?_ GE224.out) | exact HB.out)) hb); clear BK224; clear HB; have BK224 := n0_; have HB := n1_; clear n0_ n1_; (try clear hb); (try clear hb2); (try clear hk); (try clear hi)) | ((with_reducible refine gate_callee (f := 191) rfl ?_); refine goesL_ (some 22) rfl rfl Try.func191 (by kernel_rfl) rfl #[.int .i64 (wrap64 (a4 * 128))] rfl (by (try simp only [List.map_toArray, List.map_cons, List.map_nil]); first | done | rfl | (simp only [List.length_drop, List.length_take]; rfl)) ?_; (with_reducible refine (impl_SinOf.calls (wrap64 (a4 * 128)) t227 _ A8.out).mono ?_); rintro e w13 ⟨rfl, hb⟩; refine ⟨_, rfl, ?_⟩; have n0_ := Aside0.mk (blk_below (g := gb224) (o := .cells #[.int .i64 0, .int .i64 0] 25 (0, 0)) (by (with_reducible repeat (first | refine blk_drewN ?_ _ | refine blk_drew ?_ | refine blk_alloc ?_ _)); exact BK224.out) hb); have n1_ := Aside0.mk (below_step (by repeat (first | (with_reducible first | exact HB.out | apply below_alloc | apply pw_below_drewN | apply below_drew1 | refine below_set ?_ GE224.out) | exact HB.out)) hb); clear BK224; clear HB; have BK224 := n0_; have HB := n1_; clear n0_ n1_; (try clear hb); (try clear hb2); (try clear hk); (try clear hi)) | ((with_reducible refine gate_callee (f := 189) rfl ?_); refine goesL_ (some 23) rfl rfl Try.func189 (by kernel_rfl) rfl #[.int .i64 a3, .int .i64 t227] rfl (by (try simp only [List.map_toArray, List.map_cons, List.map_nil]); first | done | rfl | (simp only [List.length_drop, List.length_take]; rfl)) ?_; (with_reducible refine (impl_FixMul.calls k a3 t227 t228 _ A9.out).mono ?_); rintro e w14 ⟨rfl, hb⟩; refine ⟨_, rfl, ?_⟩; have n0_ := Aside0.mk (blk_below (g := gb224) (o := .cells #[.int .i64 0, .int .i64 0] 25 (0, 0)) (by (with_reducible repeat (first | refine blk_drewN ?_ _ | refine blk_drew ?_ | refine blk_alloc ?_ _)); exact BK224.out) hb); have n1_ := Aside0.mk (below_step (by repeat (first | (with_reducible first | exact HB.out | apply below_alloc | apply pw_below_drewN | apply below_drew1 | refine below_set ?_ GE224.out) | exact HB.out)) hb); clear BK224; clear HB; have BK224 := n0_; have HB := n1_; clear n0_ n1_; (try clear hb); (try clear hb2); (try clear hk); (try clear hi); have hcz15_0 : w14.cell? ⟨gb224, 0, none⟩ = some (.int .i64 0) := (blk_cell BK224.out 0).trans rfl; have hcz15_1 : w14.cell? ⟨gb224, 1, none⟩ = some (.int .i64 0) := (blk_cell BK224.out 1).trans rfl; have hfz15_0 := blk_frozen BK224.out 0; have hfz15_1 := blk_frozen BK224.out 1))
  refine bodyPost_ret (results_cell_row rfl _ _ gb224 25 #[.int .i64 (wrap64 (a0 + t226)), .int .i64 (wrap64 (a1 + t228))] (0, 0) _ rfl (by (with_reducible repeat (first | refine blk_drewN ?_ _ | refine blk_drew ?_ | refine blk_alloc ?_ _)); refine blk_put (cs := #[.int .i64 (wrap64 (a0 + t226)), .int .i64 0]) ?_ 1 _ rfl; (with_reducible repeat (first | refine blk_drewN ?_ _ | refine blk_drew ?_ | refine blk_alloc ?_ _)); refine blk_put (cs := #[.int .i64 0, .int .i64 0]) ?_ 0 _ rfl; (with_reducible repeat (first | refine blk_drewN ?_ _ | refine blk_drew ?_ | refine blk_alloc ?_ _)); exact BK224.out) Try.underlying25 rfl (by kernel_rfl)) rfl ?_
  exact ⟨by first | rfl | (simp [errW_none, errW_some] <;> rfl) | (simp [*, errW_none, errW_some] <;> rfl), by repeat (first | (with_reducible first | exact HB.out | apply below_alloc | apply pw_below_drewN | apply below_drew1 | refine below_set ?_ GE224.out) | exact HB.out)⟩

end Go.Proofs.Ytdbgnoolokfafaa.HFnExactRectOf
