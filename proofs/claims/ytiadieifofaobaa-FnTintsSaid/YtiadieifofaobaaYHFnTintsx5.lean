-- Printed by a program of this session over the kit's print; functions that the print does not take stand here by hand.
import Derived.Test.YtiadieifofaobaaYShort
import Derived.Test.YtiadieifofaobaaYHFnTintsx0
import Derived.Test.YtiadieifofaobaaYHFnTintsx4
namespace Go.Proofs.Ytiadieifofaobaa.HFnTints
open Go.RowKit Go.Proofs.YtiadieifofaobaaW.PrintWords Go.Proofs.YtiadieifofaobaaW.PrintLast Go.Proofs.YtiadieifofaobaaW.PrintMore
attribute [local go_sem] max2_int min2_int max_two min_two max_three min_three max_four min_four   -- for this text's walks alone
set_option linter.unusedVariables false
set_option linter.unusedSimpArgs false
/-! ### spec_l12Run: function 59 -/
mutual
def spec_l12Run.j0 : Nat → List (S103) → Int → Option (Int × Int × Int × Int)
  | 0, _, _ => none
  | k + 1, x0, x1 => if 0 < (x0.length : Int) then (if x1 ≤ ((rd_T103 x0 0).f0) then (some ((rd_T103 x0 0).f1.f0, (rd_T103 x0 0).f1.f1, (rd_T103 x0 0).f1.f2, (rd_T103 x0 0).f1.f3)) else (if 0 ≤ (wrap64 ((x0.length : Int) - 1)) then (if (wrap64 ((x0.length : Int) - 1)) < (x0.length : Int) then (if x1 ≥ ((rd_T103 x0 (wrap64 ((x0.length : Int) - 1))).f0) then (some ((rd_T103 x0 (wrap64 ((x0.length : Int) - 1))).f1.f0, (rd_T103 x0 (wrap64 ((x0.length : Int) - 1))).f1.f1, (rd_T103 x0 (wrap64 ((x0.length : Int) - 1))).f1.f2, (rd_T103 x0 (wrap64 ((x0.length : Int) - 1))).f1.f3)) else (spec_l12Run.l0 k x0 x1 0)) else (none)) else (none))) else (none)
def spec_l12Run.l0 : Nat → List (S103) → Int → Int → Option (Int × Int × Int × Int)
  | 0, _, _, _ => none
  | k + 1, x0, x1, x7 => if 0 ≤ (wrap64 (x7 + 1)) then (if (wrap64 (x7 + 1)) < (x0.length : Int) then (if ((rd_T103 x0 (wrap64 (x7 + 1))).f0) ≤ x1 then (spec_l12Run.l0 k x0 x1 (wrap64 (x7 + 1))) else (if 0 ≤ x7 then (if x7 < (x0.length : Int) then (if (wrap64 (((rd_T103 x0 (wrap64 (x7 + 1))).f0) - ((rd_T103 x0 x7).f0))) = 0 then (none) else (some (wrap64 (Int.tdiv (wrap64 ((wrap64 (((rd_T103 x0 x7).f1.f0) * (wrap64 (((rd_T103 x0 (wrap64 (x7 + 1))).f0) - x1)))) + (wrap64 (((rd_T103 x0 (wrap64 (x7 + 1))).f1.f0) * (wrap64 (x1 - ((rd_T103 x0 x7).f0))))))) (wrap64 (((rd_T103 x0 (wrap64 (x7 + 1))).f0) - ((rd_T103 x0 x7).f0)))), wrap64 (Int.tdiv (wrap64 ((wrap64 (((rd_T103 x0 x7).f1.f1) * (wrap64 (((rd_T103 x0 (wrap64 (x7 + 1))).f0) - x1)))) + (wrap64 (((rd_T103 x0 (wrap64 (x7 + 1))).f1.f1) * (wrap64 (x1 - ((rd_T103 x0 x7).f0))))))) (wrap64 (((rd_T103 x0 (wrap64 (x7 + 1))).f0) - ((rd_T103 x0 x7).f0)))), wrap64 (Int.tdiv (wrap64 ((wrap64 (((rd_T103 x0 x7).f1.f2) * (wrap64 (((rd_T103 x0 (wrap64 (x7 + 1))).f0) - x1)))) + (wrap64 (((rd_T103 x0 (wrap64 (x7 + 1))).f1.f2) * (wrap64 (x1 - ((rd_T103 x0 x7).f0))))))) (wrap64 (((rd_T103 x0 (wrap64 (x7 + 1))).f0) - ((rd_T103 x0 x7).f0)))), wrap64 (Int.tdiv (wrap64 ((wrap64 (((rd_T103 x0 x7).f1.f3) * (wrap64 (((rd_T103 x0 (wrap64 (x7 + 1))).f0) - x1)))) + (wrap64 (((rd_T103 x0 (wrap64 (x7 + 1))).f1.f3) * (wrap64 (x1 - ((rd_T103 x0 x7).f0))))))) (wrap64 (((rd_T103 x0 (wrap64 (x7 + 1))).f0) - ((rd_T103 x0 x7).f0))))))) else (none)) else (none))) else (none)) else (none)
end
def spec_l12Run.f (k : Nat) (l0 : List (S103)) (a1 : Int) (a2 : Int) : Option (Int × Int × Int × Int) := if a2 = 2 then ((spec_l1Mod.f a1 65536).bind fun t115 => (spec_l12Run.j0 k l0 t115)) else (if a2 = 3 then ((spec_l1Mod.f a1 131072).bind fun t116 => (if t116 ≥ 65536 then (spec_l12Run.j0 k l0 (wrap64 (131072 - t116))) else (spec_l12Run.j0 k l0 t116))) else (if a1 < 0 then (if 0 > 65536 then (spec_l12Run.j0 k l0 65536) else (spec_l12Run.j0 k l0 0)) else (if a1 > 65536 then (spec_l12Run.j0 k l0 65536) else (spec_l12Run.j0 k l0 a1))))
theorem spec_l12Run.mono_l : ∀ k, (∀ y0 y1, LeO (spec_l12Run.j0 k y0 y1) (spec_l12Run.j0 (k + 1) y0 y1)) ∧ (∀ y0 y1 y2, LeO (spec_l12Run.l0 k y0 y1 y2) (spec_l12Run.l0 (k + 1) y0 y1 y2))
  | 0 => ⟨fun _ _ r h => by simp [spec_l12Run.j0] at h, fun _ _ _ r h => by simp [spec_l12Run.l0] at h⟩
  | k + 1 => by
    obtain ⟨ih0, ih1⟩ := spec_l12Run.mono_l k
    refine ⟨?_, ?_⟩
    · intro y0 y1
      unfold spec_l12Run.j0
      repeat' first
    | with_reducible exact ih0 _ _
    | with_reducible exact ih1 _ _ _
    | with_reducible exact LeO.refl _
    | with_reducible exact LeO.none _
    | with_reducible refine LeO.ite ?_ ?_
    | with_reducible refine LeO.bind ?_ (fun _ => ?_)
    | exact ih0 _ _
    | exact ih1 _ _ _
    | exact LeO.none _
    | refine LeO.ite ?_ ?_
    | refine LeO.bind ?_ (fun _ => ?_)
    · intro y0 y1 y2
      unfold spec_l12Run.l0
      repeat' first
    | with_reducible exact ih0 _ _
    | with_reducible exact ih1 _ _ _
    | with_reducible exact LeO.refl _
    | with_reducible exact LeO.none _
    | with_reducible refine LeO.ite ?_ ?_
    | with_reducible refine LeO.bind ?_ (fun _ => ?_)
    | exact ih0 _ _
    | exact ih1 _ _ _
    | exact LeO.none _
    | refine LeO.ite ?_ ?_
    | refine LeO.bind ?_ (fun _ => ?_)
theorem spec_l12Run.mono : ∀ a0 a1 a2 k, LeO (spec_l12Run.f k a0 a1 a2) (spec_l12Run.f (k + 1) a0 a1 a2) := by
  intro a0 a1 a2 k
  obtain ⟨ih0, ih1⟩ := spec_l12Run.mono_l k
  unfold spec_l12Run.f
  repeat' first
    | with_reducible exact ih0 _ _
    | with_reducible exact ih1 _ _ _
    | with_reducible exact LeO.refl _
    | with_reducible exact LeO.none _
    | with_reducible refine LeO.ite ?_ ?_
    | with_reducible refine LeO.bind ?_ (fun _ => ?_)
    | exact ih0 _ _
    | exact ih1 _ _ _
    | exact LeO.none _
    | refine LeO.ite ?_ ?_
    | refine LeO.bind ?_ (fun _ => ?_)
def spec_l12Run.T24 : Bool × List (List Nat × List Nat) := (true, [([], []), ([0], [0]), ([1], [1]), ([], []), ([2, 3], [2, 3]), ([], []), ([5], [5]), ([6], [6]), ([], []), ([7, 8], [7, 8]), ([4, 9], [4, 9]), ([], []), ([10, 11], [10, 11]), ([], []), ([13], [13]), ([14], [14]), ([], []), ([15, 16], [15, 16]), ([], []), ([18], [18]), ([19], [19]), ([], []), ([20, 21], [20, 21]), ([17, 22], [17, 22]), ([], []), ([23, 24], [23, 24]), ([], []), ([26], [26]), ([27], [27]), ([], []), ([28, 29], [28, 29]), ([], []), ([31], [31]), ([32], [32]), ([], []), ([33, 34], [33, 34]), ([30, 35], [30, 35]), ([], []), ([36, 37], [36, 37]), ([], []), ([39], [39]), ([40], [40]), ([], []), ([41, 42], [41, 42]), ([], []), ([44], [44]), ([45], [45]), ([], []), ([46, 47], [46, 47]), ([43, 48], [43, 48]), ([], []), ([49, 50], [49, 50]), ([12, 25, 38, 51], [12, 25, 38, 51]), ([52, 0, 1, 2, 3, 4, 5, 6, 7, 8, 9, 10, 11, 12, 13, 14, 15, 16, 17, 18, 19, 20, 21, 22, 23, 24, 25, 26, 27, 28, 29, 30, 31, 32, 33, 34, 35, 36, 37, 38, 39, 40, 41, 42, 43, 44, 45, 46, 47, 48, 49, 50, 51, 52], [52])])
def spec_l12Run.B24 : List Nat := [0, 1, 3, 0, 15, 0, 32, 96, 0, 480, 1023, 0, 4095, 0, 8192, 24576, 0, 122880, 0, 262144, 786432, 0, 3932160, 8380416, 0, 33546240, 0, 67108864, 201326592, 0, 1006632960, 0, 2147483648, 6442450944, 0, 32212254720, 68652367872, 0, 274810798080, 0, 549755813888, 1649267441664, 0, 8246337208320, 0, 17592186044416, 52776558133248, 0, 263882790666240, 562400197607424, 0, 2251250057871360, 4503599627370495, 9007199254740991]
theorem spec_l12Run.tab24 : rtab .any (opsOf Try.f59 24) = spec_l12Run.T24 := by kernel_rfl
theorem spec_l12Run.bits24 : waitsOk spec_l12Run.T24.2 spec_l12Run.B24 = true := by kernel_rfl
set_option maxHeartbeats 8000000 in
set_option maxRecDepth 100000 in
theorem spec_l12Run.calls (k : Nat) (A0 : Option Addr) (c0 : Nat) (l0 : List (S103)) (a1 : Int) (a2 : Int) (r1 : Int) (r2 : Int) (r3 : Int) (r4 : Int) (w : World) (hr0 : Kd.C k103 w A0 l0.length l0) (hc0 : l0.length ≤ c0) (h : spec_l12Run.f k l0 a1 a2 = some (r1, r2, r3, r4)) :
    Calls Try.prog 59 #[.slice A0 l0.length c0, .int .i64 a1, .int .i64 a2] w fun e w' => e = .returned (.agg #[.int .i64 r1, .int .i64 r2, .int .i64 r3, .int .i64 r4]) ∧ Below w.heap.size w w' := by
 have hu25 := Try.underlying25
 have hu103 := Try.underlying103
 have HR0 := Aside0.mk hr0
 have HC0 := Aside0.mk hc0
 clear hr0 hc0
 have HB := Aside0.mk (Below.refl w.heap.size w)
 have H : (if a2 = 2 then ((spec_l1Mod.f a1 65536).bind fun t115 => (spec_l12Run.j0 k l0 t115)) else (if a2 = 3 then ((spec_l1Mod.f a1 131072).bind fun t116 => (if t116 ≥ 65536 then (spec_l12Run.j0 k l0 (wrap64 (131072 - t116))) else (spec_l12Run.j0 k l0 t116))) else (if a1 < 0 then (if 0 > 65536 then (spec_l12Run.j0 k l0 65536) else (spec_l12Run.j0 k l0 0)) else (if a1 > 65536 then (spec_l12Run.j0 k l0 65536) else (spec_l12Run.j0 k l0 a1))))) = some (r1, r2, r3, r4) := h
 clear h
 have HC4 := Aside0.mk H
 clear H
 go_enter Try.func59, Try.ntmps59
 go_upto_block 0 with (first | ((with_reducible refine gate_dst (N := 6) rfl ?_); refine box_event ?hg (N := 6) ?hd (cs := #[.int .i64 0, .int .i64 0, .int .i64 0, .int .i64 0]) (t := 25) ?hr ?_; (case hd => rfl); (case hg => rfl); (case hr => first | (go_simp; done) | (go_simp; rfl)); intro gb114 hg w5 hbox hb; have BK114 := Aside0.mk (hbox); have GW114 := Aside0.mk ((by rw [hg]; exact (below_size (z.bl HB)) : w.heap.size ≤ gb114)); have GE114 := Aside0.mk ((by rw [hg]; exact (below_size (z.bl HB)) : w.heap.size ≤ gb114)); replace HB := Aside0.mk (below_step (z.bl HB) hb); clear hb hbox hg))
 (try simp only [Act.put, List.setIfInBounds_toArray, List.set_cons_zero, List.set_cons_succ])
 go_cut [1] (fun v1 wc => ∃ (kq : Nat) (x1_3 : Int), v1 = .int .i64 x1_3 ∧ Aside0 (spec_l12Run.j0 kq l0 x1_3 = some (r1, r2, r3, r4)) ∧ Aside0 (kq ≤ k) ∧ Aside0 (wc.heap[gb114]? = some (.cells #[.int .i64 0, .int .i64 0, .int .i64 0, .int .i64 0] 25 (0, 0))) ∧ Aside0 (Below w.heap.size w wc))
 case first =>
  have H := HC4.out
  clear HC4
  by_cases c6 : a2 = 2
  ·rw [if_pos c6] at H
   have c6b0 : (a2 == 2) = true := beq_iff_eq.mpr c6
   have c6b1 : (a2 != 2) = false := bne_eq_false_iff_eq.mpr c6
   clear c6
   (first | rw [c6b0] | (simp only [i64_w, i32_w]; rw [c6b0]) | skip)
   replace H := Option.bind_eq_some_iff.mp H
   obtain ⟨t115, A70, H⟩ := H
   replace H : (spec_l12Run.j0 k l0 t115) = some (r1, r2, r3, r4) := H
   have A7 := Aside0.mk A70
   clear A70
   have H' := Aside0.mk H
   clear H
   go_wp2_with (first | ((with_reducible refine gate_callee (f := 128) rfl ?_); refine z.gl (some 21) rfl rfl Try.func128 (by kernel_rfl) rfl #[.int .i64 a1, .int .i64 65536] rfl ?_; (with_reducible refine (spec_l1Mod.calls a1 65536 t115 _ A7.out).mono ?_); rintro e w' ⟨rfl, ⟨nd, rfl⟩⟩; refine ⟨_, rfl, ?_⟩))
   go_meet
   case rel => exact ⟨_, (t115), (by first | rfl | (simp; done) | (simp [*]; done)), H', ⟨by first | omega | exact Nat.le_refl _⟩, ⟨z.bk BK114⟩, ⟨z.bl HB⟩⟩
  ·rw [if_neg c6] at H
   have c6b0 : (a2 == 2) = false := beq_eq_false_iff_ne.mpr c6
   have c6b1 : (a2 != 2) = true := bne_iff_ne.mpr c6
   (first | rw [c6b0] | (simp only [i64_w, i32_w]; rw [c6b0]) | skip)
   by_cases c8 : a2 = 3
   ·rw [if_pos c8] at H
    have c8b0 : (a2 == 3) = true := beq_iff_eq.mpr c8
    have c8b1 : (a2 != 3) = false := bne_eq_false_iff_eq.mpr c8
    clear c8
    replace H := Option.bind_eq_some_iff.mp H
    obtain ⟨t116, A90, H⟩ := H
    replace H : (if t116 ≥ 65536 then (spec_l12Run.j0 k l0 (wrap64 (131072 - t116))) else (spec_l12Run.j0 k l0 t116)) = some (r1, r2, r3, r4) := H
    have A9 := Aside0.mk A90
    clear A90
    by_cases c10 : t116 ≥ 65536
    ·rw [if_pos c10] at H
     have c10b0 : decide (65536 ≤ t116) = true := decide_eq_true c10
     clear c10
     have H' := Aside0.mk H
     clear H
     go_wp2_with (first | ((with_reducible refine gate_callee (f := 128) rfl ?_); refine z.gl (some 25) rfl rfl Try.func128 (by kernel_rfl) rfl #[.int .i64 a1, .int .i64 131072] rfl ?_; (with_reducible refine (spec_l1Mod.calls a1 131072 t116 _ A9.out).mono ?_); rintro e w' ⟨rfl, ⟨nd, rfl⟩⟩; refine ⟨_, rfl, ?_⟩))
     go_meet
     case rel => exact ⟨_, (wrap64 (131072 - t116)), (by first | rfl | (simp; done) | (simp [*]; done)), H', ⟨by first | omega | exact Nat.le_refl _⟩, ⟨z.bk BK114⟩, ⟨z.bl HB⟩⟩
    ·rw [if_neg c10] at H
     have c10b0 : decide (65536 ≤ t116) = false := decide_eq_false c10
     clear c10
     have H' := Aside0.mk H
     clear H
     go_wp2_with (first | ((with_reducible refine gate_callee (f := 128) rfl ?_); refine z.gl (some 25) rfl rfl Try.func128 (by kernel_rfl) rfl #[.int .i64 a1, .int .i64 131072] rfl ?_; (with_reducible refine (spec_l1Mod.calls a1 131072 t116 _ A9.out).mono ?_); rintro e w' ⟨rfl, ⟨nd, rfl⟩⟩; refine ⟨_, rfl, ?_⟩))
     go_meet
     case rel => exact ⟨_, (t116), (by first | rfl | (simp; done) | (simp [*]; done)), H', ⟨by first | omega | exact Nat.le_refl _⟩, ⟨z.bk BK114⟩, ⟨z.bl HB⟩⟩
   ·rw [if_neg c8] at H
    have c8b0 : (a2 == 3) = false := beq_eq_false_iff_ne.mpr c8
    have c8b1 : (a2 != 3) = true := bne_iff_ne.mpr c8
    by_cases c11 : a1 < 0
    ·rw [if_pos c11] at H
     have c11b0 : decide (a1 < 0) = true := decide_eq_true c11
     clear c11
     by_cases c12 : 0 > 65536
     ·exact absurd c12 (by decide)
     ·rw [if_neg c12] at H
      have c12b0 : decide (65536 < 0) = false := decide_eq_false c12
      clear c12
      have H' := Aside0.mk H
      clear H
      go_wp2
      go_meet
      case rel => exact ⟨_, (0), (by first | rfl | (simp; done) | (simp [*]; done)), H', ⟨by first | omega | exact Nat.le_refl _⟩, ⟨z.bk BK114⟩, ⟨z.bl HB⟩⟩
    ·rw [if_neg c11] at H
     have c11b0 : decide (a1 < 0) = false := decide_eq_false c11
     clear c11
     by_cases c13 : a1 > 65536
     ·rw [if_pos c13] at H
      have c13b0 : decide (65536 < a1) = true := decide_eq_true c13
      clear c13
      have H' := Aside0.mk H
      clear H
      go_wp2
      go_meet
      case rel => exact ⟨_, (65536), (by first | rfl | (simp; done) | (simp [*]; done)), H', ⟨by first | omega | exact Nat.le_refl _⟩, ⟨z.bk BK114⟩, ⟨z.bl HB⟩⟩
     ·rw [if_neg c13] at H
      have c13b0 : decide (65536 < a1) = false := decide_eq_false c13
      clear c13
      have H' := Aside0.mk H
      clear H
      go_wp2
      go_meet
      case rel => exact ⟨_, (a1), (by first | rfl | (simp; done) | (simp [*]; done)), H', ⟨by first | omega | exact Nat.le_refl _⟩, ⟨z.bk BK114⟩, ⟨z.bl HB⟩⟩
 case rest =>
  clear HC4
  try clear c1
  try clear p2
  try clear c5
  try clear c6
  try clear c6b0
  try clear c6b1
  try clear p6
  try clear c8
  try clear c8b0
  try clear c8b1
  try clear c10
  try clear c10b0
  try clear c11
  try clear c11b0
  try clear c12
  try clear c12b0
  try clear c13
  try clear c13b0
  obtain ⟨kq, x1_3, rfl, HA, HJ3, BK114, HB⟩ := hcut
  cases kq with
  | zero => exact absurd HA.out (by simp [spec_l12Run.j0])
  | succ kj3 =>
   have H := HA.out
   clear HA
   simp only [spec_l12Run.j0] at H
   by_cases c14 : 0 < (l0.length : Int)
   ·rw [if_pos c14] at H
    have c14b0 : decide (0 < (l0.length : Int)) = true := decide_eq_true c14
    have c14b1 : decide (0 < l0.length) = true := decide_eq_true (by omega)
    clear c14
    by_cases c15 : x1_3 ≤ ((rd_T103 l0 0).f0)
    ·rw [if_pos c15] at H
     have c15b0 : decide (x1_3 ≤ ((rd_T103 l0 0).f0)) = true := decide_eq_true c15
     clear c15
     simp only [Option.some.injEq, Prod.mk.injEq] at H
     obtain ⟨rfl, rfl, rfl, rfl⟩ := H
     have p117 : 0 ≤ (0 : Int) := (by omega)
     have q117 : 0 < (l0.length : Int) := of_decide_eq_true (by first | (with_reducible assumption) | assumption)
     obtain ⟨ad117, e117, hx117_0, hx117_1, hx117_2, hx117_3, hx117_4⟩ := at_T103 HR0.out 0 p117 q117
     cases e117
     have qi117 : (0 < l0.length) = True := eq_true (by omega)
     (try rw [show ((0 : Int)).toNat = 0 from rfl] at hx117_0)
     (try rw [show 0 * 5 = 0 from rfl] at hx117_0)
     (try rw [Addr.add_zero'] at hx117_0)
     (try rw [show ((0 : Int)).toNat = 0 from rfl] at hx117_1)
     (try rw [show 0 * 5 = 0 from rfl] at hx117_1)
     (try rw [Addr.add_zero'] at hx117_1)
     (try rw [show ((0 : Int)).toNat = 0 from rfl] at hx117_2)
     (try rw [show 0 * 5 = 0 from rfl] at hx117_2)
     (try rw [Addr.add_zero'] at hx117_2)
     (try rw [show ((0 : Int)).toNat = 0 from rfl] at hx117_3)
     (try rw [show 0 * 5 = 0 from rfl] at hx117_3)
     (try rw [Addr.add_zero'] at hx117_3)
     (try rw [show ((0 : Int)).toNat = 0 from rfl] at hx117_4)
     (try rw [show 0 * 5 = 0 from rfl] at hx117_4)
     (try rw [Addr.add_zero'] at hx117_4)
     replace hx117_0 := (HB.out.cell (World.block_lt_of_cell? w _ hx117_0)).trans hx117_0
     replace hx117_1 := (HB.out.cell (World.block_lt_of_cell? w _ hx117_1)).trans hx117_1
     replace hx117_2 := (HB.out.cell (World.block_lt_of_cell? w _ hx117_2)).trans hx117_2
     replace hx117_3 := (HB.out.cell (World.block_lt_of_cell? w _ hx117_3)).trans hx117_3
     replace hx117_4 := (HB.out.cell (World.block_lt_of_cell? w _ hx117_4)).trans hx117_4
     replace p117 := eq_true p117
     replace q117 := eq_true q117
     have p118 : 0 ≤ (0 : Int) := (by omega)
     have q118 : 0 < (l0.length : Int) := of_decide_eq_true (by first | (with_reducible assumption) | assumption)
     obtain ⟨ad118, e118, hx118_0, hx118_1, hx118_2, hx118_3, hx118_4⟩ := at_T103 HR0.out 0 p118 q118
     obtain rfl : ad117 = ad118 := (by injection e118)
     have qi118 : (0 < l0.length) = True := eq_true (by omega)
     (try rw [show ((0 : Int)).toNat = 0 from rfl] at hx118_0)
     (try rw [show 0 * 5 = 0 from rfl] at hx118_0)
     (try rw [Addr.add_zero'] at hx118_0)
     (try rw [show ((0 : Int)).toNat = 0 from rfl] at hx118_1)
     (try rw [show 0 * 5 = 0 from rfl] at hx118_1)
     (try rw [Addr.add_zero'] at hx118_1)
     (try rw [show ((0 : Int)).toNat = 0 from rfl] at hx118_2)
     (try rw [show 0 * 5 = 0 from rfl] at hx118_2)
     (try rw [Addr.add_zero'] at hx118_2)
     (try rw [show ((0 : Int)).toNat = 0 from rfl] at hx118_3)
     (try rw [show 0 * 5 = 0 from rfl] at hx118_3)
     (try rw [Addr.add_zero'] at hx118_3)
     (try rw [show ((0 : Int)).toNat = 0 from rfl] at hx118_4)
     (try rw [show 0 * 5 = 0 from rfl] at hx118_4)
     (try rw [Addr.add_zero'] at hx118_4)
     replace hx118_0 := (HB.out.cell (World.block_lt_of_cell? w _ hx118_0)).trans hx118_0
     replace hx118_1 := (HB.out.cell (World.block_lt_of_cell? w _ hx118_1)).trans hx118_1
     replace hx118_2 := (HB.out.cell (World.block_lt_of_cell? w _ hx118_2)).trans hx118_2
     replace hx118_3 := (HB.out.cell (World.block_lt_of_cell? w _ hx118_3)).trans hx118_3
     replace hx118_4 := (HB.out.cell (World.block_lt_of_cell? w _ hx118_4)).trans hx118_4
     replace p118 := eq_true p118
     replace q118 := eq_true q118
     have hcz16_0 : wc.cell? ⟨gb114, 0, none⟩ = some (.int .i64 0) := (blk_cell BK114.out 0).trans rfl
     have hcz16_1 : wc.cell? ⟨gb114, 1, none⟩ = some (.int .i64 0) := (blk_cell BK114.out 1).trans rfl
     have hcz16_2 : wc.cell? ⟨gb114, 2, none⟩ = some (.int .i64 0) := (blk_cell BK114.out 2).trans rfl
     have hcz16_3 : wc.cell? ⟨gb114, 3, none⟩ = some (.int .i64 0) := (blk_cell BK114.out 3).trans rfl
     have hfz16_0 := blk_frozen BK114.out 0
     have hfz16_1 := blk_frozen BK114.out 1
     have hfz16_2 := blk_frozen BK114.out 2
     have hfz16_3 := blk_frozen BK114.out 3
     go_wp2
     refine bodyPost_ret (results_cell_row rfl _ _ gb114 25 #[.int .i64 ((rd_T103 l0 0).f1.f0), .int .i64 ((rd_T103 l0 0).f1.f1), .int .i64 ((rd_T103 l0 0).f1.f2), .int .i64 ((rd_T103 l0 0).f1.f3)] (0, 0) _ rfl (by (with_reducible repeat (first | refine blk_drewN ?_ _ | refine blk_drew ?_ | refine blk_alloc ?_ _)); refine blk_put (cs := #[.int .i64 ((rd_T103 l0 0).f1.f0), .int .i64 ((rd_T103 l0 0).f1.f1), .int .i64 ((rd_T103 l0 0).f1.f2), .int .i64 0]) ?_ 3 _ rfl; (with_reducible repeat (first | refine blk_drewN ?_ _ | refine blk_drew ?_ | refine blk_alloc ?_ _)); refine blk_put (cs := #[.int .i64 ((rd_T103 l0 0).f1.f0), .int .i64 ((rd_T103 l0 0).f1.f1), .int .i64 0, .int .i64 0]) ?_ 2 _ rfl; (with_reducible repeat (first | refine blk_drewN ?_ _ | refine blk_drew ?_ | refine blk_alloc ?_ _)); refine blk_put (cs := #[.int .i64 ((rd_T103 l0 0).f1.f0), .int .i64 0, .int .i64 0, .int .i64 0]) ?_ 1 _ rfl; (with_reducible repeat (first | refine blk_drewN ?_ _ | refine blk_drew ?_ | refine blk_alloc ?_ _)); refine blk_put (cs := #[.int .i64 0, .int .i64 0, .int .i64 0, .int .i64 0]) ?_ 0 _ rfl; (with_reducible repeat (first | refine blk_drewN ?_ _ | refine blk_drew ?_ | refine blk_alloc ?_ _)); exact BK114.out) Try.underlying25 rfl (by kernel_rfl)) rfl ?_
     exact ⟨by first | rfl | (simp [errW_none, errW_some] <;> rfl) | (simp [*, errW_none, errW_some] <;> rfl), z.bl HB⟩
    ·rw [if_neg c15] at H
     have c15b0 : decide (x1_3 ≤ ((rd_T103 l0 0).f0)) = false := decide_eq_false c15
     clear c15
     obtain ⟨ji17, hji17⟩ : ∃ j_ : Int, (wrap64 ((l0.length : Int) - 1)) = j_ := ⟨_, rfl⟩
     replace H : (if 0 ≤ (ji17) then (if (ji17) < (l0.length : Int) then (if x1_3 ≥ ((rd_T103 l0 (ji17)).f0) then (some ((rd_T103 l0 (ji17)).f1.f0, (rd_T103 l0 (ji17)).f1.f1, (rd_T103 l0 (ji17)).f1.f2, (rd_T103 l0 (ji17)).f1.f3)) else (spec_l12Run.l0 kj3 l0 x1_3 0)) else (none)) else (none)) = some (r1, r2, r3, r4) := by first | (rw [hji17] at H; exact H) | (simp only [hji17] at H ⊢; exact H)
     have hji17w : (IntKind.i64.wrap ((l0.length : Int) - 1)) = ji17 := (i64_w _).trans hji17
     by_cases c18 : 0 ≤ (ji17)
     ·rw [if_pos c18] at H
      have c18b0 : decide (0 ≤ (ji17)) = true := decide_eq_true c18
      clear c18
      by_cases c19 : (ji17) < (l0.length : Int)
      ·rw [if_pos c19] at H
       have c19b0 : decide ((ji17) < (l0.length : Int)) = true := decide_eq_true c19
       clear c19
       by_cases c20 : x1_3 ≥ ((rd_T103 l0 (ji17)).f0)
       ·rw [if_pos c20] at H
        have c20b0 : decide (((rd_T103 l0 (ji17)).f0) ≤ x1_3) = true := decide_eq_true c20
        clear c20
        simp only [Option.some.injEq, Prod.mk.injEq] at H
        obtain ⟨rfl, rfl, rfl, rfl⟩ := H
        have p117 : 0 ≤ (0 : Int) := (by omega)
        have q117 : 0 < (l0.length : Int) := of_decide_eq_true (by first | (with_reducible assumption) | assumption)
        obtain ⟨ad117, e117, hx117_0, hx117_1, hx117_2, hx117_3, hx117_4⟩ := at_T103 HR0.out 0 p117 q117
        cases e117
        have qi117 : (0 < l0.length) = True := eq_true (by omega)
        (try rw [show ((0 : Int)).toNat = 0 from rfl] at hx117_0)
        (try rw [show 0 * 5 = 0 from rfl] at hx117_0)
        (try rw [Addr.add_zero'] at hx117_0)
        (try rw [show ((0 : Int)).toNat = 0 from rfl] at hx117_1)
        (try rw [show 0 * 5 = 0 from rfl] at hx117_1)
        (try rw [Addr.add_zero'] at hx117_1)
        (try rw [show ((0 : Int)).toNat = 0 from rfl] at hx117_2)
        (try rw [show 0 * 5 = 0 from rfl] at hx117_2)
        (try rw [Addr.add_zero'] at hx117_2)
        (try rw [show ((0 : Int)).toNat = 0 from rfl] at hx117_3)
        (try rw [show 0 * 5 = 0 from rfl] at hx117_3)
        (try rw [Addr.add_zero'] at hx117_3)
        (try rw [show ((0 : Int)).toNat = 0 from rfl] at hx117_4)
        (try rw [show 0 * 5 = 0 from rfl] at hx117_4)
        (try rw [Addr.add_zero'] at hx117_4)
        replace hx117_0 := (HB.out.cell (World.block_lt_of_cell? w _ hx117_0)).trans hx117_0
        replace hx117_1 := (HB.out.cell (World.block_lt_of_cell? w _ hx117_1)).trans hx117_1
        replace hx117_2 := (HB.out.cell (World.block_lt_of_cell? w _ hx117_2)).trans hx117_2
        replace hx117_3 := (HB.out.cell (World.block_lt_of_cell? w _ hx117_3)).trans hx117_3
        replace hx117_4 := (HB.out.cell (World.block_lt_of_cell? w _ hx117_4)).trans hx117_4
        replace p117 := eq_true p117
        replace q117 := eq_true q117
        have p119 : 0 ≤ ((ji17) : Int) := of_decide_eq_true (by first | (with_reducible assumption) | assumption)
        have q119 : (ji17) < (l0.length : Int) := of_decide_eq_true (by first | (with_reducible assumption) | assumption)
        obtain ⟨ad119, e119, hx119_0, hx119_1, hx119_2, hx119_3, hx119_4⟩ := at_T103 HR0.out (ji17) p119 q119
        obtain rfl : ad117 = ad119 := (by injection e119)
        replace hx119_0 := (HB.out.cell (World.block_lt_of_cell? w _ hx119_0)).trans hx119_0
        replace hx119_1 := (HB.out.cell (World.block_lt_of_cell? w _ hx119_1)).trans hx119_1
        replace hx119_2 := (HB.out.cell (World.block_lt_of_cell? w _ hx119_2)).trans hx119_2
        replace hx119_3 := (HB.out.cell (World.block_lt_of_cell? w _ hx119_3)).trans hx119_3
        replace hx119_4 := (HB.out.cell (World.block_lt_of_cell? w _ hx119_4)).trans hx119_4
        replace p119 := eq_true p119
        replace q119 := eq_true q119
        have p120 : 0 ≤ ((ji17) : Int) := of_decide_eq_true (by first | (with_reducible assumption) | assumption)
        have q120 : (ji17) < (l0.length : Int) := of_decide_eq_true (by first | (with_reducible assumption) | assumption)
        obtain ⟨ad120, e120, hx120_0, hx120_1, hx120_2, hx120_3, hx120_4⟩ := at_T103 HR0.out (ji17) p120 q120
        obtain rfl : ad117 = ad120 := (by injection e120)
        replace hx120_0 := (HB.out.cell (World.block_lt_of_cell? w _ hx120_0)).trans hx120_0
        replace hx120_1 := (HB.out.cell (World.block_lt_of_cell? w _ hx120_1)).trans hx120_1
        replace hx120_2 := (HB.out.cell (World.block_lt_of_cell? w _ hx120_2)).trans hx120_2
        replace hx120_3 := (HB.out.cell (World.block_lt_of_cell? w _ hx120_3)).trans hx120_3
        replace hx120_4 := (HB.out.cell (World.block_lt_of_cell? w _ hx120_4)).trans hx120_4
        replace p120 := eq_true p120
        replace q120 := eq_true q120
        have hcz21_0 : wc.cell? ⟨gb114, 0, none⟩ = some (.int .i64 0) := (blk_cell BK114.out 0).trans rfl
        have hcz21_1 : wc.cell? ⟨gb114, 1, none⟩ = some (.int .i64 0) := (blk_cell BK114.out 1).trans rfl
        have hcz21_2 : wc.cell? ⟨gb114, 2, none⟩ = some (.int .i64 0) := (blk_cell BK114.out 2).trans rfl
        have hcz21_3 : wc.cell? ⟨gb114, 3, none⟩ = some (.int .i64 0) := (blk_cell BK114.out 3).trans rfl
        have hfz21_0 := blk_frozen BK114.out 0
        have hfz21_1 := blk_frozen BK114.out 1
        have hfz21_2 := blk_frozen BK114.out 2
        have hfz21_3 := blk_frozen BK114.out 3
        go_wp2
        refine bodyPost_ret (results_cell_row rfl _ _ gb114 25 #[.int .i64 ((rd_T103 l0 (ji17)).f1.f0), .int .i64 ((rd_T103 l0 (ji17)).f1.f1), .int .i64 ((rd_T103 l0 (ji17)).f1.f2), .int .i64 ((rd_T103 l0 (ji17)).f1.f3)] (0, 0) _ rfl (by (with_reducible repeat (first | refine blk_drewN ?_ _ | refine blk_drew ?_ | refine blk_alloc ?_ _)); refine blk_put (cs := #[.int .i64 ((rd_T103 l0 (ji17)).f1.f0), .int .i64 ((rd_T103 l0 (ji17)).f1.f1), .int .i64 ((rd_T103 l0 (ji17)).f1.f2), .int .i64 0]) ?_ 3 _ rfl; (with_reducible repeat (first | refine blk_drewN ?_ _ | refine blk_drew ?_ | refine blk_alloc ?_ _)); refine blk_put (cs := #[.int .i64 ((rd_T103 l0 (ji17)).f1.f0), .int .i64 ((rd_T103 l0 (ji17)).f1.f1), .int .i64 0, .int .i64 0]) ?_ 2 _ rfl; (with_reducible repeat (first | refine blk_drewN ?_ _ | refine blk_drew ?_ | refine blk_alloc ?_ _)); refine blk_put (cs := #[.int .i64 ((rd_T103 l0 (ji17)).f1.f0), .int .i64 0, .int .i64 0, .int .i64 0]) ?_ 1 _ rfl; (with_reducible repeat (first | refine blk_drewN ?_ _ | refine blk_drew ?_ | refine blk_alloc ?_ _)); refine blk_put (cs := #[.int .i64 0, .int .i64 0, .int .i64 0, .int .i64 0]) ?_ 0 _ rfl; (with_reducible repeat (first | refine blk_drewN ?_ _ | refine blk_drew ?_ | refine blk_alloc ?_ _)); exact BK114.out) Try.underlying25 rfl (by kernel_rfl)) rfl ?_
        exact ⟨by first | rfl | (simp [errW_none, errW_some] <;> rfl) | (simp only [← hji17]; first | rfl | (simp [errW_none, errW_some] <;> rfl)) | (simp [*, errW_none, errW_some] <;> rfl), z.bl HB⟩
       ·rw [if_neg c20] at H
        have c20b0 : decide (((rd_T103 l0 (ji17)).f0) ≤ x1_3) = false := decide_eq_false c20
        clear c20
        have H' := Aside0.mk H
        clear H
        have p117 : 0 ≤ (0 : Int) := (by omega)
        have q117 : 0 < (l0.length : Int) := of_decide_eq_true (by first | (with_reducible assumption) | assumption)
        obtain ⟨ad117, e117, hx117_0, hx117_1, hx117_2, hx117_3, hx117_4⟩ := at_T103 HR0.out 0 p117 q117
        cases e117
        have qi117 : (0 < l0.length) = True := eq_true (by omega)
        (try rw [show ((0 : Int)).toNat = 0 from rfl] at hx117_0)
        (try rw [show 0 * 5 = 0 from rfl] at hx117_0)
        (try rw [Addr.add_zero'] at hx117_0)
        (try rw [show ((0 : Int)).toNat = 0 from rfl] at hx117_1)
        (try rw [show 0 * 5 = 0 from rfl] at hx117_1)
        (try rw [Addr.add_zero'] at hx117_1)
        (try rw [show ((0 : Int)).toNat = 0 from rfl] at hx117_2)
        (try rw [show 0 * 5 = 0 from rfl] at hx117_2)
        (try rw [Addr.add_zero'] at hx117_2)
        (try rw [show ((0 : Int)).toNat = 0 from rfl] at hx117_3)
        (try rw [show 0 * 5 = 0 from rfl] at hx117_3)
        (try rw [Addr.add_zero'] at hx117_3)
        (try rw [show ((0 : Int)).toNat = 0 from rfl] at hx117_4)
        (try rw [show 0 * 5 = 0 from rfl] at hx117_4)
        (try rw [Addr.add_zero'] at hx117_4)
        replace hx117_0 := (HB.out.cell (World.block_lt_of_cell? w _ hx117_0)).trans hx117_0
        replace hx117_1 := (HB.out.cell (World.block_lt_of_cell? w _ hx117_1)).trans hx117_1
        replace hx117_2 := (HB.out.cell (World.block_lt_of_cell? w _ hx117_2)).trans hx117_2
        replace hx117_3 := (HB.out.cell (World.block_lt_of_cell? w _ hx117_3)).trans hx117_3
        replace hx117_4 := (HB.out.cell (World.block_lt_of_cell? w _ hx117_4)).trans hx117_4
        replace p117 := eq_true p117
        replace q117 := eq_true q117
        have p119 : 0 ≤ ((ji17) : Int) := of_decide_eq_true (by first | (with_reducible assumption) | assumption)
        have q119 : (ji17) < (l0.length : Int) := of_decide_eq_true (by first | (with_reducible assumption) | assumption)
        obtain ⟨ad119, e119, hx119_0, hx119_1, hx119_2, hx119_3, hx119_4⟩ := at_T103 HR0.out (ji17) p119 q119
        obtain rfl : ad117 = ad119 := (by injection e119)
        replace hx119_0 := (HB.out.cell (World.block_lt_of_cell? w _ hx119_0)).trans hx119_0
        replace hx119_1 := (HB.out.cell (World.block_lt_of_cell? w _ hx119_1)).trans hx119_1
        replace hx119_2 := (HB.out.cell (World.block_lt_of_cell? w _ hx119_2)).trans hx119_2
        replace hx119_3 := (HB.out.cell (World.block_lt_of_cell? w _ hx119_3)).trans hx119_3
        replace hx119_4 := (HB.out.cell (World.block_lt_of_cell? w _ hx119_4)).trans hx119_4
        replace p119 := eq_true p119
        replace q119 := eq_true q119
        go_wp2
        go_loopg [7] kj3 (fun kq v7 w' => ∃ (x7_2 : Int), v7 = .int .i64 x7_2 ∧ Aside0 (spec_l12Run.l0 kq l0 x1_3 x7_2 = some (r1, r2, r3, r4)) ∧ Aside0 (kq ≤ kj3) ∧ Aside0 (w'.heap[gb114]? = some (.cells #[.int .i64 0, .int .i64 0, .int .i64 0, .int .i64 0] 25 (0, 0))) ∧ Aside0 (Below w.heap.size w w'))
        case atStart => exact ⟨(0), (by first | rfl | (simp; done) | (simp [*]; done)), H', ⟨Nat.le_refl _⟩, ⟨z.bk BK114⟩, ⟨z.bl HB⟩⟩
        case round =>
         clear H'
         try clear c1
         try clear p1
         try clear q1
         try clear hx1
         try clear qi1
         try clear c2
         try clear p2
         try clear c5
         try clear c6
         try clear c6b0
         try clear c6b1
         try clear p6
         try clear c8
         try clear c8b0
         try clear c8b1
         try clear c10
         try clear c10b0
         try clear c11
         try clear c11b0
         try clear p11
         try clear q11
         try clear hx11
         try clear qi11
         try clear c12
         try clear c12b0
         try clear p12
         try clear q12
         try clear hx12
         try clear c13
         try clear c13b0
         try clear c14
         try clear c14b0
         try clear c14b1
         try clear c15
         try clear c15b0
         try clear c18
         try clear c18b0
         try clear c19
         try clear c19b0
         try clear c20
         try clear c20b0
         try clear hcz16_0
         try clear hcz16_1
         try clear hcz16_2
         try clear hcz16_3
         try clear hcz21_0
         try clear hcz21_1
         try clear hcz21_2
         try clear hcz21_3
         try clear hfz16_0
         try clear hfz16_1
         try clear hfz16_2
         try clear hfz16_3
         try clear hfz21_0
         try clear hfz21_1
         try clear hfz21_2
         try clear hfz21_3
         try clear hx117_0
         try clear hx117_1
         try clear hx117_2
         try clear hx117_3
         try clear hx117_4
         try clear hx118_0
         try clear hx118_1
         try clear hx118_2
         try clear hx118_3
         try clear hx118_4
         try clear hx119_0
         try clear hx119_1
         try clear hx119_2
         try clear hx119_3
         try clear hx119_4
         try clear hx120_0
         try clear hx120_1
         try clear hx120_2
         try clear hx120_3
         try clear hx120_4
         try clear p117
         try clear p118
         try clear p119
         try clear p120
         try clear p2
         try clear p6
         try clear q117
         try clear q118
         try clear q119
         try clear q120
         obtain ⟨x7_2, rfl, HA, HK2, BK114, HB⟩ := hrel
         cases gk with
         | zero => exact absurd HA.out (by simp [spec_l12Run.l0])
         | succ k2 =>
          have H := HA.out
          clear HA
          simp only [spec_l12Run.l0] at H
          obtain ⟨ji22, hji22⟩ : ∃ j_ : Int, (wrap64 (x7_2 + 1)) = j_ := ⟨_, rfl⟩
          replace H : (if 0 ≤ (ji22) then (if (ji22) < (l0.length : Int) then (if ((rd_T103 l0 (ji22)).f0) ≤ x1_3 then (spec_l12Run.l0 k2 l0 x1_3 ji22) else (if 0 ≤ x7_2 then (if x7_2 < (l0.length : Int) then (if (wrap64 (((rd_T103 l0 (ji22)).f0) - ((rd_T103 l0 x7_2).f0))) = 0 then (none) else (some (wrap64 (Int.tdiv (wrap64 ((wrap64 (((rd_T103 l0 x7_2).f1.f0) * (wrap64 (((rd_T103 l0 (ji22)).f0) - x1_3)))) + (wrap64 (((rd_T103 l0 (ji22)).f1.f0) * (wrap64 (x1_3 - ((rd_T103 l0 x7_2).f0))))))) (wrap64 (((rd_T103 l0 (ji22)).f0) - ((rd_T103 l0 x7_2).f0)))), wrap64 (Int.tdiv (wrap64 ((wrap64 (((rd_T103 l0 x7_2).f1.f1) * (wrap64 (((rd_T103 l0 (ji22)).f0) - x1_3)))) + (wrap64 (((rd_T103 l0 (ji22)).f1.f1) * (wrap64 (x1_3 - ((rd_T103 l0 x7_2).f0))))))) (wrap64 (((rd_T103 l0 (ji22)).f0) - ((rd_T103 l0 x7_2).f0)))), wrap64 (Int.tdiv (wrap64 ((wrap64 (((rd_T103 l0 x7_2).f1.f2) * (wrap64 (((rd_T103 l0 (ji22)).f0) - x1_3)))) + (wrap64 (((rd_T103 l0 (ji22)).f1.f2) * (wrap64 (x1_3 - ((rd_T103 l0 x7_2).f0))))))) (wrap64 (((rd_T103 l0 (ji22)).f0) - ((rd_T103 l0 x7_2).f0)))), wrap64 (Int.tdiv (wrap64 ((wrap64 (((rd_T103 l0 x7_2).f1.f3) * (wrap64 (((rd_T103 l0 (ji22)).f0) - x1_3)))) + (wrap64 (((rd_T103 l0 (ji22)).f1.f3) * (wrap64 (x1_3 - ((rd_T103 l0 x7_2).f0))))))) (wrap64 (((rd_T103 l0 (ji22)).f0) - ((rd_T103 l0 x7_2).f0))))))) else (none)) else (none))) else (none)) else (none)) = some (r1, r2, r3, r4) := by first | (rw [hji22] at H; exact H) | (simp only [hji22] at H ⊢; exact H)
          have hji22w : (IntKind.i64.wrap (x7_2 + 1)) = ji22 := (i64_w _).trans hji22
          by_cases c23 : 0 ≤ (ji22)
          ·rw [if_pos c23] at H
           have c23b0 : decide (0 ≤ (ji22)) = true := decide_eq_true c23
           clear c23
           by_cases c24 : (ji22) < (l0.length : Int)
           ·rw [if_pos c24] at H
            have c24b0 : decide ((ji22) < (l0.length : Int)) = true := decide_eq_true c24
            clear c24
            by_cases c25 : ((rd_T103 l0 (ji22)).f0) ≤ x1_3
            ·rw [if_pos c25] at H
             have c25b0 : decide (((rd_T103 l0 (ji22)).f0) ≤ x1_3) = true := decide_eq_true c25
             clear c25
             have H' := Aside0.mk H
             clear H
             have p121 : 0 ≤ ((ji22) : Int) := of_decide_eq_true (by first | (with_reducible assumption) | assumption)
             have q121 : (ji22) < (l0.length : Int) := of_decide_eq_true (by first | (with_reducible assumption) | assumption)
             obtain ⟨ad121, e121, hx121_0, hx121_1, hx121_2, hx121_3, hx121_4⟩ := at_T103 HR0.out (ji22) p121 q121
             obtain rfl : ad117 = ad121 := (by injection e121)
             replace hx121_0 := (HB.out.cell (World.block_lt_of_cell? w _ hx121_0)).trans hx121_0
             replace hx121_1 := (HB.out.cell (World.block_lt_of_cell? w _ hx121_1)).trans hx121_1
             replace hx121_2 := (HB.out.cell (World.block_lt_of_cell? w _ hx121_2)).trans hx121_2
             replace hx121_3 := (HB.out.cell (World.block_lt_of_cell? w _ hx121_3)).trans hx121_3
             replace hx121_4 := (HB.out.cell (World.block_lt_of_cell? w _ hx121_4)).trans hx121_4
             replace p121 := eq_true p121
             replace q121 := eq_true q121
             go_wp2
             go_roundg k2
             case measure => have := HJ3.out; have := HK2.out; omega
             case rel => exact ⟨(ji22), (by first | rfl | (simp; done) | (simp only [← hji22] <;> (first | rfl | simp)) | (simp [*]; done)), H', ⟨by have := HJ3.out; have := HK2.out; omega⟩, ⟨z.bk BK114⟩, ⟨z.bl HB⟩⟩
            ·rw [if_neg c25] at H
             have c25b0 : decide (((rd_T103 l0 (ji22)).f0) ≤ x1_3) = false := decide_eq_false c25
             clear c25
             by_cases c26 : 0 ≤ x7_2
             ·rw [if_pos c26] at H
              have c26b0 : decide (0 ≤ x7_2) = true := decide_eq_true c26
              clear c26
              by_cases c27 : x7_2 < (l0.length : Int)
              ·rw [if_pos c27] at H
               have c27b0 : decide (x7_2 < (l0.length : Int)) = true := decide_eq_true c27
               clear c27
               by_cases c28 : (wrap64 (((rd_T103 l0 (ji22)).f0) - ((rd_T103 l0 x7_2).f0))) = 0
               ·rw [if_pos c28] at H
                exact absurd H (by simp)
               ·rw [if_neg c28] at H
                have c28b0 : ((wrap64 (((rd_T103 l0 (ji22)).f0) - ((rd_T103 l0 x7_2).f0))) == 0) = false := beq_eq_false_iff_ne.mpr c28
                have c28b1 : ((wrap64 (((rd_T103 l0 (ji22)).f0) - ((rd_T103 l0 x7_2).f0))) != 0) = true := bne_iff_ne.mpr c28
                simp only [Option.some.injEq, Prod.mk.injEq] at H
                obtain ⟨rfl, rfl, rfl, rfl⟩ := H
                have p121 : 0 ≤ ((ji22) : Int) := of_decide_eq_true (by first | (with_reducible assumption) | assumption)
                have q121 : (ji22) < (l0.length : Int) := of_decide_eq_true (by first | (with_reducible assumption) | assumption)
                obtain ⟨ad121, e121, hx121_0, hx121_1, hx121_2, hx121_3, hx121_4⟩ := at_T103 HR0.out (ji22) p121 q121
                obtain rfl : ad117 = ad121 := (by injection e121)
                replace hx121_0 := (HB.out.cell (World.block_lt_of_cell? w _ hx121_0)).trans hx121_0
                replace hx121_1 := (HB.out.cell (World.block_lt_of_cell? w _ hx121_1)).trans hx121_1
                replace hx121_2 := (HB.out.cell (World.block_lt_of_cell? w _ hx121_2)).trans hx121_2
                replace hx121_3 := (HB.out.cell (World.block_lt_of_cell? w _ hx121_3)).trans hx121_3
                replace hx121_4 := (HB.out.cell (World.block_lt_of_cell? w _ hx121_4)).trans hx121_4
                replace p121 := eq_true p121
                replace q121 := eq_true q121
                have p122 : 0 ≤ (x7_2 : Int) := of_decide_eq_true (by first | (with_reducible assumption) | assumption)
                have q122 : x7_2 < (l0.length : Int) := of_decide_eq_true (by first | (with_reducible assumption) | assumption)
                obtain ⟨ad122, e122, hx122_0, hx122_1, hx122_2, hx122_3, hx122_4⟩ := at_T103 HR0.out x7_2 p122 q122
                obtain rfl : ad117 = ad122 := (by injection e122)
                replace hx122_0 := (HB.out.cell (World.block_lt_of_cell? w _ hx122_0)).trans hx122_0
                replace hx122_1 := (HB.out.cell (World.block_lt_of_cell? w _ hx122_1)).trans hx122_1
                replace hx122_2 := (HB.out.cell (World.block_lt_of_cell? w _ hx122_2)).trans hx122_2
                replace hx122_3 := (HB.out.cell (World.block_lt_of_cell? w _ hx122_3)).trans hx122_3
                replace hx122_4 := (HB.out.cell (World.block_lt_of_cell? w _ hx122_4)).trans hx122_4
                replace p122 := eq_true p122
                replace q122 := eq_true q122
                try go_wp2_with (first | ((with_reducible refine gate_dst (N := 8) rfl ?_); refine box_event ?hg (N := 8) ?hd (cs := #[.int .i64 0, .int .i64 0, .int .i64 0, .int .i64 0, .int .i64 0]) (t := 103) ?hr ?_; (case hd => rfl); (case hg => rfl); (case hr => first | (go_simp; done) | (go_simp; rfl)); intro gb123 hg w29 hbox hb; have BK123 := Aside0.mk (hbox); have GW123 := Aside0.mk ((by rw [hg]; exact (below_size (z.bl HB)) : w.heap.size ≤ gb123)); have GE123 := Aside0.mk ((by rw [hg]; exact (below_size (z.bl HB)) : w.heap.size ≤ gb123)); replace HB := Aside0.mk (below_step (z.bl HB) hb); have NB114_123 := z.ht BK114 hg; have NB123_114 := z.hu BK114 hg; replace BK114 := z.bb BK114 hb; clear hb hbox hg; have hnb30 := NB123_114.out; have hnc30 := NB114_123.out; have hcz31_0 : w29.cell? ⟨gb123, 0, none⟩ = some (.int .i64 0) := (blk_cell BK123.out 0).trans rfl; have hcz31_1 : w29.cell? ⟨gb123, 1, none⟩ = some (.int .i64 0) := (blk_cell BK123.out 1).trans rfl; have hcz31_2 : w29.cell? ⟨gb123, 2, none⟩ = some (.int .i64 0) := (blk_cell BK123.out 2).trans rfl; have hcz31_3 : w29.cell? ⟨gb123, 3, none⟩ = some (.int .i64 0) := (blk_cell BK123.out 3).trans rfl; have hcz31_4 : w29.cell? ⟨gb123, 4, none⟩ = some (.int .i64 0) := (blk_cell BK123.out 4).trans rfl; have hfz31_0 := blk_frozen BK123.out 0; have hfz31_1 := blk_frozen BK123.out 1; have hfz31_2 := blk_frozen BK123.out 2; have hfz31_3 := blk_frozen BK123.out 3; have hfz31_4 := blk_frozen BK123.out 4; have p124 : 0 ≤ ((ji22) : Int) := of_decide_eq_true (by first | (with_reducible assumption) | assumption); have q124 : (ji22) < (l0.length : Int) := of_decide_eq_true (by first | (with_reducible assumption) | assumption); obtain ⟨ad124, e124, hx124_0, hx124_1, hx124_2, hx124_3, hx124_4⟩ := at_T103 HR0.out (ji22) p124 q124; obtain rfl : ad117 = ad124 := (by injection e124); have hn124_0 : ad117.block ≠ gb123 := Nat.ne_of_lt (Nat.lt_of_lt_of_le (by have := World.block_lt_of_cell? _ _ hx124_0; first | rwa [add_block] at this | exact this) GW123.out); have hn124_1 : ad117.block ≠ gb123 := Nat.ne_of_lt (Nat.lt_of_lt_of_le (by have := World.block_lt_of_cell? _ _ hx124_0; first | rwa [add_block] at this | exact this) GW123.out); have hn124_2 : ad117.block ≠ gb123 := Nat.ne_of_lt (Nat.lt_of_lt_of_le (by have := World.block_lt_of_cell? _ _ hx124_0; first | rwa [add_block] at this | exact this) GW123.out); have hn124_3 : ad117.block ≠ gb123 := Nat.ne_of_lt (Nat.lt_of_lt_of_le (by have := World.block_lt_of_cell? _ _ hx124_0; first | rwa [add_block] at this | exact this) GW123.out); have hn124_4 : ad117.block ≠ gb123 := Nat.ne_of_lt (Nat.lt_of_lt_of_le (by have := World.block_lt_of_cell? _ _ hx124_0; first | rwa [add_block] at this | exact this) GW123.out); replace hx124_0 := (HB.out.cell (World.block_lt_of_cell? w _ hx124_0)).trans hx124_0; replace hx124_1 := (HB.out.cell (World.block_lt_of_cell? w _ hx124_1)).trans hx124_1; replace hx124_2 := (HB.out.cell (World.block_lt_of_cell? w _ hx124_2)).trans hx124_2; replace hx124_3 := (HB.out.cell (World.block_lt_of_cell? w _ hx124_3)).trans hx124_3; replace hx124_4 := (HB.out.cell (World.block_lt_of_cell? w _ hx124_4)).trans hx124_4; replace hx124_0 := (cell_far (p := ⟨gb123, 0, none⟩) (by first | (rw [add_block]; exact hn124_0) | (show (Addr.add _ _).block ≠ _; rw [add_block]; exact hn124_0) | exact hn124_0) (.int .i64 ((rd_T103 l0 x7_2).f0))).trans hx124_0; replace hx124_1 := (cell_far (p := ⟨gb123, 0, none⟩) (by first | (rw [add_block]; exact hn124_0) | (show (Addr.add _ _).block ≠ _; rw [add_block]; exact hn124_0) | exact hn124_0) (.int .i64 ((rd_T103 l0 x7_2).f0))).trans hx124_1; replace hx124_2 := (cell_far (p := ⟨gb123, 0, none⟩) (by first | (rw [add_block]; exact hn124_0) | (show (Addr.add _ _).block ≠ _; rw [add_block]; exact hn124_0) | exact hn124_0) (.int .i64 ((rd_T103 l0 x7_2).f0))).trans hx124_2; replace hx124_3 := (cell_far (p := ⟨gb123, 0, none⟩) (by first | (rw [add_block]; exact hn124_0) | (show (Addr.add _ _).block ≠ _; rw [add_block]; exact hn124_0) | exact hn124_0) (.int .i64 ((rd_T103 l0 x7_2).f0))).trans hx124_3; replace hx124_4 := (cell_far (p := ⟨gb123, 0, none⟩) (by first | (rw [add_block]; exact hn124_0) | (show (Addr.add _ _).block ≠ _; rw [add_block]; exact hn124_0) | exact hn124_0) (.int .i64 ((rd_T103 l0 x7_2).f0))).trans hx124_4; replace hx124_0 := (cell_far (p := ⟨gb123, 1, none⟩) (by first | (rw [add_block]; exact hn124_1) | (show (Addr.add _ _).block ≠ _; rw [add_block]; exact hn124_1) | exact hn124_1) (.int .i64 ((rd_T103 l0 x7_2).f1.f0))).trans hx124_0; replace hx124_1 := (cell_far (p := ⟨gb123, 1, none⟩) (by first | (rw [add_block]; exact hn124_1) | (show (Addr.add _ _).block ≠ _; rw [add_block]; exact hn124_1) | exact hn124_1) (.int .i64 ((rd_T103 l0 x7_2).f1.f0))).trans hx124_1; replace hx124_2 := (cell_far (p := ⟨gb123, 1, none⟩) (by first | (rw [add_block]; exact hn124_1) | (show (Addr.add _ _).block ≠ _; rw [add_block]; exact hn124_1) | exact hn124_1) (.int .i64 ((rd_T103 l0 x7_2).f1.f0))).trans hx124_2; replace hx124_3 := (cell_far (p := ⟨gb123, 1, none⟩) (by first | (rw [add_block]; exact hn124_1) | (show (Addr.add _ _).block ≠ _; rw [add_block]; exact hn124_1) | exact hn124_1) (.int .i64 ((rd_T103 l0 x7_2).f1.f0))).trans hx124_3; replace hx124_4 := (cell_far (p := ⟨gb123, 1, none⟩) (by first | (rw [add_block]; exact hn124_1) | (show (Addr.add _ _).block ≠ _; rw [add_block]; exact hn124_1) | exact hn124_1) (.int .i64 ((rd_T103 l0 x7_2).f1.f0))).trans hx124_4; replace hx124_0 := (cell_far (p := ⟨gb123, 2, none⟩) (by first | (rw [add_block]; exact hn124_2) | (show (Addr.add _ _).block ≠ _; rw [add_block]; exact hn124_2) | exact hn124_2) (.int .i64 ((rd_T103 l0 x7_2).f1.f1))).trans hx124_0; replace hx124_1 := (cell_far (p := ⟨gb123, 2, none⟩) (by first | (rw [add_block]; exact hn124_2) | (show (Addr.add _ _).block ≠ _; rw [add_block]; exact hn124_2) | exact hn124_2) (.int .i64 ((rd_T103 l0 x7_2).f1.f1))).trans hx124_1; replace hx124_2 := (cell_far (p := ⟨gb123, 2, none⟩) (by first | (rw [add_block]; exact hn124_2) | (show (Addr.add _ _).block ≠ _; rw [add_block]; exact hn124_2) | exact hn124_2) (.int .i64 ((rd_T103 l0 x7_2).f1.f1))).trans hx124_2; replace hx124_3 := (cell_far (p := ⟨gb123, 2, none⟩) (by first | (rw [add_block]; exact hn124_2) | (show (Addr.add _ _).block ≠ _; rw [add_block]; exact hn124_2) | exact hn124_2) (.int .i64 ((rd_T103 l0 x7_2).f1.f1))).trans hx124_3; replace hx124_4 := (cell_far (p := ⟨gb123, 2, none⟩) (by first | (rw [add_block]; exact hn124_2) | (show (Addr.add _ _).block ≠ _; rw [add_block]; exact hn124_2) | exact hn124_2) (.int .i64 ((rd_T103 l0 x7_2).f1.f1))).trans hx124_4; replace hx124_0 := (cell_far (p := ⟨gb123, 3, none⟩) (by first | (rw [add_block]; exact hn124_3) | (show (Addr.add _ _).block ≠ _; rw [add_block]; exact hn124_3) | exact hn124_3) (.int .i64 ((rd_T103 l0 x7_2).f1.f2))).trans hx124_0; replace hx124_1 := (cell_far (p := ⟨gb123, 3, none⟩) (by first | (rw [add_block]; exact hn124_3) | (show (Addr.add _ _).block ≠ _; rw [add_block]; exact hn124_3) | exact hn124_3) (.int .i64 ((rd_T103 l0 x7_2).f1.f2))).trans hx124_1; replace hx124_2 := (cell_far (p := ⟨gb123, 3, none⟩) (by first | (rw [add_block]; exact hn124_3) | (show (Addr.add _ _).block ≠ _; rw [add_block]; exact hn124_3) | exact hn124_3) (.int .i64 ((rd_T103 l0 x7_2).f1.f2))).trans hx124_2; replace hx124_3 := (cell_far (p := ⟨gb123, 3, none⟩) (by first | (rw [add_block]; exact hn124_3) | (show (Addr.add _ _).block ≠ _; rw [add_block]; exact hn124_3) | exact hn124_3) (.int .i64 ((rd_T103 l0 x7_2).f1.f2))).trans hx124_3; replace hx124_4 := (cell_far (p := ⟨gb123, 3, none⟩) (by first | (rw [add_block]; exact hn124_3) | (show (Addr.add _ _).block ≠ _; rw [add_block]; exact hn124_3) | exact hn124_3) (.int .i64 ((rd_T103 l0 x7_2).f1.f2))).trans hx124_4; replace hx124_0 := (cell_far (p := ⟨gb123, 4, none⟩) (by first | (rw [add_block]; exact hn124_4) | (show (Addr.add _ _).block ≠ _; rw [add_block]; exact hn124_4) | exact hn124_4) (.int .i64 ((rd_T103 l0 x7_2).f1.f3))).trans hx124_0; replace hx124_1 := (cell_far (p := ⟨gb123, 4, none⟩) (by first | (rw [add_block]; exact hn124_4) | (show (Addr.add _ _).block ≠ _; rw [add_block]; exact hn124_4) | exact hn124_4) (.int .i64 ((rd_T103 l0 x7_2).f1.f3))).trans hx124_1; replace hx124_2 := (cell_far (p := ⟨gb123, 4, none⟩) (by first | (rw [add_block]; exact hn124_4) | (show (Addr.add _ _).block ≠ _; rw [add_block]; exact hn124_4) | exact hn124_4) (.int .i64 ((rd_T103 l0 x7_2).f1.f3))).trans hx124_2; replace hx124_3 := (cell_far (p := ⟨gb123, 4, none⟩) (by first | (rw [add_block]; exact hn124_4) | (show (Addr.add _ _).block ≠ _; rw [add_block]; exact hn124_4) | exact hn124_4) (.int .i64 ((rd_T103 l0 x7_2).f1.f3))).trans hx124_3; replace hx124_4 := (cell_far (p := ⟨gb123, 4, none⟩) (by first | (rw [add_block]; exact hn124_4) | (show (Addr.add _ _).block ≠ _; rw [add_block]; exact hn124_4) | exact hn124_4) (.int .i64 ((rd_T103 l0 x7_2).f1.f3))).trans hx124_4; clear hn124_0; clear hn124_1; clear hn124_2; clear hn124_3; clear hn124_4; replace p124 := eq_true p124; replace q124 := eq_true q124) | ((with_reducible refine gate_dst (N := 9) rfl ?_); refine box_event ?hg (N := 9) ?hd (cs := #[.int .i64 0, .int .i64 0, .int .i64 0, .int .i64 0, .int .i64 0]) (t := 103) ?hr ?_; (case hd => rfl); (case hg => rfl); (case hr => first | (go_simp; done) | (go_simp; rfl)); intro gb125 hg w32 hbox hb; have BK125 := Aside0.mk (hbox); have GW125 := Aside0.mk ((by rw [hg]; exact (below_size (z.bl HB)) : w.heap.size ≤ gb125)); have GE125 := Aside0.mk ((by rw [hg]; exact (below_size (z.bl HB)) : w.heap.size ≤ gb125)); replace HB := Aside0.mk (below_step (z.bl HB) hb); have NB114_125 := Aside0.mk ((by rw [hg]; exact Nat.ne_of_lt (blk_lt (g := gb114) (o := .cells #[.int .i64 0, .int .i64 0, .int .i64 0, .int .i64 0] 25 (0, 0)) (z.bf BK114)) : gb114 ≠ gb125)); have NB125_114 := Aside0.mk ((by rw [hg]; exact Nat.ne_of_gt (blk_lt (g := gb114) (o := .cells #[.int .i64 0, .int .i64 0, .int .i64 0, .int .i64 0] 25 (0, 0)) (z.bf BK114)) : gb125 ≠ gb114)); replace BK114 := Aside0.mk (blk_below (g := gb114) (o := .cells #[.int .i64 0, .int .i64 0, .int .i64 0, .int .i64 0] 25 (0, 0)) (z.bf BK114) hb); have NB123_125 := Aside0.mk ((by rw [hg]; exact Nat.ne_of_lt (blk_lt (g := gb123) (o := .cells #[.int .i64 ((rd_T103 l0 x7_2).f0), .int .i64 ((rd_T103 l0 x7_2).f1.f0), .int .i64 ((rd_T103 l0 x7_2).f1.f1), .int .i64 ((rd_T103 l0 x7_2).f1.f2), .int .i64 ((rd_T103 l0 x7_2).f1.f3)] 103 (0, 0)) (by (with_reducible repeat (first | refine blk_drewN ?_ _ | refine blk_drew ?_ | refine blk_alloc ?_ _)); refine blk_put (cs := #[.int .i64 ((rd_T103 l0 x7_2).f0), .int .i64 ((rd_T103 l0 x7_2).f1.f0), .int .i64 ((rd_T103 l0 x7_2).f1.f1), .int .i64 ((rd_T103 l0 x7_2).f1.f2), .int .i64 0]) ?_ 4 _ rfl; (with_reducible repeat (first | refine blk_drewN ?_ _ | refine blk_drew ?_ | refine blk_alloc ?_ _)); refine blk_put (cs := #[.int .i64 ((rd_T103 l0 x7_2).f0), .int .i64 ((rd_T103 l0 x7_2).f1.f0), .int .i64 ((rd_T103 l0 x7_2).f1.f1), .int .i64 0, .int .i64 0]) ?_ 3 _ rfl; (with_reducible repeat (first | refine blk_drewN ?_ _ | refine blk_drew ?_ | refine blk_alloc ?_ _)); refine blk_put (cs := #[.int .i64 ((rd_T103 l0 x7_2).f0), .int .i64 ((rd_T103 l0 x7_2).f1.f0), .int .i64 0, .int .i64 0, .int .i64 0]) ?_ 2 _ rfl; (with_reducible repeat (first | refine blk_drewN ?_ _ | refine blk_drew ?_ | refine blk_alloc ?_ _)); refine blk_put (cs := #[.int .i64 ((rd_T103 l0 x7_2).f0), .int .i64 0, .int .i64 0, .int .i64 0, .int .i64 0]) ?_ 1 _ rfl; (with_reducible repeat (first | refine blk_drewN ?_ _ | refine blk_drew ?_ | refine blk_alloc ?_ _)); refine blk_put (cs := #[.int .i64 0, .int .i64 0, .int .i64 0, .int .i64 0, .int .i64 0]) ?_ 0 _ rfl; (with_reducible repeat (first | refine blk_drewN ?_ _ | refine blk_drew ?_ | refine blk_alloc ?_ _)); exact BK123.out)) : gb123 ≠ gb125)); have NB125_123 := Aside0.mk ((by rw [hg]; exact Nat.ne_of_gt (blk_lt (g := gb123) (o := .cells #[.int .i64 ((rd_T103 l0 x7_2).f0), .int .i64 ((rd_T103 l0 x7_2).f1.f0), .int .i64 ((rd_T103 l0 x7_2).f1.f1), .int .i64 ((rd_T103 l0 x7_2).f1.f2), .int .i64 ((rd_T103 l0 x7_2).f1.f3)] 103 (0, 0)) (by (with_reducible repeat (first | refine blk_drewN ?_ _ | refine blk_drew ?_ | refine blk_alloc ?_ _)); refine blk_put (cs := #[.int .i64 ((rd_T103 l0 x7_2).f0), .int .i64 ((rd_T103 l0 x7_2).f1.f0), .int .i64 ((rd_T103 l0 x7_2).f1.f1), .int .i64 ((rd_T103 l0 x7_2).f1.f2), .int .i64 0]) ?_ 4 _ rfl; (with_reducible repeat (first | refine blk_drewN ?_ _ | refine blk_drew ?_ | refine blk_alloc ?_ _)); refine blk_put (cs := #[.int .i64 ((rd_T103 l0 x7_2).f0), .int .i64 ((rd_T103 l0 x7_2).f1.f0), .int .i64 ((rd_T103 l0 x7_2).f1.f1), .int .i64 0, .int .i64 0]) ?_ 3 _ rfl; (with_reducible repeat (first | refine blk_drewN ?_ _ | refine blk_drew ?_ | refine blk_alloc ?_ _)); refine blk_put (cs := #[.int .i64 ((rd_T103 l0 x7_2).f0), .int .i64 ((rd_T103 l0 x7_2).f1.f0), .int .i64 0, .int .i64 0, .int .i64 0]) ?_ 2 _ rfl; (with_reducible repeat (first | refine blk_drewN ?_ _ | refine blk_drew ?_ | refine blk_alloc ?_ _)); refine blk_put (cs := #[.int .i64 ((rd_T103 l0 x7_2).f0), .int .i64 0, .int .i64 0, .int .i64 0, .int .i64 0]) ?_ 1 _ rfl; (with_reducible repeat (first | refine blk_drewN ?_ _ | refine blk_drew ?_ | refine blk_alloc ?_ _)); refine blk_put (cs := #[.int .i64 0, .int .i64 0, .int .i64 0, .int .i64 0, .int .i64 0]) ?_ 0 _ rfl; (with_reducible repeat (first | refine blk_drewN ?_ _ | refine blk_drew ?_ | refine blk_alloc ?_ _)); exact BK123.out)) : gb125 ≠ gb123)); replace BK123 := Aside0.mk (blk_below (g := gb123) (o := .cells #[.int .i64 ((rd_T103 l0 x7_2).f0), .int .i64 ((rd_T103 l0 x7_2).f1.f0), .int .i64 ((rd_T103 l0 x7_2).f1.f1), .int .i64 ((rd_T103 l0 x7_2).f1.f2), .int .i64 ((rd_T103 l0 x7_2).f1.f3)] 103 (0, 0)) (by (with_reducible repeat (first | refine blk_drewN ?_ _ | refine blk_drew ?_ | refine blk_alloc ?_ _)); refine blk_put (cs := #[.int .i64 ((rd_T103 l0 x7_2).f0), .int .i64 ((rd_T103 l0 x7_2).f1.f0), .int .i64 ((rd_T103 l0 x7_2).f1.f1), .int .i64 ((rd_T103 l0 x7_2).f1.f2), .int .i64 0]) ?_ 4 _ rfl; (with_reducible repeat (first | refine blk_drewN ?_ _ | refine blk_drew ?_ | refine blk_alloc ?_ _)); refine blk_put (cs := #[.int .i64 ((rd_T103 l0 x7_2).f0), .int .i64 ((rd_T103 l0 x7_2).f1.f0), .int .i64 ((rd_T103 l0 x7_2).f1.f1), .int .i64 0, .int .i64 0]) ?_ 3 _ rfl; (with_reducible repeat (first | refine blk_drewN ?_ _ | refine blk_drew ?_ | refine blk_alloc ?_ _)); refine blk_put (cs := #[.int .i64 ((rd_T103 l0 x7_2).f0), .int .i64 ((rd_T103 l0 x7_2).f1.f0), .int .i64 0, .int .i64 0, .int .i64 0]) ?_ 2 _ rfl; (with_reducible repeat (first | refine blk_drewN ?_ _ | refine blk_drew ?_ | refine blk_alloc ?_ _)); refine blk_put (cs := #[.int .i64 ((rd_T103 l0 x7_2).f0), .int .i64 0, .int .i64 0, .int .i64 0, .int .i64 0]) ?_ 1 _ rfl; (with_reducible repeat (first | refine blk_drewN ?_ _ | refine blk_drew ?_ | refine blk_alloc ?_ _)); refine blk_put (cs := #[.int .i64 0, .int .i64 0, .int .i64 0, .int .i64 0, .int .i64 0]) ?_ 0 _ rfl; (with_reducible repeat (first | refine blk_drewN ?_ _ | refine blk_drew ?_ | refine blk_alloc ?_ _)); exact BK123.out) hb); clear hb hbox hg; have hnb33 := NB125_114.out; have hnc33 := NB114_125.out; have hnb34 := NB125_123.out; have hnc34 := NB123_125.out; have hcz35_0 : w32.cell? ⟨gb125, 0, none⟩ = some (.int .i64 0) := (blk_cell BK125.out 0).trans rfl; have hcz35_1 : w32.cell? ⟨gb125, 1, none⟩ = some (.int .i64 0) := (blk_cell BK125.out 1).trans rfl; have hcz35_2 : w32.cell? ⟨gb125, 2, none⟩ = some (.int .i64 0) := (blk_cell BK125.out 2).trans rfl; have hcz35_3 : w32.cell? ⟨gb125, 3, none⟩ = some (.int .i64 0) := (blk_cell BK125.out 3).trans rfl; have hcz35_4 : w32.cell? ⟨gb125, 4, none⟩ = some (.int .i64 0) := (blk_cell BK125.out 4).trans rfl; have hfz35_0 := blk_frozen BK125.out 0; have hfz35_1 := blk_frozen BK125.out 1; have hfz35_2 := blk_frozen BK125.out 2; have hfz35_3 := blk_frozen BK125.out 3; have hfz35_4 := blk_frozen BK125.out 4; have hcz36_0 : w32.cell? ⟨gb123, 0, none⟩ = some (.int .i64 ((rd_T103 l0 x7_2).f0)) := (blk_cell BK123.out 0).trans rfl; have hcz36_1 : w32.cell? ⟨gb123, 1, none⟩ = some (.int .i64 ((rd_T103 l0 x7_2).f1.f0)) := (blk_cell BK123.out 1).trans rfl; have hcz36_2 : w32.cell? ⟨gb123, 2, none⟩ = some (.int .i64 ((rd_T103 l0 x7_2).f1.f1)) := (blk_cell BK123.out 2).trans rfl; have hcz36_3 : w32.cell? ⟨gb123, 3, none⟩ = some (.int .i64 ((rd_T103 l0 x7_2).f1.f2)) := (blk_cell BK123.out 3).trans rfl; have hcz36_4 : w32.cell? ⟨gb123, 4, none⟩ = some (.int .i64 ((rd_T103 l0 x7_2).f1.f3)) := (blk_cell BK123.out 4).trans rfl; have hfz36_0 := blk_frozen BK123.out 0; have hfz36_1 := blk_frozen BK123.out 1; have hfz36_2 := blk_frozen BK123.out 2; have hfz36_3 := blk_frozen BK123.out 3; have hfz36_4 := blk_frozen BK123.out 4))
                have n0_ : Aside0 ((((((w32.setCell ⟨gb125, 0, none⟩ (.int .i64 ((rd_T103 l0 (ji22)).f0))).setCell ⟨gb125, 1, none⟩ (.int .i64 ((rd_T103 l0 (ji22)).f1.f0))).setCell ⟨gb125, 2, none⟩ (.int .i64 ((rd_T103 l0 (ji22)).f1.f1))).setCell ⟨gb125, 3, none⟩ (.int .i64 ((rd_T103 l0 (ji22)).f1.f2))).setCell ⟨gb125, 4, none⟩ (.int .i64 ((rd_T103 l0 (ji22)).f1.f3))).heap[gb114]? = some (.cells #[.int .i64 0, .int .i64 0, .int .i64 0, .int .i64 0] 25 (0, 0))) := ⟨z.bf BK114⟩
                have n1_ : Aside0 ((((((w32.setCell ⟨gb125, 0, none⟩ (.int .i64 ((rd_T103 l0 (ji22)).f0))).setCell ⟨gb125, 1, none⟩ (.int .i64 ((rd_T103 l0 (ji22)).f1.f0))).setCell ⟨gb125, 2, none⟩ (.int .i64 ((rd_T103 l0 (ji22)).f1.f1))).setCell ⟨gb125, 3, none⟩ (.int .i64 ((rd_T103 l0 (ji22)).f1.f2))).setCell ⟨gb125, 4, none⟩ (.int .i64 ((rd_T103 l0 (ji22)).f1.f3))).heap[gb123]? = some (.cells #[.int .i64 ((rd_T103 l0 x7_2).f0), .int .i64 ((rd_T103 l0 x7_2).f1.f0), .int .i64 ((rd_T103 l0 x7_2).f1.f1), .int .i64 ((rd_T103 l0 x7_2).f1.f2), .int .i64 ((rd_T103 l0 x7_2).f1.f3)] 103 (0, 0))) := ⟨z.bf BK123⟩
                have n2_ : Aside0 ((((((w32.setCell ⟨gb125, 0, none⟩ (.int .i64 ((rd_T103 l0 (ji22)).f0))).setCell ⟨gb125, 1, none⟩ (.int .i64 ((rd_T103 l0 (ji22)).f1.f0))).setCell ⟨gb125, 2, none⟩ (.int .i64 ((rd_T103 l0 (ji22)).f1.f1))).setCell ⟨gb125, 3, none⟩ (.int .i64 ((rd_T103 l0 (ji22)).f1.f2))).setCell ⟨gb125, 4, none⟩ (.int .i64 ((rd_T103 l0 (ji22)).f1.f3))).heap[gb125]? = some (.cells #[.int .i64 ((rd_T103 l0 (ji22)).f0), .int .i64 ((rd_T103 l0 (ji22)).f1.f0), .int .i64 ((rd_T103 l0 (ji22)).f1.f1), .int .i64 ((rd_T103 l0 (ji22)).f1.f2), .int .i64 ((rd_T103 l0 (ji22)).f1.f3)] 103 (0, 0))) := ⟨by (with_reducible repeat (first | refine blk_drewN ?_ _ | refine blk_drew ?_ | refine blk_alloc ?_ _)); refine blk_put (cs := #[.int .i64 ((rd_T103 l0 (ji22)).f0), .int .i64 ((rd_T103 l0 (ji22)).f1.f0), .int .i64 ((rd_T103 l0 (ji22)).f1.f1), .int .i64 ((rd_T103 l0 (ji22)).f1.f2), .int .i64 0]) ?_ 4 _ rfl; (with_reducible repeat (first | refine blk_drewN ?_ _ | refine blk_drew ?_ | refine blk_alloc ?_ _)); refine blk_put (cs := #[.int .i64 ((rd_T103 l0 (ji22)).f0), .int .i64 ((rd_T103 l0 (ji22)).f1.f0), .int .i64 ((rd_T103 l0 (ji22)).f1.f1), .int .i64 0, .int .i64 0]) ?_ 3 _ rfl; (with_reducible repeat (first | refine blk_drewN ?_ _ | refine blk_drew ?_ | refine blk_alloc ?_ _)); refine blk_put (cs := #[.int .i64 ((rd_T103 l0 (ji22)).f0), .int .i64 ((rd_T103 l0 (ji22)).f1.f0), .int .i64 0, .int .i64 0, .int .i64 0]) ?_ 2 _ rfl; (with_reducible repeat (first | refine blk_drewN ?_ _ | refine blk_drew ?_ | refine blk_alloc ?_ _)); refine blk_put (cs := #[.int .i64 ((rd_T103 l0 (ji22)).f0), .int .i64 0, .int .i64 0, .int .i64 0, .int .i64 0]) ?_ 1 _ rfl; (with_reducible repeat (first | refine blk_drewN ?_ _ | refine blk_drew ?_ | refine blk_alloc ?_ _)); refine blk_put (cs := #[.int .i64 0, .int .i64 0, .int .i64 0, .int .i64 0, .int .i64 0]) ?_ 0 _ rfl; (with_reducible repeat (first | refine blk_drewN ?_ _ | refine blk_drew ?_ | refine blk_alloc ?_ _)); exact BK125.out⟩
                have n3_ : Aside0 (Below w.heap.size w (((((w32.setCell ⟨gb125, 0, none⟩ (.int .i64 ((rd_T103 l0 (ji22)).f0))).setCell ⟨gb125, 1, none⟩ (.int .i64 ((rd_T103 l0 (ji22)).f1.f0))).setCell ⟨gb125, 2, none⟩ (.int .i64 ((rd_T103 l0 (ji22)).f1.f1))).setCell ⟨gb125, 3, none⟩ (.int .i64 ((rd_T103 l0 (ji22)).f1.f2))).setCell ⟨gb125, 4, none⟩ (.int .i64 ((rd_T103 l0 (ji22)).f1.f3)))) := ⟨z.bl HB⟩
                (try clear BK114)
                (try clear BK123)
                (try clear BK125)
                (try clear HB)
                generalize (((((w32.setCell ⟨gb125, 0, none⟩ (.int .i64 ((rd_T103 l0 (ji22)).f0))).setCell ⟨gb125, 1, none⟩ (.int .i64 ((rd_T103 l0 (ji22)).f1.f0))).setCell ⟨gb125, 2, none⟩ (.int .i64 ((rd_T103 l0 (ji22)).f1.f1))).setCell ⟨gb125, 3, none⟩ (.int .i64 ((rd_T103 l0 (ji22)).f1.f2))).setCell ⟨gb125, 4, none⟩ (.int .i64 ((rd_T103 l0 (ji22)).f1.f3))) = w37 at n0_ n1_ n2_ n3_ ⊢
                have BK114 := n0_
                have BK123 := n1_
                have BK125 := n2_
                have HB := n3_
                clear n0_ n1_ n2_ n3_
                replace BK114 := Aside0.mk (blk_drew BK114.out)
                replace BK123 := Aside0.mk (blk_drew BK123.out)
                replace BK125 := Aside0.mk (blk_drew BK125.out)
                replace HB := Aside0.mk (below_drew1 HB.out)
                refine start_ (n := 54) (S := fun w' => w'.cell? ⟨gb123, 0, none⟩ = some (.int .i64 ((rd_T103 l0 x7_2).f0)) ∧ w'.cell? ⟨gb123, 1, none⟩ = some (.int .i64 ((rd_T103 l0 x7_2).f1.f0)) ∧ w'.cell? ⟨gb123, 2, none⟩ = some (.int .i64 ((rd_T103 l0 x7_2).f1.f1)) ∧ w'.cell? ⟨gb123, 3, none⟩ = some (.int .i64 ((rd_T103 l0 x7_2).f1.f2)) ∧ w'.cell? ⟨gb123, 4, none⟩ = some (.int .i64 ((rd_T103 l0 x7_2).f1.f3)) ∧ w'.cell? ⟨gb125, 0, none⟩ = some (.int .i64 ((rd_T103 l0 (ji22)).f0)) ∧ w'.cell? ⟨gb125, 1, none⟩ = some (.int .i64 ((rd_T103 l0 (ji22)).f1.f0)) ∧ w'.cell? ⟨gb125, 2, none⟩ = some (.int .i64 ((rd_T103 l0 (ji22)).f1.f1)) ∧ w'.cell? ⟨gb125, 3, none⟩ = some (.int .i64 ((rd_T103 l0 (ji22)).f1.f2)) ∧ w'.cell? ⟨gb125, 4, none⟩ = some (.int .i64 ((rd_T103 l0 (ji22)).f1.f3))) (ds := []) #[false, false, false, false, false, false, false, false, false, false, false, false, false, false, false, false, false, false, false, false, false, false, false, false, false, false, false, false, false, false, false, false, false, false, false, false, false, false, false, false, false, false, false, false, false, false, false, false, false, false, false, false, false, false] (by kernel_rfl) rfl rfl ⟨(blk_cell BK123.out 0).trans rfl, (blk_cell BK123.out 1).trans rfl, (blk_cell BK123.out 2).trans rfl, (blk_cell BK123.out 3).trans rfl, (blk_cell BK123.out 4).trans rfl, (blk_cell BK125.out 0).trans rfl, (blk_cell BK125.out 1).trans rfl, (blk_cell BK125.out 2).trans rfl, (blk_cell BK125.out 3).trans rfl, (blk_cell BK125.out 4).trans rfl⟩ (fun hHeld => ?_); refine with_tabW spec_l12Run.tab24 spec_l12Run.bits24 (fun HT_ HW_ => ?_)
                generalize w37.drew = w38 at BK114 BK123 BK125 HB hHeld ⊢
                refine pure_ (i := 0) (N := some 88) (v := ?_) (a' := ?_) #[true, false, false, false, false, false, false, false, false, false, false, false, false, false, false, false, false, false, false, false, false, false, false, false, false, false, false, false, false, false, false, false, false, false, false, false, false, false, false, false, false, false, false, false, false, false, false, false, false, false, false, false, false, false] rfl rfl (any_of HT_.out (by kernel_rfl)) (fun _ _ _ h => h) (Or.inl ⟨by rfl, ?_⟩) ?_ ?_
                rotate_left
                ·intro w'
                 go_simp
                 with_reducible rfl
                rotate_left
                ·simp only [Act.put, List.setIfInBounds_toArray, List.set_cons_zero, List.set_cons_succ, i64_w, i32_w]
                 rfl
                refine pure_ (i := 1) (N := some 89) (v := ?_) (a' := ?_) #[true, true, false, false, false, false, false, false, false, false, false, false, false, false, false, false, false, false, false, false, false, false, false, false, false, false, false, false, false, false, false, false, false, false, false, false, false, false, false, false, false, false, false, false, false, false, false, false, false, false, false, false, false, false] rfl rfl (any_of HT_.out (by kernel_rfl)) (fun _ _ _ h => h) (Or.inl ⟨by rfl, ?_⟩) ?_ ?_
                rotate_left
                ·intro w'
                 go_simp
                 with_reducible rfl
                rotate_left
                ·simp only [Act.put, List.setIfInBounds_toArray, List.set_cons_zero, List.set_cons_succ, i64_w, i32_w]
                 rfl
                refine pure_ (i := 3) (N := some 91) (v := ?_) (a' := ?_) #[true, true, false, true, false, false, false, false, false, false, false, false, false, false, false, false, false, false, false, false, false, false, false, false, false, false, false, false, false, false, false, false, false, false, false, false, false, false, false, false, false, false, false, false, false, false, false, false, false, false, false, false, false, false] rfl rfl (any_of HT_.out (by kernel_rfl)) (fun _ _ _ h => h) (Or.inl ⟨by rfl, ?_⟩) ?_ ?_
                rotate_left
                ·intro w'
                 go_simp
                 with_reducible rfl
                rotate_left
                ·simp only [Act.put, List.setIfInBounds_toArray, List.set_cons_zero, List.set_cons_succ, i64_w, i32_w]
                 rfl
                refine pure_ (i := 5) (N := some 93) (v := ?_) (a' := ?_) #[true, true, false, true, false, true, false, false, false, false, false, false, false, false, false, false, false, false, false, false, false, false, false, false, false, false, false, false, false, false, false, false, false, false, false, false, false, false, false, false, false, false, false, false, false, false, false, false, false, false, false, false, false, false] rfl rfl (any_of HT_.out (by kernel_rfl)) (fun _ _ _ h => h) (Or.inl ⟨by rfl, ?_⟩) ?_ ?_
                rotate_left
                ·intro w'
                 go_simp
                 with_reducible rfl
                rotate_left
                ·simp only [Act.put, List.setIfInBounds_toArray, List.set_cons_zero, List.set_cons_succ, i64_w, i32_w]
                 rfl
                refine pure_ (i := 6) (N := some 94) (v := ?_) (a' := ?_) #[true, true, false, true, false, true, true, false, false, false, false, false, false, false, false, false, false, false, false, false, false, false, false, false, false, false, false, false, false, false, false, false, false, false, false, false, false, false, false, false, false, false, false, false, false, false, false, false, false, false, false, false, false, false] rfl rfl (any_of HT_.out (by kernel_rfl)) (fun _ _ _ h => h) (Or.inl ⟨by rfl, ?_⟩) ?_ ?_
                rotate_left
                ·intro w'
                 go_simp
                 with_reducible rfl
                rotate_left
                ·simp only [Act.put, List.setIfInBounds_toArray, List.set_cons_zero, List.set_cons_succ, i64_w, i32_w]
                 rfl
                refine pure_ (i := 8) (N := some 96) (v := ?_) (a' := ?_) #[true, true, false, true, false, true, true, false, true, false, false, false, false, false, false, false, false, false, false, false, false, false, false, false, false, false, false, false, false, false, false, false, false, false, false, false, false, false, false, false, false, false, false, false, false, false, false, false, false, false, false, false, false, false] rfl rfl (any_of HT_.out (by kernel_rfl)) (fun _ _ _ h => h) (Or.inl ⟨by rfl, ?_⟩) ?_ ?_
                rotate_left
                ·intro w'
                 go_simp
                 with_reducible rfl
                rotate_left
                ·simp only [Act.put, List.setIfInBounds_toArray, List.set_cons_zero, List.set_cons_succ, i64_w, i32_w]
                 rfl
                refine pure_ (i := 11) (N := some 99) (v := ?_) (a' := ?_) #[true, true, false, true, false, true, true, false, true, false, false, true, false, false, false, false, false, false, false, false, false, false, false, false, false, false, false, false, false, false, false, false, false, false, false, false, false, false, false, false, false, false, false, false, false, false, false, false, false, false, false, false, false, false] rfl rfl (any_of HT_.out (by kernel_rfl)) (fun _ _ _ h => h) (Or.inl ⟨by rfl, ?_⟩) ?_ ?_
                rotate_left
                ·intro w'
                 go_simp
                 with_reducible rfl
                rotate_left
                ·simp only [Act.put, List.setIfInBounds_toArray, List.set_cons_zero, List.set_cons_succ, i64_w, i32_w]
                 rfl
                refine pure_ (i := 13) (N := some 101) (v := ?_) (a' := ?_) #[true, true, false, true, false, true, true, false, true, false, false, true, false, true, false, false, false, false, false, false, false, false, false, false, false, false, false, false, false, false, false, false, false, false, false, false, false, false, false, false, false, false, false, false, false, false, false, false, false, false, false, false, false, false] rfl rfl (any_of HT_.out (by kernel_rfl)) (fun _ _ _ h => h) (Or.inl ⟨by rfl, ?_⟩) ?_ ?_
                rotate_left
                ·intro w'
                 go_simp
                 with_reducible rfl
                rotate_left
                ·simp only [Act.put, List.setIfInBounds_toArray, List.set_cons_zero, List.set_cons_succ, i64_w, i32_w]
                 rfl
                refine pure_ (i := 14) (N := some 102) (v := ?_) (a' := ?_) #[true, true, false, true, false, true, true, false, true, false, false, true, false, true, true, false, false, false, false, false, false, false, false, false, false, false, false, false, false, false, false, false, false, false, false, false, false, false, false, false, false, false, false, false, false, false, false, false, false, false, false, false, false, false] rfl rfl (any_of HT_.out (by kernel_rfl)) (fun _ _ _ h => h) (Or.inl ⟨by rfl, ?_⟩) ?_ ?_
                rotate_left
                ·intro w'
                 go_simp
                 with_reducible rfl
                rotate_left
                ·simp only [Act.put, List.setIfInBounds_toArray, List.set_cons_zero, List.set_cons_succ, i64_w, i32_w]
                 rfl
                refine pure_ (i := 16) (N := some 104) (v := ?_) (a' := ?_) #[true, true, false, true, false, true, true, false, true, false, false, true, false, true, true, false, true, false, false, false, false, false, false, false, false, false, false, false, false, false, false, false, false, false, false, false, false, false, false, false, false, false, false, false, false, false, false, false, false, false, false, false, false, false] rfl rfl (any_of HT_.out (by kernel_rfl)) (fun _ _ _ h => h) (Or.inl ⟨by rfl, ?_⟩) ?_ ?_
                rotate_left
                ·intro w'
                 go_simp
                 with_reducible rfl
                rotate_left
                ·simp only [Act.put, List.setIfInBounds_toArray, List.set_cons_zero, List.set_cons_succ, i64_w, i32_w]
                 rfl
                refine pure_ (i := 18) (N := some 106) (v := ?_) (a' := ?_) #[true, true, false, true, false, true, true, false, true, false, false, true, false, true, true, false, true, false, true, false, false, false, false, false, false, false, false, false, false, false, false, false, false, false, false, false, false, false, false, false, false, false, false, false, false, false, false, false, false, false, false, false, false, false] rfl rfl (any_of HT_.out (by kernel_rfl)) (fun _ _ _ h => h) (Or.inl ⟨by rfl, ?_⟩) ?_ ?_
                rotate_left
                ·intro w'
                 go_simp
                 with_reducible rfl
                rotate_left
                ·simp only [Act.put, List.setIfInBounds_toArray, List.set_cons_zero, List.set_cons_succ, i64_w, i32_w]
                 rfl
                refine pure_ (i := 19) (N := some 107) (v := ?_) (a' := ?_) #[true, true, false, true, false, true, true, false, true, false, false, true, false, true, true, false, true, false, true, true, false, false, false, false, false, false, false, false, false, false, false, false, false, false, false, false, false, false, false, false, false, false, false, false, false, false, false, false, false, false, false, false, false, false] rfl rfl (any_of HT_.out (by kernel_rfl)) (fun _ _ _ h => h) (Or.inl ⟨by rfl, ?_⟩) ?_ ?_
                rotate_left
                ·intro w'
                 go_simp
                 with_reducible rfl
                rotate_left
                ·simp only [Act.put, List.setIfInBounds_toArray, List.set_cons_zero, List.set_cons_succ, i64_w, i32_w]
                 rfl
                refine pure_ (i := 21) (N := some 109) (v := ?_) (a' := ?_) #[true, true, false, true, false, true, true, false, true, false, false, true, false, true, true, false, true, false, true, true, false, true, false, false, false, false, false, false, false, false, false, false, false, false, false, false, false, false, false, false, false, false, false, false, false, false, false, false, false, false, false, false, false, false] rfl rfl (any_of HT_.out (by kernel_rfl)) (fun _ _ _ h => h) (Or.inl ⟨by rfl, ?_⟩) ?_ ?_
                rotate_left
                ·intro w'
                 go_simp
                 with_reducible rfl
                rotate_left
                ·simp only [Act.put, List.setIfInBounds_toArray, List.set_cons_zero, List.set_cons_succ, i64_w, i32_w]
                 rfl
                refine pure_ (i := 24) (N := some 112) (v := ?_) (a' := ?_) #[true, true, false, true, false, true, true, false, true, false, false, true, false, true, true, false, true, false, true, true, false, true, false, false, true, false, false, false, false, false, false, false, false, false, false, false, false, false, false, false, false, false, false, false, false, false, false, false, false, false, false, false, false, false] rfl rfl (any_of HT_.out (by kernel_rfl)) (fun _ _ _ h => h) (Or.inl ⟨by rfl, ?_⟩) ?_ ?_
                rotate_left
                ·intro w'
                 go_simp
                 with_reducible rfl
                rotate_left
                ·simp only [Act.put, List.setIfInBounds_toArray, List.set_cons_zero, List.set_cons_succ, i64_w, i32_w]
                 rfl
                refine pure_ (i := 26) (N := some 114) (v := ?_) (a' := ?_) #[true, true, false, true, false, true, true, false, true, false, false, true, false, true, true, false, true, false, true, true, false, true, false, false, true, false, true, false, false, false, false, false, false, false, false, false, false, false, false, false, false, false, false, false, false, false, false, false, false, false, false, false, false, false] rfl rfl (any_of HT_.out (by kernel_rfl)) (fun _ _ _ h => h) (Or.inl ⟨by rfl, ?_⟩) ?_ ?_
                rotate_left
                ·intro w'
                 go_simp
                 with_reducible rfl
                rotate_left
                ·simp only [Act.put, List.setIfInBounds_toArray, List.set_cons_zero, List.set_cons_succ, i64_w, i32_w]
                 rfl
                refine pure_ (i := 27) (N := some 115) (v := ?_) (a' := ?_) #[true, true, false, true, false, true, true, false, true, false, false, true, false, true, true, false, true, false, true, true, false, true, false, false, true, false, true, true, false, false, false, false, false, false, false, false, false, false, false, false, false, false, false, false, false, false, false, false, false, false, false, false, false, false] rfl rfl (any_of HT_.out (by kernel_rfl)) (fun _ _ _ h => h) (Or.inl ⟨by rfl, ?_⟩) ?_ ?_
                rotate_left
                ·intro w'
                 go_simp
                 with_reducible rfl
                rotate_left
                ·simp only [Act.put, List.setIfInBounds_toArray, List.set_cons_zero, List.set_cons_succ, i64_w, i32_w]
                 rfl
                refine pure_ (i := 29) (N := some 117) (v := ?_) (a' := ?_) #[true, true, false, true, false, true, true, false, true, false, false, true, false, true, true, false, true, false, true, true, false, true, false, false, true, false, true, true, false, true, false, false, false, false, false, false, false, false, false, false, false, false, false, false, false, false, false, false, false, false, false, false, false, false] rfl rfl (any_of HT_.out (by kernel_rfl)) (fun _ _ _ h => h) (Or.inl ⟨by rfl, ?_⟩) ?_ ?_
                rotate_left
                ·intro w'
                 go_simp
                 with_reducible rfl
                rotate_left
                ·simp only [Act.put, List.setIfInBounds_toArray, List.set_cons_zero, List.set_cons_succ, i64_w, i32_w]
                 rfl
                refine pure_ (i := 31) (N := some 119) (v := ?_) (a' := ?_) #[true, true, false, true, false, true, true, false, true, false, false, true, false, true, true, false, true, false, true, true, false, true, false, false, true, false, true, true, false, true, false, true, false, false, false, false, false, false, false, false, false, false, false, false, false, false, false, false, false, false, false, false, false, false] rfl rfl (any_of HT_.out (by kernel_rfl)) (fun _ _ _ h => h) (Or.inl ⟨by rfl, ?_⟩) ?_ ?_
                rotate_left
                ·intro w'
                 go_simp
                 with_reducible rfl
                rotate_left
                ·simp only [Act.put, List.setIfInBounds_toArray, List.set_cons_zero, List.set_cons_succ, i64_w, i32_w]
                 rfl
                refine pure_ (i := 32) (N := some 120) (v := ?_) (a' := ?_) #[true, true, false, true, false, true, true, false, true, false, false, true, false, true, true, false, true, false, true, true, false, true, false, false, true, false, true, true, false, true, false, true, true, false, false, false, false, false, false, false, false, false, false, false, false, false, false, false, false, false, false, false, false, false] rfl rfl (any_of HT_.out (by kernel_rfl)) (fun _ _ _ h => h) (Or.inl ⟨by rfl, ?_⟩) ?_ ?_
                rotate_left
                ·intro w'
                 go_simp
                 with_reducible rfl
                rotate_left
                ·simp only [Act.put, List.setIfInBounds_toArray, List.set_cons_zero, List.set_cons_succ, i64_w, i32_w]
                 rfl
                refine pure_ (i := 34) (N := some 122) (v := ?_) (a' := ?_) #[true, true, false, true, false, true, true, false, true, false, false, true, false, true, true, false, true, false, true, true, false, true, false, false, true, false, true, true, false, true, false, true, true, false, true, false, false, false, false, false, false, false, false, false, false, false, false, false, false, false, false, false, false, false] rfl rfl (any_of HT_.out (by kernel_rfl)) (fun _ _ _ h => h) (Or.inl ⟨by rfl, ?_⟩) ?_ ?_
                rotate_left
                ·intro w'
                 go_simp
                 with_reducible rfl
                rotate_left
                ·simp only [Act.put, List.setIfInBounds_toArray, List.set_cons_zero, List.set_cons_succ, i64_w, i32_w]
                 rfl
                refine pure_ (i := 37) (N := some 125) (v := ?_) (a' := ?_) #[true, true, false, true, false, true, true, false, true, false, false, true, false, true, true, false, true, false, true, true, false, true, false, false, true, false, true, true, false, true, false, true, true, false, true, false, false, true, false, false, false, false, false, false, false, false, false, false, false, false, false, false, false, false] rfl rfl (any_of HT_.out (by kernel_rfl)) (fun _ _ _ h => h) (Or.inl ⟨by rfl, ?_⟩) ?_ ?_
                rotate_left
                ·intro w'
                 go_simp
                 with_reducible rfl
                rotate_left
                ·simp only [Act.put, List.setIfInBounds_toArray, List.set_cons_zero, List.set_cons_succ, i64_w, i32_w]
                 rfl
                refine pure_ (i := 39) (N := some 127) (v := ?_) (a' := ?_) #[true, true, false, true, false, true, true, false, true, false, false, true, false, true, true, false, true, false, true, true, false, true, false, false, true, false, true, true, false, true, false, true, true, false, true, false, false, true, false, true, false, false, false, false, false, false, false, false, false, false, false, false, false, false] rfl rfl (any_of HT_.out (by kernel_rfl)) (fun _ _ _ h => h) (Or.inl ⟨by rfl, ?_⟩) ?_ ?_
                rotate_left
                ·intro w'
                 go_simp
                 with_reducible rfl
                rotate_left
                ·simp only [Act.put, List.setIfInBounds_toArray, List.set_cons_zero, List.set_cons_succ, i64_w, i32_w]
                 rfl
                refine pure_ (i := 40) (N := some 128) (v := ?_) (a' := ?_) #[true, true, false, true, false, true, true, false, true, false, false, true, false, true, true, false, true, false, true, true, false, true, false, false, true, false, true, true, false, true, false, true, true, false, true, false, false, true, false, true, true, false, false, false, false, false, false, false, false, false, false, false, false, false] rfl rfl (any_of HT_.out (by kernel_rfl)) (fun _ _ _ h => h) (Or.inl ⟨by rfl, ?_⟩) ?_ ?_
                rotate_left
                ·intro w'
                 go_simp
                 with_reducible rfl
                rotate_left
                ·simp only [Act.put, List.setIfInBounds_toArray, List.set_cons_zero, List.set_cons_succ, i64_w, i32_w]
                 rfl
                refine pure_ (i := 42) (N := some 130) (v := ?_) (a' := ?_) #[true, true, false, true, false, true, true, false, true, false, false, true, false, true, true, false, true, false, true, true, false, true, false, false, true, false, true, true, false, true, false, true, true, false, true, false, false, true, false, true, true, false, true, false, false, false, false, false, false, false, false, false, false, false] rfl rfl (any_of HT_.out (by kernel_rfl)) (fun _ _ _ h => h) (Or.inl ⟨by rfl, ?_⟩) ?_ ?_
                rotate_left
                ·intro w'
                 go_simp
                 with_reducible rfl
                rotate_left
                ·simp only [Act.put, List.setIfInBounds_toArray, List.set_cons_zero, List.set_cons_succ, i64_w, i32_w]
                 rfl
                refine pure_ (i := 44) (N := some 132) (v := ?_) (a' := ?_) #[true, true, false, true, false, true, true, false, true, false, false, true, false, true, true, false, true, false, true, true, false, true, false, false, true, false, true, true, false, true, false, true, true, false, true, false, false, true, false, true, true, false, true, false, true, false, false, false, false, false, false, false, false, false] rfl rfl (any_of HT_.out (by kernel_rfl)) (fun _ _ _ h => h) (Or.inl ⟨by rfl, ?_⟩) ?_ ?_
                rotate_left
                ·intro w'
                 go_simp
                 with_reducible rfl
                rotate_left
                ·simp only [Act.put, List.setIfInBounds_toArray, List.set_cons_zero, List.set_cons_succ, i64_w, i32_w]
                 rfl
                refine pure_ (i := 45) (N := some 133) (v := ?_) (a' := ?_) #[true, true, false, true, false, true, true, false, true, false, false, true, false, true, true, false, true, false, true, true, false, true, false, false, true, false, true, true, false, true, false, true, true, false, true, false, false, true, false, true, true, false, true, false, true, true, false, false, false, false, false, false, false, false] rfl rfl (any_of HT_.out (by kernel_rfl)) (fun _ _ _ h => h) (Or.inl ⟨by rfl, ?_⟩) ?_ ?_
                rotate_left
                ·intro w'
                 go_simp
                 with_reducible rfl
                rotate_left
                ·simp only [Act.put, List.setIfInBounds_toArray, List.set_cons_zero, List.set_cons_succ, i64_w, i32_w]
                 rfl
                refine pure_ (i := 47) (N := some 135) (v := ?_) (a' := ?_) #[true, true, false, true, false, true, true, false, true, false, false, true, false, true, true, false, true, false, true, true, false, true, false, false, true, false, true, true, false, true, false, true, true, false, true, false, false, true, false, true, true, false, true, false, true, true, false, true, false, false, false, false, false, false] rfl rfl (any_of HT_.out (by kernel_rfl)) (fun _ _ _ h => h) (Or.inl ⟨by rfl, ?_⟩) ?_ ?_
                rotate_left
                ·intro w'
                 go_simp
                 with_reducible rfl
                rotate_left
                ·simp only [Act.put, List.setIfInBounds_toArray, List.set_cons_zero, List.set_cons_succ, i64_w, i32_w]
                 rfl
                refine pure_ (i := 50) (N := some 138) (v := ?_) (a' := ?_) #[true, true, false, true, false, true, true, false, true, false, false, true, false, true, true, false, true, false, true, true, false, true, false, false, true, false, true, true, false, true, false, true, true, false, true, false, false, true, false, true, true, false, true, false, true, true, false, true, false, false, true, false, false, false] rfl rfl (any_of HT_.out (by kernel_rfl)) (fun _ _ _ h => h) (Or.inl ⟨by rfl, ?_⟩) ?_ ?_
                rotate_left
                ·intro w'
                 go_simp
                 with_reducible rfl
                rotate_left
                ·simp only [Act.put, List.setIfInBounds_toArray, List.set_cons_zero, List.set_cons_succ, i64_w, i32_w]
                 rfl
                refine take_ (i := 2) (N := some 90) (v := ?_) (a' := ?_) #[true, true, true, true, false, true, true, false, true, false, false, true, false, true, true, false, true, false, true, true, false, true, false, false, true, false, true, true, false, true, false, true, true, false, true, false, false, true, false, true, true, false, true, false, true, true, false, true, false, false, true, false, false, false] rfl rfl (take_ofW HT_.out HW_.out (by kernel_rfl)) (fun _ _ _ h => h) (Or.inl ⟨by rfl, ?_⟩) hHeld ?_ ?_
                rotate_left
                ·rintro w' ⟨s0, s1, s2, s3, s4, s5, s6, s7, s8, s9⟩
                 go_simp
                 with_reducible rfl
                rotate_left
                ·simp only [Act.put, List.setIfInBounds_toArray, List.set_cons_zero, List.set_cons_succ, i64_w, i32_w]
                 rfl
                refine pure_ (i := 4) (N := some 92) (v := ?_) (a' := ?_) #[true, true, true, true, true, true, true, false, true, false, false, true, false, true, true, false, true, false, true, true, false, true, false, false, true, false, true, true, false, true, false, true, true, false, true, false, false, true, false, true, true, false, true, false, true, true, false, true, false, false, true, false, false, false] rfl rfl (any_of HT_.out (by kernel_rfl)) (fun _ _ _ h => h) (Or.inl ⟨by rfl, ?_⟩) ?_ ?_
                rotate_left
                ·intro w'
                 go_simp
                 with_reducible rfl
                rotate_left
                ·simp only [Act.put, List.setIfInBounds_toArray, List.set_cons_zero, List.set_cons_succ, i64_w, i32_w]
                 rfl
                refine take_ (i := 7) (N := some 95) (v := ?_) (a' := ?_) #[true, true, true, true, true, true, true, true, true, false, false, true, false, true, true, false, true, false, true, true, false, true, false, false, true, false, true, true, false, true, false, true, true, false, true, false, false, true, false, true, true, false, true, false, true, true, false, true, false, false, true, false, false, false] rfl rfl (take_ofW HT_.out HW_.out (by kernel_rfl)) (fun _ _ _ h => h) (Or.inl ⟨by rfl, ?_⟩) hHeld ?_ ?_
                rotate_left
                ·rintro w' ⟨s0, s1, s2, s3, s4, s5, s6, s7, s8, s9⟩
                 go_simp
                 with_reducible rfl
                rotate_left
                ·simp only [Act.put, List.setIfInBounds_toArray, List.set_cons_zero, List.set_cons_succ, i64_w, i32_w]
                 rfl
                refine pure_ (i := 9) (N := some 97) (v := ?_) (a' := ?_) #[true, true, true, true, true, true, true, true, true, true, false, true, false, true, true, false, true, false, true, true, false, true, false, false, true, false, true, true, false, true, false, true, true, false, true, false, false, true, false, true, true, false, true, false, true, true, false, true, false, false, true, false, false, false] rfl rfl (any_of HT_.out (by kernel_rfl)) (fun _ _ _ h => h) (Or.inl ⟨by rfl, ?_⟩) ?_ ?_
                rotate_left
                ·intro w'
                 go_simp
                 with_reducible rfl
                rotate_left
                ·simp only [Act.put, List.setIfInBounds_toArray, List.set_cons_zero, List.set_cons_succ, i64_w, i32_w]
                 rfl
                refine pure_ (i := 10) (N := some 98) (v := ?_) (a' := ?_) #[true, true, true, true, true, true, true, true, true, true, true, true, false, true, true, false, true, false, true, true, false, true, false, false, true, false, true, true, false, true, false, true, true, false, true, false, false, true, false, true, true, false, true, false, true, true, false, true, false, false, true, false, false, false] rfl rfl (any_of HT_.out (by kernel_rfl)) (fun _ _ _ h => h) (Or.inl ⟨by rfl, ?_⟩) ?_ ?_
                rotate_left
                ·intro w'
                 go_simp
                 with_reducible rfl
                rotate_left
                ·simp only [Act.put, List.setIfInBounds_toArray, List.set_cons_zero, List.set_cons_succ, i64_w, i32_w]
                 rfl
                refine pure_ (i := 12) (N := some 100) (v := ?_) (a' := ?_) #[true, true, true, true, true, true, true, true, true, true, true, true, true, true, true, false, true, false, true, true, false, true, false, false, true, false, true, true, false, true, false, true, true, false, true, false, false, true, false, true, true, false, true, false, true, true, false, true, false, false, true, false, false, false] rfl rfl (any_of HT_.out (by kernel_rfl)) (fun _ _ _ h => h) (Or.inl ⟨by rfl, ?_⟩) ?_ ?_
                rotate_left
                ·intro w'
                 go_simp
                 with_reducible rfl
                rotate_left
                ·simp only [Act.put, List.setIfInBounds_toArray, List.set_cons_zero, List.set_cons_succ, i64_w, i32_w]
                 rfl
                refine take_ (i := 15) (N := some 103) (v := ?_) (a' := ?_) #[true, true, true, true, true, true, true, true, true, true, true, true, true, true, true, true, true, false, true, true, false, true, false, false, true, false, true, true, false, true, false, true, true, false, true, false, false, true, false, true, true, false, true, false, true, true, false, true, false, false, true, false, false, false] rfl rfl (take_ofW HT_.out HW_.out (by kernel_rfl)) (fun _ _ _ h => h) (Or.inl ⟨by rfl, ?_⟩) hHeld ?_ ?_
                rotate_left
                ·rintro w' ⟨s0, s1, s2, s3, s4, s5, s6, s7, s8, s9⟩
                 go_simp
                 with_reducible rfl
                rotate_left
                ·simp only [Act.put, List.setIfInBounds_toArray, List.set_cons_zero, List.set_cons_succ, i64_w, i32_w]
                 rfl
                refine pure_ (i := 17) (N := some 105) (v := ?_) (a' := ?_) #[true, true, true, true, true, true, true, true, true, true, true, true, true, true, true, true, true, true, true, true, false, true, false, false, true, false, true, true, false, true, false, true, true, false, true, false, false, true, false, true, true, false, true, false, true, true, false, true, false, false, true, false, false, false] rfl rfl (any_of HT_.out (by kernel_rfl)) (fun _ _ _ h => h) (Or.inl ⟨by rfl, ?_⟩) ?_ ?_
                rotate_left
                ·intro w'
                 go_simp
                 with_reducible rfl
                rotate_left
                ·simp only [Act.put, List.setIfInBounds_toArray, List.set_cons_zero, List.set_cons_succ, i64_w, i32_w]
                 rfl
                refine take_ (i := 20) (N := some 108) (v := ?_) (a' := ?_) #[true, true, true, true, true, true, true, true, true, true, true, true, true, true, true, true, true, true, true, true, true, true, false, false, true, false, true, true, false, true, false, true, true, false, true, false, false, true, false, true, true, false, true, false, true, true, false, true, false, false, true, false, false, false] rfl rfl (take_ofW HT_.out HW_.out (by kernel_rfl)) (fun _ _ _ h => h) (Or.inl ⟨by rfl, ?_⟩) hHeld ?_ ?_
                rotate_left
                ·rintro w' ⟨s0, s1, s2, s3, s4, s5, s6, s7, s8, s9⟩
                 go_simp
                 with_reducible rfl
                rotate_left
                ·simp only [Act.put, List.setIfInBounds_toArray, List.set_cons_zero, List.set_cons_succ, i64_w, i32_w]
                 rfl
                refine pure_ (i := 22) (N := some 110) (v := ?_) (a' := ?_) #[true, true, true, true, true, true, true, true, true, true, true, true, true, true, true, true, true, true, true, true, true, true, true, false, true, false, true, true, false, true, false, true, true, false, true, false, false, true, false, true, true, false, true, false, true, true, false, true, false, false, true, false, false, false] rfl rfl (any_of HT_.out (by kernel_rfl)) (fun _ _ _ h => h) (Or.inl ⟨by rfl, ?_⟩) ?_ ?_
                rotate_left
                ·intro w'
                 go_simp
                 with_reducible rfl
                rotate_left
                ·simp only [Act.put, List.setIfInBounds_toArray, List.set_cons_zero, List.set_cons_succ, i64_w, i32_w]
                 rfl
                refine pure_ (i := 23) (N := some 111) (v := ?_) (a' := ?_) #[true, true, true, true, true, true, true, true, true, true, true, true, true, true, true, true, true, true, true, true, true, true, true, true, true, false, true, true, false, true, false, true, true, false, true, false, false, true, false, true, true, false, true, false, true, true, false, true, false, false, true, false, false, false] rfl rfl (any_of HT_.out (by kernel_rfl)) (fun _ _ _ h => h) (Or.inl ⟨by rfl, ?_⟩) ?_ ?_
                rotate_left
                ·intro w'
                 go_simp
                 with_reducible rfl
                rotate_left
                ·simp only [Act.put, List.setIfInBounds_toArray, List.set_cons_zero, List.set_cons_succ, i64_w, i32_w]
                 rfl
                refine pure_ (i := 25) (N := some 113) (v := ?_) (a' := ?_) #[true, true, true, true, true, true, true, true, true, true, true, true, true, true, true, true, true, true, true, true, true, true, true, true, true, true, true, true, false, true, false, true, true, false, true, false, false, true, false, true, true, false, true, false, true, true, false, true, false, false, true, false, false, false] rfl rfl (any_of HT_.out (by kernel_rfl)) (fun _ _ _ h => h) (Or.inl ⟨by rfl, ?_⟩) ?_ ?_
                rotate_left
                ·intro w'
                 go_simp
                 with_reducible rfl
                rotate_left
                ·simp only [Act.put, List.setIfInBounds_toArray, List.set_cons_zero, List.set_cons_succ, i64_w, i32_w]
                 rfl
                refine take_ (i := 28) (N := some 116) (v := ?_) (a' := ?_) #[true, true, true, true, true, true, true, true, true, true, true, true, true, true, true, true, true, true, true, true, true, true, true, true, true, true, true, true, true, true, false, true, true, false, true, false, false, true, false, true, true, false, true, false, true, true, false, true, false, false, true, false, false, false] rfl rfl (take_ofW HT_.out HW_.out (by kernel_rfl)) (fun _ _ _ h => h) (Or.inl ⟨by rfl, ?_⟩) hHeld ?_ ?_
                rotate_left
                ·rintro w' ⟨s0, s1, s2, s3, s4, s5, s6, s7, s8, s9⟩
                 go_simp
                 with_reducible rfl
                rotate_left
                ·simp only [Act.put, List.setIfInBounds_toArray, List.set_cons_zero, List.set_cons_succ, i64_w, i32_w]
                 rfl
                refine pure_ (i := 30) (N := some 118) (v := ?_) (a' := ?_) #[true, true, true, true, true, true, true, true, true, true, true, true, true, true, true, true, true, true, true, true, true, true, true, true, true, true, true, true, true, true, true, true, true, false, true, false, false, true, false, true, true, false, true, false, true, true, false, true, false, false, true, false, false, false] rfl rfl (any_of HT_.out (by kernel_rfl)) (fun _ _ _ h => h) (Or.inl ⟨by rfl, ?_⟩) ?_ ?_
                rotate_left
                ·intro w'
                 go_simp
                 with_reducible rfl
                rotate_left
                ·simp only [Act.put, List.setIfInBounds_toArray, List.set_cons_zero, List.set_cons_succ, i64_w, i32_w]
                 rfl
                refine take_ (i := 33) (N := some 121) (v := ?_) (a' := ?_) #[true, true, true, true, true, true, true, true, true, true, true, true, true, true, true, true, true, true, true, true, true, true, true, true, true, true, true, true, true, true, true, true, true, true, true, false, false, true, false, true, true, false, true, false, true, true, false, true, false, false, true, false, false, false] rfl rfl (take_ofW HT_.out HW_.out (by kernel_rfl)) (fun _ _ _ h => h) (Or.inl ⟨by rfl, ?_⟩) hHeld ?_ ?_
                rotate_left
                ·rintro w' ⟨s0, s1, s2, s3, s4, s5, s6, s7, s8, s9⟩
                 go_simp
                 with_reducible rfl
                rotate_left
                ·simp only [Act.put, List.setIfInBounds_toArray, List.set_cons_zero, List.set_cons_succ, i64_w, i32_w]
                 rfl
                refine pure_ (i := 35) (N := some 123) (v := ?_) (a' := ?_) #[true, true, true, true, true, true, true, true, true, true, true, true, true, true, true, true, true, true, true, true, true, true, true, true, true, true, true, true, true, true, true, true, true, true, true, true, false, true, false, true, true, false, true, false, true, true, false, true, false, false, true, false, false, false] rfl rfl (any_of HT_.out (by kernel_rfl)) (fun _ _ _ h => h) (Or.inl ⟨by rfl, ?_⟩) ?_ ?_
                rotate_left
                ·intro w'
                 go_simp
                 with_reducible rfl
                rotate_left
                ·simp only [Act.put, List.setIfInBounds_toArray, List.set_cons_zero, List.set_cons_succ, i64_w, i32_w]
                 rfl
                refine pure_ (i := 36) (N := some 124) (v := ?_) (a' := ?_) #[true, true, true, true, true, true, true, true, true, true, true, true, true, true, true, true, true, true, true, true, true, true, true, true, true, true, true, true, true, true, true, true, true, true, true, true, true, true, false, true, true, false, true, false, true, true, false, true, false, false, true, false, false, false] rfl rfl (any_of HT_.out (by kernel_rfl)) (fun _ _ _ h => h) (Or.inl ⟨by rfl, ?_⟩) ?_ ?_
                rotate_left
                ·intro w'
                 go_simp
                 with_reducible rfl
                rotate_left
                ·simp only [Act.put, List.setIfInBounds_toArray, List.set_cons_zero, List.set_cons_succ, i64_w, i32_w]
                 rfl
                refine pure_ (i := 38) (N := some 126) (v := ?_) (a' := ?_) #[true, true, true, true, true, true, true, true, true, true, true, true, true, true, true, true, true, true, true, true, true, true, true, true, true, true, true, true, true, true, true, true, true, true, true, true, true, true, true, true, true, false, true, false, true, true, false, true, false, false, true, false, false, false] rfl rfl (any_of HT_.out (by kernel_rfl)) (fun _ _ _ h => h) (Or.inl ⟨by rfl, ?_⟩) ?_ ?_
                rotate_left
                ·intro w'
                 go_simp
                 with_reducible rfl
                rotate_left
                ·simp only [Act.put, List.setIfInBounds_toArray, List.set_cons_zero, List.set_cons_succ, i64_w, i32_w]
                 rfl
                refine take_ (i := 41) (N := some 129) (v := ?_) (a' := ?_) #[true, true, true, true, true, true, true, true, true, true, true, true, true, true, true, true, true, true, true, true, true, true, true, true, true, true, true, true, true, true, true, true, true, true, true, true, true, true, true, true, true, true, true, false, true, true, false, true, false, false, true, false, false, false] rfl rfl (take_ofW HT_.out HW_.out (by kernel_rfl)) (fun _ _ _ h => h) (Or.inl ⟨by rfl, ?_⟩) hHeld ?_ ?_
                rotate_left
                ·rintro w' ⟨s0, s1, s2, s3, s4, s5, s6, s7, s8, s9⟩
                 go_simp
                 with_reducible rfl
                rotate_left
                ·simp only [Act.put, List.setIfInBounds_toArray, List.set_cons_zero, List.set_cons_succ, i64_w, i32_w]
                 rfl
                refine pure_ (i := 43) (N := some 131) (v := ?_) (a' := ?_) #[true, true, true, true, true, true, true, true, true, true, true, true, true, true, true, true, true, true, true, true, true, true, true, true, true, true, true, true, true, true, true, true, true, true, true, true, true, true, true, true, true, true, true, true, true, true, false, true, false, false, true, false, false, false] rfl rfl (any_of HT_.out (by kernel_rfl)) (fun _ _ _ h => h) (Or.inl ⟨by rfl, ?_⟩) ?_ ?_
                rotate_left
                ·intro w'
                 go_simp
                 with_reducible rfl
                rotate_left
                ·simp only [Act.put, List.setIfInBounds_toArray, List.set_cons_zero, List.set_cons_succ, i64_w, i32_w]
                 rfl
                refine take_ (i := 46) (N := some 134) (v := ?_) (a' := ?_) #[true, true, true, true, true, true, true, true, true, true, true, true, true, true, true, true, true, true, true, true, true, true, true, true, true, true, true, true, true, true, true, true, true, true, true, true, true, true, true, true, true, true, true, true, true, true, true, true, false, false, true, false, false, false] rfl rfl (take_ofW HT_.out HW_.out (by kernel_rfl)) (fun _ _ _ h => h) (Or.inl ⟨by rfl, ?_⟩) hHeld ?_ ?_
                rotate_left
                ·rintro w' ⟨s0, s1, s2, s3, s4, s5, s6, s7, s8, s9⟩
                 go_simp
                 with_reducible rfl
                rotate_left
                ·simp only [Act.put, List.setIfInBounds_toArray, List.set_cons_zero, List.set_cons_succ, i64_w, i32_w]
                 rfl
                refine pure_ (i := 48) (N := some 136) (v := ?_) (a' := ?_) #[true, true, true, true, true, true, true, true, true, true, true, true, true, true, true, true, true, true, true, true, true, true, true, true, true, true, true, true, true, true, true, true, true, true, true, true, true, true, true, true, true, true, true, true, true, true, true, true, true, false, true, false, false, false] rfl rfl (any_of HT_.out (by kernel_rfl)) (fun _ _ _ h => h) (Or.inl ⟨by rfl, ?_⟩) ?_ ?_
                rotate_left
                ·intro w'
                 go_simp
                 with_reducible rfl
                rotate_left
                ·simp only [Act.put, List.setIfInBounds_toArray, List.set_cons_zero, List.set_cons_succ, i64_w, i32_w]
                 rfl
                refine pure_ (i := 49) (N := some 137) (v := ?_) (a' := ?_) #[true, true, true, true, true, true, true, true, true, true, true, true, true, true, true, true, true, true, true, true, true, true, true, true, true, true, true, true, true, true, true, true, true, true, true, true, true, true, true, true, true, true, true, true, true, true, true, true, true, true, true, false, false, false] rfl rfl (any_of HT_.out (by kernel_rfl)) (fun _ _ _ h => h) (Or.inl ⟨by rfl, ?_⟩) ?_ ?_
                rotate_left
                ·intro w'
                 go_simp
                 with_reducible rfl
                rotate_left
                ·simp only [Act.put, List.setIfInBounds_toArray, List.set_cons_zero, List.set_cons_succ, i64_w, i32_w]
                 rfl
                refine pure_ (i := 51) (N := some 139) (v := ?_) (a' := ?_) #[true, true, true, true, true, true, true, true, true, true, true, true, true, true, true, true, true, true, true, true, true, true, true, true, true, true, true, true, true, true, true, true, true, true, true, true, true, true, true, true, true, true, true, true, true, true, true, true, true, true, true, true, false, false] rfl rfl (any_of HT_.out (by kernel_rfl)) (fun _ _ _ h => h) (Or.inl ⟨by rfl, ?_⟩) ?_ ?_
                rotate_left
                ·intro w'
                 go_simp
                 with_reducible rfl
                rotate_left
                ·simp only [Act.put, List.setIfInBounds_toArray, List.set_cons_zero, List.set_cons_succ, i64_w, i32_w]
                 rfl
                refine pure_ (i := 52) (N := some 140) (v := ?_) (a' := ?_) #[true, true, true, true, true, true, true, true, true, true, true, true, true, true, true, true, true, true, true, true, true, true, true, true, true, true, true, true, true, true, true, true, true, true, true, true, true, true, true, true, true, true, true, true, true, true, true, true, true, true, true, true, true, false] rfl rfl (any_of HT_.out (by kernel_rfl)) (fun _ _ _ h => h) (Or.inl ⟨by rfl, ?_⟩) ?_ ?_
                rotate_left
                ·intro w'
                 go_simp
                 with_reducible rfl
                rotate_left
                ·simp only [Act.put, List.setIfInBounds_toArray, List.set_cons_zero, List.set_cons_succ, i64_w, i32_w]
                 rfl
                refine one_ (i := 53) (N := none) #[true, true, true, true, true, true, true, true, true, true, true, true, true, true, true, true, true, true, true, true, true, true, true, true, true, true, true, true, true, true, true, true, true, true, true, true, true, true, true, true, true, true, true, true, true, true, true, true, true, true, true, true, true, true] rfl rfl (one_of HT_.out (by kernel_rfl)) (by decide) (fun K hK => ?_)
                have hs39 : w38.cell? ⟨gb114, 0, none⟩ = some (.int .i64 0) := (blk_cell BK114.out 0).trans rfl
                have hfs39 := blk_frozen BK114.out 0
                have hns39_1 := NB123_114.out
                have hns39_2 := NB125_114.out
                have hms39_1 := NB114_123.out
                have hms39_2 := NB114_125.out
                have hs40 : w38.cell? ⟨gb114, 1, none⟩ = some (.int .i64 0) := (blk_cell BK114.out 1).trans rfl
                have hfs40 := blk_frozen BK114.out 1
                have hns40_1 := NB123_114.out
                have hns40_2 := NB125_114.out
                have hms40_1 := NB114_123.out
                have hms40_2 := NB114_125.out
                have hs41 : w38.cell? ⟨gb114, 2, none⟩ = some (.int .i64 0) := (blk_cell BK114.out 2).trans rfl
                have hfs41 := blk_frozen BK114.out 2
                have hns41_1 := NB123_114.out
                have hns41_2 := NB125_114.out
                have hms41_1 := NB114_123.out
                have hms41_2 := NB114_125.out
                have hs42 : w38.cell? ⟨gb114, 3, none⟩ = some (.int .i64 0) := (blk_cell BK114.out 3).trans rfl
                have hfs42 := blk_frozen BK114.out 3
                have hns42_1 := NB123_114.out
                have hns42_2 := NB125_114.out
                have hms42_1 := NB114_123.out
                have hms42_2 := NB114_125.out
                refine skip_ (w1 := ?_) (by rfl) rfl ?_ ?_
                rotate_left
                ·go_simp
                 rfl
                refine hK.out _ _ ⟨((cell_far (p := ⟨gb114, _, none⟩) NB123_114.out _).trans (((cell_far (p := ⟨gb114, _, none⟩) NB123_114.out _).trans (((cell_far (p := ⟨gb114, _, none⟩) NB123_114.out _).trans (((cell_far (p := ⟨gb114, _, none⟩) NB123_114.out _).trans (hHeld.1)))))))), ((cell_far (p := ⟨gb114, _, none⟩) NB123_114.out _).trans (((cell_far (p := ⟨gb114, _, none⟩) NB123_114.out _).trans (((cell_far (p := ⟨gb114, _, none⟩) NB123_114.out _).trans (((cell_far (p := ⟨gb114, _, none⟩) NB123_114.out _).trans (hHeld.2.1)))))))), ((cell_far (p := ⟨gb114, _, none⟩) NB123_114.out _).trans (((cell_far (p := ⟨gb114, _, none⟩) NB123_114.out _).trans (((cell_far (p := ⟨gb114, _, none⟩) NB123_114.out _).trans (((cell_far (p := ⟨gb114, _, none⟩) NB123_114.out _).trans (hHeld.2.2.1)))))))), ((cell_far (p := ⟨gb114, _, none⟩) NB123_114.out _).trans (((cell_far (p := ⟨gb114, _, none⟩) NB123_114.out _).trans (((cell_far (p := ⟨gb114, _, none⟩) NB123_114.out _).trans (((cell_far (p := ⟨gb114, _, none⟩) NB123_114.out _).trans (hHeld.2.2.2.1)))))))), ((cell_far (p := ⟨gb114, _, none⟩) NB123_114.out _).trans (((cell_far (p := ⟨gb114, _, none⟩) NB123_114.out _).trans (((cell_far (p := ⟨gb114, _, none⟩) NB123_114.out _).trans (((cell_far (p := ⟨gb114, _, none⟩) NB123_114.out _).trans (hHeld.2.2.2.2.1)))))))), ((cell_far (p := ⟨gb114, _, none⟩) NB125_114.out _).trans (((cell_far (p := ⟨gb114, _, none⟩) NB125_114.out _).trans (((cell_far (p := ⟨gb114, _, none⟩) NB125_114.out _).trans (((cell_far (p := ⟨gb114, _, none⟩) NB125_114.out _).trans (hHeld.2.2.2.2.2.1)))))))), ((cell_far (p := ⟨gb114, _, none⟩) NB125_114.out _).trans (((cell_far (p := ⟨gb114, _, none⟩) NB125_114.out _).trans (((cell_far (p := ⟨gb114, _, none⟩) NB125_114.out _).trans (((cell_far (p := ⟨gb114, _, none⟩) NB125_114.out _).trans (hHeld.2.2.2.2.2.2.1)))))))), ((cell_far (p := ⟨gb114, _, none⟩) NB125_114.out _).trans (((cell_far (p := ⟨gb114, _, none⟩) NB125_114.out _).trans (((cell_far (p := ⟨gb114, _, none⟩) NB125_114.out _).trans (((cell_far (p := ⟨gb114, _, none⟩) NB125_114.out _).trans (hHeld.2.2.2.2.2.2.2.1)))))))), ((cell_far (p := ⟨gb114, _, none⟩) NB125_114.out _).trans (((cell_far (p := ⟨gb114, _, none⟩) NB125_114.out _).trans (((cell_far (p := ⟨gb114, _, none⟩) NB125_114.out _).trans (((cell_far (p := ⟨gb114, _, none⟩) NB125_114.out _).trans (hHeld.2.2.2.2.2.2.2.2.1)))))))), ((cell_far (p := ⟨gb114, _, none⟩) NB125_114.out _).trans (((cell_far (p := ⟨gb114, _, none⟩) NB125_114.out _).trans (((cell_far (p := ⟨gb114, _, none⟩) NB125_114.out _).trans (((cell_far (p := ⟨gb114, _, none⟩) NB125_114.out _).trans (hHeld.2.2.2.2.2.2.2.2.2))))))))⟩ (fun hHeld => ?_)
                clear hK K
                refine done_ (done_of HT_.out (by kernel_rfl)) ?_
                try go_wp2
                refine bodyPost_ret (results_cell_row rfl _ _ gb114 25 #[.int .i64 (wrap64 (Int.tdiv (wrap64 ((wrap64 (((rd_T103 l0 x7_2).f1.f0) * (wrap64 (((rd_T103 l0 (ji22)).f0) - x1_3)))) + (wrap64 (((rd_T103 l0 (ji22)).f1.f0) * (wrap64 (x1_3 - ((rd_T103 l0 x7_2).f0))))))) (wrap64 (((rd_T103 l0 (ji22)).f0) - ((rd_T103 l0 x7_2).f0))))), .int .i64 (wrap64 (Int.tdiv (wrap64 ((wrap64 (((rd_T103 l0 x7_2).f1.f1) * (wrap64 (((rd_T103 l0 (ji22)).f0) - x1_3)))) + (wrap64 (((rd_T103 l0 (ji22)).f1.f1) * (wrap64 (x1_3 - ((rd_T103 l0 x7_2).f0))))))) (wrap64 (((rd_T103 l0 (ji22)).f0) - ((rd_T103 l0 x7_2).f0))))), .int .i64 (wrap64 (Int.tdiv (wrap64 ((wrap64 (((rd_T103 l0 x7_2).f1.f2) * (wrap64 (((rd_T103 l0 (ji22)).f0) - x1_3)))) + (wrap64 (((rd_T103 l0 (ji22)).f1.f2) * (wrap64 (x1_3 - ((rd_T103 l0 x7_2).f0))))))) (wrap64 (((rd_T103 l0 (ji22)).f0) - ((rd_T103 l0 x7_2).f0))))), .int .i64 (wrap64 (Int.tdiv (wrap64 ((wrap64 (((rd_T103 l0 x7_2).f1.f3) * (wrap64 (((rd_T103 l0 (ji22)).f0) - x1_3)))) + (wrap64 (((rd_T103 l0 (ji22)).f1.f3) * (wrap64 (x1_3 - ((rd_T103 l0 x7_2).f0))))))) (wrap64 (((rd_T103 l0 (ji22)).f0) - ((rd_T103 l0 x7_2).f0)))))] (0, 0) _ rfl (by (with_reducible repeat (first | refine blk_drewN ?_ _ | refine blk_drew ?_ | refine blk_alloc ?_ _)); refine blk_put (cs := #[.int .i64 (wrap64 (Int.tdiv (wrap64 ((wrap64 (((rd_T103 l0 x7_2).f1.f0) * (wrap64 (((rd_T103 l0 (ji22)).f0) - x1_3)))) + (wrap64 (((rd_T103 l0 (ji22)).f1.f0) * (wrap64 (x1_3 - ((rd_T103 l0 x7_2).f0))))))) (wrap64 (((rd_T103 l0 (ji22)).f0) - ((rd_T103 l0 x7_2).f0))))), .int .i64 (wrap64 (Int.tdiv (wrap64 ((wrap64 (((rd_T103 l0 x7_2).f1.f1) * (wrap64 (((rd_T103 l0 (ji22)).f0) - x1_3)))) + (wrap64 (((rd_T103 l0 (ji22)).f1.f1) * (wrap64 (x1_3 - ((rd_T103 l0 x7_2).f0))))))) (wrap64 (((rd_T103 l0 (ji22)).f0) - ((rd_T103 l0 x7_2).f0))))), .int .i64 (wrap64 (Int.tdiv (wrap64 ((wrap64 (((rd_T103 l0 x7_2).f1.f2) * (wrap64 (((rd_T103 l0 (ji22)).f0) - x1_3)))) + (wrap64 (((rd_T103 l0 (ji22)).f1.f2) * (wrap64 (x1_3 - ((rd_T103 l0 x7_2).f0))))))) (wrap64 (((rd_T103 l0 (ji22)).f0) - ((rd_T103 l0 x7_2).f0))))), .int .i64 0]) ?_ 3 _ rfl; (with_reducible repeat (first | refine blk_drewN ?_ _ | refine blk_drew ?_ | refine blk_alloc ?_ _)); refine blk_put (cs := #[.int .i64 (wrap64 (Int.tdiv (wrap64 ((wrap64 (((rd_T103 l0 x7_2).f1.f0) * (wrap64 (((rd_T103 l0 (ji22)).f0) - x1_3)))) + (wrap64 (((rd_T103 l0 (ji22)).f1.f0) * (wrap64 (x1_3 - ((rd_T103 l0 x7_2).f0))))))) (wrap64 (((rd_T103 l0 (ji22)).f0) - ((rd_T103 l0 x7_2).f0))))), .int .i64 (wrap64 (Int.tdiv (wrap64 ((wrap64 (((rd_T103 l0 x7_2).f1.f1) * (wrap64 (((rd_T103 l0 (ji22)).f0) - x1_3)))) + (wrap64 (((rd_T103 l0 (ji22)).f1.f1) * (wrap64 (x1_3 - ((rd_T103 l0 x7_2).f0))))))) (wrap64 (((rd_T103 l0 (ji22)).f0) - ((rd_T103 l0 x7_2).f0))))), .int .i64 0, .int .i64 0]) ?_ 2 _ rfl; (with_reducible repeat (first | refine blk_drewN ?_ _ | refine blk_drew ?_ | refine blk_alloc ?_ _)); refine blk_put (cs := #[.int .i64 (wrap64 (Int.tdiv (wrap64 ((wrap64 (((rd_T103 l0 x7_2).f1.f0) * (wrap64 (((rd_T103 l0 (ji22)).f0) - x1_3)))) + (wrap64 (((rd_T103 l0 (ji22)).f1.f0) * (wrap64 (x1_3 - ((rd_T103 l0 x7_2).f0))))))) (wrap64 (((rd_T103 l0 (ji22)).f0) - ((rd_T103 l0 x7_2).f0))))), .int .i64 0, .int .i64 0, .int .i64 0]) ?_ 1 _ rfl; (with_reducible repeat (first | refine blk_drewN ?_ _ | refine blk_drew ?_ | refine blk_alloc ?_ _)); refine blk_put (cs := #[.int .i64 0, .int .i64 0, .int .i64 0, .int .i64 0]) ?_ 0 _ rfl; (with_reducible repeat (first | refine blk_drewN ?_ _ | refine blk_drew ?_ | refine blk_alloc ?_ _)); exact BK114.out) Try.underlying25 rfl (by kernel_rfl)) rfl ?_
                exact ⟨by first | rfl | (simp [errW_none, errW_some] <;> rfl) | (simp only [← hji17, ← hji22]; first | rfl | (simp [errW_none, errW_some] <;> rfl)) | (simp [*, errW_none, errW_some] <;> rfl), z.bl HB⟩
              ·rw [if_neg c27] at H
               exact absurd H (by simp)
             ·rw [if_neg c26] at H
              exact absurd H (by simp)
           ·rw [if_neg c24] at H
            exact absurd H (by simp)
          ·rw [if_neg c23] at H
           exact absurd H (by simp)
      ·rw [if_neg c19] at H
       exact absurd H (by simp)
     ·rw [if_neg c18] at H
      exact absurd H (by simp)
   ·rw [if_neg c14] at H
    exact absurd H (by simp)
end Go.Proofs.Ytiadieifofaobaa.HFnTints
