-- Printed by a program of this session over the kit's print; functions that the print does not take stand here by hand.
import Derived.Test.YtdbgnoolokfafaaZShort
import Derived.Test.YtdbgnoolokfafaaZHFnCoverx0
import Derived.Test.YtdbgnoolokfafaaZHFnCoverx6
import Derived.Test.YtdbgnoolokfafaaZHFnCoverx13
import Derived.Test.YtdbgnoolokfafaaZHFnCoverx20
import Derived.Test.YtdbgnoolokfafaaZHFnCoverx21
import Derived.Test.YtdbgnoolokfafaaZHFnCoverx22
import Derived.Test.YtdbgnoolokfafaaZHFnCoverx24
import Derived.Test.YtdbgnoolokfafaaZHFnCoverx25
namespace Go.Proofs.Ytdbgnoolokfafaa.HFnCover
open Go.RowKit Go.Proofs.YtdbgnoolokfafaaW.PrintWords Go.Proofs.YtdbgnoolokfafaaW.PrintLast Go.Proofs.YtdbgnoolokfafaaW.PrintMore
attribute [local go_sem] max2_int min2_int max_two min_two max_three min_three max_four min_four   -- for this text's walks alone
set_option linter.unusedVariables false
set_option linter.unusedSimpArgs false
/-! ### laws_FnCover: function 7 -/
mutual
def laws_FnCover.j0 : Nat → List Int → List (S83) → Int → Int → Bool → Bool → Bool → Int → Int → List Int → Option (Bool)
  | 0, _, _, _, _, _, _, _, _, _, _ => none
  | k + 1, x1, x5, x6, x7, x8, x10, x71, x381000, x381001, x381002 => if x71 = true then (some false) else (if x10 = true then ((laws_numberOf.f k x1).bind fun t389 => (laws_FnCover.l0 k x6 x7 x8 ([] : List (S83)) ([] : List (S83)) t389 x5 (x5.length : Int) 0 x381000 x381001 x381002)) else (some true))
def laws_FnCover.l0 : Nat → Int → Int → Bool → List (S83) → List (S83) → Int → List (S83) → Int → Int → Int → Int → List Int → Option (Bool)
  | 0, _, _, _, _, _, _, _, _, _, _, _, _ => none
  | k + 1, x6, x7, x8, x13, x14, x15, x76, x77, x78, x381000, x381001, x381002 => if x78 < x77 then (if 0 ≤ x78 then (if x78 < (x76.length : Int) then (laws_FnCover.l1 k x6 x7 x8 x13 x14 x15 (((rd_T83 x76 x78).f0).length : Int) x76 x77 x78 (((rd_T83 x76 x78).f0).length : Int) 0 x381000 x381001 x381002 ((rd_T83 x76 x78).f0) ((rd_T83 x76 x78).f1) ([] : List (S25)) ((rd_T83 x76 x78).f1) ([] : List (S25)) ((rd_T83 x76 x78).f1)) else (none)) else (none)) else ((impl_CoverOf.f k x13 x6 x7 x8).bind fun bt408 => ((impl_CoverOf.f k x14 x6 x7 x8).bind fun bt415 => ((impl_MeetMasks.f k x381000 x381001 x381002 x381000 x381001 x381002).bind fun bt422 => ((impl_SumOf.f k x381000 x381001 x381002).bind fun bt429 => ((impl_SumOf.f k bt422.1 bt422.2.1 bt422.2.2.1).bind fun bt431 => (if bt408.2.2.2 = true then (if bt415.2.2.2 = true then (if bt422.2.2.2 = true then (if bt429.2 = true then (if bt431.2 = true then ((laws_sameInts.f k bt408.2.2.1 x381002).bind fun t433 => (if t433 = true then ((laws_sameInts.f k bt415.2.2.1 x381002).bind fun t434 => (if t434 = true then (some (decide (bt431.1 ≤ bt429.1))) else (some false))) else (some false))) else (some false)) else (some false)) else (some false)) else (some false)) else (some false)))))))
def laws_FnCover.l1 : Nat → Int → Int → Bool → List (S83) → List (S83) → Int → Int → List (S83) → Int → Int → Int → Int → Int → Int → List Int → List (S25) → Bool → List (S25) → Bool → List (S25) → Bool → Option (Bool)
  | 0, _, _, _, _, _, _, _, _, _, _, _, _, _, _, _, _, _, _, _, _, _ => none
  | k + 1, x6, x7, x8, x13, x14, x15, x18, x76, x77, x78, x93, x94, x381000, x381001, x381002, x392000, x392001, x393000, x393001, x394000, x394001 => if x94 < x93 then (if 0 ≤ (wrap64 ((wrap64 (x18 - 1)) - x94)) then (if (wrap64 ((wrap64 (x18 - 1)) - x94)) < (x392000.length : Int) then (if x393000.length < 8796093022208 then (if x18 = 0 then (none) else (if 0 ≤ (Int.tmod (wrap64 (x94 + x15)) x18) then (if (Int.tmod (wrap64 (x94 + x15)) x18) < (x392000.length : Int) then (if x394000.length < 8796093022208 then (laws_FnCover.l1 k x6 x7 x8 x13 x14 x15 x18 x76 x77 x78 x93 (wrap64 (x94 + 1)) x381000 x381001 x381002 x392000 x392001 (x393000 ++ [(⟨(rd_T25 x392000 (wrap64 ((wrap64 (x18 - 1)) - x94))).f0, (rd_T25 x392000 (wrap64 ((wrap64 (x18 - 1)) - x94))).f1⟩ : S25)]) x393001 (x394000 ++ [(⟨(rd_T25 x392000 (Int.tmod (wrap64 (x94 + x15)) x18)).f0, (rd_T25 x392000 (Int.tmod (wrap64 (x94 + x15)) x18)).f1⟩ : S25)]) x394001) else (none)) else (none)) else (none))) else (none)) else (none)) else (none)) else (if x13.length < 4398046511104 then (if x14.length < 4398046511104 then (laws_FnCover.l0 k x6 x7 x8 (x13 ++ [(⟨x393000, x393001⟩ : S83)]) (x14 ++ [(⟨x394000, x394001⟩ : S83)]) x15 x76 x77 (wrap64 (x78 + 1)) x381000 x381001 x381002) else (none)) else (none))
end
def laws_FnCover.f (k : Nat) (l0 : List Int) (l1 : List Int) : Option (Bool) := if (wrap64 ((l0.length : Int) + (l1.length : Int))) > 1048576 then (some true) else ((spec_DrawCoverOf.f k l0).bind fun bt368 => ((impl_CoverOf.f k bt368.1 bt368.2.1 bt368.2.2.1 bt368.2.2.2).bind fun bt374 => ((spec_CoverOf.f k bt368.1 bt368.2.1 bt368.2.2.1 bt368.2.2.2).bind fun bt381 => (if (bt374.2.2.2 != bt381.2.2.2) = true then (laws_FnCover.j0 k l1 bt368.1 bt368.2.1 bt368.2.2.1 bt368.2.2.2 bt374.2.2.2 true bt374.1 bt374.2.1 bt374.2.2.1) else ((laws_sameInts.f k bt374.2.2.1 bt381.2.2.1).bind fun t388 => (laws_FnCover.j0 k l1 bt368.1 bt368.2.1 bt368.2.2.1 bt368.2.2.2 bt374.2.2.2 (!t388) bt374.1 bt374.2.1 bt374.2.2.1))))))
theorem laws_FnCover.mono_l : ∀ k, (∀ y0 y1 y2 y3 y4 y5 y6 y7 y8 y9, LeO (laws_FnCover.j0 k y0 y1 y2 y3 y4 y5 y6 y7 y8 y9) (laws_FnCover.j0 (k + 1) y0 y1 y2 y3 y4 y5 y6 y7 y8 y9)) ∧ (∀ y0 y1 y2 y3 y4 y5 y6 y7 y8 y9 y10 y11, LeO (laws_FnCover.l0 k y0 y1 y2 y3 y4 y5 y6 y7 y8 y9 y10 y11) (laws_FnCover.l0 (k + 1) y0 y1 y2 y3 y4 y5 y6 y7 y8 y9 y10 y11)) ∧ (∀ y0 y1 y2 y3 y4 y5 y6 y7 y8 y9 y10 y11 y12 y13 y14 y15 y16 y17 y18 y19 y20, LeO (laws_FnCover.l1 k y0 y1 y2 y3 y4 y5 y6 y7 y8 y9 y10 y11 y12 y13 y14 y15 y16 y17 y18 y19 y20) (laws_FnCover.l1 (k + 1) y0 y1 y2 y3 y4 y5 y6 y7 y8 y9 y10 y11 y12 y13 y14 y15 y16 y17 y18 y19 y20))
  | 0 => ⟨fun _ _ _ _ _ _ _ _ _ _ r h => by simp [laws_FnCover.j0] at h, fun _ _ _ _ _ _ _ _ _ _ _ _ r h => by simp [laws_FnCover.l0] at h, fun _ _ _ _ _ _ _ _ _ _ _ _ _ _ _ _ _ _ _ _ _ r h => by simp [laws_FnCover.l1] at h⟩
  | k + 1 => by
    obtain ⟨ih0, ih1, ih2⟩ := laws_FnCover.mono_l k
    refine ⟨?_, ?_, ?_⟩
    · intro y0 y1 y2 y3 y4 y5 y6 y7 y8 y9
      unfold laws_FnCover.j0
      repeat' first
    | with_reducible exact ih0 _ _ _ _ _ _ _ _ _ _
    | with_reducible exact ih1 _ _ _ _ _ _ _ _ _ _ _ _
    | with_reducible exact ih2 _ _ _ _ _ _ _ _ _ _ _ _ _ _ _ _ _ _ _ _ _
    | with_reducible exact impl_CoverOf.mono ..
    | with_reducible exact impl_MeetMasks.mono ..
    | with_reducible exact impl_SumOf.mono ..
    | with_reducible exact laws_numberOf.mono ..
    | with_reducible exact laws_sameInts.mono ..
    | with_reducible exact spec_CoverOf.mono ..
    | with_reducible exact spec_DrawCoverOf.mono ..
    | with_reducible exact LeO.refl _
    | with_reducible exact LeO.none _
    | with_reducible refine LeO.ite ?_ ?_
    | with_reducible refine LeO.bind ?_ (fun _ => ?_)
    | exact ih0 _ _ _ _ _ _ _ _ _ _
    | exact ih1 _ _ _ _ _ _ _ _ _ _ _ _
    | exact ih2 _ _ _ _ _ _ _ _ _ _ _ _ _ _ _ _ _ _ _ _ _
    | exact LeO.none _
    | refine LeO.ite ?_ ?_
    | refine LeO.bind ?_ (fun _ => ?_)
    · intro y0 y1 y2 y3 y4 y5 y6 y7 y8 y9 y10 y11
      unfold laws_FnCover.l0
      repeat' first
    | with_reducible exact ih0 _ _ _ _ _ _ _ _ _ _
    | with_reducible exact ih1 _ _ _ _ _ _ _ _ _ _ _ _
    | with_reducible exact ih2 _ _ _ _ _ _ _ _ _ _ _ _ _ _ _ _ _ _ _ _ _
    | with_reducible exact impl_CoverOf.mono ..
    | with_reducible exact impl_MeetMasks.mono ..
    | with_reducible exact impl_SumOf.mono ..
    | with_reducible exact laws_numberOf.mono ..
    | with_reducible exact laws_sameInts.mono ..
    | with_reducible exact spec_CoverOf.mono ..
    | with_reducible exact spec_DrawCoverOf.mono ..
    | with_reducible exact LeO.refl _
    | with_reducible exact LeO.none _
    | with_reducible refine LeO.ite ?_ ?_
    | with_reducible refine LeO.bind ?_ (fun _ => ?_)
    | exact ih0 _ _ _ _ _ _ _ _ _ _
    | exact ih1 _ _ _ _ _ _ _ _ _ _ _ _
    | exact ih2 _ _ _ _ _ _ _ _ _ _ _ _ _ _ _ _ _ _ _ _ _
    | exact LeO.none _
    | refine LeO.ite ?_ ?_
    | refine LeO.bind ?_ (fun _ => ?_)
    · intro y0 y1 y2 y3 y4 y5 y6 y7 y8 y9 y10 y11 y12 y13 y14 y15 y16 y17 y18 y19 y20
      unfold laws_FnCover.l1
      repeat' first
    | with_reducible exact ih0 _ _ _ _ _ _ _ _ _ _
    | with_reducible exact ih1 _ _ _ _ _ _ _ _ _ _ _ _
    | with_reducible exact ih2 _ _ _ _ _ _ _ _ _ _ _ _ _ _ _ _ _ _ _ _ _
    | with_reducible exact impl_CoverOf.mono ..
    | with_reducible exact impl_MeetMasks.mono ..
    | with_reducible exact impl_SumOf.mono ..
    | with_reducible exact laws_numberOf.mono ..
    | with_reducible exact laws_sameInts.mono ..
    | with_reducible exact spec_CoverOf.mono ..
    | with_reducible exact spec_DrawCoverOf.mono ..
    | with_reducible exact LeO.refl _
    | with_reducible exact LeO.none _
    | with_reducible refine LeO.ite ?_ ?_
    | with_reducible refine LeO.bind ?_ (fun _ => ?_)
    | exact ih0 _ _ _ _ _ _ _ _ _ _
    | exact ih1 _ _ _ _ _ _ _ _ _ _ _ _
    | exact ih2 _ _ _ _ _ _ _ _ _ _ _ _ _ _ _ _ _ _ _ _ _
    | exact LeO.none _
    | refine LeO.ite ?_ ?_
    | refine LeO.bind ?_ (fun _ => ?_)
theorem laws_FnCover.mono : ∀ a0 a1 k, LeO (laws_FnCover.f k a0 a1) (laws_FnCover.f (k + 1) a0 a1) := by
  intro a0 a1 k
  obtain ⟨ih0, ih1, ih2⟩ := laws_FnCover.mono_l k
  unfold laws_FnCover.f
  repeat' first
    | with_reducible exact ih0 _ _ _ _ _ _ _ _ _ _
    | with_reducible exact ih1 _ _ _ _ _ _ _ _ _ _ _ _
    | with_reducible exact ih2 _ _ _ _ _ _ _ _ _ _ _ _ _ _ _ _ _ _ _ _ _
    | with_reducible exact impl_CoverOf.mono ..
    | with_reducible exact impl_MeetMasks.mono ..
    | with_reducible exact impl_SumOf.mono ..
    | with_reducible exact laws_numberOf.mono ..
    | with_reducible exact laws_sameInts.mono ..
    | with_reducible exact spec_CoverOf.mono ..
    | with_reducible exact spec_DrawCoverOf.mono ..
    | with_reducible exact LeO.refl _
    | with_reducible exact LeO.none _
    | with_reducible refine LeO.ite ?_ ?_
    | with_reducible refine LeO.bind ?_ (fun _ => ?_)
    | exact ih0 _ _ _ _ _ _ _ _ _ _
    | exact ih1 _ _ _ _ _ _ _ _ _ _ _ _
    | exact ih2 _ _ _ _ _ _ _ _ _ _ _ _ _ _ _ _ _ _ _ _ _
    | exact LeO.none _
    | refine LeO.ite ?_ ?_
    | refine LeO.bind ?_ (fun _ => ?_)
def laws_FnCover.T21 : Bool × List (List Nat × List Nat) := (true, [([], []), ([0], [0]), ([], []), ([2], [2]), ([], []), ([4], [4]), ([], []), ([5, 6], [5, 6]), ([3, 7], [3, 7]), ([8], [8]), ([9], [9]), ([1, 10], [1, 10]), ([0, 1, 2, 3, 4, 5, 6, 7, 8, 9, 10, 11], []), ([12, 11, 11, 0, 1, 2, 3, 4, 5, 6, 7, 8, 9, 10, 11], [11, 12])])
def laws_FnCover.B21 : List Nat := [0, 1, 0, 4, 0, 16, 0, 112, 252, 508, 1020, 2047, 4095, 8191]
theorem laws_FnCover.tab21 : rtab .any (opsOf Try.f7 21) = laws_FnCover.T21 := by kernel_rfl
theorem laws_FnCover.bits21 : waitsOk laws_FnCover.T21.2 laws_FnCover.B21 = true := by kernel_rfl
def laws_FnCover.T22 : Bool × List (List Nat × List Nat) := (true, [([], []), ([0], [0]), ([], []), ([2], [2]), ([], []), ([], []), ([4, 5], [4, 5]), ([], []), ([6, 7], [6, 7]), ([3, 8], [3, 8]), ([9], [9]), ([10], [10]), ([1, 11], [1, 11]), ([0, 1, 2, 3, 4, 5, 6, 7, 8, 9, 10, 11, 12], []), ([13, 12, 12, 0, 1, 2, 3, 4, 5, 6, 7, 8, 9, 10, 11, 12], [12, 13])])
def laws_FnCover.B22 : List Nat := [0, 1, 0, 4, 0, 0, 48, 0, 240, 508, 1020, 2044, 4095, 8191, 16383]
theorem laws_FnCover.tab22 : rtab .any (opsOf Try.f7 22) = laws_FnCover.T22 := by kernel_rfl
theorem laws_FnCover.bits22 : waitsOk laws_FnCover.T22.2 laws_FnCover.B22 = true := by kernel_rfl
set_option maxHeartbeats 8000000 in
set_option maxRecDepth 100000 in
theorem laws_FnCover.calls (k : Nat) (A0 : Option Addr) (c0 : Nat) (l0 : List Int) (A1 : Option Addr) (c1 : Nat) (l1 : List Int) (r : Bool) (hrt : r = true) (w : World) (hr0 : Kd.C (Kd.int .u8) w A0 l0.length l0) (hc0 : l0.length ≤ c0) (hr1 : Kd.C (Kd.int .u8) w A1 l1.length l1) (hc1 : l1.length ≤ c1) (h : laws_FnCover.f k l0 l1 = some r) :
    Calls Try.prog 7 #[.slice A0 l0.length c0, .slice A1 l1.length c1] w fun e w' => e = .returned (.bool r) ∧ Below w.heap.size w w' := by
 have hu67 := Try.underlying67
 have hu83 := Try.underlying83
 have hu25 := Try.underlying25
 have HR0 := Aside0.mk hr0
 have HC0 := Aside0.mk hc0
 clear hr0 hc0
 have HR1 := Aside0.mk hr1
 have HC1 := Aside0.mk hc1
 clear hr1 hc1
 have HB := Aside0.mk (Below.refl w.heap.size w)
 have H : (if (wrap64 ((l0.length : Int) + (l1.length : Int))) > 1048576 then (some true) else ((spec_DrawCoverOf.f k l0).bind fun bt368 => ((impl_CoverOf.f k bt368.1 bt368.2.1 bt368.2.2.1 bt368.2.2.2).bind fun bt374 => ((spec_CoverOf.f k bt368.1 bt368.2.1 bt368.2.2.1 bt368.2.2.2).bind fun bt381 => (if (bt374.2.2.2 != bt381.2.2.2) = true then (laws_FnCover.j0 k l1 bt368.1 bt368.2.1 bt368.2.2.1 bt368.2.2.2 bt374.2.2.2 true bt374.1 bt374.2.1 bt374.2.2.1) else ((laws_sameInts.f k bt374.2.2.1 bt381.2.2.1).bind fun t388 => (laws_FnCover.j0 k l1 bt368.1 bt368.2.1 bt368.2.2.1 bt368.2.2.2 bt374.2.2.2 (!t388) bt374.1 bt374.2.1 bt374.2.2.1))))))) = some r := h
 clear h
 by_cases c3 : (wrap64 ((l0.length : Int) + (l1.length : Int))) > 1048576
 ·rw [if_pos c3] at H
  have c3b0 : decide (1048576 < (wrap64 ((l0.length : Int) + (l1.length : Int)))) = true := decide_eq_true c3
  clear c3
  obtain rfl := Option.some.inj H
  go_enter Try.func7, Try.ntmps7
  go_wp2
  go_ret
  exact ⟨by first | rfl | (simp [errW_none, errW_some] <;> rfl) | (simp [*, errW_none, errW_some] <;> rfl), z.bl HB⟩
 ·rw [if_neg c3] at H
  have c3b0 : decide (1048576 < (wrap64 ((l0.length : Int) + (l1.length : Int)))) = false := decide_eq_false c3
  clear c3
  replace H := Option.bind_eq_some_iff.mp H
  obtain ⟨⟨t368, t369, t370, t371⟩, A40, H⟩ := H
  replace H : ((impl_CoverOf.f k t368 t369 t370 t371).bind fun bt374 => ((spec_CoverOf.f k t368 t369 t370 t371).bind fun bt381 => (if (bt374.2.2.2 != bt381.2.2.2) = true then (laws_FnCover.j0 k l1 t368 t369 t370 t371 bt374.2.2.2 true bt374.1 bt374.2.1 bt374.2.2.1) else ((laws_sameInts.f k bt374.2.2.1 bt381.2.2.1).bind fun t388 => (laws_FnCover.j0 k l1 t368 t369 t370 t371 bt374.2.2.2 (!t388) bt374.1 bt374.2.1 bt374.2.2.1))))) = some r := H
  have A4 := Aside0.mk A40
  clear A40
  replace H := Option.bind_eq_some_iff.mp H
  obtain ⟨⟨t374, t375, t376, t379⟩, A50, H⟩ := H
  replace H : ((spec_CoverOf.f k t368 t369 t370 t371).bind fun bt381 => (if (t379 != bt381.2.2.2) = true then (laws_FnCover.j0 k l1 t368 t369 t370 t371 t379 true t374 t375 t376) else ((laws_sameInts.f k t376 bt381.2.2.1).bind fun t388 => (laws_FnCover.j0 k l1 t368 t369 t370 t371 t379 (!t388) t374 t375 t376)))) = some r := H
  have A5 := Aside0.mk A50
  clear A50
  replace H := Option.bind_eq_some_iff.mp H
  obtain ⟨⟨t381, t382, t383, t386⟩, A60, H⟩ := H
  replace H : (if (t379 != t386) = true then (laws_FnCover.j0 k l1 t368 t369 t370 t371 t379 true t374 t375 t376) else ((laws_sameInts.f k t376 t383).bind fun t388 => (laws_FnCover.j0 k l1 t368 t369 t370 t371 t379 (!t388) t374 t375 t376))) = some r := H
  have A6 := Aside0.mk A60
  clear A60
  have HC7 := Aside0.mk H
  clear H
  go_enter Try.func7, Try.ntmps7
  go_upto_region 6 with (first | ((with_reducible refine gate_callee (f := 44) rfl ?_); refine z.gl (some 40) rfl rfl Try.func44 (by kernel_rfl) rfl #[.slice A0 l0.length c0] rfl ?_; (with_reducible refine (spec_DrawCoverOf.calls k _ _ l0 t368 t369 t370 t371 _ ?side1 ?side2 A4.out).mono ?_); (case side1 => repeat (first | exact HR0.out | (with_reducible refine Kd.C_alloc ?_ _) | (with_reducible refine Kd.C_drewN ?_ _) | (with_reducible refine Kd.C_drew ?_))); (case side2 => exact HC0.out); rintro e w8 ⟨v372, rfl, ho0, hb⟩; refine ⟨_, rfl, ?_⟩; have HO373 := Aside0.mk (Kd.S_lower ho0 (below_size (z.bl HB))); replace HB := Aside0.mk (below_step (z.bl HB) hb); (try clear hb); (try clear hb2); (try clear hk); (try clear hi); (try clear ho0); obtain ⟨Ao9, co9, eo9⟩ := Kd.S_slice HO373.out; subst eo9) | ((with_reducible refine gate_callee (f := 45) rfl ?_); refine z.gl (some 50) rfl rfl Try.func45 (by kernel_rfl) rfl #[.slice Ao9 t368.length co9, .int .i64 t369, .int .i64 t370, .bool t371] rfl ?_; (with_reducible refine (impl_CoverOf.calls k _ _ t368 t369 t370 t371 t374 t375 t376 t379 _ ?side1 ?side2 A5.out).mono ?_); (case side1 => repeat (first | exact (Kd.S_reads' HO373.out).2.2 | (with_reducible refine Kd.C_alloc ?_ _) | (with_reducible refine Kd.C_drewN ?_ _) | (with_reducible refine Kd.C_drew ?_))); (case side2 => exact (Kd.S_reads' HO373.out).2.1); rintro e w10 ⟨v377, rfl, ho0, hb⟩; refine ⟨_, rfl, ?_⟩; replace HO373 := Aside0.mk (Kd.S_below (by (with_reducible repeat (first | apply Kd.S_alloc | apply Kd.S_drewN | apply Kd.S_drew)); exact HO373.out) hb); have HO378 := Aside0.mk (Kd.R_lower ho0 (below_size (z.bl HB))); replace HB := Aside0.mk (below_step (z.bl HB) hb); (try clear hb); (try clear hb2); (try clear hk); (try clear hi); (try clear ho0)) | ((with_reducible refine gate_dst (N := 9) rfl ?_); refine box_event ?hg (N := 9) ?hd (cs := #[.int .i64 0, .int .i64 0, .slice none 0 0]) (t := 67) ?hr ?_; (case hd => rfl); (case hg => rfl); (case hr => first | (go_simp; done) | (go_simp; rfl)); intro gb380 hg w11 hbox hb; replace HO373 := Aside0.mk (Kd.S_below (by (with_reducible repeat (first | apply Kd.S_alloc | apply Kd.S_drewN | apply Kd.S_drew)); exact HO373.out) hb); replace HO378 := z.rb HO378 hb; have BK380 := Aside0.mk (hbox); have GW380 := Aside0.mk ((by rw [hg]; exact (below_size (z.bl HB)) : w.heap.size ≤ gb380)); have GE380 := Aside0.mk ((by rw [hg]; exact (below_size (z.bl HB)) : w.heap.size ≤ gb380)); replace HB := Aside0.mk (below_step (z.bl HB) hb); clear hb hbox hg; have hcz12_0 : w11.cell? ⟨gb380, 0, none⟩ = some (.int .i64 0) := (blk_cell BK380.out 0).trans rfl; have hcz12_1 : w11.cell? ⟨gb380, 1, none⟩ = some (.int .i64 0) := (blk_cell BK380.out 1).trans rfl; have hcz12_2 : w11.cell? ⟨gb380, 2, none⟩ = some (.slice none 0 0) := (blk_cell BK380.out 2).trans rfl; have hfz12_0 := blk_frozen BK380.out 0; have hfz12_1 := blk_frozen BK380.out 1; have hfz12_2 := blk_frozen BK380.out 2; obtain ⟨Ao13, co13, eo13⟩ := Kd.R_slice HO378.out; subst eo13) | ((with_reducible refine gate_callee (f := 46) rfl ?_); refine z.gl (some 58) rfl rfl Try.func46 (by kernel_rfl) rfl #[.slice Ao9 t368.length co9, .int .i64 t369, .int .i64 t370, .bool t371] rfl ?_; (with_reducible refine (spec_CoverOf.calls k _ _ t368 t369 t370 t371 t381 t382 t383 t386 _ ?side1 ?side2 A6.out).mono ?_); (case side1 => refine (Kd.S_reads' (e := 83) (base := w.heap.size) (ok := fun k_ => True) (n := t368.length) (c := co9) ?_).2.2; exact (by (with_reducible repeat (first | apply Kd.S_alloc | apply Kd.S_drewN | apply Kd.S_drew)); exact (Kd.S_mono (Kd.S_far (p := ⟨gb380, 2, none⟩) (Kd.S_far (p := ⟨gb380, 1, none⟩) (Kd.S_far (p := ⟨gb380, 0, none⟩) (Kd.S_types HO373.out BK380.out (by decide)) (fun _ hk => hk.2) (.int .i64 t374)) (fun _ hk => hk.2) (.int .i64 t375)) (fun _ hk => hk.2) (.slice Ao13 t376.length co13)) (fun _ h_ => h_.1)))); (case side2 => exact (Kd.S_reads' HO373.out).2.1); rintro e w14 ⟨v384, rfl, ho0, hb⟩; refine ⟨_, rfl, ?_⟩; replace HO373 := Aside0.mk (Kd.S_below (by (with_reducible repeat (first | apply Kd.S_alloc | apply Kd.S_drewN | apply Kd.S_drew)); exact (Kd.S_mono (Kd.S_far (p := ⟨gb380, 2, none⟩) (Kd.S_far (p := ⟨gb380, 1, none⟩) (Kd.S_far (p := ⟨gb380, 0, none⟩) (Kd.S_types HO373.out BK380.out (by decide)) (fun _ hk => hk.2) (.int .i64 t374)) (fun _ hk => hk.2) (.int .i64 t375)) (fun _ hk => hk.2) (.slice Ao13 t376.length co13)) (fun _ h_ => h_.1))) hb); have HO385 := Aside0.mk (Kd.R_lower (Kd.R_new' ho0 (Kd.R_lt (z.rl ((Kd.R_mono (Kd.R_far (p := ⟨gb380, 2, none⟩) (Kd.R_far (p := ⟨gb380, 1, none⟩) (Kd.R_far (p := ⟨gb380, 0, none⟩) (Kd.R_types HO378.out BK380.out (by decide)) (fun _ hk => hk.2) (.int .i64 t374)) (fun _ hk => hk.2) (.int .i64 t375)) (fun _ hk => hk.2) (.slice Ao13 t376.length co13)) (fun _ h_ => h_.1)))))) (below_size (z.bl HB))); replace HO378 := Aside0.mk (Kd.R_elder' (z.rl ((Kd.R_mono (Kd.R_far (p := ⟨gb380, 2, none⟩) (Kd.R_far (p := ⟨gb380, 1, none⟩) (Kd.R_far (p := ⟨gb380, 0, none⟩) (Kd.R_types HO378.out BK380.out (by decide)) (fun _ hk => hk.2) (.int .i64 t374)) (fun _ hk => hk.2) (.int .i64 t375)) (fun _ hk => hk.2) (.slice Ao13 t376.length co13)) (fun _ h_ => h_.1)))) (Kd.R_base ho0) hb); replace BK380 := Aside0.mk (blk_below (g := gb380) (o := .cells #[.int .i64 t374, .int .i64 t375, .slice Ao13 t376.length co13] 67 (0, 0)) (by (with_reducible repeat (first | refine blk_drewN ?_ _ | refine blk_drew ?_ | refine blk_alloc ?_ _)); refine blk_put (cs := #[.int .i64 t374, .int .i64 t375, .slice none 0 0]) ?_ 2 _ rfl; (with_reducible repeat (first | refine blk_drewN ?_ _ | refine blk_drew ?_ | refine blk_alloc ?_ _)); refine blk_put (cs := #[.int .i64 t374, .int .i64 0, .slice none 0 0]) ?_ 1 _ rfl; (with_reducible repeat (first | refine blk_drewN ?_ _ | refine blk_drew ?_ | refine blk_alloc ?_ _)); refine blk_put (cs := #[.int .i64 0, .int .i64 0, .slice none 0 0]) ?_ 0 _ rfl; (with_reducible repeat (first | refine blk_drewN ?_ _ | refine blk_drew ?_ | refine blk_alloc ?_ _)); exact BK380.out) hb); replace HB := Aside0.mk (below_step (z.bl HB) hb); (try clear hb); (try clear hb2); (try clear hk); (try clear hi); (try clear ho0)) | ((with_reducible refine gate_dst (N := 11) rfl ?_); refine box_event ?hg (N := 11) ?hd (cs := #[.int .i64 0, .int .i64 0, .slice none 0 0]) (t := 67) ?hr ?_; (case hd => rfl); (case hg => rfl); (case hr => first | (go_simp; done) | (go_simp; rfl)); intro gb387 hg w15 hbox hb; replace HO373 := Aside0.mk (Kd.S_below (by (with_reducible repeat (first | apply Kd.S_alloc | apply Kd.S_drewN | apply Kd.S_drew)); exact HO373.out) hb); replace HO378 := z.rb HO378 hb; replace HO385 := z.rb HO385 hb; have BK387 := Aside0.mk (hbox); have GW387 := Aside0.mk ((by rw [hg]; exact (below_size (z.bl HB)) : w.heap.size ≤ gb387)); have GE387 := Aside0.mk ((by rw [hg]; exact (below_size (z.bl HB)) : w.heap.size ≤ gb387)); replace HB := Aside0.mk (below_step (z.bl HB) hb); have NB380_387 := z.ht BK380 hg; have NB387_380 := z.hu BK380 hg; replace BK380 := z.bb BK380 hb; clear hb hbox hg; have hnb16 := NB387_380.out; have hnc16 := NB380_387.out; have hcz17_0 : w15.cell? ⟨gb387, 0, none⟩ = some (.int .i64 0) := (blk_cell BK387.out 0).trans rfl; have hcz17_1 : w15.cell? ⟨gb387, 1, none⟩ = some (.int .i64 0) := (blk_cell BK387.out 1).trans rfl; have hcz17_2 : w15.cell? ⟨gb387, 2, none⟩ = some (.slice none 0 0) := (blk_cell BK387.out 2).trans rfl; have hfz17_0 := blk_frozen BK387.out 0; have hfz17_1 := blk_frozen BK387.out 1; have hfz17_2 := blk_frozen BK387.out 2; obtain ⟨Ao18, co18, eo18⟩ := Kd.R_slice HO385.out; subst eo18))
  (try simp only [Act.put, List.setIfInBounds_toArray, List.set_cons_zero, List.set_cons_succ])
  go_cut [71] (fun v71 wc => ∃ (kq : Nat) (x71_6 : Bool), v71 = .bool x71_6 ∧ Aside0 (laws_FnCover.j0 kq l1 t368 t369 t370 t371 t379 x71_6 t374 t375 t376 = some r) ∧ Aside0 (kq ≤ k) ∧ Aside0 (Kd.S k83 83 wc w.heap.size (fun _ => True) (.slice Ao9 t368.length co9) t368) ∧ Aside0 (Kd.R (Kd.int .i64) 3 wc w.heap.size (fun k_ => some k_ ≠ ((.slice Ao18 t383.length co18) : Value).ownBlock) (.slice Ao13 t376.length co13) t376) ∧ Aside0 (Kd.R (Kd.int .i64) 3 wc w.heap.size (fun k_ => some k_ ≠ ((.slice Ao13 t376.length co13) : Value).ownBlock) (.slice Ao18 t383.length co18) t383) ∧ Aside0 (wc.heap[gb380]? = some (.cells #[.int .i64 t374, .int .i64 t375, (.slice Ao13 t376.length co13)] 67 (0, 0))) ∧ Aside0 (wc.heap[gb387]? = some (.cells #[.int .i64 t381, .int .i64 t382, (.slice Ao18 t383.length co18)] 67 (0, 0))) ∧ Aside0 (Below w.heap.size w wc))
  case first =>
   have H := HC7.out
   clear HC7
   by_cases c19 : (t379 != t386) = true
   ·rw [if_pos c19] at H
    have c19b0 : (t379 != t386) = true := c19
    (try (have c19b1 : decide (t379 = t386) = false := by simpa using c19))
    (try (have c19b2 : (t379 == t386) = false := by simpa using c19))
    (try (have c19b3 : ¬ (t379 = t386) := by simpa using c19))
    clear c19
    (first | rw [c19b0] | (simp only [i64_w, i32_w]; rw [c19b0]) | skip)
    have H' := Aside0.mk H
    clear H
    go_wp2
    go_meet
    case rel => exact ⟨_, (true), (by first | rfl | (simp; done) | (simp [*]; done)), H', ⟨by first | omega | exact Nat.le_refl _⟩, ⟨by (with_reducible repeat (first | apply Kd.S_alloc | apply Kd.S_drewN | apply Kd.S_drew)); exact Kd.S_mono (Kd.S_far (p := ⟨gb387, 2, none⟩) (Kd.S_far (p := ⟨gb387, 1, none⟩) (Kd.S_far (p := ⟨gb387, 0, none⟩) (Kd.S_types HO373.out BK387.out (by decide)) (fun _ hk => hk.2) (.int .i64 t381)) (fun _ hk => hk.2) (.int .i64 t382)) (fun _ hk => hk.2) (.slice Ao18 t383.length co18)) (fun _ hk => trivial)⟩, ⟨z.rl (Kd.R_mono (Kd.R_far (p := ⟨gb387, 2, none⟩) (Kd.R_far (p := ⟨gb387, 1, none⟩) (Kd.R_far (p := ⟨gb387, 0, none⟩) (Kd.R_types HO378.out BK387.out (by decide)) (fun _ hk => hk.2) (.int .i64 t381)) (fun _ hk => hk.2) (.int .i64 t382)) (fun _ hk => hk.2) (.slice Ao18 t383.length co18)) (fun _ hk => hk.1.2))⟩, ⟨z.rl (Kd.R_mono (Kd.R_far (p := ⟨gb387, 2, none⟩) (Kd.R_far (p := ⟨gb387, 1, none⟩) (Kd.R_far (p := ⟨gb387, 0, none⟩) (Kd.R_types HO385.out BK387.out (by decide)) (fun _ hk => hk.2) (.int .i64 t381)) (fun _ hk => hk.2) (.int .i64 t382)) (fun _ hk => hk.2) (.slice Ao18 t383.length co18)) (fun _ hk => hk.1.2))⟩, ⟨z.bf BK380⟩, ⟨by (with_reducible repeat (first | refine blk_drewN ?_ _ | refine blk_drew ?_ | refine blk_alloc ?_ _)); refine blk_put (cs := #[.int .i64 t381, .int .i64 t382, .slice none 0 0]) ?_ 2 _ rfl; (with_reducible repeat (first | refine blk_drewN ?_ _ | refine blk_drew ?_ | refine blk_alloc ?_ _)); refine blk_put (cs := #[.int .i64 t381, .int .i64 0, .slice none 0 0]) ?_ 1 _ rfl; (with_reducible repeat (first | refine blk_drewN ?_ _ | refine blk_drew ?_ | refine blk_alloc ?_ _)); refine blk_put (cs := #[.int .i64 0, .int .i64 0, .slice none 0 0]) ?_ 0 _ rfl; (with_reducible repeat (first | refine blk_drewN ?_ _ | refine blk_drew ?_ | refine blk_alloc ?_ _)); exact BK387.out⟩, ⟨z.bl HB⟩⟩
   ·rw [if_neg c19] at H
    have c19b0 : (t379 != t386) = false := by simpa using c19
    (try (have c19b1 : decide (t379 = t386) = true := by simpa using c19))
    (try (have c19b2 : (t379 == t386) = true := by simpa using c19))
    clear c19
    (first | rw [c19b0] | (simp only [i64_w, i32_w]; rw [c19b0]) | skip)
    replace H := Option.bind_eq_some_iff.mp H
    obtain ⟨t388, A200, H⟩ := H
    replace H : (laws_FnCover.j0 k l1 t368 t369 t370 t371 t379 (!t388) t374 t375 t376) = some r := H
    have A20 := Aside0.mk A200
    clear A200
    have H' := Aside0.mk H
    clear H
    have hnb21 := NB380_387.out
    have hnc21 := NB387_380.out
    have hcz22_0 : w15.cell? ⟨gb380, 0, none⟩ = some (.int .i64 t374) := (blk_cell BK380.out 0).trans rfl
    have hcz22_1 : w15.cell? ⟨gb380, 1, none⟩ = some (.int .i64 t375) := (blk_cell BK380.out 1).trans rfl
    have hcz22_2 : w15.cell? ⟨gb380, 2, none⟩ = some (.slice Ao13 t376.length co13) := (blk_cell BK380.out 2).trans rfl
    have hfz22_0 := blk_frozen BK380.out 0
    have hfz22_1 := blk_frozen BK380.out 1
    have hfz22_2 := blk_frozen BK380.out 2
    have hcz23_0 : w15.cell? ⟨gb387, 0, none⟩ = some (.int .i64 0) := (blk_cell BK387.out 0).trans rfl
    have hcz23_1 : w15.cell? ⟨gb387, 1, none⟩ = some (.int .i64 0) := (blk_cell BK387.out 1).trans rfl
    have hcz23_2 : w15.cell? ⟨gb387, 2, none⟩ = some (.slice none 0 0) := (blk_cell BK387.out 2).trans rfl
    have hfz23_0 := blk_frozen BK387.out 0
    have hfz23_1 := blk_frozen BK387.out 1
    have hfz23_2 := blk_frozen BK387.out 2
    go_wp2_with (first | (go_at_call 47; (with_reducible refine (laws_sameInts.calls k _ _ t376 _ _ t383 t388 _ ?side1 ?side2 ?side3 ?side4 A20.out).mono ?_); (case side1 => refine (Kd.R_reads' (e := 3) (base := w.heap.size) (ok := fun k_ => (True ∧ some k_ ≠ (.slice Ao18 t383.length co18 : Value).ownBlock)) (n := t376.length) (c := co13) ?_).2.2; exact (z.rl ((Kd.R_mono (Kd.R_far (p := ⟨gb387, 2, none⟩) (Kd.R_far (p := ⟨gb387, 1, none⟩) (Kd.R_far (p := ⟨gb387, 0, none⟩) (Kd.R_types HO378.out BK387.out (by decide)) (fun _ hk => hk.2) (.int .i64 t381)) (fun _ hk => hk.2) (.int .i64 t382)) (fun _ hk => hk.2) (.slice Ao18 t383.length co18)) (fun _ h_ => h_.1))))); (case side2 => exact (Kd.R_reads' HO378.out).2.1); (case side3 => refine (Kd.R_reads' (e := 3) (base := w.heap.size) (ok := fun k_ => (True ∧ some k_ ≠ (.slice Ao13 t376.length co13 : Value).ownBlock)) (n := t383.length) (c := co18) ?_).2.2; exact (z.rl ((Kd.R_mono (Kd.R_far (p := ⟨gb387, 2, none⟩) (Kd.R_far (p := ⟨gb387, 1, none⟩) (Kd.R_far (p := ⟨gb387, 0, none⟩) (Kd.R_types HO385.out BK387.out (by decide)) (fun _ hk => hk.2) (.int .i64 t381)) (fun _ hk => hk.2) (.int .i64 t382)) (fun _ hk => hk.2) (.slice Ao18 t383.length co18)) (fun _ h_ => h_.1))))); (case side4 => exact (Kd.R_reads' HO385.out).2.1); rintro e w' ⟨rfl, ⟨nd, rfl⟩⟩))
    go_meet
    case rel => exact ⟨_, (!t388), (by first | rfl | (simp; done) | (simp [*]; done)), H', ⟨by first | omega | exact Nat.le_refl _⟩, ⟨by (with_reducible repeat (first | apply Kd.S_alloc | apply Kd.S_drewN | apply Kd.S_drew)); exact Kd.S_mono (Kd.S_far (p := ⟨gb387, 2, none⟩) (Kd.S_far (p := ⟨gb387, 1, none⟩) (Kd.S_far (p := ⟨gb387, 0, none⟩) (Kd.S_types HO373.out BK387.out (by decide)) (fun _ hk => hk.2) (.int .i64 t381)) (fun _ hk => hk.2) (.int .i64 t382)) (fun _ hk => hk.2) (.slice Ao18 t383.length co18)) (fun _ hk => trivial)⟩, ⟨z.rl (Kd.R_mono (Kd.R_far (p := ⟨gb387, 2, none⟩) (Kd.R_far (p := ⟨gb387, 1, none⟩) (Kd.R_far (p := ⟨gb387, 0, none⟩) (Kd.R_types HO378.out BK387.out (by decide)) (fun _ hk => hk.2) (.int .i64 t381)) (fun _ hk => hk.2) (.int .i64 t382)) (fun _ hk => hk.2) (.slice Ao18 t383.length co18)) (fun _ hk => hk.1.2))⟩, ⟨z.rl (Kd.R_mono (Kd.R_far (p := ⟨gb387, 2, none⟩) (Kd.R_far (p := ⟨gb387, 1, none⟩) (Kd.R_far (p := ⟨gb387, 0, none⟩) (Kd.R_types HO385.out BK387.out (by decide)) (fun _ hk => hk.2) (.int .i64 t381)) (fun _ hk => hk.2) (.int .i64 t382)) (fun _ hk => hk.2) (.slice Ao18 t383.length co18)) (fun _ hk => hk.1.2))⟩, ⟨z.bf BK380⟩, ⟨by (with_reducible repeat (first | refine blk_drewN ?_ _ | refine blk_drew ?_ | refine blk_alloc ?_ _)); refine blk_put (cs := #[.int .i64 t381, .int .i64 t382, .slice none 0 0]) ?_ 2 _ rfl; (with_reducible repeat (first | refine blk_drewN ?_ _ | refine blk_drew ?_ | refine blk_alloc ?_ _)); refine blk_put (cs := #[.int .i64 t381, .int .i64 0, .slice none 0 0]) ?_ 1 _ rfl; (with_reducible repeat (first | refine blk_drewN ?_ _ | refine blk_drew ?_ | refine blk_alloc ?_ _)); refine blk_put (cs := #[.int .i64 0, .int .i64 0, .slice none 0 0]) ?_ 0 _ rfl; (with_reducible repeat (first | refine blk_drewN ?_ _ | refine blk_drew ?_ | refine blk_alloc ?_ _)); exact BK387.out⟩, ⟨z.bl HB⟩⟩
  case rest =>
   clear HC7
   try clear c1
   try clear c2
   try clear p2
   try clear c3
   try clear c3b0
   try clear c4
   try clear p6
   try clear c7
   try clear c16
   try clear c19
   try clear c19b0
   try clear c19b1
   try clear c19b2
   try clear c21
   try clear hcz12_0
   try clear hcz12_1
   try clear hcz12_2
   try clear hcz17_0
   try clear hcz17_1
   try clear hcz17_2
   try clear hcz22_0
   try clear hcz22_1
   try clear hcz22_2
   try clear hcz23_0
   try clear hcz23_1
   try clear hcz23_2
   try clear hfz12_0
   try clear hfz12_1
   try clear hfz12_2
   try clear hfz17_0
   try clear hfz17_1
   try clear hfz17_2
   try clear hfz22_0
   try clear hfz22_1
   try clear hfz22_2
   try clear hfz23_0
   try clear hfz23_1
   try clear hfz23_2
   obtain ⟨kq, x71_6, rfl, HA, HJ6, HO_5, HO_381002, HO_388002, BK380, BK387, HB⟩ := hcut
   cases kq with
   | zero => exact absurd HA.out (by simp [laws_FnCover.j0])
   | succ kj6 =>
    have H := HA.out
    clear HA
    simp only [laws_FnCover.j0] at H
    by_cases c24 : x71_6 = true
    ·subst c24
     have H1 : (some false) = some r := by rw [if_pos rfl] at H; exact H
     clear H
     have H := H1
     clear H1
     exact absurd (Option.some.inj H) (by rw [hrt]; decide)
    ·replace c24 := Bool.eq_false_iff.mpr c24
     subst c24
     have H1 : (if t379 = true then ((laws_numberOf.f kj6 l1).bind fun t389 => (laws_FnCover.l0 kj6 t369 t370 t371 ([] : List (S83)) ([] : List (S83)) t389 t368 (t368.length : Int) 0 t374 t375 t376)) else (some true)) = some r := by rw [if_neg (show ¬ (false = true) by decide)] at H; exact H
     clear H
     have H := H1
     clear H1
     by_cases c25 : t379 = true
     ·subst c25
      have H1 : ((laws_numberOf.f kj6 l1).bind fun t389 => (laws_FnCover.l0 kj6 t369 t370 t371 ([] : List (S83)) ([] : List (S83)) t389 t368 (t368.length : Int) 0 t374 t375 t376)) = some r := by rw [if_pos rfl] at H; exact H
      clear H
      have H := H1
      clear H1
      replace H := Option.bind_eq_some_iff.mp H
      obtain ⟨t389, A260, H⟩ := H
      replace H : (laws_FnCover.l0 kj6 t369 t370 t371 ([] : List (S83)) ([] : List (S83)) t389 t368 (t368.length : Int) 0 t374 t375 t376) = some r := H
      have A26 := Aside0.mk A260
      clear A260
      have H' := Aside0.mk H
      clear H
      go_wp2_with (first | ((with_reducible refine gate_callee (f := 48) rfl ?_); refine z.gl (some 75) rfl rfl Try.func48 (by kernel_rfl) rfl #[.slice A1 l1.length c1] rfl ?_; (with_reducible refine (laws_numberOf.calls kj6 _ _ l1 t389 _ ?side1 ?side2 A26.out).mono ?_); (case side1 => repeat (first | exact (Kd.C_below HR1.out HB.out) | (with_reducible refine Kd.C_alloc ?_ _) | (with_reducible refine Kd.C_drewN ?_ _) | (with_reducible refine Kd.C_drew ?_))); (case side2 => exact HC1.out); rintro e w' ⟨rfl, ⟨nd, rfl⟩⟩; refine ⟨_, rfl, ?_⟩))
      go_loopg [13, 14, 78] kj6 (fun kq v13 v14 v78 w' => ∃ (x13_2 : List (S83)) (x14_2 : List (S83)) (x78_2 : Int), v78 = .int .i64 x78_2 ∧ Aside0 (laws_FnCover.l0 kq t369 t370 t371 x13_2 x14_2 t389 t368 (t368.length : Int) x78_2 t374 t375 t376 = some r) ∧ Aside0 (kq ≤ kj6) ∧ Aside0 (Kd.S k83 83 w' w.heap.size (fun k_ => some k_ ≠ (v14 : Value).ownBlock ∧ some k_ ≠ ((.slice Ao9 t368.length co9) : Value).ownBlock) v13 x13_2) ∧ Aside0 (Kd.S k83 83 w' w.heap.size (fun k_ => some k_ ≠ (v13 : Value).ownBlock ∧ some k_ ≠ ((.slice Ao9 t368.length co9) : Value).ownBlock) v14 x14_2) ∧ Aside0 (Kd.S k83 83 w' w.heap.size (fun k_ => some k_ ≠ (v13 : Value).ownBlock ∧ some k_ ≠ (v14 : Value).ownBlock) (.slice Ao9 t368.length co9) t368) ∧ Aside0 (Kd.R (Kd.int .i64) 3 w' w.heap.size (fun k_ => some k_ ≠ ((.slice Ao18 t383.length co18) : Value).ownBlock) (.slice Ao13 t376.length co13) t376) ∧ Aside0 (Kd.R (Kd.int .i64) 3 w' w.heap.size (fun k_ => some k_ ≠ ((.slice Ao13 t376.length co13) : Value).ownBlock) (.slice Ao18 t383.length co18) t383) ∧ Aside0 (w'.heap[gb380]? = some (.cells #[.int .i64 t374, .int .i64 t375, (.slice Ao13 t376.length co13)] 67 (0, 0))) ∧ Aside0 (w'.heap[gb387]? = some (.cells #[.int .i64 t381, .int .i64 t382, (.slice Ao18 t383.length co18)] 67 (0, 0))) ∧ Aside0 (Below w.heap.size w w'))
      case atStart => exact ⟨(([] : List (S83))), (([] : List (S83))), (0), (by first | rfl | (simp; done) | (simp [*]; done)), H', ⟨Nat.le_refl _⟩, ⟨by first | exact Kd.S_nil _ _ _ _ _ | exact Kd.N_nil _ _ _ _ _ | exact Kd.V_nil _ _ _ _ _ | exact Kd.Q_nil _ _ _ _ _ | exact Kd.R_nil _ _ _ _ _⟩, ⟨by first | exact Kd.S_nil _ _ _ _ _ | exact Kd.N_nil _ _ _ _ _ | exact Kd.V_nil _ _ _ _ _ | exact Kd.Q_nil _ _ _ _ _ | exact Kd.R_nil _ _ _ _ _⟩, ⟨by (with_reducible repeat (first | apply Kd.S_alloc | apply Kd.S_drewN | apply Kd.S_drew)); exact Kd.S_mono HO_5.out (fun _ hk => ⟨(by simp [Value.ownBlock]), (by simp [Value.ownBlock])⟩)⟩, ⟨z.rl HO_381002.out⟩, ⟨z.rl HO_388002.out⟩, ⟨z.bk BK380⟩, ⟨z.bk BK387⟩, ⟨z.bl HB⟩⟩
      case round =>
       clear H'
       try clear c1
       try clear c2
       try clear p2
       try clear c3
       try clear c3b0
       try clear c4
       try clear p6
       try clear c7
       try clear c16
       try clear c19
       try clear c19b0
       try clear c19b1
       try clear c19b2
       try clear c21
       try clear c24
       try clear c25
       try clear hcz12_0
       try clear hcz12_1
       try clear hcz12_2
       try clear hcz17_0
       try clear hcz17_1
       try clear hcz17_2
       try clear hcz22_0
       try clear hcz22_1
       try clear hcz22_2
       try clear hcz23_0
       try clear hcz23_1
       try clear hcz23_2
       try clear hfz12_0
       try clear hfz12_1
       try clear hfz12_2
       try clear hfz17_0
       try clear hfz17_1
       try clear hfz17_2
       try clear hfz22_0
       try clear hfz22_1
       try clear hfz22_2
       try clear hfz23_0
       try clear hfz23_1
       try clear hfz23_2
       try clear p2
       try clear p6
       obtain ⟨x13_2, x14_2, x78_2, rfl, HA, HK2, HO_13, HO_14, HO_76, HO_381002, HO_388002, BK380, BK387, HB⟩ := hrel
       cases gk with
       | zero => exact absurd HA.out (by simp [laws_FnCover.l0])
       | succ k2 =>
        have H := HA.out
        clear HA
        simp only [laws_FnCover.l0] at H
        by_cases c27 : x78_2 < (t368.length : Int)
        ·rw [if_pos c27] at H
         have c27b0 : decide (x78_2 < (t368.length : Int)) = true := decide_eq_true c27
         clear c27
         by_cases c28 : 0 ≤ x78_2
         ·rw [if_pos c28] at H
          have c28b0 : decide (0 ≤ x78_2) = true := decide_eq_true c28
          clear c28
          by_cases c29 : x78_2 < (t368.length : Int)
          ·rw [if_pos c29] at H
           have c29b0 : decide (x78_2 < (t368.length : Int)) = true := decide_eq_true c29
           clear c29
           have H' := Aside0.mk H
           clear H
           have p390 : 0 ≤ (x78_2 : Int) := of_decide_eq_true (by first | (with_reducible assumption) | assumption)
           have q390 : x78_2 < (t368.length : Int) := of_decide_eq_true (by first | (with_reducible assumption) | assumption)
           obtain ⟨ad390, A390_0, c390_0, e390, hx390_0, hx390_1, hl390_0, hi390_0⟩ := at_T83 (Kd.S_reads' HO_76.out).2.2 x78_2 p390 q390
           cases e390
           obtain ⟨ce390, hce390, hMe390, hcc390⟩ := Kd.S_get HO_76.out z83 x78_2 p390 (by first | exact q390 | exact of_decide_eq_true (by first | (with_reducible assumption) | assumption) | (have e_ := (Kd.S_reads' HO_76.out).1; omega))
           obtain ⟨ve390_0, rfl, ge390_0⟩ := k83_openM hMe390
           have hv390_0 := hcc390 0 _ rfl
           rw [Nat.add_zero] at hv390_0
           replace hv390_0 := Option.some.inj (hv390_0.symm.trans hx390_0)
           rw [hv390_0] at ge390_0
           have HL390_0 := Aside0.mk (show Kd.R k25 25 _ _ _ _ ((rd_T83 t368 x78_2).f0) from ge390_0)
           clear hv390_0 ge390_0
           clear hcc390 hce390
           have HR390_0 := Aside0.mk hi390_0
           have HF390_0 := Aside0.mk (Kd.F_mono (Kd.R_F HL390_0.out) (fun _ hk => hk.1))
           have HC390_0 := Aside0.mk hl390_0
           clear hi390_0 hl390_0
           replace p390 := eq_true p390
           replace q390 := eq_true q390
           go_wp2_with (first | ((with_reducible refine gate_dst (N := 17) rfl ?_); refine box_event ?hg (N := 17) ?hd (cs := #[.slice none 0 0, .bool false]) (t := 83) ?hr ?_; (case hd => rfl); (case hg => rfl); (case hr => first | (go_simp; done) | (go_simp; rfl)); intro gb391 hg w30 hbox hb; replace HO_13 := Aside0.mk (Kd.S_below (Kd.S_elderB (by (with_reducible repeat (first | apply Kd.S_alloc | apply Kd.S_drewN | apply Kd.S_drew)); exact HO_13.out) gb391 (Nat.le_of_eq hg.symm)) hb); replace HO_14 := Aside0.mk (Kd.S_below (Kd.S_elderB (by (with_reducible repeat (first | apply Kd.S_alloc | apply Kd.S_drewN | apply Kd.S_drew)); exact HO_14.out) gb391 (Nat.le_of_eq hg.symm)) hb); replace HO_76 := Aside0.mk (Kd.S_below (Kd.S_elderB (by (with_reducible repeat (first | apply Kd.S_alloc | apply Kd.S_drewN | apply Kd.S_drew)); exact HO_76.out) gb391 (Nat.le_of_eq hg.symm)) hb); replace HF390_0 := Aside0.mk (Kd.F_below (Kd.F_elderB (by (with_reducible repeat (first | apply Kd.F_alloc | apply Kd.F_drewN | apply Kd.F_drew)); exact HF390_0.out) gb391 (Nat.le_of_eq hg.symm)) hb); replace HO_381002 := z.rb HO_381002 hb; replace HO_388002 := z.rb HO_388002 hb; replace HL390_0 := Aside0.mk (Kd.R_below (z.rl HL390_0.out) hb); replace HR390_0 := Aside0.mk (Kd.C_below (by repeat (first | (with_reducible exact HR390_0.out) | (with_reducible refine Kd.C_alloc ?_ _) | (with_reducible refine Kd.C_drewN ?_ _) | (with_reducible refine Kd.C_drew ?_) | exact HR390_0.out)) hb); have BK391 := Aside0.mk (hbox); have GW391 := Aside0.mk ((by rw [hg]; exact (below_size (z.bl HB)) : w.heap.size ≤ gb391)); have GE391 := Aside0.mk ((by rw [hg]; exact (below_size (z.bl HB)) : w.heap.size ≤ gb391)); replace HB := Aside0.mk (below_step (z.bl HB) hb); have NB380_391 := z.ht BK380 hg; have NB391_380 := z.hu BK380 hg; replace BK380 := z.bb BK380 hb; have NB387_391 := z.ht BK387 hg; have NB391_387 := z.hu BK387 hg; replace BK387 := z.bb BK387 hb; clear hb hbox hg; have hnb31 := NB391_380.out; have hnc31 := NB380_391.out; have hnb32 := NB391_387.out; have hnc32 := NB387_391.out; have hcz33_0 : w30.cell? ⟨gb391, 0, none⟩ = some (.slice none 0 0) := (blk_cell BK391.out 0).trans rfl; have hcz33_1 : w30.cell? ⟨gb391, 1, none⟩ = some (.bool false) := (blk_cell BK391.out 1).trans rfl; have hfz33_0 := blk_frozen BK391.out 0; have hfz33_1 := blk_frozen BK391.out 1) | ((with_reducible refine gate_dst (N := 19) rfl ?_); refine box_event ?hg (N := 19) ?hd (cs := #[.slice none 0 0, .bool false]) (t := 83) ?hr ?_; (case hd => rfl); (case hg => rfl); (case hr => first | (go_simp; done) | (go_simp; rfl)); intro gb392 hg w34 hbox hb; replace HO_13 := Aside0.mk (Kd.S_below (Kd.S_elderB (by (with_reducible repeat (first | apply Kd.S_alloc | apply Kd.S_drewN | apply Kd.S_drew)); exact (Kd.S_mono (Kd.S_far (p := ⟨gb391, 1, none⟩) (Kd.S_far (p := ⟨gb391, 0, none⟩) (Kd.S_mono HO_13.out (fun k_ hk => (⟨hk, hk.2⟩ : _ ∧ k_ ≠ gb391))) (fun _ hk => hk.2) (.slice A390_0 ((rd_T83 t368 x78_2).f0).length c390_0)) (fun _ hk => hk.2) (.bool ((rd_T83 t368 x78_2).f1))) (fun _ h_ => h_.1))) gb392 (Nat.le_of_eq hg.symm)) hb); replace HO_14 := Aside0.mk (Kd.S_below (Kd.S_elderB (by (with_reducible repeat (first | apply Kd.S_alloc | apply Kd.S_drewN | apply Kd.S_drew)); exact (Kd.S_mono (Kd.S_far (p := ⟨gb391, 1, none⟩) (Kd.S_far (p := ⟨gb391, 0, none⟩) (Kd.S_mono HO_14.out (fun k_ hk => (⟨hk, hk.2⟩ : _ ∧ k_ ≠ gb391))) (fun _ hk => hk.2) (.slice A390_0 ((rd_T83 t368 x78_2).f0).length c390_0)) (fun _ hk => hk.2) (.bool ((rd_T83 t368 x78_2).f1))) (fun _ h_ => h_.1))) gb392 (Nat.le_of_eq hg.symm)) hb); replace HO_76 := Aside0.mk (Kd.S_below (Kd.S_elderB (by (with_reducible repeat (first | apply Kd.S_alloc | apply Kd.S_drewN | apply Kd.S_drew)); exact (Kd.S_mono (Kd.S_far (p := ⟨gb391, 1, none⟩) (Kd.S_far (p := ⟨gb391, 0, none⟩) (Kd.S_mono HO_76.out (fun k_ hk => (⟨hk, hk.2⟩ : _ ∧ k_ ≠ gb391))) (fun _ hk => hk.2) (.slice A390_0 ((rd_T83 t368 x78_2).f0).length c390_0)) (fun _ hk => hk.2) (.bool ((rd_T83 t368 x78_2).f1))) (fun _ h_ => h_.1))) gb392 (Nat.le_of_eq hg.symm)) hb); replace HF390_0 := Aside0.mk (Kd.F_below (Kd.F_elderB (by (with_reducible repeat (first | apply Kd.F_alloc | apply Kd.F_drewN | apply Kd.F_drew)); exact (Kd.F_mono (Kd.F_far (p := ⟨gb391, 1, none⟩) (Kd.F_far (p := ⟨gb391, 0, none⟩) (Kd.F_mono HF390_0.out (fun k_ hk => (⟨hk, hk.2⟩ : _ ∧ k_ ≠ gb391))) (fun _ hk => hk.2) (.slice A390_0 ((rd_T83 t368 x78_2).f0).length c390_0)) (fun _ hk => hk.2) (.bool ((rd_T83 t368 x78_2).f1))) (fun _ h_ => h_.1))) gb392 (Nat.le_of_eq hg.symm)) hb); replace HO_381002 := Aside0.mk (Kd.R_below (z.rl ((Kd.R_mono (Kd.R_far (p := ⟨gb391, 1, none⟩) (Kd.R_far (p := ⟨gb391, 0, none⟩) (Kd.R_types HO_381002.out BK391.out (by decide)) (fun _ hk => hk.2) (.slice A390_0 ((rd_T83 t368 x78_2).f0).length c390_0)) (fun _ hk => hk.2) (.bool ((rd_T83 t368 x78_2).f1))) (fun _ h_ => h_.1)))) hb); replace HO_388002 := Aside0.mk (Kd.R_below (z.rl ((Kd.R_mono (Kd.R_far (p := ⟨gb391, 1, none⟩) (Kd.R_far (p := ⟨gb391, 0, none⟩) (Kd.R_types HO_388002.out BK391.out (by decide)) (fun _ hk => hk.2) (.slice A390_0 ((rd_T83 t368 x78_2).f0).length c390_0)) (fun _ hk => hk.2) (.bool ((rd_T83 t368 x78_2).f1))) (fun _ h_ => h_.1)))) hb); replace HR390_0 := Aside0.mk (Kd.C_below ((Kd.R_reads' (z.rl ((Kd.R_mono (Kd.R_far (p := ⟨gb391, 1, none⟩) (Kd.R_far (p := ⟨gb391, 0, none⟩) (Kd.R_types HL390_0.out BK391.out (by decide)) (fun _ hk => hk.2) (.slice A390_0 ((rd_T83 t368 x78_2).f0).length c390_0)) (fun _ hk => hk.2) (.bool ((rd_T83 t368 x78_2).f1))) (fun _ h_ => h_.1))))).2.2) hb); replace HL390_0 := Aside0.mk (Kd.R_below (z.rl ((Kd.R_mono (Kd.R_far (p := ⟨gb391, 1, none⟩) (Kd.R_far (p := ⟨gb391, 0, none⟩) (Kd.R_types HL390_0.out BK391.out (by decide)) (fun _ hk => hk.2) (.slice A390_0 ((rd_T83 t368 x78_2).f0).length c390_0)) (fun _ hk => hk.2) (.bool ((rd_T83 t368 x78_2).f1))) (fun _ h_ => h_.1)))) hb); have BK392 := Aside0.mk (hbox); have GW392 := Aside0.mk ((by rw [hg]; exact (below_size (z.bl HB)) : w.heap.size ≤ gb392)); have GE392 := Aside0.mk ((by rw [hg]; exact (below_size (z.bl HB)) : w.heap.size ≤ gb392)); replace HB := Aside0.mk (below_step (z.bl HB) hb); have NB380_392 := Aside0.mk ((by rw [hg]; exact Nat.ne_of_lt (blk_lt (g := gb380) (o := .cells #[.int .i64 t374, .int .i64 t375, .slice Ao13 t376.length co13] 67 (0, 0)) (z.bf BK380)) : gb380 ≠ gb392)); have NB392_380 := Aside0.mk ((by rw [hg]; exact Nat.ne_of_gt (blk_lt (g := gb380) (o := .cells #[.int .i64 t374, .int .i64 t375, .slice Ao13 t376.length co13] 67 (0, 0)) (z.bf BK380)) : gb392 ≠ gb380)); replace BK380 := Aside0.mk (blk_below (g := gb380) (o := .cells #[.int .i64 t374, .int .i64 t375, .slice Ao13 t376.length co13] 67 (0, 0)) (z.bf BK380) hb); have NB387_392 := Aside0.mk ((by rw [hg]; exact Nat.ne_of_lt (blk_lt (g := gb387) (o := .cells #[.int .i64 t381, .int .i64 t382, .slice Ao18 t383.length co18] 67 (0, 0)) (z.bf BK387)) : gb387 ≠ gb392)); have NB392_387 := Aside0.mk ((by rw [hg]; exact Nat.ne_of_gt (blk_lt (g := gb387) (o := .cells #[.int .i64 t381, .int .i64 t382, .slice Ao18 t383.length co18] 67 (0, 0)) (z.bf BK387)) : gb392 ≠ gb387)); replace BK387 := Aside0.mk (blk_below (g := gb387) (o := .cells #[.int .i64 t381, .int .i64 t382, .slice Ao18 t383.length co18] 67 (0, 0)) (z.bf BK387) hb); have NB391_392 := Aside0.mk ((by rw [hg]; exact Nat.ne_of_lt (blk_lt (g := gb391) (o := .cells #[.slice A390_0 ((rd_T83 t368 x78_2).f0).length c390_0, .bool ((rd_T83 t368 x78_2).f1)] 83 (0, 0)) (by (with_reducible repeat (first | refine blk_drewN ?_ _ | refine blk_drew ?_ | refine blk_alloc ?_ _)); refine blk_put (cs := #[.slice A390_0 ((rd_T83 t368 x78_2).f0).length c390_0, .bool false]) ?_ 1 _ rfl; (with_reducible repeat (first | refine blk_drewN ?_ _ | refine blk_drew ?_ | refine blk_alloc ?_ _)); refine blk_put (cs := #[.slice none 0 0, .bool false]) ?_ 0 _ rfl; (with_reducible repeat (first | refine blk_drewN ?_ _ | refine blk_drew ?_ | refine blk_alloc ?_ _)); exact BK391.out)) : gb391 ≠ gb392)); have NB392_391 := Aside0.mk ((by rw [hg]; exact Nat.ne_of_gt (blk_lt (g := gb391) (o := .cells #[.slice A390_0 ((rd_T83 t368 x78_2).f0).length c390_0, .bool ((rd_T83 t368 x78_2).f1)] 83 (0, 0)) (by (with_reducible repeat (first | refine blk_drewN ?_ _ | refine blk_drew ?_ | refine blk_alloc ?_ _)); refine blk_put (cs := #[.slice A390_0 ((rd_T83 t368 x78_2).f0).length c390_0, .bool false]) ?_ 1 _ rfl; (with_reducible repeat (first | refine blk_drewN ?_ _ | refine blk_drew ?_ | refine blk_alloc ?_ _)); refine blk_put (cs := #[.slice none 0 0, .bool false]) ?_ 0 _ rfl; (with_reducible repeat (first | refine blk_drewN ?_ _ | refine blk_drew ?_ | refine blk_alloc ?_ _)); exact BK391.out)) : gb392 ≠ gb391)); replace BK391 := Aside0.mk (blk_below (g := gb391) (o := .cells #[.slice A390_0 ((rd_T83 t368 x78_2).f0).length c390_0, .bool ((rd_T83 t368 x78_2).f1)] 83 (0, 0)) (by (with_reducible repeat (first | refine blk_drewN ?_ _ | refine blk_drew ?_ | refine blk_alloc ?_ _)); refine blk_put (cs := #[.slice A390_0 ((rd_T83 t368 x78_2).f0).length c390_0, .bool false]) ?_ 1 _ rfl; (with_reducible repeat (first | refine blk_drewN ?_ _ | refine blk_drew ?_ | refine blk_alloc ?_ _)); refine blk_put (cs := #[.slice none 0 0, .bool false]) ?_ 0 _ rfl; (with_reducible repeat (first | refine blk_drewN ?_ _ | refine blk_drew ?_ | refine blk_alloc ?_ _)); exact BK391.out) hb); clear hb hbox hg; have hnb35 := NB392_380.out; have hnc35 := NB380_392.out; have hnb36 := NB392_387.out; have hnc36 := NB387_392.out; have hnb37 := NB392_391.out; have hnc37 := NB391_392.out; have hcz38_0 : w34.cell? ⟨gb392, 0, none⟩ = some (.slice none 0 0) := (blk_cell BK392.out 0).trans rfl; have hcz38_1 : w34.cell? ⟨gb392, 1, none⟩ = some (.bool false) := (blk_cell BK392.out 1).trans rfl; have hfz38_0 := blk_frozen BK392.out 0; have hfz38_1 := blk_frozen BK392.out 1; have hcz39_0 : w34.cell? ⟨gb391, 0, none⟩ = some (.slice A390_0 ((rd_T83 t368 x78_2).f0).length c390_0) := (blk_cell BK391.out 0).trans rfl; have hcz39_1 : w34.cell? ⟨gb391, 1, none⟩ = some (.bool ((rd_T83 t368 x78_2).f1)) := (blk_cell BK391.out 1).trans rfl; have hfz39_0 := blk_frozen BK391.out 0; have hfz39_1 := blk_frozen BK391.out 1) | ((with_reducible refine gate_dst (N := 20) rfl ?_); refine box_event ?hg (N := 20) ?hd (cs := #[.slice none 0 0, .bool false]) (t := 83) ?hr ?_; (case hd => rfl); (case hg => rfl); (case hr => first | (go_simp; done) | (go_simp; rfl)); intro gb393 hg w40 hbox hb; replace HO_13 := Aside0.mk (Kd.S_below (Kd.S_elderB (by (with_reducible repeat (first | apply Kd.S_alloc | apply Kd.S_drewN | apply Kd.S_drew)); exact (Kd.S_mono (Kd.S_far (p := ⟨gb392, 1, none⟩) (Kd.S_far (p := ⟨gb392, 0, none⟩) (Kd.S_mono HO_13.out (fun k_ hk => (⟨hk, hk.2⟩ : _ ∧ k_ ≠ gb392))) (fun _ hk => hk.2) (.slice none 0 0)) (fun _ hk => hk.2) (.bool ((rd_T83 t368 x78_2).f1))) (fun _ h_ => h_.1))) gb393 (Nat.le_of_eq hg.symm)) hb); replace HO_14 := Aside0.mk (Kd.S_below (Kd.S_elderB (by (with_reducible repeat (first | apply Kd.S_alloc | apply Kd.S_drewN | apply Kd.S_drew)); exact (Kd.S_mono (Kd.S_far (p := ⟨gb392, 1, none⟩) (Kd.S_far (p := ⟨gb392, 0, none⟩) (Kd.S_mono HO_14.out (fun k_ hk => (⟨hk, hk.2⟩ : _ ∧ k_ ≠ gb392))) (fun _ hk => hk.2) (.slice none 0 0)) (fun _ hk => hk.2) (.bool ((rd_T83 t368 x78_2).f1))) (fun _ h_ => h_.1))) gb393 (Nat.le_of_eq hg.symm)) hb); replace HO_76 := Aside0.mk (Kd.S_below (Kd.S_elderB (by (with_reducible repeat (first | apply Kd.S_alloc | apply Kd.S_drewN | apply Kd.S_drew)); exact (Kd.S_mono (Kd.S_far (p := ⟨gb392, 1, none⟩) (Kd.S_far (p := ⟨gb392, 0, none⟩) (Kd.S_mono HO_76.out (fun k_ hk => (⟨hk, hk.2⟩ : _ ∧ k_ ≠ gb392))) (fun _ hk => hk.2) (.slice none 0 0)) (fun _ hk => hk.2) (.bool ((rd_T83 t368 x78_2).f1))) (fun _ h_ => h_.1))) gb393 (Nat.le_of_eq hg.symm)) hb); replace HF390_0 := Aside0.mk (Kd.F_below (Kd.F_elderB (by (with_reducible repeat (first | apply Kd.F_alloc | apply Kd.F_drewN | apply Kd.F_drew)); exact (Kd.F_mono (Kd.F_far (p := ⟨gb392, 1, none⟩) (Kd.F_far (p := ⟨gb392, 0, none⟩) (Kd.F_mono HF390_0.out (fun k_ hk => (⟨hk, hk.2⟩ : _ ∧ k_ ≠ gb392))) (fun _ hk => hk.2) (.slice none 0 0)) (fun _ hk => hk.2) (.bool ((rd_T83 t368 x78_2).f1))) (fun _ h_ => h_.1))) gb393 (Nat.le_of_eq hg.symm)) hb); replace HO_381002 := Aside0.mk (Kd.R_below (z.rl ((Kd.R_mono (Kd.R_far (p := ⟨gb392, 1, none⟩) (Kd.R_far (p := ⟨gb392, 0, none⟩) (Kd.R_types HO_381002.out BK392.out (by decide)) (fun _ hk => hk.2) (.slice none 0 0)) (fun _ hk => hk.2) (.bool ((rd_T83 t368 x78_2).f1))) (fun _ h_ => h_.1)))) hb); replace HO_388002 := Aside0.mk (Kd.R_below (z.rl ((Kd.R_mono (Kd.R_far (p := ⟨gb392, 1, none⟩) (Kd.R_far (p := ⟨gb392, 0, none⟩) (Kd.R_types HO_388002.out BK392.out (by decide)) (fun _ hk => hk.2) (.slice none 0 0)) (fun _ hk => hk.2) (.bool ((rd_T83 t368 x78_2).f1))) (fun _ h_ => h_.1)))) hb); replace HR390_0 := Aside0.mk (Kd.C_below ((Kd.R_reads' (z.rl ((Kd.R_mono (Kd.R_far (p := ⟨gb392, 1, none⟩) (Kd.R_far (p := ⟨gb392, 0, none⟩) (Kd.R_types HL390_0.out BK392.out (by decide)) (fun _ hk => hk.2) (.slice none 0 0)) (fun _ hk => hk.2) (.bool ((rd_T83 t368 x78_2).f1))) (fun _ h_ => h_.1))))).2.2) hb); replace HL390_0 := Aside0.mk (Kd.R_below (z.rl ((Kd.R_mono (Kd.R_far (p := ⟨gb392, 1, none⟩) (Kd.R_far (p := ⟨gb392, 0, none⟩) (Kd.R_types HL390_0.out BK392.out (by decide)) (fun _ hk => hk.2) (.slice none 0 0)) (fun _ hk => hk.2) (.bool ((rd_T83 t368 x78_2).f1))) (fun _ h_ => h_.1)))) hb); have BK393 := Aside0.mk (hbox); have GW393 := Aside0.mk ((by rw [hg]; exact (below_size (z.bl HB)) : w.heap.size ≤ gb393)); have GE393 := Aside0.mk ((by rw [hg]; exact (below_size (z.bl HB)) : w.heap.size ≤ gb393)); replace HB := Aside0.mk (below_step (z.bl HB) hb); have NB380_393 := Aside0.mk ((by rw [hg]; exact Nat.ne_of_lt (blk_lt (g := gb380) (o := .cells #[.int .i64 t374, .int .i64 t375, .slice Ao13 t376.length co13] 67 (0, 0)) (z.bf BK380)) : gb380 ≠ gb393)); have NB393_380 := Aside0.mk ((by rw [hg]; exact Nat.ne_of_gt (blk_lt (g := gb380) (o := .cells #[.int .i64 t374, .int .i64 t375, .slice Ao13 t376.length co13] 67 (0, 0)) (z.bf BK380)) : gb393 ≠ gb380)); replace BK380 := Aside0.mk (blk_below (g := gb380) (o := .cells #[.int .i64 t374, .int .i64 t375, .slice Ao13 t376.length co13] 67 (0, 0)) (z.bf BK380) hb); have NB387_393 := Aside0.mk ((by rw [hg]; exact Nat.ne_of_lt (blk_lt (g := gb387) (o := .cells #[.int .i64 t381, .int .i64 t382, .slice Ao18 t383.length co18] 67 (0, 0)) (z.bf BK387)) : gb387 ≠ gb393)); have NB393_387 := Aside0.mk ((by rw [hg]; exact Nat.ne_of_gt (blk_lt (g := gb387) (o := .cells #[.int .i64 t381, .int .i64 t382, .slice Ao18 t383.length co18] 67 (0, 0)) (z.bf BK387)) : gb393 ≠ gb387)); replace BK387 := Aside0.mk (blk_below (g := gb387) (o := .cells #[.int .i64 t381, .int .i64 t382, .slice Ao18 t383.length co18] 67 (0, 0)) (z.bf BK387) hb); have NB391_393 := Aside0.mk ((by rw [hg]; exact Nat.ne_of_lt (blk_lt (g := gb391) (o := .cells #[.slice A390_0 ((rd_T83 t368 x78_2).f0).length c390_0, .bool ((rd_T83 t368 x78_2).f1)] 83 (0, 0)) (z.bf BK391)) : gb391 ≠ gb393)); have NB393_391 := Aside0.mk ((by rw [hg]; exact Nat.ne_of_gt (blk_lt (g := gb391) (o := .cells #[.slice A390_0 ((rd_T83 t368 x78_2).f0).length c390_0, .bool ((rd_T83 t368 x78_2).f1)] 83 (0, 0)) (z.bf BK391)) : gb393 ≠ gb391)); replace BK391 := Aside0.mk (blk_below (g := gb391) (o := .cells #[.slice A390_0 ((rd_T83 t368 x78_2).f0).length c390_0, .bool ((rd_T83 t368 x78_2).f1)] 83 (0, 0)) (z.bf BK391) hb); have NB392_393 := Aside0.mk ((by rw [hg]; exact Nat.ne_of_lt (blk_lt (g := gb392) (o := .cells #[.slice none 0 0, .bool ((rd_T83 t368 x78_2).f1)] 83 (0, 0)) (by (with_reducible repeat (first | refine blk_drewN ?_ _ | refine blk_drew ?_ | refine blk_alloc ?_ _)); refine blk_put (cs := #[.slice none 0 0, .bool false]) ?_ 1 _ rfl; (with_reducible repeat (first | refine blk_drewN ?_ _ | refine blk_drew ?_ | refine blk_alloc ?_ _)); refine blk_put (cs := #[.slice none 0 0, .bool false]) ?_ 0 _ rfl; (with_reducible repeat (first | refine blk_drewN ?_ _ | refine blk_drew ?_ | refine blk_alloc ?_ _)); exact BK392.out)) : gb392 ≠ gb393)); have NB393_392 := Aside0.mk ((by rw [hg]; exact Nat.ne_of_gt (blk_lt (g := gb392) (o := .cells #[.slice none 0 0, .bool ((rd_T83 t368 x78_2).f1)] 83 (0, 0)) (by (with_reducible repeat (first | refine blk_drewN ?_ _ | refine blk_drew ?_ | refine blk_alloc ?_ _)); refine blk_put (cs := #[.slice none 0 0, .bool false]) ?_ 1 _ rfl; (with_reducible repeat (first | refine blk_drewN ?_ _ | refine blk_drew ?_ | refine blk_alloc ?_ _)); refine blk_put (cs := #[.slice none 0 0, .bool false]) ?_ 0 _ rfl; (with_reducible repeat (first | refine blk_drewN ?_ _ | refine blk_drew ?_ | refine blk_alloc ?_ _)); exact BK392.out)) : gb393 ≠ gb392)); replace BK392 := Aside0.mk (blk_below (g := gb392) (o := .cells #[.slice none 0 0, .bool ((rd_T83 t368 x78_2).f1)] 83 (0, 0)) (by (with_reducible repeat (first | refine blk_drewN ?_ _ | refine blk_drew ?_ | refine blk_alloc ?_ _)); refine blk_put (cs := #[.slice none 0 0, .bool false]) ?_ 1 _ rfl; (with_reducible repeat (first | refine blk_drewN ?_ _ | refine blk_drew ?_ | refine blk_alloc ?_ _)); refine blk_put (cs := #[.slice none 0 0, .bool false]) ?_ 0 _ rfl; (with_reducible repeat (first | refine blk_drewN ?_ _ | refine blk_drew ?_ | refine blk_alloc ?_ _)); exact BK392.out) hb); clear hb hbox hg; have hnb41 := NB393_380.out; have hnc41 := NB380_393.out; have hnb42 := NB393_387.out; have hnc42 := NB387_393.out; have hnb43 := NB393_391.out; have hnc43 := NB391_393.out; have hnb44 := NB393_392.out; have hnc44 := NB392_393.out; have hcz45_0 : w40.cell? ⟨gb393, 0, none⟩ = some (.slice none 0 0) := (blk_cell BK393.out 0).trans rfl; have hcz45_1 : w40.cell? ⟨gb393, 1, none⟩ = some (.bool false) := (blk_cell BK393.out 1).trans rfl; have hfz45_0 := blk_frozen BK393.out 0; have hfz45_1 := blk_frozen BK393.out 1; have hcz46_0 : w40.cell? ⟨gb391, 0, none⟩ = some (.slice A390_0 ((rd_T83 t368 x78_2).f0).length c390_0) := (blk_cell BK391.out 0).trans rfl; have hcz46_1 : w40.cell? ⟨gb391, 1, none⟩ = some (.bool ((rd_T83 t368 x78_2).f1)) := (blk_cell BK391.out 1).trans rfl; have hfz46_0 := blk_frozen BK391.out 0; have hfz46_1 := blk_frozen BK391.out 1))
           go_loopg [94] k2 (fun kq v94 w' => ∃ (x94_3 : Int) (x393000_3 : List (S25)) (x394000_3 : List (S25)) (u393000 : Value) (u394000 : Value), v94 = .int .i64 x94_3 ∧ Aside0 (laws_FnCover.l1 kq t369 t370 t371 x13_2 x14_2 t389 (((rd_T83 t368 x78_2).f0).length : Int) t368 (t368.length : Int) x78_2 (((rd_T83 t368 x78_2).f0).length : Int) x94_3 t374 t375 t376 ((rd_T83 t368 x78_2).f0) ((rd_T83 t368 x78_2).f1) x393000_3 ((rd_T83 t368 x78_2).f1) x394000_3 ((rd_T83 t368 x78_2).f1) = some r) ∧ Aside0 (kq ≤ k2) ∧ Aside0 (Kd.S k83 83 w' w.heap.size (fun k_ => some k_ ≠ (u14 : Value).ownBlock ∧ some k_ ≠ ((.slice (some ad390) t368.length co9) : Value).ownBlock ∧ some k_ ≠ (u393000 : Value).ownBlock ∧ some k_ ≠ (u394000 : Value).ownBlock ∧ k_ ≠ gb391 ∧ k_ ≠ gb392 ∧ k_ ≠ gb393) u13 x13_2) ∧ Aside0 (Kd.S k83 83 w' w.heap.size (fun k_ => some k_ ≠ (u13 : Value).ownBlock ∧ some k_ ≠ ((.slice (some ad390) t368.length co9) : Value).ownBlock ∧ some k_ ≠ (u393000 : Value).ownBlock ∧ some k_ ≠ (u394000 : Value).ownBlock ∧ k_ ≠ gb391 ∧ k_ ≠ gb392 ∧ k_ ≠ gb393) u14 x14_2) ∧ Aside0 (Kd.S k83 83 w' w.heap.size (fun k_ => some k_ ≠ (u13 : Value).ownBlock ∧ some k_ ≠ (u14 : Value).ownBlock ∧ some k_ ≠ (u393000 : Value).ownBlock ∧ some k_ ≠ (u394000 : Value).ownBlock ∧ k_ ≠ gb391 ∧ k_ ≠ gb392 ∧ k_ ≠ gb393) (.slice (some ad390) t368.length co9) t368) ∧ Aside0 (Kd.F k25 w' (fun k_ => some k_ ≠ (u13 : Value).ownBlock ∧ some k_ ≠ (u14 : Value).ownBlock ∧ some k_ ≠ (u393000 : Value).ownBlock ∧ some k_ ≠ (u394000 : Value).ownBlock ∧ k_ ≠ gb391 ∧ k_ ≠ gb392 ∧ k_ ≠ gb393) A390_0 (((rd_T83 t368 x78_2).f0)).length ((rd_T83 t368 x78_2).f0)) ∧ Aside0 (Kd.R (Kd.int .i64) 3 w' w.heap.size (fun k_ => some k_ ≠ ((.slice Ao18 t383.length co18) : Value).ownBlock) (.slice Ao13 t376.length co13) t376) ∧ Aside0 (Kd.R (Kd.int .i64) 3 w' w.heap.size (fun k_ => some k_ ≠ ((.slice Ao13 t376.length co13) : Value).ownBlock) (.slice Ao18 t383.length co18) t383) ∧ Aside0 (Kd.R k25 25 w' w.heap.size (fun k_ => some k_ ≠ (u394000 : Value).ownBlock) u393000 x393000_3) ∧ Aside0 (Kd.R k25 25 w' w.heap.size (fun k_ => some k_ ≠ (u393000 : Value).ownBlock) u394000 x394000_3) ∧ Aside0 (w'.heap[gb380]? = some (.cells #[.int .i64 t374, .int .i64 t375, (.slice Ao13 t376.length co13)] 67 (0, 0))) ∧ Aside0 (w'.heap[gb387]? = some (.cells #[.int .i64 t381, .int .i64 t382, (.slice Ao18 t383.length co18)] 67 (0, 0))) ∧ Aside0 (w'.heap[gb391]? = some (.cells #[(.slice A390_0 ((rd_T83 t368 x78_2).f0).length c390_0), .bool ((rd_T83 t368 x78_2).f1)] 83 (0, 0))) ∧ Aside0 (w'.heap[gb392]? = some (.cells #[u393000, .bool ((rd_T83 t368 x78_2).f1)] 83 (0, 0))) ∧ Aside0 (w'.heap[gb393]? = some (.cells #[u394000, .bool ((rd_T83 t368 x78_2).f1)] 83 (0, 0))) ∧ Aside0 (Below w.heap.size w w'))
           case atStart => exact ⟨(0), (([] : List (S25))), (([] : List (S25))), (.slice none 0 0), (.slice none 0 0), (by first | rfl | (simp; done) | (simp [*]; done)), H', ⟨Nat.le_refl _⟩, ⟨by (with_reducible repeat (first | apply Kd.S_alloc | apply Kd.S_drewN | apply Kd.S_drew)); exact Kd.S_mono (Kd.S_far (p := ⟨gb393, 1, none⟩) (Kd.S_far (p := ⟨gb393, 0, none⟩) (Kd.S_mono HO_13.out (fun k_ hk => (⟨hk, hk.2⟩ : _ ∧ k_ ≠ gb393))) (fun _ hk => hk.2) (.slice none 0 0)) (fun _ hk => hk.2) (.bool ((rd_T83 t368 x78_2).f1))) (fun _ hk => ⟨hk.1.1.1.1.1, ⟨hk.1.1.1.1.2, ⟨(by simp [Value.ownBlock]), ⟨(by simp [Value.ownBlock]), ⟨hk.1.1.1.2, ⟨hk.1.1.2, hk.1.2⟩⟩⟩⟩⟩⟩)⟩, ⟨by (with_reducible repeat (first | apply Kd.S_alloc | apply Kd.S_drewN | apply Kd.S_drew)); exact Kd.S_mono (Kd.S_far (p := ⟨gb393, 1, none⟩) (Kd.S_far (p := ⟨gb393, 0, none⟩) (Kd.S_mono HO_14.out (fun k_ hk => (⟨hk, hk.2⟩ : _ ∧ k_ ≠ gb393))) (fun _ hk => hk.2) (.slice none 0 0)) (fun _ hk => hk.2) (.bool ((rd_T83 t368 x78_2).f1))) (fun _ hk => ⟨hk.1.1.1.1.1, ⟨hk.1.1.1.1.2, ⟨(by simp [Value.ownBlock]), ⟨(by simp [Value.ownBlock]), ⟨hk.1.1.1.2, ⟨hk.1.1.2, hk.1.2⟩⟩⟩⟩⟩⟩)⟩, ⟨by (with_reducible repeat (first | apply Kd.S_alloc | apply Kd.S_drewN | apply Kd.S_drew)); exact Kd.S_mono (Kd.S_far (p := ⟨gb393, 1, none⟩) (Kd.S_far (p := ⟨gb393, 0, none⟩) (Kd.S_mono HO_76.out (fun k_ hk => (⟨hk, hk.2⟩ : _ ∧ k_ ≠ gb393))) (fun _ hk => hk.2) (.slice none 0 0)) (fun _ hk => hk.2) (.bool ((rd_T83 t368 x78_2).f1))) (fun _ hk => ⟨hk.1.1.1.1.1, ⟨hk.1.1.1.1.2, ⟨(by simp [Value.ownBlock]), ⟨(by simp [Value.ownBlock]), ⟨hk.1.1.1.2, ⟨hk.1.1.2, hk.1.2⟩⟩⟩⟩⟩⟩)⟩, ⟨by (with_reducible repeat (first | apply Kd.F_alloc | apply Kd.F_drewN | apply Kd.F_drew)); exact Kd.F_mono (Kd.F_far (p := ⟨gb393, 1, none⟩) (Kd.F_far (p := ⟨gb393, 0, none⟩) (Kd.F_mono HF390_0.out (fun k_ hk => (⟨hk, hk.2⟩ : _ ∧ k_ ≠ gb393))) (fun _ hk => hk.2) (.slice none 0 0)) (fun _ hk => hk.2) (.bool ((rd_T83 t368 x78_2).f1))) (fun _ hk => ⟨hk.1.1.1.1.1, ⟨hk.1.1.1.1.2, ⟨(by simp [Value.ownBlock]), ⟨(by simp [Value.ownBlock]), ⟨hk.1.1.1.2, ⟨hk.1.1.2, hk.1.2⟩⟩⟩⟩⟩⟩)⟩, ⟨z.rl (Kd.R_mono (Kd.R_far (p := ⟨gb393, 1, none⟩) (Kd.R_far (p := ⟨gb393, 0, none⟩) (Kd.R_types HO_381002.out BK393.out (by decide)) (fun _ hk => hk.2) (.slice none 0 0)) (fun _ hk => hk.2) (.bool ((rd_T83 t368 x78_2).f1))) (fun _ hk => hk.1))⟩, ⟨z.rl (Kd.R_mono (Kd.R_far (p := ⟨gb393, 1, none⟩) (Kd.R_far (p := ⟨gb393, 0, none⟩) (Kd.R_types HO_388002.out BK393.out (by decide)) (fun _ hk => hk.2) (.slice none 0 0)) (fun _ hk => hk.2) (.bool ((rd_T83 t368 x78_2).f1))) (fun _ hk => hk.1))⟩, ⟨by first | exact Kd.R_nil _ _ _ _ _ | exact Kd.N_nil _ _ _ _ _ | exact Kd.V_nil _ _ _ _ _ | exact Kd.Q_nil _ _ _ _ _ | exact Kd.S_nil _ _ _ _ _⟩, ⟨by first | exact Kd.R_nil _ _ _ _ _ | exact Kd.N_nil _ _ _ _ _ | exact Kd.V_nil _ _ _ _ _ | exact Kd.Q_nil _ _ _ _ _ | exact Kd.S_nil _ _ _ _ _⟩, ⟨z.bf BK380⟩, ⟨z.bf BK387⟩, ⟨z.bf BK391⟩, ⟨z.bf BK392⟩, ⟨by (with_reducible repeat (first | refine blk_drewN ?_ _ | refine blk_drew ?_ | refine blk_alloc ?_ _)); refine blk_put (cs := #[.slice none 0 0, .bool false]) ?_ 1 _ rfl; (with_reducible repeat (first | refine blk_drewN ?_ _ | refine blk_drew ?_ | refine blk_alloc ?_ _)); refine blk_put (cs := #[.slice none 0 0, .bool false]) ?_ 0 _ rfl; (with_reducible repeat (first | refine blk_drewN ?_ _ | refine blk_drew ?_ | refine blk_alloc ?_ _)); exact BK393.out⟩, ⟨z.bl HB⟩⟩
           case round =>
            clear H'
            try clear c1
            try clear c2
            try clear p2
            try clear c3
            try clear c3b0
            try clear p3
            try clear q3
            try clear hx3
            try clear c4
            try clear p6
            try clear c7
            try clear c16
            try clear c19
            try clear c19b0
            try clear c19b1
            try clear c19b2
            try clear c21
            try clear c24
            try clear c25
            try clear c27
            try clear c27b0
            try clear c28
            try clear c28b0
            try clear c29
            try clear c29b0
            try clear c31
            try clear c32
            try clear c35
            try clear c36
            try clear c37
            try clear c39
            try clear p39
            try clear q39
            try clear hx39
            try clear c41
            try clear c42
            try clear c43
            try clear c44
            try clear c45
            try clear c46
            try clear hcz12_0
            try clear hcz12_1
            try clear hcz12_2
            try clear hcz17_0
            try clear hcz17_1
            try clear hcz17_2
            try clear hcz22_0
            try clear hcz22_1
            try clear hcz22_2
            try clear hcz23_0
            try clear hcz23_1
            try clear hcz23_2
            try clear hcz33_0
            try clear hcz33_1
            try clear hcz38_0
            try clear hcz38_1
            try clear hcz39_0
            try clear hcz39_1
            try clear hcz45_0
            try clear hcz45_1
            try clear hcz46_0
            try clear hcz46_1
            try clear hfz12_0
            try clear hfz12_1
            try clear hfz12_2
            try clear hfz17_0
            try clear hfz17_1
            try clear hfz17_2
            try clear hfz22_0
            try clear hfz22_1
            try clear hfz22_2
            try clear hfz23_0
            try clear hfz23_1
            try clear hfz23_2
            try clear hfz33_0
            try clear hfz33_1
            try clear hfz38_0
            try clear hfz38_1
            try clear hfz39_0
            try clear hfz39_1
            try clear hfz45_0
            try clear hfz45_1
            try clear hfz46_0
            try clear hfz46_1
            try clear hx390_0
            try clear hx390_1
            try clear p2
            try clear p390
            try clear p6
            try clear q390
            obtain ⟨x94_3, x393000_3, x394000_3, u393000, u394000, rfl, HA, HK3, HO_13, HO_14, HO_76, HF390_0, HO_381002, HO_388002, HO_393000, HO_394000, BK380, BK387, BK391, BK392, BK393, HB⟩ := hrel
            cases gk with
            | zero => exact absurd HA.out (by simp [laws_FnCover.l1])
            | succ k3 =>
             have H := HA.out
             clear HA
             simp only [laws_FnCover.l1] at H
             by_cases c47 : x94_3 < (((rd_T83 t368 x78_2).f0).length : Int)
             ·rw [if_pos c47] at H
              have c47b0 : decide (x94_3 < (((rd_T83 t368 x78_2).f0).length : Int)) = true := decide_eq_true c47
              clear c47
              obtain ⟨ji48, hji48⟩ : ∃ j_ : Int, (wrap64 ((wrap64 ((((rd_T83 t368 x78_2).f0).length : Int) - 1)) - x94_3)) = j_ := ⟨_, rfl⟩
              replace H : (if 0 ≤ (ji48) then (if (ji48) < (((rd_T83 t368 x78_2).f0).length : Int) then (if x393000_3.length < 8796093022208 then (if (((rd_T83 t368 x78_2).f0).length : Int) = 0 then (none) else (if 0 ≤ (Int.tmod (wrap64 (x94_3 + t389)) (((rd_T83 t368 x78_2).f0).length : Int)) then (if (Int.tmod (wrap64 (x94_3 + t389)) (((rd_T83 t368 x78_2).f0).length : Int)) < (((rd_T83 t368 x78_2).f0).length : Int) then (if x394000_3.length < 8796093022208 then (laws_FnCover.l1 k3 t369 t370 t371 x13_2 x14_2 t389 (((rd_T83 t368 x78_2).f0).length : Int) t368 (t368.length : Int) x78_2 (((rd_T83 t368 x78_2).f0).length : Int) (wrap64 (x94_3 + 1)) t374 t375 t376 ((rd_T83 t368 x78_2).f0) ((rd_T83 t368 x78_2).f1) (x393000_3 ++ [(⟨(rd_T25 ((rd_T83 t368 x78_2).f0) (ji48)).f0, (rd_T25 ((rd_T83 t368 x78_2).f0) (ji48)).f1⟩ : S25)]) ((rd_T83 t368 x78_2).f1) (x394000_3 ++ [(⟨(rd_T25 ((rd_T83 t368 x78_2).f0) (Int.tmod (wrap64 (x94_3 + t389)) (((rd_T83 t368 x78_2).f0).length : Int))).f0, (rd_T25 ((rd_T83 t368 x78_2).f0) (Int.tmod (wrap64 (x94_3 + t389)) (((rd_T83 t368 x78_2).f0).length : Int))).f1⟩ : S25)]) ((rd_T83 t368 x78_2).f1)) else (none)) else (none)) else (none))) else (none)) else (none)) else (none)) = some r := by first | (rw [hji48] at H; exact H) | (simp only [hji48] at H ⊢; exact H)
              have hji48w : (IntKind.i64.wrap ((wrap64 ((((rd_T83 t368 x78_2).f0).length : Int) - 1)) - x94_3)) = ji48 := (i64_w _).trans hji48
              by_cases c49 : 0 ≤ (ji48)
              ·rw [if_pos c49] at H
               have c49b0 : decide (0 ≤ (ji48)) = true := decide_eq_true c49
               clear c49
               by_cases c50 : (ji48) < (((rd_T83 t368 x78_2).f0).length : Int)
               ·rw [if_pos c50] at H
                have c50b0 : decide ((ji48) < (((rd_T83 t368 x78_2).f0).length : Int)) = true := decide_eq_true c50
                clear c50
                by_cases c51 : x393000_3.length < 8796093022208
                ·rw [if_pos c51] at H
                 have LMc51 := Aside0.mk c51
                 clear c51
                 obtain ⟨y395, hy395⟩ : ∃ y_ : List (S25), y_ = (x393000_3 ++ [(⟨(rd_T25 ((rd_T83 t368 x78_2).f0) (ji48)).f0, (rd_T25 ((rd_T83 t368 x78_2).f0) (ji48)).f1⟩ : S25)]) := ⟨_, rfl⟩
                 replace H : (if (((rd_T83 t368 x78_2).f0).length : Int) = 0 then (none) else (if 0 ≤ (Int.tmod (wrap64 (x94_3 + t389)) (((rd_T83 t368 x78_2).f0).length : Int)) then (if (Int.tmod (wrap64 (x94_3 + t389)) (((rd_T83 t368 x78_2).f0).length : Int)) < (((rd_T83 t368 x78_2).f0).length : Int) then (if x394000_3.length < 8796093022208 then (laws_FnCover.l1 k3 t369 t370 t371 x13_2 x14_2 t389 (((rd_T83 t368 x78_2).f0).length : Int) t368 (t368.length : Int) x78_2 (((rd_T83 t368 x78_2).f0).length : Int) (wrap64 (x94_3 + 1)) t374 t375 t376 ((rd_T83 t368 x78_2).f0) ((rd_T83 t368 x78_2).f1) y395 ((rd_T83 t368 x78_2).f1) (x394000_3 ++ [(⟨(rd_T25 ((rd_T83 t368 x78_2).f0) (Int.tmod (wrap64 (x94_3 + t389)) (((rd_T83 t368 x78_2).f0).length : Int))).f0, (rd_T25 ((rd_T83 t368 x78_2).f0) (Int.tmod (wrap64 (x94_3 + t389)) (((rd_T83 t368 x78_2).f0).length : Int))).f1⟩ : S25)]) ((rd_T83 t368 x78_2).f1)) else (none)) else (none)) else (none))) = some r := by first | (rw [hy395]; with_reducible exact H) | (have H2_ := (Option.bind_some _ _).symm.trans H; rw [hy395]; with_reducible exact H2_) | (have H2_ := (Option.bind_some _ _).symm.trans H; with_reducible exact H2_) | with_reducible exact H | (rw [hy395]; exact H) | exact H
                 have Ny395 := Aside0.mk hy395
                 clear hy395
                 by_cases c52 : (((rd_T83 t368 x78_2).f0).length : Int) = 0
                 ·rw [if_pos c52] at H
                  exact absurd H (by simp)
                 ·rw [if_neg c52] at H
                  have c52b0 : ((((rd_T83 t368 x78_2).f0).length : Int) == 0) = false := beq_eq_false_iff_ne.mpr c52
                  have c52b1 : ((((rd_T83 t368 x78_2).f0).length : Int) != 0) = true := bne_iff_ne.mpr c52
                  have c52b2 : ¬ (((rd_T83 t368 x78_2).f0) = []) := fun h_ => c52 (by rw [h_]; rfl)
                  obtain ⟨ji53, hji53⟩ : ∃ j_ : Int, (Int.tmod (wrap64 (x94_3 + t389)) (((rd_T83 t368 x78_2).f0).length : Int)) = j_ := ⟨_, rfl⟩
                  replace H : (if 0 ≤ (ji53) then (if (ji53) < (((rd_T83 t368 x78_2).f0).length : Int) then (if x394000_3.length < 8796093022208 then (laws_FnCover.l1 k3 t369 t370 t371 x13_2 x14_2 t389 (((rd_T83 t368 x78_2).f0).length : Int) t368 (t368.length : Int) x78_2 (((rd_T83 t368 x78_2).f0).length : Int) (wrap64 (x94_3 + 1)) t374 t375 t376 ((rd_T83 t368 x78_2).f0) ((rd_T83 t368 x78_2).f1) y395 ((rd_T83 t368 x78_2).f1) (x394000_3 ++ [(⟨(rd_T25 ((rd_T83 t368 x78_2).f0) (ji53)).f0, (rd_T25 ((rd_T83 t368 x78_2).f0) (ji53)).f1⟩ : S25)]) ((rd_T83 t368 x78_2).f1)) else (none)) else (none)) else (none)) = some r := by first | (rw [hji53] at H; exact H) | (simp only [hji53] at H ⊢; exact H)
                  by_cases c54 : 0 ≤ (ji53)
                  ·rw [if_pos c54] at H
                   have c54b0 : decide (0 ≤ (ji53)) = true := decide_eq_true c54
                   clear c54
                   by_cases c55 : (ji53) < (((rd_T83 t368 x78_2).f0).length : Int)
                   ·rw [if_pos c55] at H
                    have c55b0 : decide ((ji53) < (((rd_T83 t368 x78_2).f0).length : Int)) = true := decide_eq_true c55
                    clear c55
                    by_cases c56 : x394000_3.length < 8796093022208
                    ·rw [if_pos c56] at H
                     have LMc56 := Aside0.mk c56
                     clear c56
                     obtain ⟨y399, hy399⟩ : ∃ y_ : List (S25), y_ = (x394000_3 ++ [(⟨(rd_T25 ((rd_T83 t368 x78_2).f0) (ji53)).f0, (rd_T25 ((rd_T83 t368 x78_2).f0) (ji53)).f1⟩ : S25)]) := ⟨_, rfl⟩
                     replace H : (laws_FnCover.l1 k3 t369 t370 t371 x13_2 x14_2 t389 (((rd_T83 t368 x78_2).f0).length : Int) t368 (t368.length : Int) x78_2 (((rd_T83 t368 x78_2).f0).length : Int) (wrap64 (x94_3 + 1)) t374 t375 t376 ((rd_T83 t368 x78_2).f0) ((rd_T83 t368 x78_2).f1) y395 ((rd_T83 t368 x78_2).f1) y399 ((rd_T83 t368 x78_2).f1)) = some r := by first | (rw [hy399]; with_reducible exact H) | (have H2_ := (Option.bind_some _ _).symm.trans H; rw [hy399]; with_reducible exact H2_) | (have H2_ := (Option.bind_some _ _).symm.trans H; with_reducible exact H2_) | with_reducible exact H | (rw [hy399]; exact H) | exact H
                     have Ny399 := Aside0.mk hy399
                     clear hy399
                     have H' := Aside0.mk H
                     clear H
                     try go_wp2
                     replace HO_13 := Aside0.mk (Kd.S_drew HO_13.out)
                     replace HO_14 := Aside0.mk (Kd.S_drew HO_14.out)
                     replace HO_76 := Aside0.mk (Kd.S_drew HO_76.out)
                     replace HF390_0 := Aside0.mk (Kd.F_drew HF390_0.out)
                     replace HO_381002 := Aside0.mk (Kd.R_drew HO_381002.out)
                     replace HO_388002 := Aside0.mk (Kd.R_drew HO_388002.out)
                     replace HO_393000 := Aside0.mk (Kd.R_drew HO_393000.out)
                     replace HO_394000 := Aside0.mk (Kd.R_drew HO_394000.out)
                     replace BK380 := Aside0.mk (blk_drew BK380.out)
                     replace BK387 := Aside0.mk (blk_drew BK387.out)
                     replace BK391 := Aside0.mk (blk_drew BK391.out)
                     replace BK392 := Aside0.mk (blk_drew BK392.out)
                     replace BK393 := Aside0.mk (blk_drew BK393.out)
                     replace HB := Aside0.mk (below_drew1 HB.out)
                     have p394 : 0 ≤ ((ji48) : Int) := of_decide_eq_true (by first | (with_reducible assumption) | assumption)
                     have q394 : (ji48) < (((rd_T83 t368 x78_2).f0).length : Int) := of_decide_eq_true (by first | (with_reducible assumption) | assumption)
                     have hfn394 := Kd.F_now HF390_0.out
                     obtain ⟨ad394, e394, hx394_0, hx394_1⟩ := at_T25 hfn394 (ji48) p394 q394
                     have hw394_1 := hx394_1
                     have hw394_0 := hx394_0
                     cases e394
                     replace p394 := eq_true p394
                     replace q394 := eq_true q394
                     refine start_ (n := 14) (S := fun w' => w'.cell? ⟨gb392, 0, none⟩ = some (u393000) ∧ w'.cell? ⟨gb392, 1, none⟩ = some (.bool ((rd_T83 t368 x78_2).f1)) ∧ w'.cell? ⟨gb391, 0, none⟩ = some (.slice (some ad394) ((rd_T83 t368 x78_2).f0).length c390_0) ∧ w'.cell? ⟨gb391, 1, none⟩ = some (.bool ((rd_T83 t368 x78_2).f1)) ∧ w'.cell? (ad394.add (((ji48)).toNat * 2)) = some (.int .i64 ((rd_T25 ((rd_T83 t368 x78_2).f0) (ji48)).f0)) ∧ w'.cell? ⟨(ad394.add (((ji48)).toNat * 2)).block, (ad394.add (((ji48)).toNat * 2)).off + 1, none⟩ = some (.int .i64 ((rd_T25 ((rd_T83 t368 x78_2).f0) (ji48)).f1))) (ds := [13]) #[false, false, false, false, false, false, false, false, false, false, false, false, false, false] (by kernel_rfl) rfl rfl ⟨(blk_cell BK392.out 0).trans rfl, (blk_cell BK392.out 1).trans rfl, (blk_cell BK391.out 0).trans rfl, (blk_cell BK391.out 1).trans rfl, hw394_0, hw394_1⟩ (fun hHeld => ?_); refine with_tabW laws_FnCover.tab21 laws_FnCover.bits21 (fun HT_ HW_ => ?_)
                     generalize wr.drew = w57 at HO_13 HO_14 HO_76 HF390_0 HO_381002 HO_388002 HO_393000 HO_394000 BK380 BK387 BK391 BK392 BK393 HB hx394_0 hx394_1 hHeld ⊢
                     refine pure_ (i := 0) (N := some 97) (v := ?_) (a' := ?_) #[true, false, false, false, false, false, false, false, false, false, false, false, false, false] rfl rfl (any_of HT_.out (by kernel_rfl)) (fun _ _ _ h => h) (Or.inl ⟨by rfl, ?_⟩) ?_ ?_
                     rotate_left
                     ·intro w'
                      go_simp
                      with_reducible rfl
                     rotate_left
                     ·simp only [Act.put, List.setIfInBounds_toArray, List.set_cons_zero, List.set_cons_succ, i64_w, i32_w]
                      rfl
                     refine pure_ (i := 2) (N := some 99) (v := ?_) (a' := ?_) #[true, false, true, false, false, false, false, false, false, false, false, false, false, false] rfl rfl (any_of HT_.out (by kernel_rfl)) (fun _ _ _ h => h) (Or.inl ⟨by rfl, ?_⟩) ?_ ?_
                     rotate_left
                     ·intro w'
                      go_simp
                      with_reducible rfl
                     rotate_left
                     ·simp only [Act.put, List.setIfInBounds_toArray, List.set_cons_zero, List.set_cons_succ, i64_w, i32_w]
                      rfl
                     refine pure_ (i := 4) (N := some 101) (v := ?_) (a' := ?_) #[true, false, true, false, true, false, false, false, false, false, false, false, false, false] rfl rfl (any_of HT_.out (by kernel_rfl)) (fun _ _ _ h => h) (Or.inl ⟨by rfl, ?_⟩) ?_ ?_
                     rotate_left
                     ·intro w'
                      go_simp
                      with_reducible rfl
                     rotate_left
                     ·simp only [Act.put, List.setIfInBounds_toArray, List.set_cons_zero, List.set_cons_succ, i64_w, i32_w]
                      rfl
                     refine pure_ (i := 5) (N := some 102) (v := ?_) (a' := ?_) #[true, false, true, false, true, true, false, false, false, false, false, false, false, false] rfl rfl (any_of HT_.out (by kernel_rfl)) (fun _ _ _ h => h) (Or.inl ⟨by rfl, ?_⟩) ?_ ?_
                     rotate_left
                     ·intro w'
                      go_simp
                      with_reducible rfl
                     rotate_left
                     ·simp only [Act.put, List.setIfInBounds_toArray, List.set_cons_zero, List.set_cons_succ, i64_w, i32_w]
                      rfl
                     refine pure_ (i := 6) (N := some 103) (v := ?_) (a' := ?_) #[true, false, true, false, true, true, true, false, false, false, false, false, false, false] rfl rfl (any_of HT_.out (by kernel_rfl)) (fun _ _ _ h => h) (Or.inl ⟨by rfl, ?_⟩) ?_ ?_
                     rotate_left
                     ·intro w'
                      go_simp
                      with_reducible rfl
                     rotate_left
                     ·simp only [Act.put, List.setIfInBounds_toArray, List.set_cons_zero, List.set_cons_succ, i64_w, i32_w]
                      rfl
                     refine pure_ (i := 7) (N := some 104) (v := ?_) (a' := ?_) #[true, false, true, false, true, true, true, true, false, false, false, false, false, false] rfl rfl (any_of HT_.out (by kernel_rfl)) (fun _ _ _ h => h) (Or.inl ⟨by rfl, ?_⟩) ?_ ?_
                     rotate_left
                     ·intro w'
                      go_simp
                      with_reducible rfl
                     rotate_left
                     ·simp only [Act.put, List.setIfInBounds_toArray, List.set_cons_zero, List.set_cons_succ, i64_w, i32_w]
                      rfl
                     refine take_ (i := 1) (N := some 98) (v := ?_) (a' := ?_) #[true, true, true, false, true, true, true, true, false, false, false, false, false, false] rfl rfl (take_ofW HT_.out HW_.out (by kernel_rfl)) (fun _ _ _ h => h) (Or.inl ⟨by rfl, ?_⟩) hHeld ?_ ?_
                     rotate_left
                     ·rintro w' ⟨s0, s1, s2, s3, s4, s5⟩
                      go_simp
                      with_reducible rfl
                     rotate_left
                     ·simp only [Act.put, List.setIfInBounds_toArray, List.set_cons_zero, List.set_cons_succ, i64_w, i32_w]
                      rfl
                     refine take_ (i := 3) (N := some 100) (v := ?_) (a' := ?_) #[true, true, true, true, true, true, true, true, false, false, false, false, false, false] rfl rfl (take_ofW HT_.out HW_.out (by kernel_rfl)) (fun _ _ _ h => h) (Or.inl ⟨by rfl, ?_⟩) hHeld ?_ ?_
                     rotate_left
                     ·rintro w' ⟨s0, s1, s2, s3, s4, s5⟩
                      go_simp
                      with_reducible rfl
                     rotate_left
                     ·simp only [Act.put, List.setIfInBounds_toArray, List.set_cons_zero, List.set_cons_succ, i64_w, i32_w]
                      rfl
                     refine pure_ (i := 8) (N := some 105) (v := ?_) (a' := ?_) #[true, true, true, true, true, true, true, true, true, false, false, false, false, false] rfl rfl (any_of HT_.out (by kernel_rfl)) (fun _ _ _ h => h) (Or.inl ⟨by rfl, ?_⟩) ?_ ?_
                     rotate_left
                     ·intro w'
                      go_simp
                      with_reducible rfl
                     rotate_left
                     ·simp only [Act.put, List.setIfInBounds_toArray, List.set_cons_zero, List.set_cons_succ, i64_w, i32_w]
                      rfl
                     refine take_ (i := 9) (N := some 106) (v := ?_) (a' := ?_) #[true, true, true, true, true, true, true, true, true, true, false, false, false, false] rfl rfl (take_ofW HT_.out HW_.out (by kernel_rfl)) (fun _ _ _ h => h) (Or.inl ⟨by rfl, ?_⟩) hHeld ?_ ?_
                     rotate_left
                     ·rintro w' ⟨s0, s1, s2, s3, s4, s5⟩
                      go_simp
                      with_reducible rfl
                     rotate_left
                     ·simp only [Act.put, List.setIfInBounds_toArray, List.set_cons_zero, List.set_cons_succ, i64_w, i32_w]
                      rfl
                     refine one_ (i := 10) (N := some 107) #[true, true, true, true, true, true, true, true, true, true, true, false, false, false] rfl rfl (one_of HT_.out (by kernel_rfl)) (by decide) (fun K hK => ?_)
                     refine value_ (w1 := ?_) (v := ?_) (by rfl) rfl ?_ ?_
                     rotate_left 2
                     ·go_simp
                      constructor
                      ·rfl
                      ·rfl
                     obtain ⟨adz, ez_, hz394_0, hz394_1⟩ := at_T25 (Kd.F_now HF390_0.out) (ji48) (of_eq_true p394) (of_eq_true q394)
                     cases ez_
                     refine hK.out _ _ ⟨(blk_cell (blk_alloc BK392.out _) 0).trans rfl, (blk_cell (blk_alloc BK392.out _) 1).trans rfl, (blk_cell (blk_alloc BK391.out _) 0).trans rfl, (blk_cell (blk_alloc BK391.out _) 1).trans rfl, (World.cell?_alloc_lt _ _ _ (World.block_lt_of_cell? _ _ (hz394_0))).trans (hz394_0), (World.cell?_alloc_lt _ _ _ (World.block_lt_of_cell? _ _ (hz394_1))).trans (hz394_1)⟩ (fun hHeld => ?_)
                     clear hK K
                     refine norm_ (a' := ?_) ?_ ?_
                     rotate_left
                     ·show Act.put _ (some 107) _ = _
                      simp only [Act.put, List.setIfInBounds_toArray, List.set_cons_zero, List.set_cons_succ, i64_w, i32_w]
                      rfl
                     refine one_ (i := 11) (N := some 108) #[true, true, true, true, true, true, true, true, true, true, true, true, false, false] rfl rfl (one_of HT_.out (by kernel_rfl)) (by decide) (fun K hK => ?_)
                     refine Kd.R_append_step k25 (w0 := w) w.heap.size (by rfl) (.tmp 98) (.tmp 107) 28 25 (.agg #[(.int .i64 0), (.int .i64 0)]) 16 rfl Try.underlying28 info25 rfl (by decide) (by omega) u393000 x393000_3 (⟨(rd_T25 ((rd_T83 t368 x78_2).f0) (ji48)).f0, (rd_T25 ((rd_T83 t368 x78_2).f0) (ji48)).f1⟩ : S25) [.int .i64 ((rd_T25 ((rd_T83 t368 x78_2).f0) (ji48)).f0), .int .i64 ((rd_T25 ((rd_T83 t368 x78_2).f0) (ji48)).f1)] (fun k_ => some k_ ≠ (u394000 : Value).ownBlock) (fun _ => False) rfl rfl ?aP (fun _ hk => hk.elim) ?aF ?aO ?aB ?aS ?aL ?_
                     (case aP => exact k25_mkM _ _ _ (⟨(rd_T25 ((rd_T83 t368 x78_2).f0) (ji48)).f0, (rd_T25 ((rd_T83 t368 x78_2).f0) (ji48)).f1⟩ : S25))
                     (case aB => exact (z.bl HB))
                     (case aF => exact (fun k_ hk => Kd.fresh' (Kd.R_lt (z.rl HO_394000.out)) k_ hk))
                     (case aO => exact (z.rl HO_393000.out))
                     (case aS => exact (below_size (z.bl HB)))
                     (case aL => have := LMc51.out; omega)
                     intro v396 w58 ho hb hg hat
                     rw [← Ny395.out] at ho
                     replace HO_13 := Aside0.mk (Kd.S_after (ok := (fun k_ => some k_ ≠ (u14 : Value).ownBlock ∧ some k_ ≠ (.slice (some ad390) t368.length co9 : Value).ownBlock ∧ some k_ ≠ (u394000 : Value).ownBlock ∧ k_ ≠ gb391 ∧ k_ ≠ gb392 ∧ k_ ≠ gb393)) (by (with_reducible repeat (first | apply Kd.S_alloc | apply Kd.S_drewN | apply Kd.S_drew)); exact Kd.S_mono HO_13.out (fun _ hk => ⟨⟨hk.1, ⟨hk.2.1, ⟨hk.2.2.2.1, ⟨hk.2.2.2.2.1, ⟨hk.2.2.2.2.2.1, hk.2.2.2.2.2.2⟩⟩⟩⟩⟩, hk.2.2.1⟩)) hg hat)
                     replace HO_14 := Aside0.mk (Kd.S_after (ok := (fun k_ => some k_ ≠ (u13 : Value).ownBlock ∧ some k_ ≠ (.slice (some ad390) t368.length co9 : Value).ownBlock ∧ some k_ ≠ (u394000 : Value).ownBlock ∧ k_ ≠ gb391 ∧ k_ ≠ gb392 ∧ k_ ≠ gb393)) (by (with_reducible repeat (first | apply Kd.S_alloc | apply Kd.S_drewN | apply Kd.S_drew)); exact Kd.S_mono HO_14.out (fun _ hk => ⟨⟨hk.1, ⟨hk.2.1, ⟨hk.2.2.2.1, ⟨hk.2.2.2.2.1, ⟨hk.2.2.2.2.2.1, hk.2.2.2.2.2.2⟩⟩⟩⟩⟩, hk.2.2.1⟩)) hg hat)
                     replace HO_76 := Aside0.mk (Kd.S_after (ok := (fun k_ => some k_ ≠ (u13 : Value).ownBlock ∧ some k_ ≠ (u14 : Value).ownBlock ∧ some k_ ≠ (u394000 : Value).ownBlock ∧ k_ ≠ gb391 ∧ k_ ≠ gb392 ∧ k_ ≠ gb393)) (by (with_reducible repeat (first | apply Kd.S_alloc | apply Kd.S_drewN | apply Kd.S_drew)); exact Kd.S_mono HO_76.out (fun _ hk => ⟨⟨hk.1, ⟨hk.2.1, ⟨hk.2.2.2.1, ⟨hk.2.2.2.2.1, ⟨hk.2.2.2.2.2.1, hk.2.2.2.2.2.2⟩⟩⟩⟩⟩, hk.2.2.1⟩)) hg hat)
                     replace HF390_0 := Aside0.mk (Kd.F_after (ok := (fun k_ => some k_ ≠ (u13 : Value).ownBlock ∧ some k_ ≠ (u14 : Value).ownBlock ∧ some k_ ≠ (u394000 : Value).ownBlock ∧ k_ ≠ gb391 ∧ k_ ≠ gb392 ∧ k_ ≠ gb393)) (by (with_reducible repeat (first | apply Kd.F_alloc | apply Kd.F_drewN | apply Kd.F_drew)); exact Kd.F_mono HF390_0.out (fun _ hk => ⟨⟨hk.1, ⟨hk.2.1, ⟨hk.2.2.2.1, ⟨hk.2.2.2.2.1, ⟨hk.2.2.2.2.2.1, hk.2.2.2.2.2.2⟩⟩⟩⟩⟩, hk.2.2.1⟩)) hg hat)
                     replace HO_381002 := Aside0.mk (Kd.R_over' (z.rl HO_381002.out) (Kd.R_typed (z.rl HO_393000.out)) (by decide) hg)
                     replace HO_388002 := Aside0.mk (Kd.R_over' (z.rl HO_388002.out) (Kd.R_typed (z.rl HO_393000.out)) (by decide) hg)
                     replace HO_394000 := Aside0.mk (Kd.R_after (ok := (fun _ => True)) (z.rl (Kd.R_mono HO_394000.out (fun _ hk => ⟨trivial, hk⟩))) hg hat)
                     replace BK380 := Aside0.mk (blk_grown (g := gb380) (z.bk BK380) hg (Kd.R_ne HO_393000.out BK380.out (by decide)))
                     replace BK387 := Aside0.mk (blk_grown (g := gb387) (z.bk BK387) hg (Kd.R_ne HO_393000.out BK387.out (by decide)))
                     replace BK391 := Aside0.mk (blk_grown (g := gb391) (z.bk BK391) hg (Kd.R_ne HO_393000.out BK391.out (by decide)))
                     replace BK392 := Aside0.mk (blk_grown (g := gb392) (z.bk BK392) hg (Kd.R_ne HO_393000.out BK392.out (by decide)))
                     replace BK393 := Aside0.mk (blk_grown (g := gb393) (z.bk BK393) hg (Kd.R_ne HO_393000.out BK393.out (by decide)))
                     replace HB := Aside0.mk (hb)
                     have HO397 := Aside0.mk (ho)
                     clear HO_393000
                     clear ho hb hg hat
                     obtain ⟨Ao59, co59, eo59⟩ := Kd.R_slice HO397.out
                     (first | subst eo59 | (injection eo59 with f1_ f2_ f3_; have f4_ := f1_.symm; have f5_ := f3_.symm; clear f1_ f2_ f3_; subst f4_; subst f5_))
                     obtain ⟨adz, ez_, hz394_0, hz394_1⟩ := at_T25 (Kd.F_now HF390_0.out) (ji48) (of_eq_true p394) (of_eq_true q394)
                     cases ez_
                     refine hK.out _ _ ⟨(blk_cell BK392.out 0).trans rfl, (blk_cell BK392.out 1).trans rfl, (blk_cell BK391.out 0).trans rfl, (blk_cell BK391.out 1).trans rfl, hz394_0, hz394_1⟩ (fun hHeld => ?_)
                     clear hK K
                     refine norm_ (a' := ?_) ?_ ?_
                     rotate_left
                     ·show Act.put _ (some 108) _ = _
                      simp only [Act.put, List.setIfInBounds_toArray, List.set_cons_zero, List.set_cons_succ, i64_w, i32_w]
                      rfl
                     refine pure_ (i := 12) (N := some 109) (v := ?_) (a' := ?_) #[true, true, true, true, true, true, true, true, true, true, true, true, true, false] rfl rfl (any_of HT_.out (by kernel_rfl)) (fun _ _ _ h => h) (Or.inl ⟨by rfl, ?_⟩) ?_ ?_
                     rotate_left
                     ·intro w'
                      go_simp
                      with_reducible rfl
                     rotate_left
                     ·simp only [Act.put, List.setIfInBounds_toArray, List.set_cons_zero, List.set_cons_succ, i64_w, i32_w]
                      rfl
                     refine last_ (i := 13) (N := none) #[true, true, true, true, true, true, true, true, true, true, true, true, true, true] rfl rfl (one_of HT_.out (by kernel_rfl)) (by decide) (fun K hK => ?_)
                     have hs60 : w58.cell? ⟨gb392, 0, none⟩ = some (u393000) := (blk_cell BK392.out 0).trans rfl
                     have hfs60 := blk_frozen BK392.out 0
                     have hns60_0 := NB380_392.out
                     have hns60_1 := NB387_392.out
                     have hns60_2 := NB391_392.out
                     have hns60_4 := NB393_392.out
                     have hms60_0 := NB392_380.out
                     have hms60_1 := NB392_387.out
                     have hms60_2 := NB392_391.out
                     have hms60_4 := NB392_393.out
                     refine skip_ (w1 := ?_) (by rfl) rfl ?_ ?_
                     rotate_left
                     ·go_simp
                      rfl
                     refine hK.out _ _ ?_
                     clear hK K
                     refine done_ (done_of HT_.out (by kernel_rfl)) ?_
                     try go_wp2
                     have n0_ : Aside0 (Kd.S k83 83 (w58.setCell ⟨gb392, 0, none⟩ (.slice Ao59 y395.length co59)) w.heap.size (fun k_ => some k_ ≠ (u14 : Value).ownBlock ∧ some k_ ≠ (.slice (some ad390) t368.length co9 : Value).ownBlock ∧ some k_ ≠ (u394000 : Value).ownBlock ∧ some k_ ≠ (.slice Ao59 y395.length co59 : Value).ownBlock ∧ k_ ≠ gb391 ∧ k_ ≠ gb392 ∧ k_ ≠ gb393) u13 x13_2) := ⟨by (with_reducible repeat (first | apply Kd.S_alloc | apply Kd.S_drewN | apply Kd.S_drew)); exact Kd.S_mono (Kd.S_far (p := ⟨gb392, 0, none⟩) (Kd.S_mono HO_13.out (fun k_ hk => (⟨hk, hk.1.2.2.2.2.1⟩ : _ ∧ k_ ≠ gb392))) (fun _ hk => hk.2) (.slice Ao59 y395.length co59)) (fun _ hk => ⟨hk.1.1.1, ⟨hk.1.1.2.1, ⟨hk.1.1.2.2.1, ⟨hk.1.2, ⟨hk.1.1.2.2.2.1, ⟨hk.1.1.2.2.2.2.1, hk.1.1.2.2.2.2.2⟩⟩⟩⟩⟩⟩)⟩
                     have n1_ : Aside0 (Kd.S k83 83 (w58.setCell ⟨gb392, 0, none⟩ (.slice Ao59 y395.length co59)) w.heap.size (fun k_ => some k_ ≠ (u13 : Value).ownBlock ∧ some k_ ≠ (.slice (some ad390) t368.length co9 : Value).ownBlock ∧ some k_ ≠ (u394000 : Value).ownBlock ∧ some k_ ≠ (.slice Ao59 y395.length co59 : Value).ownBlock ∧ k_ ≠ gb391 ∧ k_ ≠ gb392 ∧ k_ ≠ gb393) u14 x14_2) := ⟨by (with_reducible repeat (first | apply Kd.S_alloc | apply Kd.S_drewN | apply Kd.S_drew)); exact Kd.S_mono (Kd.S_far (p := ⟨gb392, 0, none⟩) (Kd.S_mono HO_14.out (fun k_ hk => (⟨hk, hk.1.2.2.2.2.1⟩ : _ ∧ k_ ≠ gb392))) (fun _ hk => hk.2) (.slice Ao59 y395.length co59)) (fun _ hk => ⟨hk.1.1.1, ⟨hk.1.1.2.1, ⟨hk.1.1.2.2.1, ⟨hk.1.2, ⟨hk.1.1.2.2.2.1, ⟨hk.1.1.2.2.2.2.1, hk.1.1.2.2.2.2.2⟩⟩⟩⟩⟩⟩)⟩
                     have n2_ : Aside0 (Kd.S k83 83 (w58.setCell ⟨gb392, 0, none⟩ (.slice Ao59 y395.length co59)) w.heap.size (fun k_ => some k_ ≠ (u13 : Value).ownBlock ∧ some k_ ≠ (u14 : Value).ownBlock ∧ some k_ ≠ (u394000 : Value).ownBlock ∧ some k_ ≠ (.slice Ao59 y395.length co59 : Value).ownBlock ∧ k_ ≠ gb391 ∧ k_ ≠ gb392 ∧ k_ ≠ gb393) (.slice (some ad390) t368.length co9) t368) := ⟨by (with_reducible repeat (first | apply Kd.S_alloc | apply Kd.S_drewN | apply Kd.S_drew)); exact Kd.S_mono (Kd.S_far (p := ⟨gb392, 0, none⟩) (Kd.S_mono HO_76.out (fun k_ hk => (⟨hk, hk.1.2.2.2.2.1⟩ : _ ∧ k_ ≠ gb392))) (fun _ hk => hk.2) (.slice Ao59 y395.length co59)) (fun _ hk => ⟨hk.1.1.1, ⟨hk.1.1.2.1, ⟨hk.1.1.2.2.1, ⟨hk.1.2, ⟨hk.1.1.2.2.2.1, ⟨hk.1.1.2.2.2.2.1, hk.1.1.2.2.2.2.2⟩⟩⟩⟩⟩⟩)⟩
                     have n2_f : Aside0 (Kd.F k25 (w58.setCell ⟨gb392, 0, none⟩ (.slice Ao59 y395.length co59)) (fun k_ => some k_ ≠ (u13 : Value).ownBlock ∧ some k_ ≠ (u14 : Value).ownBlock ∧ some k_ ≠ (u394000 : Value).ownBlock ∧ some k_ ≠ (.slice Ao59 y395.length co59 : Value).ownBlock ∧ k_ ≠ gb391 ∧ k_ ≠ gb392 ∧ k_ ≠ gb393) (some ad394) (((rd_T83 t368 x78_2).f0)).length ((rd_T83 t368 x78_2).f0)) := ⟨by (with_reducible repeat (first | apply Kd.F_alloc | apply Kd.F_drewN | apply Kd.F_drew)); exact Kd.F_mono (Kd.F_far (p := ⟨gb392, 0, none⟩) (Kd.F_mono HF390_0.out (fun k_ hk => (⟨hk, hk.1.2.2.2.2.1⟩ : _ ∧ k_ ≠ gb392))) (fun _ hk => hk.2) (.slice Ao59 y395.length co59)) (fun _ hk => ⟨hk.1.1.1, ⟨hk.1.1.2.1, ⟨hk.1.1.2.2.1, ⟨hk.1.2, ⟨hk.1.1.2.2.2.1, ⟨hk.1.1.2.2.2.2.1, hk.1.1.2.2.2.2.2⟩⟩⟩⟩⟩⟩)⟩
                     have n3_ : Aside0 (Kd.R (Kd.int .i64) 3 (w58.setCell ⟨gb392, 0, none⟩ (.slice Ao59 y395.length co59)) w.heap.size (fun k_ => some k_ ≠ (.slice Ao18 t383.length co18 : Value).ownBlock) (.slice Ao13 t376.length co13) t376) := ⟨z.rl (Kd.R_mono (Kd.R_far (p := ⟨gb392, 0, none⟩) (Kd.R_types HO_381002.out BK392.out (by decide)) (fun _ hk => hk.2) (.slice Ao59 y395.length co59)) (fun _ hk => hk.1))⟩
                     have n4_ : Aside0 (Kd.R (Kd.int .i64) 3 (w58.setCell ⟨gb392, 0, none⟩ (.slice Ao59 y395.length co59)) w.heap.size (fun k_ => some k_ ≠ (.slice Ao13 t376.length co13 : Value).ownBlock) (.slice Ao18 t383.length co18) t383) := ⟨z.rl (Kd.R_mono (Kd.R_far (p := ⟨gb392, 0, none⟩) (Kd.R_types HO_388002.out BK392.out (by decide)) (fun _ hk => hk.2) (.slice Ao59 y395.length co59)) (fun _ hk => hk.1))⟩
                     have n5_ : Aside0 (Kd.R k25 25 (w58.setCell ⟨gb392, 0, none⟩ (.slice Ao59 y395.length co59)) w.heap.size (fun k_ => some k_ ≠ (.slice Ao59 y395.length co59 : Value).ownBlock) u394000 x394000_3) := ⟨z.rl (Kd.R_mono (Kd.R_far (p := ⟨gb392, 0, none⟩) (Kd.R_types HO_394000.out BK392.out (by decide)) (fun _ hk => hk.2) (.slice Ao59 y395.length co59)) (fun _ hk => hk.1.2))⟩
                     have n6_ : Aside0 (Kd.R k25 25 (w58.setCell ⟨gb392, 0, none⟩ (.slice Ao59 y395.length co59)) w.heap.size (fun k_ => some k_ ≠ (u394000 : Value).ownBlock) (.slice Ao59 y395.length co59) y395) := ⟨z.rl (Kd.R_mono (Kd.R_far (p := ⟨gb392, 0, none⟩) (Kd.R_types HO397.out BK392.out (by decide)) (fun _ hk => hk.2) (.slice Ao59 y395.length co59)) (fun _ hk => hk.1))⟩
                     have n7_ : Aside0 ((w58.setCell ⟨gb392, 0, none⟩ (.slice Ao59 y395.length co59)).heap[gb380]? = some (.cells #[.int .i64 t374, .int .i64 t375, .slice Ao13 t376.length co13] 67 (0, 0))) := ⟨z.bf BK380⟩
                     have n8_ : Aside0 ((w58.setCell ⟨gb392, 0, none⟩ (.slice Ao59 y395.length co59)).heap[gb387]? = some (.cells #[.int .i64 t381, .int .i64 t382, .slice Ao18 t383.length co18] 67 (0, 0))) := ⟨z.bf BK387⟩
                     have n9_ : Aside0 ((w58.setCell ⟨gb392, 0, none⟩ (.slice Ao59 y395.length co59)).heap[gb391]? = some (.cells #[.slice (some ad394) ((rd_T83 t368 x78_2).f0).length c390_0, .bool ((rd_T83 t368 x78_2).f1)] 83 (0, 0))) := ⟨z.bf BK391⟩
                     have n10_ : Aside0 ((w58.setCell ⟨gb392, 0, none⟩ (.slice Ao59 y395.length co59)).heap[gb392]? = some (.cells #[.slice Ao59 y395.length co59, .bool ((rd_T83 t368 x78_2).f1)] 83 (0, 0))) := ⟨by (with_reducible repeat (first | refine blk_drewN ?_ _ | refine blk_drew ?_ | refine blk_alloc ?_ _)); refine blk_put (cs := #[u393000, .bool ((rd_T83 t368 x78_2).f1)]) ?_ 0 _ rfl; (with_reducible repeat (first | refine blk_drewN ?_ _ | refine blk_drew ?_ | refine blk_alloc ?_ _)); exact BK392.out⟩
                     have n11_ : Aside0 ((w58.setCell ⟨gb392, 0, none⟩ (.slice Ao59 y395.length co59)).heap[gb393]? = some (.cells #[u394000, .bool ((rd_T83 t368 x78_2).f1)] 83 (0, 0))) := ⟨z.bf BK393⟩
                     have n12_ : Aside0 (Below w.heap.size w (w58.setCell ⟨gb392, 0, none⟩ (.slice Ao59 y395.length co59))) := ⟨z.bl HB⟩
                     (try clear HO_13)
                     (try clear HO_14)
                     (try clear HO_76)
                     (try clear HF390_0)
                     (try clear HO_381002)
                     (try clear HO_388002)
                     (try clear HO_394000)
                     (try clear HO397)
                     (try clear BK380)
                     (try clear BK387)
                     (try clear BK391)
                     (try clear BK392)
                     (try clear BK393)
                     (try clear HB)
                     generalize (w58.setCell ⟨gb392, 0, none⟩ (.slice Ao59 y395.length co59)) = w61 at n0_ n1_ n2_ n2_f n3_ n4_ n5_ n6_ n7_ n8_ n9_ n10_ n11_ n12_ ⊢
                     have HO_13 := n0_
                     have HO_14 := n1_
                     have HO_76 := n2_
                     have HF390_0 := n2_f
                     have HO_381002 := n3_
                     have HO_388002 := n4_
                     have HO_394000 := n5_
                     have HO397 := n6_
                     have BK380 := n7_
                     have BK387 := n8_
                     have BK391 := n9_
                     have BK392 := n10_
                     have BK393 := n11_
                     have HB := n12_
                     clear n0_ n1_ n2_ n2_f n3_ n4_ n5_ n6_ n7_ n8_ n9_ n10_ n11_ n12_
                     replace HO_13 := Aside0.mk (Kd.S_drew HO_13.out)
                     replace HO_14 := Aside0.mk (Kd.S_drew HO_14.out)
                     replace HO_76 := Aside0.mk (Kd.S_drew HO_76.out)
                     replace HF390_0 := Aside0.mk (Kd.F_drew HF390_0.out)
                     replace HO_381002 := Aside0.mk (Kd.R_drew HO_381002.out)
                     replace HO_388002 := Aside0.mk (Kd.R_drew HO_388002.out)
                     replace HO_394000 := Aside0.mk (Kd.R_drew HO_394000.out)
                     replace HO397 := Aside0.mk (Kd.R_drew HO397.out)
                     replace BK380 := Aside0.mk (blk_drew BK380.out)
                     replace BK387 := Aside0.mk (blk_drew BK387.out)
                     replace BK391 := Aside0.mk (blk_drew BK391.out)
                     replace BK392 := Aside0.mk (blk_drew BK392.out)
                     replace BK393 := Aside0.mk (blk_drew BK393.out)
                     replace HB := Aside0.mk (below_drew1 HB.out)
                     have p398 : 0 ≤ ((ji53) : Int) := of_decide_eq_true (by first | (with_reducible assumption) | assumption)
                     have q398 : (ji53) < (((rd_T83 t368 x78_2).f0).length : Int) := of_decide_eq_true (by first | (with_reducible assumption) | assumption)
                     have hfn398 := Kd.F_now HF390_0.out
                     obtain ⟨ad398, e398, hx398_0, hx398_1⟩ := at_T25 hfn398 (ji53) p398 q398
                     have hw398_1 := hx398_1
                     have hw398_0 := hx398_0
                     obtain rfl : ad394 = ad398 := (by injection e398)
                     replace p398 := eq_true p398
                     replace q398 := eq_true q398
                     refine start_ (n := 15) (S := fun w' => w'.cell? ⟨gb393, 0, none⟩ = some (u394000) ∧ w'.cell? ⟨gb393, 1, none⟩ = some (.bool ((rd_T83 t368 x78_2).f1)) ∧ w'.cell? ⟨gb391, 0, none⟩ = some (.slice (some ad394) ((rd_T83 t368 x78_2).f0).length c390_0) ∧ w'.cell? ⟨gb391, 1, none⟩ = some (.bool ((rd_T83 t368 x78_2).f1)) ∧ w'.cell? (ad394.add (((ji53)).toNat * 2)) = some (.int .i64 ((rd_T25 ((rd_T83 t368 x78_2).f0) (ji53)).f0)) ∧ w'.cell? ⟨(ad394.add (((ji53)).toNat * 2)).block, (ad394.add (((ji53)).toNat * 2)).off + 1, none⟩ = some (.int .i64 ((rd_T25 ((rd_T83 t368 x78_2).f0) (ji53)).f1))) (ds := [14]) #[false, false, false, false, false, false, false, false, false, false, false, false, false, false, false] (by kernel_rfl) rfl rfl ⟨(blk_cell BK393.out 0).trans rfl, (blk_cell BK393.out 1).trans rfl, (blk_cell BK391.out 0).trans rfl, (blk_cell BK391.out 1).trans rfl, hw398_0, hw398_1⟩ (fun hHeld => ?_); refine with_tabW laws_FnCover.tab22 laws_FnCover.bits22 (fun HT_ HW_ => ?_)
                     generalize w61.drew = w62 at HO_13 HO_14 HO_76 HF390_0 HO_381002 HO_388002 HO_394000 HO397 BK380 BK387 BK391 BK392 BK393 HB hx398_0 hx398_1 hHeld ⊢
                     refine pure_ (i := 0) (N := some 110) (v := ?_) (a' := ?_) #[true, false, false, false, false, false, false, false, false, false, false, false, false, false, false] rfl rfl (any_of HT_.out (by kernel_rfl)) (fun _ _ _ h => h) (Or.inl ⟨by rfl, ?_⟩) ?_ ?_
                     rotate_left
                     ·intro w'
                      go_simp
                      with_reducible rfl
                     rotate_left
                     ·simp only [Act.put, List.setIfInBounds_toArray, List.set_cons_zero, List.set_cons_succ, i64_w, i32_w]
                      rfl
                     refine pure_ (i := 2) (N := some 112) (v := ?_) (a' := ?_) #[true, false, true, false, false, false, false, false, false, false, false, false, false, false, false] rfl rfl (any_of HT_.out (by kernel_rfl)) (fun _ _ _ h => h) (Or.inl ⟨by rfl, ?_⟩) ?_ ?_
                     rotate_left
                     ·intro w'
                      go_simp
                      with_reducible rfl
                     rotate_left
                     ·simp only [Act.put, List.setIfInBounds_toArray, List.set_cons_zero, List.set_cons_succ, i64_w, i32_w]
                      rfl
                     refine pure_ (i := 4) (N := some 114) (v := ?_) (a' := ?_) #[true, false, true, false, true, false, false, false, false, false, false, false, false, false, false] rfl rfl (any_of HT_.out (by kernel_rfl)) (fun _ _ _ h => h) (Or.inl ⟨by rfl, ?_⟩) ?_ ?_
                     rotate_left
                     ·intro w'
                      go_simp
                      with_reducible rfl
                     rotate_left
                     ·simp only [Act.put, List.setIfInBounds_toArray, List.set_cons_zero, List.set_cons_succ, i64_w, i32_w]
                      rfl
                     refine pure_ (i := 5) (N := some 115) (v := ?_) (a' := ?_) #[true, false, true, false, true, true, false, false, false, false, false, false, false, false, false] rfl rfl (any_of HT_.out (by kernel_rfl)) (fun _ _ _ h => h) (Or.inl ⟨by rfl, ?_⟩) ?_ ?_
                     rotate_left
                     ·intro w'
                      go_simp
                      with_reducible rfl
                     rotate_left
                     ·simp only [Act.put, List.setIfInBounds_toArray, List.set_cons_zero, List.set_cons_succ, i64_w, i32_w]
                      rfl
                     refine pure_ (i := 6) (N := some 116) (v := ?_) (a' := ?_) #[true, false, true, false, true, true, true, false, false, false, false, false, false, false, false] rfl rfl (any_of HT_.out (by kernel_rfl)) (fun _ _ _ h => h) (Or.inl ⟨by rfl, ?_⟩) ?_ ?_
                     rotate_left
                     ·intro w'
                      go_simp
                      with_reducible rfl
                     rotate_left
                     ·simp only [Act.put, List.setIfInBounds_toArray, List.set_cons_zero, List.set_cons_succ, i64_w, i32_w]
                      rfl
                     refine pure_ (i := 7) (N := some 117) (v := ?_) (a' := ?_) #[true, false, true, false, true, true, true, true, false, false, false, false, false, false, false] rfl rfl (any_of HT_.out (by kernel_rfl)) (fun _ _ _ h => h) (Or.inl ⟨by rfl, ?_⟩) ?_ ?_
                     rotate_left
                     ·intro w'
                      go_simp
                      with_reducible rfl
                     rotate_left
                     ·simp only [Act.put, List.setIfInBounds_toArray, List.set_cons_zero, List.set_cons_succ, i64_w, i32_w]
                      rfl
                     refine pure_ (i := 8) (N := some 118) (v := ?_) (a' := ?_) #[true, false, true, false, true, true, true, true, true, false, false, false, false, false, false] rfl rfl (any_of HT_.out (by kernel_rfl)) (fun _ _ _ h => h) (Or.inl ⟨by rfl, ?_⟩) ?_ ?_
                     rotate_left
                     ·intro w'
                      go_simp
                      with_reducible rfl
                     rotate_left
                     ·simp only [Act.put, List.setIfInBounds_toArray, List.set_cons_zero, List.set_cons_succ, i64_w, i32_w]
                      rfl
                     refine take_ (i := 1) (N := some 111) (v := ?_) (a' := ?_) #[true, true, true, false, true, true, true, true, true, false, false, false, false, false, false] rfl rfl (take_ofW HT_.out HW_.out (by kernel_rfl)) (fun _ _ _ h => h) (Or.inl ⟨by rfl, ?_⟩) hHeld ?_ ?_
                     rotate_left
                     ·rintro w' ⟨s0, s1, s2, s3, s4, s5⟩
                      go_simp
                      with_reducible rfl
                     rotate_left
                     ·simp only [Act.put, List.setIfInBounds_toArray, List.set_cons_zero, List.set_cons_succ, i64_w, i32_w]
                      rfl
                     refine take_ (i := 3) (N := some 113) (v := ?_) (a' := ?_) #[true, true, true, true, true, true, true, true, true, false, false, false, false, false, false] rfl rfl (take_ofW HT_.out HW_.out (by kernel_rfl)) (fun _ _ _ h => h) (Or.inl ⟨by rfl, ?_⟩) hHeld ?_ ?_
                     rotate_left
                     ·rintro w' ⟨s0, s1, s2, s3, s4, s5⟩
                      go_simp
                      with_reducible rfl
                     rotate_left
                     ·simp only [Act.put, List.setIfInBounds_toArray, List.set_cons_zero, List.set_cons_succ, i64_w, i32_w]
                      rfl
                     refine pure_ (i := 9) (N := some 119) (v := ?_) (a' := ?_) #[true, true, true, true, true, true, true, true, true, true, false, false, false, false, false] rfl rfl (any_of HT_.out (by kernel_rfl)) (fun _ _ _ h => h) (Or.inl ⟨by rfl, ?_⟩) ?_ ?_
                     rotate_left
                     ·intro w'
                      go_simp
                      with_reducible rfl
                     rotate_left
                     ·simp only [Act.put, List.setIfInBounds_toArray, List.set_cons_zero, List.set_cons_succ, i64_w, i32_w]
                      rfl
                     refine take_ (i := 10) (N := some 120) (v := ?_) (a' := ?_) #[true, true, true, true, true, true, true, true, true, true, true, false, false, false, false] rfl rfl (take_ofW HT_.out HW_.out (by kernel_rfl)) (fun _ _ _ h => h) (Or.inl ⟨by rfl, ?_⟩) hHeld ?_ ?_
                     rotate_left
                     ·rintro w' ⟨s0, s1, s2, s3, s4, s5⟩
                      go_simp
                      with_reducible rfl
                     rotate_left
                     ·simp only [Act.put, List.setIfInBounds_toArray, List.set_cons_zero, List.set_cons_succ, i64_w, i32_w]
                      rfl
                     refine one_ (i := 11) (N := some 121) #[true, true, true, true, true, true, true, true, true, true, true, true, false, false, false] rfl rfl (one_of HT_.out (by kernel_rfl)) (by decide) (fun K hK => ?_)
                     refine value_ (w1 := ?_) (v := ?_) (by rfl) rfl ?_ ?_
                     rotate_left 2
                     ·go_simp
                      constructor
                      ·rfl
                      ·rfl
                     obtain ⟨adz, ez_, hz398_0, hz398_1⟩ := at_T25 (Kd.F_now HF390_0.out) (ji53) (of_eq_true p398) (of_eq_true q398)
                     cases ez_
                     refine hK.out _ _ ⟨(blk_cell (blk_alloc BK393.out _) 0).trans rfl, (blk_cell (blk_alloc BK393.out _) 1).trans rfl, (blk_cell (blk_alloc BK391.out _) 0).trans rfl, (blk_cell (blk_alloc BK391.out _) 1).trans rfl, (World.cell?_alloc_lt _ _ _ (World.block_lt_of_cell? _ _ (hz398_0))).trans (hz398_0), (World.cell?_alloc_lt _ _ _ (World.block_lt_of_cell? _ _ (hz398_1))).trans (hz398_1)⟩ (fun hHeld => ?_)
                     clear hK K
                     refine norm_ (a' := ?_) ?_ ?_
                     rotate_left
                     ·show Act.put _ (some 121) _ = _
                      simp only [Act.put, List.setIfInBounds_toArray, List.set_cons_zero, List.set_cons_succ, i64_w, i32_w]
                      rfl
                     refine one_ (i := 12) (N := some 122) #[true, true, true, true, true, true, true, true, true, true, true, true, true, false, false] rfl rfl (one_of HT_.out (by kernel_rfl)) (by decide) (fun K hK => ?_)
                     refine Kd.R_append_step k25 (w0 := w) w.heap.size (by rfl) (.tmp 111) (.tmp 121) 28 25 (.agg #[(.int .i64 0), (.int .i64 0)]) 16 rfl Try.underlying28 info25 rfl (by decide) (by omega) u394000 x394000_3 (⟨(rd_T25 ((rd_T83 t368 x78_2).f0) (ji53)).f0, (rd_T25 ((rd_T83 t368 x78_2).f0) (ji53)).f1⟩ : S25) [.int .i64 ((rd_T25 ((rd_T83 t368 x78_2).f0) (ji53)).f0), .int .i64 ((rd_T25 ((rd_T83 t368 x78_2).f0) (ji53)).f1)] (fun k_ => some k_ ≠ (.slice Ao59 y395.length co59 : Value).ownBlock) (fun _ => False) rfl rfl ?aP (fun _ hk => hk.elim) ?aF ?aO ?aB ?aS ?aL ?_
                     (case aP => exact k25_mkM _ _ _ (⟨(rd_T25 ((rd_T83 t368 x78_2).f0) (ji53)).f0, (rd_T25 ((rd_T83 t368 x78_2).f0) (ji53)).f1⟩ : S25))
                     (case aB => exact (z.bl HB))
                     (case aF => exact (fun k_ hk => Kd.fresh' (Kd.R_lt (z.rl HO397.out)) k_ hk))
                     (case aO => exact (z.rl HO_394000.out))
                     (case aS => exact (below_size (z.bl HB)))
                     (case aL => have := LMc56.out; omega)
                     intro v400 w63 ho hb hg hat
                     rw [← Ny399.out] at ho
                     replace HO_13 := Aside0.mk (Kd.S_after (ok := (fun k_ => some k_ ≠ (u14 : Value).ownBlock ∧ some k_ ≠ (.slice (some ad390) t368.length co9 : Value).ownBlock ∧ some k_ ≠ (.slice Ao59 y395.length co59 : Value).ownBlock ∧ k_ ≠ gb391 ∧ k_ ≠ gb392 ∧ k_ ≠ gb393)) (by (with_reducible repeat (first | apply Kd.S_alloc | apply Kd.S_drewN | apply Kd.S_drew)); exact Kd.S_mono HO_13.out (fun _ hk => ⟨⟨hk.1, ⟨hk.2.1, ⟨hk.2.2.2.1, ⟨hk.2.2.2.2.1, ⟨hk.2.2.2.2.2.1, hk.2.2.2.2.2.2⟩⟩⟩⟩⟩, hk.2.2.1⟩)) hg hat)
                     replace HO_14 := Aside0.mk (Kd.S_after (ok := (fun k_ => some k_ ≠ (u13 : Value).ownBlock ∧ some k_ ≠ (.slice (some ad390) t368.length co9 : Value).ownBlock ∧ some k_ ≠ (.slice Ao59 y395.length co59 : Value).ownBlock ∧ k_ ≠ gb391 ∧ k_ ≠ gb392 ∧ k_ ≠ gb393)) (by (with_reducible repeat (first | apply Kd.S_alloc | apply Kd.S_drewN | apply Kd.S_drew)); exact Kd.S_mono HO_14.out (fun _ hk => ⟨⟨hk.1, ⟨hk.2.1, ⟨hk.2.2.2.1, ⟨hk.2.2.2.2.1, ⟨hk.2.2.2.2.2.1, hk.2.2.2.2.2.2⟩⟩⟩⟩⟩, hk.2.2.1⟩)) hg hat)
                     replace HO_76 := Aside0.mk (Kd.S_after (ok := (fun k_ => some k_ ≠ (u13 : Value).ownBlock ∧ some k_ ≠ (u14 : Value).ownBlock ∧ some k_ ≠ (.slice Ao59 y395.length co59 : Value).ownBlock ∧ k_ ≠ gb391 ∧ k_ ≠ gb392 ∧ k_ ≠ gb393)) (by (with_reducible repeat (first | apply Kd.S_alloc | apply Kd.S_drewN | apply Kd.S_drew)); exact Kd.S_mono HO_76.out (fun _ hk => ⟨⟨hk.1, ⟨hk.2.1, ⟨hk.2.2.2.1, ⟨hk.2.2.2.2.1, ⟨hk.2.2.2.2.2.1, hk.2.2.2.2.2.2⟩⟩⟩⟩⟩, hk.2.2.1⟩)) hg hat)
                     replace HF390_0 := Aside0.mk (Kd.F_after (ok := (fun k_ => some k_ ≠ (u13 : Value).ownBlock ∧ some k_ ≠ (u14 : Value).ownBlock ∧ some k_ ≠ (.slice Ao59 y395.length co59 : Value).ownBlock ∧ k_ ≠ gb391 ∧ k_ ≠ gb392 ∧ k_ ≠ gb393)) (by (with_reducible repeat (first | apply Kd.F_alloc | apply Kd.F_drewN | apply Kd.F_drew)); exact Kd.F_mono HF390_0.out (fun _ hk => ⟨⟨hk.1, ⟨hk.2.1, ⟨hk.2.2.2.1, ⟨hk.2.2.2.2.1, ⟨hk.2.2.2.2.2.1, hk.2.2.2.2.2.2⟩⟩⟩⟩⟩, hk.2.2.1⟩)) hg hat)
                     replace HO_381002 := Aside0.mk (Kd.R_over' (z.rl HO_381002.out) (Kd.R_typed (z.rl HO_394000.out)) (by decide) hg)
                     replace HO_388002 := Aside0.mk (Kd.R_over' (z.rl HO_388002.out) (Kd.R_typed (z.rl HO_394000.out)) (by decide) hg)
                     replace BK380 := Aside0.mk (blk_grown (g := gb380) (z.bk BK380) hg (Kd.R_ne HO_394000.out BK380.out (by decide)))
                     replace BK387 := Aside0.mk (blk_grown (g := gb387) (z.bk BK387) hg (Kd.R_ne HO_394000.out BK387.out (by decide)))
                     replace BK391 := Aside0.mk (blk_grown (g := gb391) (z.bk BK391) hg (Kd.R_ne HO_394000.out BK391.out (by decide)))
                     replace BK392 := Aside0.mk (blk_grown (g := gb392) (z.bk BK392) hg (Kd.R_ne HO_394000.out BK392.out (by decide)))
                     replace BK393 := Aside0.mk (blk_grown (g := gb393) (z.bk BK393) hg (Kd.R_ne HO_394000.out BK393.out (by decide)))
                     replace HO397 := Aside0.mk (Kd.R_after (ok := (fun _ => True)) (z.rl (Kd.R_mono HO397.out (fun _ hk => ⟨trivial, hk⟩))) hg hat)
                     replace HB := Aside0.mk (hb)
                     have HO401 := Aside0.mk (ho)
                     clear HO_394000
                     clear ho hb hg hat
                     obtain ⟨Ao64, co64, eo64⟩ := Kd.R_slice HO401.out
                     (first | subst eo64 | (injection eo64 with f1_ f2_ f3_; have f4_ := f1_.symm; have f5_ := f3_.symm; clear f1_ f2_ f3_; subst f4_; subst f5_))
                     obtain ⟨adz, ez_, hz398_0, hz398_1⟩ := at_T25 (Kd.F_now HF390_0.out) (ji53) (of_eq_true p398) (of_eq_true q398)
                     cases ez_
                     refine hK.out _ _ ⟨(blk_cell BK393.out 0).trans rfl, (blk_cell BK393.out 1).trans rfl, (blk_cell BK391.out 0).trans rfl, (blk_cell BK391.out 1).trans rfl, hz398_0, hz398_1⟩ (fun hHeld => ?_)
                     clear hK K
                     refine norm_ (a' := ?_) ?_ ?_
                     rotate_left
                     ·show Act.put _ (some 122) _ = _
                      simp only [Act.put, List.setIfInBounds_toArray, List.set_cons_zero, List.set_cons_succ, i64_w, i32_w]
                      rfl
                     refine pure_ (i := 13) (N := some 123) (v := ?_) (a' := ?_) #[true, true, true, true, true, true, true, true, true, true, true, true, true, true, false] rfl rfl (any_of HT_.out (by kernel_rfl)) (fun _ _ _ h => h) (Or.inl ⟨by rfl, ?_⟩) ?_ ?_
                     rotate_left
                     ·intro w'
                      go_simp
                      with_reducible rfl
                     rotate_left
                     ·simp only [Act.put, List.setIfInBounds_toArray, List.set_cons_zero, List.set_cons_succ, i64_w, i32_w]
                      rfl
                     refine last_ (i := 14) (N := none) #[true, true, true, true, true, true, true, true, true, true, true, true, true, true, true] rfl rfl (one_of HT_.out (by kernel_rfl)) (by decide) (fun K hK => ?_)
                     have hs65 : w63.cell? ⟨gb393, 0, none⟩ = some (u394000) := (blk_cell BK393.out 0).trans rfl
                     have hfs65 := blk_frozen BK393.out 0
                     have hns65_0 := NB380_393.out
                     have hns65_1 := NB387_393.out
                     have hns65_2 := NB391_393.out
                     have hns65_3 := NB392_393.out
                     have hms65_0 := NB393_380.out
                     have hms65_1 := NB393_387.out
                     have hms65_2 := NB393_391.out
                     have hms65_3 := NB393_392.out
                     refine skip_ (w1 := ?_) (by rfl) rfl ?_ ?_
                     rotate_left
                     ·go_simp
                      rfl
                     refine hK.out _ _ ?_
                     clear hK K
                     refine done_ (done_of HT_.out (by kernel_rfl)) ?_
                     try go_wp2
                     go_roundg k3
                     case measure => have := HJ6.out; have := HK2.out; have := HK3.out; omega
                     case rel => exact ⟨(wrap64 (x94_3 + 1)), (y395), (y399), (.slice Ao59 y395.length co59), (.slice Ao64 y399.length co64), (by first | rfl | (simp; done) | (simp [*]; done)), H', ⟨by have := HJ6.out; have := HK2.out; have := HK3.out; omega⟩, ⟨by (with_reducible repeat (first | apply Kd.S_alloc | apply Kd.S_drewN | apply Kd.S_drew)); exact Kd.S_mono (Kd.S_far (p := ⟨gb393, 0, none⟩) (Kd.S_mono HO_13.out (fun k_ hk => (⟨hk, hk.1.2.2.2.2.2⟩ : _ ∧ k_ ≠ gb393))) (fun _ hk => hk.2) (.slice Ao64 y399.length co64)) (fun _ hk => ⟨hk.1.1.1, ⟨hk.1.1.2.1, ⟨hk.1.1.2.2.1, ⟨hk.1.2, ⟨hk.1.1.2.2.2.1, ⟨hk.1.1.2.2.2.2.1, hk.1.1.2.2.2.2.2⟩⟩⟩⟩⟩⟩)⟩, ⟨by (with_reducible repeat (first | apply Kd.S_alloc | apply Kd.S_drewN | apply Kd.S_drew)); exact Kd.S_mono (Kd.S_far (p := ⟨gb393, 0, none⟩) (Kd.S_mono HO_14.out (fun k_ hk => (⟨hk, hk.1.2.2.2.2.2⟩ : _ ∧ k_ ≠ gb393))) (fun _ hk => hk.2) (.slice Ao64 y399.length co64)) (fun _ hk => ⟨hk.1.1.1, ⟨hk.1.1.2.1, ⟨hk.1.1.2.2.1, ⟨hk.1.2, ⟨hk.1.1.2.2.2.1, ⟨hk.1.1.2.2.2.2.1, hk.1.1.2.2.2.2.2⟩⟩⟩⟩⟩⟩)⟩, ⟨by (with_reducible repeat (first | apply Kd.S_alloc | apply Kd.S_drewN | apply Kd.S_drew)); exact Kd.S_mono (Kd.S_far (p := ⟨gb393, 0, none⟩) (Kd.S_mono HO_76.out (fun k_ hk => (⟨hk, hk.1.2.2.2.2.2⟩ : _ ∧ k_ ≠ gb393))) (fun _ hk => hk.2) (.slice Ao64 y399.length co64)) (fun _ hk => ⟨hk.1.1.1, ⟨hk.1.1.2.1, ⟨hk.1.1.2.2.1, ⟨hk.1.2, ⟨hk.1.1.2.2.2.1, ⟨hk.1.1.2.2.2.2.1, hk.1.1.2.2.2.2.2⟩⟩⟩⟩⟩⟩)⟩, ⟨by (with_reducible repeat (first | apply Kd.F_alloc | apply Kd.F_drewN | apply Kd.F_drew)); exact Kd.F_mono (Kd.F_far (p := ⟨gb393, 0, none⟩) (Kd.F_mono HF390_0.out (fun k_ hk => (⟨hk, hk.1.2.2.2.2.2⟩ : _ ∧ k_ ≠ gb393))) (fun _ hk => hk.2) (.slice Ao64 y399.length co64)) (fun _ hk => ⟨hk.1.1.1, ⟨hk.1.1.2.1, ⟨hk.1.1.2.2.1, ⟨hk.1.2, ⟨hk.1.1.2.2.2.1, ⟨hk.1.1.2.2.2.2.1, hk.1.1.2.2.2.2.2⟩⟩⟩⟩⟩⟩)⟩, ⟨z.rl (Kd.R_mono (Kd.R_far (p := ⟨gb393, 0, none⟩) (Kd.R_types HO_381002.out BK393.out (by decide)) (fun _ hk => hk.2) (.slice Ao64 y399.length co64)) (fun _ hk => hk.1))⟩, ⟨z.rl (Kd.R_mono (Kd.R_far (p := ⟨gb393, 0, none⟩) (Kd.R_types HO_388002.out BK393.out (by decide)) (fun _ hk => hk.2) (.slice Ao64 y399.length co64)) (fun _ hk => hk.1))⟩, ⟨z.rl (Kd.R_mono (Kd.R_far (p := ⟨gb393, 0, none⟩) (Kd.R_types HO397.out BK393.out (by decide)) (fun _ hk => hk.2) (.slice Ao64 y399.length co64)) (fun _ hk => hk.1.2))⟩, ⟨z.rl (Kd.R_mono (Kd.R_far (p := ⟨gb393, 0, none⟩) (Kd.R_types HO401.out BK393.out (by decide)) (fun _ hk => hk.2) (.slice Ao64 y399.length co64)) (fun _ hk => hk.1))⟩, ⟨z.bf BK380⟩, ⟨z.bf BK387⟩, ⟨z.bf BK391⟩, ⟨z.bf BK392⟩, ⟨by (with_reducible repeat (first | refine blk_drewN ?_ _ | refine blk_drew ?_ | refine blk_alloc ?_ _)); refine blk_put (cs := #[u394000, .bool ((rd_T83 t368 x78_2).f1)]) ?_ 0 _ rfl; (with_reducible repeat (first | refine blk_drewN ?_ _ | refine blk_drew ?_ | refine blk_alloc ?_ _)); exact BK393.out⟩, ⟨z.bl HB⟩⟩
                    ·rw [if_neg c56] at H
                     exact absurd H (by simp)
                   ·rw [if_neg c55] at H
                    exact absurd H (by simp)
                  ·rw [if_neg c54] at H
                   exact absurd H (by simp)
                ·rw [if_neg c51] at H
                 exact absurd H (by simp)
               ·rw [if_neg c50] at H
                exact absurd H (by simp)
              ·rw [if_neg c49] at H
               exact absurd H (by simp)
             ·rw [if_neg c47] at H
              have c47b0 : decide (x94_3 < (((rd_T83 t368 x78_2).f0).length : Int)) = false := decide_eq_false c47
              clear c47
              by_cases c66 : x13_2.length < 4398046511104
              ·rw [if_pos c66] at H
               have LMc66 := Aside0.mk c66
               clear c66
               obtain ⟨y402, hy402⟩ : ∃ y_ : List (S83), y_ = (x13_2 ++ [(⟨x393000_3, ((rd_T83 t368 x78_2).f1)⟩ : S83)]) := ⟨_, rfl⟩
               replace H : (if x14_2.length < 4398046511104 then (laws_FnCover.l0 k3 t369 t370 t371 y402 (x14_2 ++ [(⟨x394000_3, ((rd_T83 t368 x78_2).f1)⟩ : S83)]) t389 t368 (t368.length : Int) (wrap64 (x78_2 + 1)) t374 t375 t376) else (none)) = some r := by first | (rw [hy402]; with_reducible exact H) | (have H2_ := (Option.bind_some _ _).symm.trans H; rw [hy402]; with_reducible exact H2_) | (have H2_ := (Option.bind_some _ _).symm.trans H; with_reducible exact H2_) | with_reducible exact H | (rw [hy402]; exact H) | exact H
               have Ny402 := Aside0.mk hy402
               clear hy402
               by_cases c67 : x14_2.length < 4398046511104
               ·rw [if_pos c67] at H
                have LMc67 := Aside0.mk c67
                clear c67
                obtain ⟨y405, hy405⟩ : ∃ y_ : List (S83), y_ = (x14_2 ++ [(⟨x394000_3, ((rd_T83 t368 x78_2).f1)⟩ : S83)]) := ⟨_, rfl⟩
                replace H : (laws_FnCover.l0 k3 t369 t370 t371 y402 y405 t389 t368 (t368.length : Int) (wrap64 (x78_2 + 1)) t374 t375 t376) = some r := by first | (rw [hy405]; with_reducible exact H) | (have H2_ := (Option.bind_some _ _).symm.trans H; rw [hy405]; with_reducible exact H2_) | (have H2_ := (Option.bind_some _ _).symm.trans H; with_reducible exact H2_) | with_reducible exact H | (rw [hy405]; exact H) | exact H
                have Ny405 := Aside0.mk hy405
                clear hy405
                have H' := Aside0.mk H
                clear H
                have hnb68 := NB392_380.out
                have hnc68 := NB380_392.out
                have hnb69 := NB392_387.out
                have hnc69 := NB387_392.out
                have hnb70 := NB392_391.out
                have hnc70 := NB391_392.out
                have hnb71 := NB392_393.out
                have hnc71 := NB393_392.out
                have hcz72_0 : wr.cell? ⟨gb392, 0, none⟩ = some (u393000) := (blk_cell BK392.out 0).trans rfl
                have hcz72_1 : wr.cell? ⟨gb392, 1, none⟩ = some (.bool ((rd_T83 t368 x78_2).f1)) := (blk_cell BK392.out 1).trans rfl
                have hfz72_0 := blk_frozen BK392.out 0
                have hfz72_1 := blk_frozen BK392.out 1
                obtain ⟨Ao74, co74, eo74⟩ := Kd.R_slice HO_393000.out
                subst eo74
                go_wp2_with (first | ((with_reducible refine gate_builtin (b := .append) (xs := #[.tmp 125, .tmp 127]) rfl ?_); at_builtin; refine Kd.S_append k83 (w0 := w) w.heap.size rfl (.tmp 125) (.tmp 127) 75 83 (.agg #[(.slice none 0 0), (.bool false)]) 32 rfl Try.underlying75 info83 rfl (by decide) (by omega) u13 x13_2 (⟨x393000_3, ((rd_T83 t368 x78_2).f1)⟩ : S83) [.slice Ao74 x393000_3.length co74, .bool ((rd_T83 t368 x78_2).f1)] (fun k_ => some k_ ≠ (u14 : Value).ownBlock ∧ some k_ ≠ (.slice (some ad390) t368.length co9 : Value).ownBlock ∧ some k_ ≠ (u394000 : Value).ownBlock ∧ k_ ≠ gb391 ∧ k_ ≠ gb392 ∧ k_ ≠ gb393) (fun k_ => some k_ = (.slice Ao74 x393000_3.length co74 : Value).ownBlock) rfl rfl ?aP (fun k_ hk_ => ((Kd.R_mono (ok' := fun k_ => ((fun k_ => some k_ ≠ (u14 : Value).ownBlock ∧ some k_ ≠ (.slice (some ad390) t368.length co9 : Value).ownBlock ∧ some k_ ≠ (u394000 : Value).ownBlock ∧ k_ ≠ gb391 ∧ k_ ≠ gb392 ∧ k_ ≠ gb393)) k_ ∧ some k_ ≠ (u13 : Value).ownBlock) (Kd.R_types (Kd.R_types (Kd.R_types (Kd.R_apart' (Kd.R_apart' (Kd.R_apart' (HO_393000.out) (Kd.S_typed HO_14.out) (by decide)) (Kd.S_typed HO_76.out) (by decide)) (Kd.S_typed HO_13.out) (by decide)) BK391.out (by decide)) BK392.out (by decide)) BK393.out (by decide)) (fun k_ hk => ⟨⟨hk.1.1.1.1.1.2, ⟨hk.1.1.1.1.2, ⟨hk.1.1.1.1.1.1, ⟨hk.1.1.2, ⟨hk.1.2, hk.2⟩⟩⟩⟩⟩, hk.1.1.1.2⟩))).1 k_ hk_.symm) ?aF ?aO ?aB ?aS ?aL ?_; (case aP => exact k83_mkM _ _ _ (⟨x393000_3, ((rd_T83 t368 x78_2).f1)⟩ : S83) (Kd.R_mono (Kd.R_tight rfl (Kd.R_mono (ok' := fun k_ => ((fun k_ => some k_ ≠ (u14 : Value).ownBlock ∧ some k_ ≠ (.slice (some ad390) t368.length co9 : Value).ownBlock ∧ some k_ ≠ (u394000 : Value).ownBlock ∧ k_ ≠ gb391 ∧ k_ ≠ gb392 ∧ k_ ≠ gb393)) k_ ∧ some k_ ≠ (u13 : Value).ownBlock) (Kd.R_types (Kd.R_types (Kd.R_types (Kd.R_apart' (Kd.R_apart' (Kd.R_apart' (HO_393000.out) (Kd.S_typed HO_14.out) (by decide)) (Kd.S_typed HO_76.out) (by decide)) (Kd.S_typed HO_13.out) (by decide)) BK391.out (by decide)) BK392.out (by decide)) BK393.out (by decide)) (fun k_ hk => ⟨⟨hk.1.1.1.1.1.2, ⟨hk.1.1.1.1.2, ⟨hk.1.1.1.1.1.1, ⟨hk.1.1.2, ⟨hk.1.2, hk.2⟩⟩⟩⟩⟩, hk.1.1.1.2⟩))) (fun _ h_ => h_))); (case aB => exact (z.bl HB)); (case aF => exact (fun k_ hk => ⟨Kd.fresh' (Kd.S_lt (by (with_reducible repeat (first | apply Kd.S_alloc | apply Kd.S_drewN | apply Kd.S_drew)); exact HO_14.out)) k_ hk, Kd.fresh' (Kd.S_lt (by (with_reducible repeat (first | apply Kd.S_alloc | apply Kd.S_drewN | apply Kd.S_drew)); exact HO_76.out)) k_ hk, Kd.fresh' (Kd.R_lt (z.rl HO_394000.out)) k_ hk, Kd.freshB (g := gb391) (z.bk BK391) k_ hk, Kd.freshB (g := gb392) (z.bk BK392) k_ hk, Kd.freshB (g := gb393) (z.bk BK393) k_ hk⟩)); (case aO => exact (by (with_reducible repeat (first | apply Kd.S_alloc | apply Kd.S_drewN | apply Kd.S_drew)); exact Kd.S_mono HO_13.out (fun k_ hk => ⟨⟨hk.1, ⟨hk.2.1, ⟨hk.2.2.2.1, ⟨hk.2.2.2.2.1, ⟨hk.2.2.2.2.2.1, hk.2.2.2.2.2.2⟩⟩⟩⟩⟩, fun e_ => hk.2.2.1 e_⟩))); (case aS => exact (below_size (z.bl HB))); (case aL => have := LMc66.out; omega); intro v403 w73 ho hb hg hat; rw [← Ny402.out] at ho; replace HO_14 := Aside0.mk (Kd.S_after (ok := (fun k_ => some k_ ≠ (.slice (some ad390) t368.length co9 : Value).ownBlock ∧ some k_ ≠ (.slice Ao74 x393000_3.length co74 : Value).ownBlock ∧ some k_ ≠ (u394000 : Value).ownBlock ∧ k_ ≠ gb391 ∧ k_ ≠ gb392 ∧ k_ ≠ gb393)) (by (with_reducible repeat (first | apply Kd.S_alloc | apply Kd.S_drewN | apply Kd.S_drew)); exact Kd.S_mono HO_14.out (fun _ hk => ⟨⟨hk.2.1, ⟨hk.2.2.1, ⟨hk.2.2.2.1, ⟨hk.2.2.2.2.1, ⟨hk.2.2.2.2.2.1, hk.2.2.2.2.2.2⟩⟩⟩⟩⟩, hk.1⟩)) hg hat); replace HO_76 := Aside0.mk (Kd.S_after (ok := (fun k_ => some k_ ≠ (u14 : Value).ownBlock ∧ some k_ ≠ (.slice Ao74 x393000_3.length co74 : Value).ownBlock ∧ some k_ ≠ (u394000 : Value).ownBlock ∧ k_ ≠ gb391 ∧ k_ ≠ gb392 ∧ k_ ≠ gb393)) (by (with_reducible repeat (first | apply Kd.S_alloc | apply Kd.S_drewN | apply Kd.S_drew)); exact Kd.S_mono HO_76.out (fun _ hk => ⟨⟨hk.2.1, ⟨hk.2.2.1, ⟨hk.2.2.2.1, ⟨hk.2.2.2.2.1, ⟨hk.2.2.2.2.2.1, hk.2.2.2.2.2.2⟩⟩⟩⟩⟩, hk.1⟩)) hg hat); replace HO_381002 := Aside0.mk (Kd.R_over' (z.rl HO_381002.out) (Kd.S_typed (by (with_reducible repeat (first | apply Kd.S_alloc | apply Kd.S_drewN | apply Kd.S_drew)); exact HO_13.out)) (by decide) hg); replace HO_388002 := Aside0.mk (Kd.R_over' (z.rl HO_388002.out) (Kd.S_typed (by (with_reducible repeat (first | apply Kd.S_alloc | apply Kd.S_drewN | apply Kd.S_drew)); exact HO_13.out)) (by decide) hg); replace HO_394000 := Aside0.mk (Kd.R_over' (z.rl HO_394000.out) (Kd.S_typed (by (with_reducible repeat (first | apply Kd.S_alloc | apply Kd.S_drewN | apply Kd.S_drew)); exact HO_13.out)) (by decide) hg); replace BK380 := Aside0.mk (blk_grown (g := gb380) (z.bk BK380) hg (Kd.S_ne HO_13.out BK380.out (by decide))); replace BK387 := Aside0.mk (blk_grown (g := gb387) (z.bk BK387) hg (Kd.S_ne HO_13.out BK387.out (by decide))); replace BK391 := Aside0.mk (blk_grown (g := gb391) (z.bk BK391) hg (Kd.S_away HO_13.out (fun _ hk => hk.2.2.2.2.1))); replace BK392 := Aside0.mk (blk_grown (g := gb392) (z.bk BK392) hg (Kd.S_away HO_13.out (fun _ hk => hk.2.2.2.2.2.1))); replace BK393 := Aside0.mk (blk_grown (g := gb393) (z.bk BK393) hg (Kd.S_away HO_13.out (fun _ hk => hk.2.2.2.2.2.2))); replace HB := Aside0.mk (hb); have HO404 := Aside0.mk (ho); clear HO_13 HO_393000; clear ho hb hg hat; have hnb75 := NB393_380.out; have hnc75 := NB380_393.out; have hnb76 := NB393_387.out; have hnc76 := NB387_393.out; have hnb77 := NB393_391.out; have hnc77 := NB391_393.out; have hcz78_0 : w73.cell? ⟨gb393, 0, none⟩ = some (u394000) := (blk_cell BK393.out 0).trans rfl; have hcz78_1 : w73.cell? ⟨gb393, 1, none⟩ = some (.bool ((rd_T83 t368 x78_2).f1)) := (blk_cell BK393.out 1).trans rfl; have hfz78_0 := blk_frozen BK393.out 0; have hfz78_1 := blk_frozen BK393.out 1; obtain ⟨Ao80, co80, eo80⟩ := Kd.R_slice HO_394000.out; subst eo80) | ((with_reducible refine gate_builtin (b := .append) (xs := #[.tmp 129, .tmp 131]) rfl ?_); at_builtin; refine Kd.S_append k83 (w0 := w) w.heap.size rfl (.tmp 129) (.tmp 131) 75 83 (.agg #[(.slice none 0 0), (.bool false)]) 32 rfl Try.underlying75 info83 rfl (by decide) (by omega) u14 x14_2 (⟨x394000_3, ((rd_T83 t368 x78_2).f1)⟩ : S83) [.slice Ao80 x394000_3.length co80, .bool ((rd_T83 t368 x78_2).f1)] (fun k_ => some k_ ≠ (.slice (some ad390) t368.length co9 : Value).ownBlock ∧ some k_ ≠ (v403 : Value).ownBlock ∧ k_ ≠ gb391 ∧ k_ ≠ gb392 ∧ k_ ≠ gb393) (fun k_ => some k_ = (.slice Ao80 x394000_3.length co80 : Value).ownBlock) rfl rfl ?aP (fun k_ hk_ => ((Kd.R_mono (ok' := fun k_ => ((fun k_ => some k_ ≠ (.slice (some ad390) t368.length co9 : Value).ownBlock ∧ some k_ ≠ (v403 : Value).ownBlock ∧ k_ ≠ gb391 ∧ k_ ≠ gb392 ∧ k_ ≠ gb393)) k_ ∧ some k_ ≠ (u14 : Value).ownBlock) (Kd.R_types (Kd.R_types (Kd.R_types (Kd.R_apart' (Kd.R_apart' (Kd.R_apart' (HO_394000.out) (Kd.S_typed HO_76.out) (by decide)) (Kd.S_typed HO404.out) (by decide)) (Kd.S_typed HO_14.out) (by decide)) BK391.out (by decide)) BK392.out (by decide)) BK393.out (by decide)) (fun k_ hk => ⟨⟨hk.1.1.1.1.1.2, ⟨hk.1.1.1.1.2, ⟨hk.1.1.2, ⟨hk.1.2, hk.2⟩⟩⟩⟩, hk.1.1.1.2⟩))).1 k_ hk_.symm) ?aF ?aO ?aB ?aS ?aL ?_; (case aP => exact k83_mkM _ _ _ (⟨x394000_3, ((rd_T83 t368 x78_2).f1)⟩ : S83) (Kd.R_mono (Kd.R_tight rfl (Kd.R_mono (ok' := fun k_ => ((fun k_ => some k_ ≠ (.slice (some ad390) t368.length co9 : Value).ownBlock ∧ some k_ ≠ (v403 : Value).ownBlock ∧ k_ ≠ gb391 ∧ k_ ≠ gb392 ∧ k_ ≠ gb393)) k_ ∧ some k_ ≠ (u14 : Value).ownBlock) (Kd.R_types (Kd.R_types (Kd.R_types (Kd.R_apart' (Kd.R_apart' (Kd.R_apart' (HO_394000.out) (Kd.S_typed HO_76.out) (by decide)) (Kd.S_typed HO404.out) (by decide)) (Kd.S_typed HO_14.out) (by decide)) BK391.out (by decide)) BK392.out (by decide)) BK393.out (by decide)) (fun k_ hk => ⟨⟨hk.1.1.1.1.1.2, ⟨hk.1.1.1.1.2, ⟨hk.1.1.2, ⟨hk.1.2, hk.2⟩⟩⟩⟩, hk.1.1.1.2⟩))) (fun _ h_ => h_))); (case aB => exact (z.bl HB)); (case aF => exact (fun k_ hk => ⟨Kd.fresh' (Kd.S_lt (by (with_reducible repeat (first | apply Kd.S_alloc | apply Kd.S_drewN | apply Kd.S_drew)); exact HO_76.out)) k_ hk, Kd.fresh' (Kd.S_lt (by (with_reducible repeat (first | apply Kd.S_alloc | apply Kd.S_drewN | apply Kd.S_drew)); exact HO404.out)) k_ hk, Kd.freshB (g := gb391) (z.bk BK391) k_ hk, Kd.freshB (g := gb392) (z.bk BK392) k_ hk, Kd.freshB (g := gb393) (z.bk BK393) k_ hk⟩)); (case aO => exact (by (with_reducible repeat (first | apply Kd.S_alloc | apply Kd.S_drewN | apply Kd.S_drew)); exact Kd.S_mono HO_14.out (fun k_ hk => ⟨⟨hk.1.1, ⟨hk.2, ⟨hk.1.2.2.2.1, ⟨hk.1.2.2.2.2.1, hk.1.2.2.2.2.2⟩⟩⟩⟩, fun e_ => hk.1.2.2.1 e_⟩))); (case aS => exact (below_size (z.bl HB))); (case aL => have := LMc67.out; omega); intro v406 w79 ho hb hg hat; rw [← Ny405.out] at ho; replace HO_76 := Aside0.mk (Kd.S_after (ok := (fun k_ => some k_ ≠ (.slice Ao80 x394000_3.length co80 : Value).ownBlock ∧ some k_ ≠ (v403 : Value).ownBlock ∧ k_ ≠ gb391 ∧ k_ ≠ gb392 ∧ k_ ≠ gb393)) (by (with_reducible repeat (first | apply Kd.S_alloc | apply Kd.S_drewN | apply Kd.S_drew)); exact Kd.S_mono HO_76.out (fun _ hk => ⟨⟨hk.1.2.2.1, ⟨hk.2, ⟨hk.1.2.2.2.1, ⟨hk.1.2.2.2.2.1, hk.1.2.2.2.2.2⟩⟩⟩⟩, hk.1.1⟩)) hg hat); replace HO_381002 := Aside0.mk (Kd.R_over' (z.rl HO_381002.out) (Kd.S_typed (by (with_reducible repeat (first | apply Kd.S_alloc | apply Kd.S_drewN | apply Kd.S_drew)); exact HO_14.out)) (by decide) hg); replace HO_388002 := Aside0.mk (Kd.R_over' (z.rl HO_388002.out) (Kd.S_typed (by (with_reducible repeat (first | apply Kd.S_alloc | apply Kd.S_drewN | apply Kd.S_drew)); exact HO_14.out)) (by decide) hg); replace BK380 := Aside0.mk (blk_grown (g := gb380) (z.bk BK380) hg (Kd.S_ne HO_14.out BK380.out (by decide))); replace BK387 := Aside0.mk (blk_grown (g := gb387) (z.bk BK387) hg (Kd.S_ne HO_14.out BK387.out (by decide))); replace BK391 := Aside0.mk (blk_grown (g := gb391) (z.bk BK391) hg (Kd.S_away HO_14.out (fun _ hk => hk.1.2.2.2.1))); replace BK392 := Aside0.mk (blk_grown (g := gb392) (z.bk BK392) hg (Kd.S_away HO_14.out (fun _ hk => hk.1.2.2.2.2.1))); replace BK393 := Aside0.mk (blk_grown (g := gb393) (z.bk BK393) hg (Kd.S_away HO_14.out (fun _ hk => hk.1.2.2.2.2.2))); replace HO404 := Aside0.mk (Kd.S_after (ok := (fun k_ => some k_ ≠ (.slice (some ad390) t368.length co9 : Value).ownBlock ∧ some k_ ≠ (.slice Ao80 x394000_3.length co80 : Value).ownBlock ∧ k_ ≠ gb391 ∧ k_ ≠ gb392 ∧ k_ ≠ gb393)) (by (with_reducible repeat (first | apply Kd.S_alloc | apply Kd.S_drewN | apply Kd.S_drew)); exact Kd.S_mono HO404.out (fun _ hk => ⟨⟨hk.2.1, ⟨hk.2.2.1, ⟨hk.2.2.2.1, ⟨hk.2.2.2.2.1, hk.2.2.2.2.2⟩⟩⟩⟩, hk.1⟩)) hg hat); replace HB := Aside0.mk (hb); have HO407 := Aside0.mk (ho); clear HO_14 HO_394000; clear ho hb hg hat))
                go_roundg k3
                case measure => have := HJ6.out; have := HK2.out; have := HK3.out; omega
                case rel => exact ⟨(y402), (y405), (wrap64 (x78_2 + 1)), (by first | rfl | (simp; done) | (simp [*]; done)), H', ⟨by have := HJ6.out; have := HK2.out; have := HK3.out; omega⟩, ⟨by (with_reducible repeat (first | apply Kd.S_alloc | apply Kd.S_drewN | apply Kd.S_drew)); exact Kd.S_mono HO404.out (fun _ hk => ⟨hk.2, hk.1.1⟩)⟩, ⟨by (with_reducible repeat (first | apply Kd.S_alloc | apply Kd.S_drewN | apply Kd.S_drew)); exact Kd.S_mono HO407.out (fun _ hk => ⟨hk.2.1, hk.1⟩)⟩, ⟨by (with_reducible repeat (first | apply Kd.S_alloc | apply Kd.S_drewN | apply Kd.S_drew)); exact Kd.S_mono HO_76.out (fun _ hk => ⟨hk.1.2.1, hk.2⟩)⟩, ⟨z.rl HO_381002.out⟩, ⟨z.rl HO_388002.out⟩, ⟨z.bk BK380⟩, ⟨z.bk BK387⟩, ⟨z.bl HB⟩⟩
               ·rw [if_neg c67] at H
                exact absurd H (by simp)
              ·rw [if_neg c66] at H
               exact absurd H (by simp)
          ·rw [if_neg c29] at H
           exact absurd H (by simp)
         ·rw [if_neg c28] at H
          exact absurd H (by simp)
        ·rw [if_neg c27] at H
         have c27b0 : decide (x78_2 < (t368.length : Int)) = false := decide_eq_false c27
         clear c27
         replace H := Option.bind_eq_some_iff.mp H
         obtain ⟨⟨t408, t409, t410, t413⟩, A810, H⟩ := H
         replace H : ((impl_CoverOf.f k2 x14_2 t369 t370 t371).bind fun bt415 => ((impl_MeetMasks.f k2 t374 t375 t376 t374 t375 t376).bind fun bt422 => ((impl_SumOf.f k2 t374 t375 t376).bind fun bt429 => ((impl_SumOf.f k2 bt422.1 bt422.2.1 bt422.2.2.1).bind fun bt431 => (if t413 = true then (if bt415.2.2.2 = true then (if bt422.2.2.2 = true then (if bt429.2 = true then (if bt431.2 = true then ((laws_sameInts.f k2 t410 t376).bind fun t433 => (if t433 = true then ((laws_sameInts.f k2 bt415.2.2.1 t376).bind fun t434 => (if t434 = true then (some (decide (bt431.1 ≤ bt429.1))) else (some false))) else (some false))) else (some false)) else (some false)) else (some false)) else (some false)) else (some false)))))) = some r := H
         have A81 := Aside0.mk A810
         clear A810
         replace H := Option.bind_eq_some_iff.mp H
         obtain ⟨⟨t415, t416, t417, t420⟩, A820, H⟩ := H
         replace H : ((impl_MeetMasks.f k2 t374 t375 t376 t374 t375 t376).bind fun bt422 => ((impl_SumOf.f k2 t374 t375 t376).bind fun bt429 => ((impl_SumOf.f k2 bt422.1 bt422.2.1 bt422.2.2.1).bind fun bt431 => (if t413 = true then (if t420 = true then (if bt422.2.2.2 = true then (if bt429.2 = true then (if bt431.2 = true then ((laws_sameInts.f k2 t410 t376).bind fun t433 => (if t433 = true then ((laws_sameInts.f k2 t417 t376).bind fun t434 => (if t434 = true then (some (decide (bt431.1 ≤ bt429.1))) else (some false))) else (some false))) else (some false)) else (some false)) else (some false)) else (some false)) else (some false))))) = some r := H
         have A82 := Aside0.mk A820
         clear A820
         replace H := Option.bind_eq_some_iff.mp H
         obtain ⟨⟨t422, t423, t424, t427⟩, A830, H⟩ := H
         replace H : ((impl_SumOf.f k2 t374 t375 t376).bind fun bt429 => ((impl_SumOf.f k2 t422 t423 t424).bind fun bt431 => (if t413 = true then (if t420 = true then (if t427 = true then (if bt429.2 = true then (if bt431.2 = true then ((laws_sameInts.f k2 t410 t376).bind fun t433 => (if t433 = true then ((laws_sameInts.f k2 t417 t376).bind fun t434 => (if t434 = true then (some (decide (bt431.1 ≤ bt429.1))) else (some false))) else (some false))) else (some false)) else (some false)) else (some false)) else (some false)) else (some false)))) = some r := H
         have A83 := Aside0.mk A830
         clear A830
         replace H := Option.bind_eq_some_iff.mp H
         obtain ⟨⟨t429, t430⟩, A840, H⟩ := H
         replace H : ((impl_SumOf.f k2 t422 t423 t424).bind fun bt431 => (if t413 = true then (if t420 = true then (if t427 = true then (if t430 = true then (if bt431.2 = true then ((laws_sameInts.f k2 t410 t376).bind fun t433 => (if t433 = true then ((laws_sameInts.f k2 t417 t376).bind fun t434 => (if t434 = true then (some (decide (bt431.1 ≤ t429))) else (some false))) else (some false))) else (some false)) else (some false)) else (some false)) else (some false)) else (some false))) = some r := H
         have A84 := Aside0.mk A840
         clear A840
         replace H := Option.bind_eq_some_iff.mp H
         obtain ⟨⟨t431, t432⟩, A850, H⟩ := H
         replace H : (if t413 = true then (if t420 = true then (if t427 = true then (if t430 = true then (if t432 = true then ((laws_sameInts.f k2 t410 t376).bind fun t433 => (if t433 = true then ((laws_sameInts.f k2 t417 t376).bind fun t434 => (if t434 = true then (some (decide (t431 ≤ t429))) else (some false))) else (some false))) else (some false)) else (some false)) else (some false)) else (some false)) else (some false)) = some r := H
         have A85 := Aside0.mk A850
         clear A850
         by_cases c86 : t413 = true
         ·subst c86
          have H1 : (if t420 = true then (if t427 = true then (if t430 = true then (if t432 = true then ((laws_sameInts.f k2 t410 t376).bind fun t433 => (if t433 = true then ((laws_sameInts.f k2 t417 t376).bind fun t434 => (if t434 = true then (some (decide (t431 ≤ t429))) else (some false))) else (some false))) else (some false)) else (some false)) else (some false)) else (some false)) = some r := by rw [if_pos rfl] at H; exact H
          clear H
          have H := H1
          clear H1
          by_cases c87 : t420 = true
          ·subst c87
           have H1 : (if t427 = true then (if t430 = true then (if t432 = true then ((laws_sameInts.f k2 t410 t376).bind fun t433 => (if t433 = true then ((laws_sameInts.f k2 t417 t376).bind fun t434 => (if t434 = true then (some (decide (t431 ≤ t429))) else (some false))) else (some false))) else (some false)) else (some false)) else (some false)) = some r := by rw [if_pos rfl] at H; exact H
           clear H
           have H := H1
           clear H1
           by_cases c88 : t427 = true
           ·subst c88
            have H1 : (if t430 = true then (if t432 = true then ((laws_sameInts.f k2 t410 t376).bind fun t433 => (if t433 = true then ((laws_sameInts.f k2 t417 t376).bind fun t434 => (if t434 = true then (some (decide (t431 ≤ t429))) else (some false))) else (some false))) else (some false)) else (some false)) = some r := by rw [if_pos rfl] at H; exact H
            clear H
            have H := H1
            clear H1
            by_cases c89 : t430 = true
            ·subst c89
             have H1 : (if t432 = true then ((laws_sameInts.f k2 t410 t376).bind fun t433 => (if t433 = true then ((laws_sameInts.f k2 t417 t376).bind fun t434 => (if t434 = true then (some (decide (t431 ≤ t429))) else (some false))) else (some false))) else (some false)) = some r := by rw [if_pos rfl] at H; exact H
             clear H
             have H := H1
             clear H1
             by_cases c90 : t432 = true
             ·subst c90
              have H1 : ((laws_sameInts.f k2 t410 t376).bind fun t433 => (if t433 = true then ((laws_sameInts.f k2 t417 t376).bind fun t434 => (if t434 = true then (some (decide (t431 ≤ t429))) else (some false))) else (some false))) = some r := by rw [if_pos rfl] at H; exact H
              clear H
              have H := H1
              clear H1
              replace H := Option.bind_eq_some_iff.mp H
              obtain ⟨t433, A910, H⟩ := H
              replace H : (if t433 = true then ((laws_sameInts.f k2 t417 t376).bind fun t434 => (if t434 = true then (some (decide (t431 ≤ t429))) else (some false))) else (some false)) = some r := H
              have A91 := Aside0.mk A910
              clear A910
              by_cases c92 : t433 = true
              ·subst c92
               have H1 : ((laws_sameInts.f k2 t417 t376).bind fun t434 => (if t434 = true then (some (decide (t431 ≤ t429))) else (some false))) = some r := by rw [if_pos rfl] at H; exact H
               clear H
               have H := H1
               clear H1
               replace H := Option.bind_eq_some_iff.mp H
               obtain ⟨t434, A930, H⟩ := H
               replace H : (if t434 = true then (some (decide (t431 ≤ t429))) else (some false)) = some r := H
               have A93 := Aside0.mk A930
               clear A930
               by_cases c94 : t434 = true
               ·subst c94
                have H1 : (some (decide (t431 ≤ t429))) = some r := by rw [if_pos rfl] at H; exact H
                clear H
                have H := H1
                clear H1
                obtain rfl := Option.some.inj H
                obtain ⟨Ao95, co95, eo95⟩ := Kd.S_slice HO_13.out
                subst eo95
                go_wp2_with (first | ((with_reducible refine gate_callee (f := 45) rfl ?_); refine z.gl (some 139) rfl rfl Try.func45 (by kernel_rfl) rfl #[.slice Ao95 x13_2.length co95, .int .i64 t369, .int .i64 t370, .bool t371] rfl ?_; (with_reducible refine (impl_CoverOf.calls k2 _ _ x13_2 t369 t370 t371 t408 t409 t410 true _ ?side1 ?side2 A81.out).mono ?_); (case side1 => repeat (first | exact (Kd.S_reads' HO_13.out).2.2 | (with_reducible refine Kd.C_alloc ?_ _) | (with_reducible refine Kd.C_drewN ?_ _) | (with_reducible refine Kd.C_drew ?_))); (case side2 => exact (Kd.S_reads' HO_13.out).2.1); rintro e w96 ⟨v411, rfl, ho0, hb⟩; refine ⟨_, rfl, ?_⟩; replace HO_13 := Aside0.mk (Kd.S_below (by (with_reducible repeat (first | apply Kd.S_alloc | apply Kd.S_drewN | apply Kd.S_drew)); exact HO_13.out) hb); replace HO_14 := Aside0.mk (Kd.S_below (by (with_reducible repeat (first | apply Kd.S_alloc | apply Kd.S_drewN | apply Kd.S_drew)); exact HO_14.out) hb); replace HO_76 := Aside0.mk (Kd.S_below (by (with_reducible repeat (first | apply Kd.S_alloc | apply Kd.S_drewN | apply Kd.S_drew)); exact HO_76.out) hb); have HO412 := Aside0.mk (Kd.R_lower (Kd.R_new' (Kd.R_new' ho0 (Kd.R_lt (z.rl HO_381002.out))) (Kd.R_lt (z.rl HO_388002.out))) (below_size (z.bl HB))); replace HO_381002 := Aside0.mk (Kd.R_elder' (z.rl HO_381002.out) (Kd.R_base ho0) hb); replace HO_388002 := Aside0.mk (Kd.R_elder' (z.rl HO_388002.out) (Kd.R_base ho0) hb); replace BK380 := z.bb BK380 hb; replace BK387 := z.bb BK387 hb; replace HB := Aside0.mk (below_step (z.bl HB) hb); (try clear hb); (try clear hb2); (try clear hk); (try clear hi); (try clear ho0)) | ((with_reducible refine gate_dst (N := 22) rfl ?_); refine box_event ?hg (N := 22) ?hd (cs := #[.int .i64 0, .int .i64 0, .slice none 0 0]) (t := 67) ?hr ?_; (case hd => rfl); (case hg => rfl); (case hr => first | (go_simp; done) | (go_simp; rfl)); intro gb414 hg w97 hbox hb; replace HO_13 := Aside0.mk (Kd.S_below (by (with_reducible repeat (first | apply Kd.S_alloc | apply Kd.S_drewN | apply Kd.S_drew)); exact HO_13.out) hb); replace HO_14 := Aside0.mk (Kd.S_below (by (with_reducible repeat (first | apply Kd.S_alloc | apply Kd.S_drewN | apply Kd.S_drew)); exact HO_14.out) hb); replace HO_76 := Aside0.mk (Kd.S_below (by (with_reducible repeat (first | apply Kd.S_alloc | apply Kd.S_drewN | apply Kd.S_drew)); exact HO_76.out) hb); replace HO_381002 := z.rb HO_381002 hb; replace HO_388002 := z.rb HO_388002 hb; replace HO412 := z.rb HO412 hb; have BK414 := Aside0.mk (hbox); have GW414 := Aside0.mk ((by rw [hg]; exact (below_size (z.bl HB)) : w.heap.size ≤ gb414)); have GE414 := Aside0.mk ((by rw [hg]; exact (below_size (z.bl HB)) : w.heap.size ≤ gb414)); replace HB := Aside0.mk (below_step (z.bl HB) hb); have NB380_414 := z.ht BK380 hg; have NB414_380 := z.hu BK380 hg; replace BK380 := z.bb BK380 hb; have NB387_414 := z.ht BK387 hg; have NB414_387 := z.hu BK387 hg; replace BK387 := z.bb BK387 hb; clear hb hbox hg; have hnb98 := NB414_380.out; have hnc98 := NB380_414.out; have hnb99 := NB414_387.out; have hnc99 := NB387_414.out; have hcz100_0 : w97.cell? ⟨gb414, 0, none⟩ = some (.int .i64 0) := (blk_cell BK414.out 0).trans rfl; have hcz100_1 : w97.cell? ⟨gb414, 1, none⟩ = some (.int .i64 0) := (blk_cell BK414.out 1).trans rfl; have hcz100_2 : w97.cell? ⟨gb414, 2, none⟩ = some (.slice none 0 0) := (blk_cell BK414.out 2).trans rfl; have hfz100_0 := blk_frozen BK414.out 0; have hfz100_1 := blk_frozen BK414.out 1; have hfz100_2 := blk_frozen BK414.out 2; obtain ⟨Ao101, co101, eo101⟩ := Kd.R_slice HO412.out; subst eo101; obtain ⟨Ao102, co102, eo102⟩ := Kd.S_slice HO_14.out; subst eo102) | ((with_reducible refine gate_callee (f := 45) rfl ?_); refine z.gl (some 147) rfl rfl Try.func45 (by kernel_rfl) rfl #[.slice Ao102 x14_2.length co102, .int .i64 t369, .int .i64 t370, .bool t371] rfl ?_; (with_reducible refine (impl_CoverOf.calls k2 _ _ x14_2 t369 t370 t371 t415 t416 t417 true _ ?side1 ?side2 A82.out).mono ?_); (case side1 => refine (Kd.S_reads' (e := 83) (base := w.heap.size) (ok := fun k_ => (some k_ ≠ (.slice Ao95 x13_2.length co95 : Value).ownBlock ∧ some k_ ≠ (.slice Ao9 t368.length co9 : Value).ownBlock)) (n := x14_2.length) (c := co102) ?_).2.2; exact (by (with_reducible repeat (first | apply Kd.S_alloc | apply Kd.S_drewN | apply Kd.S_drew)); exact (Kd.S_mono (Kd.S_far (p := ⟨gb414, 2, none⟩) (Kd.S_far (p := ⟨gb414, 1, none⟩) (Kd.S_far (p := ⟨gb414, 0, none⟩) (Kd.S_types HO_14.out BK414.out (by decide)) (fun _ hk => hk.2) (.int .i64 t408)) (fun _ hk => hk.2) (.int .i64 t409)) (fun _ hk => hk.2) (.slice Ao101 t410.length co101)) (fun _ h_ => h_.1)))); (case side2 => exact (Kd.S_reads' HO_14.out).2.1); rintro e w103 ⟨v418, rfl, ho0, hb⟩; refine ⟨_, rfl, ?_⟩; replace HO_13 := Aside0.mk (Kd.S_below (by (with_reducible repeat (first | apply Kd.S_alloc | apply Kd.S_drewN | apply Kd.S_drew)); exact (Kd.S_mono (Kd.S_far (p := ⟨gb414, 2, none⟩) (Kd.S_far (p := ⟨gb414, 1, none⟩) (Kd.S_far (p := ⟨gb414, 0, none⟩) (Kd.S_types HO_13.out BK414.out (by decide)) (fun _ hk => hk.2) (.int .i64 t408)) (fun _ hk => hk.2) (.int .i64 t409)) (fun _ hk => hk.2) (.slice Ao101 t410.length co101)) (fun _ h_ => h_.1))) hb); replace HO_14 := Aside0.mk (Kd.S_below (by (with_reducible repeat (first | apply Kd.S_alloc | apply Kd.S_drewN | apply Kd.S_drew)); exact (Kd.S_mono (Kd.S_far (p := ⟨gb414, 2, none⟩) (Kd.S_far (p := ⟨gb414, 1, none⟩) (Kd.S_far (p := ⟨gb414, 0, none⟩) (Kd.S_types HO_14.out BK414.out (by decide)) (fun _ hk => hk.2) (.int .i64 t408)) (fun _ hk => hk.2) (.int .i64 t409)) (fun _ hk => hk.2) (.slice Ao101 t410.length co101)) (fun _ h_ => h_.1))) hb); replace HO_76 := Aside0.mk (Kd.S_below (by (with_reducible repeat (first | apply Kd.S_alloc | apply Kd.S_drewN | apply Kd.S_drew)); exact (Kd.S_mono (Kd.S_far (p := ⟨gb414, 2, none⟩) (Kd.S_far (p := ⟨gb414, 1, none⟩) (Kd.S_far (p := ⟨gb414, 0, none⟩) (Kd.S_types HO_76.out BK414.out (by decide)) (fun _ hk => hk.2) (.int .i64 t408)) (fun _ hk => hk.2) (.int .i64 t409)) (fun _ hk => hk.2) (.slice Ao101 t410.length co101)) (fun _ h_ => h_.1))) hb); have HO419 := Aside0.mk (Kd.R_lower (Kd.R_new' (Kd.R_new' (Kd.R_new' ho0 (Kd.R_lt (z.rl ((Kd.R_mono (Kd.R_far (p := ⟨gb414, 2, none⟩) (Kd.R_far (p := ⟨gb414, 1, none⟩) (Kd.R_far (p := ⟨gb414, 0, none⟩) (Kd.R_types HO_381002.out BK414.out (by decide)) (fun _ hk => hk.2) (.int .i64 t408)) (fun _ hk => hk.2) (.int .i64 t409)) (fun _ hk => hk.2) (.slice Ao101 t410.length co101)) (fun _ h_ => h_.1)))))) (Kd.R_lt (z.rl ((Kd.R_mono (Kd.R_far (p := ⟨gb414, 2, none⟩) (Kd.R_far (p := ⟨gb414, 1, none⟩) (Kd.R_far (p := ⟨gb414, 0, none⟩) (Kd.R_types HO_388002.out BK414.out (by decide)) (fun _ hk => hk.2) (.int .i64 t408)) (fun _ hk => hk.2) (.int .i64 t409)) (fun _ hk => hk.2) (.slice Ao101 t410.length co101)) (fun _ h_ => h_.1)))))) (Kd.R_lt (z.rl ((Kd.R_mono (Kd.R_far (p := ⟨gb414, 2, none⟩) (Kd.R_far (p := ⟨gb414, 1, none⟩) (Kd.R_far (p := ⟨gb414, 0, none⟩) (Kd.R_types HO412.out BK414.out (by decide)) (fun _ hk => hk.2) (.int .i64 t408)) (fun _ hk => hk.2) (.int .i64 t409)) (fun _ hk => hk.2) (.slice Ao101 t410.length co101)) (fun _ h_ => h_.1)))))) (below_size (z.bl HB))); replace HO_381002 := Aside0.mk (Kd.R_elder' (z.rl ((Kd.R_mono (Kd.R_far (p := ⟨gb414, 2, none⟩) (Kd.R_far (p := ⟨gb414, 1, none⟩) (Kd.R_far (p := ⟨gb414, 0, none⟩) (Kd.R_types HO_381002.out BK414.out (by decide)) (fun _ hk => hk.2) (.int .i64 t408)) (fun _ hk => hk.2) (.int .i64 t409)) (fun _ hk => hk.2) (.slice Ao101 t410.length co101)) (fun _ h_ => h_.1)))) (Kd.R_base ho0) hb); replace HO_388002 := Aside0.mk (Kd.R_elder' (z.rl ((Kd.R_mono (Kd.R_far (p := ⟨gb414, 2, none⟩) (Kd.R_far (p := ⟨gb414, 1, none⟩) (Kd.R_far (p := ⟨gb414, 0, none⟩) (Kd.R_types HO_388002.out BK414.out (by decide)) (fun _ hk => hk.2) (.int .i64 t408)) (fun _ hk => hk.2) (.int .i64 t409)) (fun _ hk => hk.2) (.slice Ao101 t410.length co101)) (fun _ h_ => h_.1)))) (Kd.R_base ho0) hb); replace HO412 := Aside0.mk (Kd.R_elder' (z.rl ((Kd.R_mono (Kd.R_far (p := ⟨gb414, 2, none⟩) (Kd.R_far (p := ⟨gb414, 1, none⟩) (Kd.R_far (p := ⟨gb414, 0, none⟩) (Kd.R_types HO412.out BK414.out (by decide)) (fun _ hk => hk.2) (.int .i64 t408)) (fun _ hk => hk.2) (.int .i64 t409)) (fun _ hk => hk.2) (.slice Ao101 t410.length co101)) (fun _ h_ => h_.1)))) (Kd.R_base ho0) hb); replace BK380 := Aside0.mk (blk_below (g := gb380) (o := .cells #[.int .i64 t374, .int .i64 t375, .slice Ao13 t376.length co13] 67 (0, 0)) (z.bf BK380) hb); replace BK387 := Aside0.mk (blk_below (g := gb387) (o := .cells #[.int .i64 t381, .int .i64 t382, .slice Ao18 t383.length co18] 67 (0, 0)) (z.bf BK387) hb); replace BK414 := Aside0.mk (blk_below (g := gb414) (o := .cells #[.int .i64 t408, .int .i64 t409, .slice Ao101 t410.length co101] 67 (0, 0)) (by (with_reducible repeat (first | refine blk_drewN ?_ _ | refine blk_drew ?_ | refine blk_alloc ?_ _)); refine blk_put (cs := #[.int .i64 t408, .int .i64 t409, .slice none 0 0]) ?_ 2 _ rfl; (with_reducible repeat (first | refine blk_drewN ?_ _ | refine blk_drew ?_ | refine blk_alloc ?_ _)); refine blk_put (cs := #[.int .i64 t408, .int .i64 0, .slice none 0 0]) ?_ 1 _ rfl; (with_reducible repeat (first | refine blk_drewN ?_ _ | refine blk_drew ?_ | refine blk_alloc ?_ _)); refine blk_put (cs := #[.int .i64 0, .int .i64 0, .slice none 0 0]) ?_ 0 _ rfl; (with_reducible repeat (first | refine blk_drewN ?_ _ | refine blk_drew ?_ | refine blk_alloc ?_ _)); exact BK414.out) hb); replace HB := Aside0.mk (below_step (z.bl HB) hb); (try clear hb); (try clear hb2); (try clear hk); (try clear hi); (try clear ho0)) | ((with_reducible refine gate_dst (N := 24) rfl ?_); refine box_event ?hg (N := 24) ?hd (cs := #[.int .i64 0, .int .i64 0, .slice none 0 0]) (t := 67) ?hr ?_; (case hd => rfl); (case hg => rfl); (case hr => first | (go_simp; done) | (go_simp; rfl)); intro gb421 hg w104 hbox hb; replace HO_13 := Aside0.mk (Kd.S_below (by (with_reducible repeat (first | apply Kd.S_alloc | apply Kd.S_drewN | apply Kd.S_drew)); exact HO_13.out) hb); replace HO_14 := Aside0.mk (Kd.S_below (by (with_reducible repeat (first | apply Kd.S_alloc | apply Kd.S_drewN | apply Kd.S_drew)); exact HO_14.out) hb); replace HO_76 := Aside0.mk (Kd.S_below (by (with_reducible repeat (first | apply Kd.S_alloc | apply Kd.S_drewN | apply Kd.S_drew)); exact HO_76.out) hb); replace HO_381002 := z.rb HO_381002 hb; replace HO_388002 := z.rb HO_388002 hb; replace HO412 := z.rb HO412 hb; replace HO419 := z.rb HO419 hb; have BK421 := Aside0.mk (hbox); have GW421 := Aside0.mk ((by rw [hg]; exact (below_size (z.bl HB)) : w.heap.size ≤ gb421)); have GE421 := Aside0.mk ((by rw [hg]; exact (below_size (z.bl HB)) : w.heap.size ≤ gb421)); replace HB := Aside0.mk (below_step (z.bl HB) hb); have NB380_421 := z.ht BK380 hg; have NB421_380 := z.hu BK380 hg; replace BK380 := z.bb BK380 hb; have NB387_421 := z.ht BK387 hg; have NB421_387 := z.hu BK387 hg; replace BK387 := z.bb BK387 hb; have NB414_421 := z.ht BK414 hg; have NB421_414 := z.hu BK414 hg; replace BK414 := z.bb BK414 hb; clear hb hbox hg; have hnb105 := NB421_380.out; have hnc105 := NB380_421.out; have hnb106 := NB421_387.out; have hnc106 := NB387_421.out; have hnb107 := NB421_414.out; have hnc107 := NB414_421.out; have hcz108_0 : w104.cell? ⟨gb421, 0, none⟩ = some (.int .i64 0) := (blk_cell BK421.out 0).trans rfl; have hcz108_1 : w104.cell? ⟨gb421, 1, none⟩ = some (.int .i64 0) := (blk_cell BK421.out 1).trans rfl; have hcz108_2 : w104.cell? ⟨gb421, 2, none⟩ = some (.slice none 0 0) := (blk_cell BK421.out 2).trans rfl; have hfz108_0 := blk_frozen BK421.out 0; have hfz108_1 := blk_frozen BK421.out 1; have hfz108_2 := blk_frozen BK421.out 2; obtain ⟨Ao109, co109, eo109⟩ := Kd.R_slice HO419.out; subst eo109; have hnb110 := NB380_387.out; have hnc110 := NB387_380.out; have hcz111_0 : w104.cell? ⟨gb380, 0, none⟩ = some (.int .i64 t374) := (blk_cell BK380.out 0).trans rfl; have hcz111_1 : w104.cell? ⟨gb380, 1, none⟩ = some (.int .i64 t375) := (blk_cell BK380.out 1).trans rfl; have hcz111_2 : w104.cell? ⟨gb380, 2, none⟩ = some (.slice Ao13 t376.length co13) := (blk_cell BK380.out 2).trans rfl; have hfz111_0 := blk_frozen BK380.out 0; have hfz111_1 := blk_frozen BK380.out 1; have hfz111_2 := blk_frozen BK380.out 2) | ((with_reducible refine gate_callee (f := 49) rfl ?_); refine z.gl (some 153) rfl rfl Try.func49 (by kernel_rfl) rfl #[.agg #[.int .i64 t374, .int .i64 t375, .slice Ao13 t376.length co13], .agg #[.int .i64 t374, .int .i64 t375, .slice Ao13 t376.length co13]] rfl ?_; (with_reducible refine (impl_MeetMasks.calls k2 t374 t375 _ _ t376 t374 t375 _ _ t376 t422 t423 t424 true _ ?side1 ?side2 ?side3 ?side4 A83.out).mono ?_); (case side1 => refine (Kd.R_reads' (e := 3) (base := w.heap.size) (ok := fun k_ => ((some k_ ≠ (.slice Ao18 t383.length co18 : Value).ownBlock ∧ some k_ ≠ (.slice Ao101 t410.length co101 : Value).ownBlock) ∧ some k_ ≠ (.slice Ao109 t417.length co109 : Value).ownBlock)) (n := t376.length) (c := co13) ?_).2.2; exact (z.rl ((Kd.R_mono (Kd.R_far (p := ⟨gb421, 2, none⟩) (Kd.R_far (p := ⟨gb421, 1, none⟩) (Kd.R_far (p := ⟨gb421, 0, none⟩) (Kd.R_types HO_381002.out BK421.out (by decide)) (fun _ hk => hk.2) (.int .i64 t415)) (fun _ hk => hk.2) (.int .i64 t416)) (fun _ hk => hk.2) (.slice Ao109 t417.length co109)) (fun _ h_ => h_.1))))); (case side2 => exact (Kd.R_reads' HO_381002.out).2.1); (case side3 => refine (Kd.R_reads' (e := 3) (base := w.heap.size) (ok := fun k_ => ((some k_ ≠ (.slice Ao18 t383.length co18 : Value).ownBlock ∧ some k_ ≠ (.slice Ao101 t410.length co101 : Value).ownBlock) ∧ some k_ ≠ (.slice Ao109 t417.length co109 : Value).ownBlock)) (n := t376.length) (c := co13) ?_).2.2; exact (z.rl ((Kd.R_mono (Kd.R_far (p := ⟨gb421, 2, none⟩) (Kd.R_far (p := ⟨gb421, 1, none⟩) (Kd.R_far (p := ⟨gb421, 0, none⟩) (Kd.R_types HO_381002.out BK421.out (by decide)) (fun _ hk => hk.2) (.int .i64 t415)) (fun _ hk => hk.2) (.int .i64 t416)) (fun _ hk => hk.2) (.slice Ao109 t417.length co109)) (fun _ h_ => h_.1))))); (case side4 => exact (Kd.R_reads' HO_381002.out).2.1); rintro e w112 ⟨v425, rfl, ho0, hb⟩; refine ⟨_, rfl, ?_⟩; replace HO_13 := Aside0.mk (Kd.S_below (by (with_reducible repeat (first | apply Kd.S_alloc | apply Kd.S_drewN | apply Kd.S_drew)); exact (Kd.S_mono (Kd.S_far (p := ⟨gb421, 2, none⟩) (Kd.S_far (p := ⟨gb421, 1, none⟩) (Kd.S_far (p := ⟨gb421, 0, none⟩) (Kd.S_types HO_13.out BK421.out (by decide)) (fun _ hk => hk.2) (.int .i64 t415)) (fun _ hk => hk.2) (.int .i64 t416)) (fun _ hk => hk.2) (.slice Ao109 t417.length co109)) (fun _ h_ => h_.1))) hb); replace HO_14 := Aside0.mk (Kd.S_below (by (with_reducible repeat (first | apply Kd.S_alloc | apply Kd.S_drewN | apply Kd.S_drew)); exact (Kd.S_mono (Kd.S_far (p := ⟨gb421, 2, none⟩) (Kd.S_far (p := ⟨gb421, 1, none⟩) (Kd.S_far (p := ⟨gb421, 0, none⟩) (Kd.S_types HO_14.out BK421.out (by decide)) (fun _ hk => hk.2) (.int .i64 t415)) (fun _ hk => hk.2) (.int .i64 t416)) (fun _ hk => hk.2) (.slice Ao109 t417.length co109)) (fun _ h_ => h_.1))) hb); replace HO_76 := Aside0.mk (Kd.S_below (by (with_reducible repeat (first | apply Kd.S_alloc | apply Kd.S_drewN | apply Kd.S_drew)); exact (Kd.S_mono (Kd.S_far (p := ⟨gb421, 2, none⟩) (Kd.S_far (p := ⟨gb421, 1, none⟩) (Kd.S_far (p := ⟨gb421, 0, none⟩) (Kd.S_types HO_76.out BK421.out (by decide)) (fun _ hk => hk.2) (.int .i64 t415)) (fun _ hk => hk.2) (.int .i64 t416)) (fun _ hk => hk.2) (.slice Ao109 t417.length co109)) (fun _ h_ => h_.1))) hb); have HO426 := Aside0.mk (Kd.R_lower (Kd.R_new' (Kd.R_new' (Kd.R_new' (Kd.R_new' ho0 (Kd.R_lt (z.rl ((Kd.R_mono (Kd.R_far (p := ⟨gb421, 2, none⟩) (Kd.R_far (p := ⟨gb421, 1, none⟩) (Kd.R_far (p := ⟨gb421, 0, none⟩) (Kd.R_types HO_381002.out BK421.out (by decide)) (fun _ hk => hk.2) (.int .i64 t415)) (fun _ hk => hk.2) (.int .i64 t416)) (fun _ hk => hk.2) (.slice Ao109 t417.length co109)) (fun _ h_ => h_.1)))))) (Kd.R_lt (z.rl ((Kd.R_mono (Kd.R_far (p := ⟨gb421, 2, none⟩) (Kd.R_far (p := ⟨gb421, 1, none⟩) (Kd.R_far (p := ⟨gb421, 0, none⟩) (Kd.R_types HO_388002.out BK421.out (by decide)) (fun _ hk => hk.2) (.int .i64 t415)) (fun _ hk => hk.2) (.int .i64 t416)) (fun _ hk => hk.2) (.slice Ao109 t417.length co109)) (fun _ h_ => h_.1)))))) (Kd.R_lt (z.rl ((Kd.R_mono (Kd.R_far (p := ⟨gb421, 2, none⟩) (Kd.R_far (p := ⟨gb421, 1, none⟩) (Kd.R_far (p := ⟨gb421, 0, none⟩) (Kd.R_types HO412.out BK421.out (by decide)) (fun _ hk => hk.2) (.int .i64 t415)) (fun _ hk => hk.2) (.int .i64 t416)) (fun _ hk => hk.2) (.slice Ao109 t417.length co109)) (fun _ h_ => h_.1)))))) (Kd.R_lt (z.rl ((Kd.R_mono (Kd.R_far (p := ⟨gb421, 2, none⟩) (Kd.R_far (p := ⟨gb421, 1, none⟩) (Kd.R_far (p := ⟨gb421, 0, none⟩) (Kd.R_types HO419.out BK421.out (by decide)) (fun _ hk => hk.2) (.int .i64 t415)) (fun _ hk => hk.2) (.int .i64 t416)) (fun _ hk => hk.2) (.slice Ao109 t417.length co109)) (fun _ h_ => h_.1)))))) (below_size (z.bl HB))); replace HO_381002 := Aside0.mk (Kd.R_elder' (z.rl ((Kd.R_mono (Kd.R_far (p := ⟨gb421, 2, none⟩) (Kd.R_far (p := ⟨gb421, 1, none⟩) (Kd.R_far (p := ⟨gb421, 0, none⟩) (Kd.R_types HO_381002.out BK421.out (by decide)) (fun _ hk => hk.2) (.int .i64 t415)) (fun _ hk => hk.2) (.int .i64 t416)) (fun _ hk => hk.2) (.slice Ao109 t417.length co109)) (fun _ h_ => h_.1)))) (Kd.R_base ho0) hb); replace HO_388002 := Aside0.mk (Kd.R_elder' (z.rl ((Kd.R_mono (Kd.R_far (p := ⟨gb421, 2, none⟩) (Kd.R_far (p := ⟨gb421, 1, none⟩) (Kd.R_far (p := ⟨gb421, 0, none⟩) (Kd.R_types HO_388002.out BK421.out (by decide)) (fun _ hk => hk.2) (.int .i64 t415)) (fun _ hk => hk.2) (.int .i64 t416)) (fun _ hk => hk.2) (.slice Ao109 t417.length co109)) (fun _ h_ => h_.1)))) (Kd.R_base ho0) hb); replace HO412 := Aside0.mk (Kd.R_elder' (z.rl ((Kd.R_mono (Kd.R_far (p := ⟨gb421, 2, none⟩) (Kd.R_far (p := ⟨gb421, 1, none⟩) (Kd.R_far (p := ⟨gb421, 0, none⟩) (Kd.R_types HO412.out BK421.out (by decide)) (fun _ hk => hk.2) (.int .i64 t415)) (fun _ hk => hk.2) (.int .i64 t416)) (fun _ hk => hk.2) (.slice Ao109 t417.length co109)) (fun _ h_ => h_.1)))) (Kd.R_base ho0) hb); replace HO419 := Aside0.mk (Kd.R_elder' (z.rl ((Kd.R_mono (Kd.R_far (p := ⟨gb421, 2, none⟩) (Kd.R_far (p := ⟨gb421, 1, none⟩) (Kd.R_far (p := ⟨gb421, 0, none⟩) (Kd.R_types HO419.out BK421.out (by decide)) (fun _ hk => hk.2) (.int .i64 t415)) (fun _ hk => hk.2) (.int .i64 t416)) (fun _ hk => hk.2) (.slice Ao109 t417.length co109)) (fun _ h_ => h_.1)))) (Kd.R_base ho0) hb); replace BK380 := Aside0.mk (blk_below (g := gb380) (o := .cells #[.int .i64 t374, .int .i64 t375, .slice Ao13 t376.length co13] 67 (0, 0)) (z.bf BK380) hb); replace BK387 := Aside0.mk (blk_below (g := gb387) (o := .cells #[.int .i64 t381, .int .i64 t382, .slice Ao18 t383.length co18] 67 (0, 0)) (z.bf BK387) hb); replace BK414 := Aside0.mk (blk_below (g := gb414) (o := .cells #[.int .i64 t408, .int .i64 t409, .slice Ao101 t410.length co101] 67 (0, 0)) (z.bf BK414) hb); replace BK421 := Aside0.mk (blk_below (g := gb421) (o := .cells #[.int .i64 t415, .int .i64 t416, .slice Ao109 t417.length co109] 67 (0, 0)) (by (with_reducible repeat (first | refine blk_drewN ?_ _ | refine blk_drew ?_ | refine blk_alloc ?_ _)); refine blk_put (cs := #[.int .i64 t415, .int .i64 t416, .slice none 0 0]) ?_ 2 _ rfl; (with_reducible repeat (first | refine blk_drewN ?_ _ | refine blk_drew ?_ | refine blk_alloc ?_ _)); refine blk_put (cs := #[.int .i64 t415, .int .i64 0, .slice none 0 0]) ?_ 1 _ rfl; (with_reducible repeat (first | refine blk_drewN ?_ _ | refine blk_drew ?_ | refine blk_alloc ?_ _)); refine blk_put (cs := #[.int .i64 0, .int .i64 0, .slice none 0 0]) ?_ 0 _ rfl; (with_reducible repeat (first | refine blk_drewN ?_ _ | refine blk_drew ?_ | refine blk_alloc ?_ _)); exact BK421.out) hb); replace HB := Aside0.mk (below_step (z.bl HB) hb); (try clear hb); (try clear hb2); (try clear hk); (try clear hi); (try clear ho0)) | ((with_reducible refine gate_dst (N := 26) rfl ?_); refine box_event ?hg (N := 26) ?hd (cs := #[.int .i64 0, .int .i64 0, .slice none 0 0]) (t := 67) ?hr ?_; (case hd => rfl); (case hg => rfl); (case hr => first | (go_simp; done) | (go_simp; rfl)); intro gb428 hg w113 hbox hb; replace HO_13 := Aside0.mk (Kd.S_below (by (with_reducible repeat (first | apply Kd.S_alloc | apply Kd.S_drewN | apply Kd.S_drew)); exact HO_13.out) hb); replace HO_14 := Aside0.mk (Kd.S_below (by (with_reducible repeat (first | apply Kd.S_alloc | apply Kd.S_drewN | apply Kd.S_drew)); exact HO_14.out) hb); replace HO_76 := Aside0.mk (Kd.S_below (by (with_reducible repeat (first | apply Kd.S_alloc | apply Kd.S_drewN | apply Kd.S_drew)); exact HO_76.out) hb); replace HO_381002 := z.rb HO_381002 hb; replace HO_388002 := z.rb HO_388002 hb; replace HO412 := z.rb HO412 hb; replace HO419 := z.rb HO419 hb; replace HO426 := z.rb HO426 hb; have BK428 := Aside0.mk (hbox); have GW428 := Aside0.mk ((by rw [hg]; exact (below_size (z.bl HB)) : w.heap.size ≤ gb428)); have GE428 := Aside0.mk ((by rw [hg]; exact (below_size (z.bl HB)) : w.heap.size ≤ gb428)); replace HB := Aside0.mk (below_step (z.bl HB) hb); have NB380_428 := z.ht BK380 hg; have NB428_380 := z.hu BK380 hg; replace BK380 := z.bb BK380 hb; have NB387_428 := z.ht BK387 hg; have NB428_387 := z.hu BK387 hg; replace BK387 := z.bb BK387 hb; have NB414_428 := z.ht BK414 hg; have NB428_414 := z.hu BK414 hg; replace BK414 := z.bb BK414 hb; have NB421_428 := z.ht BK421 hg; have NB428_421 := z.hu BK421 hg; replace BK421 := z.bb BK421 hb; clear hb hbox hg; have hnb114 := NB428_380.out; have hnc114 := NB380_428.out; have hnb115 := NB428_387.out; have hnc115 := NB387_428.out; have hnb116 := NB428_414.out; have hnc116 := NB414_428.out; have hnb117 := NB428_421.out; have hnc117 := NB421_428.out; have hcz118_0 : w113.cell? ⟨gb428, 0, none⟩ = some (.int .i64 0) := (blk_cell BK428.out 0).trans rfl; have hcz118_1 : w113.cell? ⟨gb428, 1, none⟩ = some (.int .i64 0) := (blk_cell BK428.out 1).trans rfl; have hcz118_2 : w113.cell? ⟨gb428, 2, none⟩ = some (.slice none 0 0) := (blk_cell BK428.out 2).trans rfl; have hfz118_0 := blk_frozen BK428.out 0; have hfz118_1 := blk_frozen BK428.out 1; have hfz118_2 := blk_frozen BK428.out 2; obtain ⟨Ao119, co119, eo119⟩ := Kd.R_slice HO426.out; subst eo119; have hcz120_0 : w113.cell? ⟨gb380, 0, none⟩ = some (.int .i64 t374) := (blk_cell BK380.out 0).trans rfl; have hcz120_1 : w113.cell? ⟨gb380, 1, none⟩ = some (.int .i64 t375) := (blk_cell BK380.out 1).trans rfl; have hcz120_2 : w113.cell? ⟨gb380, 2, none⟩ = some (.slice Ao13 t376.length co13) := (blk_cell BK380.out 2).trans rfl; have hfz120_0 := blk_frozen BK380.out 0; have hfz120_1 := blk_frozen BK380.out 1; have hfz120_2 := blk_frozen BK380.out 2) | ((with_reducible refine gate_callee (f := 50) rfl ?_); refine z.gl (some 158) rfl rfl Try.func50 (by kernel_rfl) rfl #[.agg #[.int .i64 t374, .int .i64 t375, .slice Ao13 t376.length co13]] rfl ?_; (with_reducible refine (impl_SumOf.calls k2 t374 t375 _ _ t376 t429 true _ ?side1 ?side2 A84.out).mono ?_); (case side1 => refine (Kd.R_reads' (e := 3) (base := w.heap.size) (ok := fun k_ => (((some k_ ≠ (.slice Ao18 t383.length co18 : Value).ownBlock ∧ some k_ ≠ (.slice Ao101 t410.length co101 : Value).ownBlock) ∧ some k_ ≠ (.slice Ao109 t417.length co109 : Value).ownBlock) ∧ some k_ ≠ (.slice Ao119 t424.length co119 : Value).ownBlock)) (n := t376.length) (c := co13) ?_).2.2; exact (z.rl ((Kd.R_mono (Kd.R_far (p := ⟨gb428, 2, none⟩) (Kd.R_far (p := ⟨gb428, 1, none⟩) (Kd.R_far (p := ⟨gb428, 0, none⟩) (Kd.R_types HO_381002.out BK428.out (by decide)) (fun _ hk => hk.2) (.int .i64 t422)) (fun _ hk => hk.2) (.int .i64 t423)) (fun _ hk => hk.2) (.slice Ao119 t424.length co119)) (fun _ h_ => h_.1))))); (case side2 => exact (Kd.R_reads' HO_381002.out).2.1); rintro e w121 ⟨rfl, hb⟩; refine ⟨_, rfl, ?_⟩; replace HO_13 := Aside0.mk (Kd.S_below (by (with_reducible repeat (first | apply Kd.S_alloc | apply Kd.S_drewN | apply Kd.S_drew)); exact (Kd.S_mono (Kd.S_far (p := ⟨gb428, 2, none⟩) (Kd.S_far (p := ⟨gb428, 1, none⟩) (Kd.S_far (p := ⟨gb428, 0, none⟩) (Kd.S_types HO_13.out BK428.out (by decide)) (fun _ hk => hk.2) (.int .i64 t422)) (fun _ hk => hk.2) (.int .i64 t423)) (fun _ hk => hk.2) (.slice Ao119 t424.length co119)) (fun _ h_ => h_.1))) hb); replace HO_14 := Aside0.mk (Kd.S_below (by (with_reducible repeat (first | apply Kd.S_alloc | apply Kd.S_drewN | apply Kd.S_drew)); exact (Kd.S_mono (Kd.S_far (p := ⟨gb428, 2, none⟩) (Kd.S_far (p := ⟨gb428, 1, none⟩) (Kd.S_far (p := ⟨gb428, 0, none⟩) (Kd.S_types HO_14.out BK428.out (by decide)) (fun _ hk => hk.2) (.int .i64 t422)) (fun _ hk => hk.2) (.int .i64 t423)) (fun _ hk => hk.2) (.slice Ao119 t424.length co119)) (fun _ h_ => h_.1))) hb); replace HO_76 := Aside0.mk (Kd.S_below (by (with_reducible repeat (first | apply Kd.S_alloc | apply Kd.S_drewN | apply Kd.S_drew)); exact (Kd.S_mono (Kd.S_far (p := ⟨gb428, 2, none⟩) (Kd.S_far (p := ⟨gb428, 1, none⟩) (Kd.S_far (p := ⟨gb428, 0, none⟩) (Kd.S_types HO_76.out BK428.out (by decide)) (fun _ hk => hk.2) (.int .i64 t422)) (fun _ hk => hk.2) (.int .i64 t423)) (fun _ hk => hk.2) (.slice Ao119 t424.length co119)) (fun _ h_ => h_.1))) hb); replace HO_381002 := Aside0.mk (Kd.R_below (z.rl ((Kd.R_mono (Kd.R_far (p := ⟨gb428, 2, none⟩) (Kd.R_far (p := ⟨gb428, 1, none⟩) (Kd.R_far (p := ⟨gb428, 0, none⟩) (Kd.R_types HO_381002.out BK428.out (by decide)) (fun _ hk => hk.2) (.int .i64 t422)) (fun _ hk => hk.2) (.int .i64 t423)) (fun _ hk => hk.2) (.slice Ao119 t424.length co119)) (fun _ h_ => h_.1)))) hb); replace HO_388002 := Aside0.mk (Kd.R_below (z.rl ((Kd.R_mono (Kd.R_far (p := ⟨gb428, 2, none⟩) (Kd.R_far (p := ⟨gb428, 1, none⟩) (Kd.R_far (p := ⟨gb428, 0, none⟩) (Kd.R_types HO_388002.out BK428.out (by decide)) (fun _ hk => hk.2) (.int .i64 t422)) (fun _ hk => hk.2) (.int .i64 t423)) (fun _ hk => hk.2) (.slice Ao119 t424.length co119)) (fun _ h_ => h_.1)))) hb); replace HO412 := Aside0.mk (Kd.R_below (z.rl ((Kd.R_mono (Kd.R_far (p := ⟨gb428, 2, none⟩) (Kd.R_far (p := ⟨gb428, 1, none⟩) (Kd.R_far (p := ⟨gb428, 0, none⟩) (Kd.R_types HO412.out BK428.out (by decide)) (fun _ hk => hk.2) (.int .i64 t422)) (fun _ hk => hk.2) (.int .i64 t423)) (fun _ hk => hk.2) (.slice Ao119 t424.length co119)) (fun _ h_ => h_.1)))) hb); replace HO419 := Aside0.mk (Kd.R_below (z.rl ((Kd.R_mono (Kd.R_far (p := ⟨gb428, 2, none⟩) (Kd.R_far (p := ⟨gb428, 1, none⟩) (Kd.R_far (p := ⟨gb428, 0, none⟩) (Kd.R_types HO419.out BK428.out (by decide)) (fun _ hk => hk.2) (.int .i64 t422)) (fun _ hk => hk.2) (.int .i64 t423)) (fun _ hk => hk.2) (.slice Ao119 t424.length co119)) (fun _ h_ => h_.1)))) hb); replace HO426 := Aside0.mk (Kd.R_below (z.rl ((Kd.R_mono (Kd.R_far (p := ⟨gb428, 2, none⟩) (Kd.R_far (p := ⟨gb428, 1, none⟩) (Kd.R_far (p := ⟨gb428, 0, none⟩) (Kd.R_types HO426.out BK428.out (by decide)) (fun _ hk => hk.2) (.int .i64 t422)) (fun _ hk => hk.2) (.int .i64 t423)) (fun _ hk => hk.2) (.slice Ao119 t424.length co119)) (fun _ h_ => h_.1)))) hb); replace BK380 := Aside0.mk (blk_below (g := gb380) (o := .cells #[.int .i64 t374, .int .i64 t375, .slice Ao13 t376.length co13] 67 (0, 0)) (z.bf BK380) hb); replace BK387 := Aside0.mk (blk_below (g := gb387) (o := .cells #[.int .i64 t381, .int .i64 t382, .slice Ao18 t383.length co18] 67 (0, 0)) (z.bf BK387) hb); replace BK414 := Aside0.mk (blk_below (g := gb414) (o := .cells #[.int .i64 t408, .int .i64 t409, .slice Ao101 t410.length co101] 67 (0, 0)) (z.bf BK414) hb); replace BK421 := Aside0.mk (blk_below (g := gb421) (o := .cells #[.int .i64 t415, .int .i64 t416, .slice Ao109 t417.length co109] 67 (0, 0)) (z.bf BK421) hb); replace BK428 := Aside0.mk (blk_below (g := gb428) (o := .cells #[.int .i64 t422, .int .i64 t423, .slice Ao119 t424.length co119] 67 (0, 0)) (by (with_reducible repeat (first | refine blk_drewN ?_ _ | refine blk_drew ?_ | refine blk_alloc ?_ _)); refine blk_put (cs := #[.int .i64 t422, .int .i64 t423, .slice none 0 0]) ?_ 2 _ rfl; (with_reducible repeat (first | refine blk_drewN ?_ _ | refine blk_drew ?_ | refine blk_alloc ?_ _)); refine blk_put (cs := #[.int .i64 t422, .int .i64 0, .slice none 0 0]) ?_ 1 _ rfl; (with_reducible repeat (first | refine blk_drewN ?_ _ | refine blk_drew ?_ | refine blk_alloc ?_ _)); refine blk_put (cs := #[.int .i64 0, .int .i64 0, .slice none 0 0]) ?_ 0 _ rfl; (with_reducible repeat (first | refine blk_drewN ?_ _ | refine blk_drew ?_ | refine blk_alloc ?_ _)); exact BK428.out) hb); replace HB := Aside0.mk (below_step (z.bl HB) hb); (try clear hb); (try clear hb2); (try clear hk); (try clear hi); have hcz122_0 : w121.cell? ⟨gb428, 0, none⟩ = some (.int .i64 t422) := (blk_cell BK428.out 0).trans rfl; have hcz122_1 : w121.cell? ⟨gb428, 1, none⟩ = some (.int .i64 t423) := (blk_cell BK428.out 1).trans rfl; have hcz122_2 : w121.cell? ⟨gb428, 2, none⟩ = some (.slice Ao119 t424.length co119) := (blk_cell BK428.out 2).trans rfl; have hfz122_0 := blk_frozen BK428.out 0; have hfz122_1 := blk_frozen BK428.out 1; have hfz122_2 := blk_frozen BK428.out 2) | ((with_reducible refine gate_callee (f := 50) rfl ?_); refine z.gl (some 163) rfl rfl Try.func50 (by kernel_rfl) rfl #[.agg #[.int .i64 t422, .int .i64 t423, .slice Ao119 t424.length co119]] rfl ?_; (with_reducible refine (impl_SumOf.calls k2 t422 t423 _ _ t424 t431 true _ ?side1 ?side2 A85.out).mono ?_); (case side1 => repeat (first | exact (Kd.R_reads' HO426.out).2.2 | (with_reducible refine Kd.C_alloc ?_ _) | (with_reducible refine Kd.C_drewN ?_ _) | (with_reducible refine Kd.C_drew ?_))); (case side2 => exact (Kd.R_reads' HO426.out).2.1); rintro e w123 ⟨rfl, hb⟩; refine ⟨_, rfl, ?_⟩; replace HO_13 := Aside0.mk (Kd.S_below (by (with_reducible repeat (first | apply Kd.S_alloc | apply Kd.S_drewN | apply Kd.S_drew)); exact HO_13.out) hb); replace HO_14 := Aside0.mk (Kd.S_below (by (with_reducible repeat (first | apply Kd.S_alloc | apply Kd.S_drewN | apply Kd.S_drew)); exact HO_14.out) hb); replace HO_76 := Aside0.mk (Kd.S_below (by (with_reducible repeat (first | apply Kd.S_alloc | apply Kd.S_drewN | apply Kd.S_drew)); exact HO_76.out) hb); replace HO_381002 := z.rb HO_381002 hb; replace HO_388002 := z.rb HO_388002 hb; replace HO412 := z.rb HO412 hb; replace HO419 := z.rb HO419 hb; replace HO426 := z.rb HO426 hb; replace BK380 := z.bb BK380 hb; replace BK387 := z.bb BK387 hb; replace BK414 := z.bb BK414 hb; replace BK421 := z.bb BK421 hb; replace BK428 := z.bb BK428 hb; replace HB := Aside0.mk (below_step (z.bl HB) hb); (try clear hb); (try clear hb2); (try clear hk); (try clear hi); have hcz124_0 : w123.cell? ⟨gb414, 0, none⟩ = some (.int .i64 t408) := (blk_cell BK414.out 0).trans rfl; have hcz124_1 : w123.cell? ⟨gb414, 1, none⟩ = some (.int .i64 t409) := (blk_cell BK414.out 1).trans rfl; have hcz124_2 : w123.cell? ⟨gb414, 2, none⟩ = some (.slice Ao101 t410.length co101) := (blk_cell BK414.out 2).trans rfl; have hfz124_0 := blk_frozen BK414.out 0; have hfz124_1 := blk_frozen BK414.out 1; have hfz124_2 := blk_frozen BK414.out 2; have hcz125_0 : w123.cell? ⟨gb380, 0, none⟩ = some (.int .i64 t374) := (blk_cell BK380.out 0).trans rfl; have hcz125_1 : w123.cell? ⟨gb380, 1, none⟩ = some (.int .i64 t375) := (blk_cell BK380.out 1).trans rfl; have hcz125_2 : w123.cell? ⟨gb380, 2, none⟩ = some (.slice Ao13 t376.length co13) := (blk_cell BK380.out 2).trans rfl; have hfz125_0 := blk_frozen BK380.out 0; have hfz125_1 := blk_frozen BK380.out 1; have hfz125_2 := blk_frozen BK380.out 2) | (go_at_call 47; (with_reducible refine (laws_sameInts.calls k2 _ _ t410 _ _ t376 true _ ?side1 ?side2 ?side3 ?side4 A91.out).mono ?_); (case side1 => repeat (first | exact (Kd.R_reads' HO412.out).2.2 | (with_reducible refine Kd.C_alloc ?_ _) | (with_reducible refine Kd.C_drewN ?_ _) | (with_reducible refine Kd.C_drew ?_))); (case side2 => exact (Kd.R_reads' HO412.out).2.1); (case side3 => repeat (first | exact (Kd.R_reads' HO_381002.out).2.2 | (with_reducible refine Kd.C_alloc ?_ _) | (with_reducible refine Kd.C_drewN ?_ _) | (with_reducible refine Kd.C_drew ?_))); (case side4 => exact (Kd.R_reads' HO_381002.out).2.1); rintro e w' ⟨rfl, ⟨nd, rfl⟩⟩; have hcz126_0 : w123.cell? ⟨gb421, 0, none⟩ = some (.int .i64 t415) := (blk_cell BK421.out 0).trans rfl; have hcz126_1 : w123.cell? ⟨gb421, 1, none⟩ = some (.int .i64 t416) := (blk_cell BK421.out 1).trans rfl; have hcz126_2 : w123.cell? ⟨gb421, 2, none⟩ = some (.slice Ao109 t417.length co109) := (blk_cell BK421.out 2).trans rfl; have hfz126_0 := blk_frozen BK421.out 0; have hfz126_1 := blk_frozen BK421.out 1; have hfz126_2 := blk_frozen BK421.out 2) | (go_at_call 47; (with_reducible refine (laws_sameInts.calls k2 _ _ t417 _ _ t376 true _ ?side1 ?side2 ?side3 ?side4 A93.out).mono ?_); (case side1 => repeat (first | exact (Kd.R_reads' HO419.out).2.2 | (with_reducible refine Kd.C_alloc ?_ _) | (with_reducible refine Kd.C_drewN ?_ _) | (with_reducible refine Kd.C_drew ?_))); (case side2 => exact (Kd.R_reads' HO419.out).2.1); (case side3 => repeat (first | exact (Kd.R_reads' HO_381002.out).2.2 | (with_reducible refine Kd.C_alloc ?_ _) | (with_reducible refine Kd.C_drewN ?_ _) | (with_reducible refine Kd.C_drew ?_))); (case side4 => exact (Kd.R_reads' HO_381002.out).2.1); rintro e w' ⟨rfl, ⟨nd, rfl⟩⟩))
                go_ret
                exact ⟨by first | rfl | (simp [errW_none, errW_some] <;> rfl) | (simp [*, errW_none, errW_some] <;> rfl), z.bl HB⟩
               ·replace c94 := Bool.eq_false_iff.mpr c94
                subst c94
                have H1 : (some false) = some r := by rw [if_neg (show ¬ (false = true) by decide)] at H; exact H
                clear H
                have H := H1
                clear H1
                exact absurd (Option.some.inj H) (by rw [hrt]; decide)
              ·replace c92 := Bool.eq_false_iff.mpr c92
               subst c92
               have H1 : (some false) = some r := by rw [if_neg (show ¬ (false = true) by decide)] at H; exact H
               clear H
               have H := H1
               clear H1
               exact absurd (Option.some.inj H) (by rw [hrt]; decide)
             ·replace c90 := Bool.eq_false_iff.mpr c90
              subst c90
              have H1 : (some false) = some r := by rw [if_neg (show ¬ (false = true) by decide)] at H; exact H
              clear H
              have H := H1
              clear H1
              exact absurd (Option.some.inj H) (by rw [hrt]; decide)
            ·replace c89 := Bool.eq_false_iff.mpr c89
             subst c89
             have H1 : (some false) = some r := by rw [if_neg (show ¬ (false = true) by decide)] at H; exact H
             clear H
             have H := H1
             clear H1
             exact absurd (Option.some.inj H) (by rw [hrt]; decide)
           ·replace c88 := Bool.eq_false_iff.mpr c88
            subst c88
            have H1 : (some false) = some r := by rw [if_neg (show ¬ (false = true) by decide)] at H; exact H
            clear H
            have H := H1
            clear H1
            exact absurd (Option.some.inj H) (by rw [hrt]; decide)
          ·replace c87 := Bool.eq_false_iff.mpr c87
           subst c87
           have H1 : (some false) = some r := by rw [if_neg (show ¬ (false = true) by decide)] at H; exact H
           clear H
           have H := H1
           clear H1
           exact absurd (Option.some.inj H) (by rw [hrt]; decide)
         ·replace c86 := Bool.eq_false_iff.mpr c86
          subst c86
          have H1 : (some false) = some r := by rw [if_neg (show ¬ (false = true) by decide)] at H; exact H
          clear H
          have H := H1
          clear H1
          exact absurd (Option.some.inj H) (by rw [hrt]; decide)
     ·replace c25 := Bool.eq_false_iff.mpr c25
      subst c25
      have H1 : (some true) = some r := by rw [if_neg (show ¬ (false = true) by decide)] at H; exact H
      clear H
      have H := H1
      clear H1
      obtain rfl := Option.some.inj H
      go_wp2
      go_ret
      exact ⟨by first | rfl | (simp [errW_none, errW_some] <;> rfl) | (simp [*, errW_none, errW_some] <;> rfl), z.bl HB⟩
/-- THE ONE PURE STATEMENT of laws_FnCover: yours. -/
def laws_FnCover.Pure : Prop := ∀ (l0 : List Int) (l1 : List Int), l0.length ≤ maxLen → l0.length * 1 ≤ 140737488351232 → (∀ x ∈ l0, (Lit.int .u8 x).wf = true) → l1.length ≤ maxLen → l1.length * 1 ≤ 140737488351232 → (∀ x ∈ l1, (Lit.int .u8 x).wf = true) → ∃ k, laws_FnCover.f k l0 l1 = some true
theorem laws_FnCover.walk (P : laws_FnCover.Pure) (a0 : Option Addr) (len0 cap0 : Nat) (z0 : List Int) (a1 : Option Addr) (len1 cap1 : Nat) (z1 : List Int) (w : World) (w0 : (a0 = none ∧ len0 = 0 ∧ cap0 = 0 ∧ z0 = []) ∨ ∃ x, a0 = some x ∧ len0 ≤ cap0 ∧ cap0 ≤ maxLen ∧ z0.length = cap0 ∧ (∀ i, i < z0.length → w.cell? (x.add i) = some (.int .u8 (z0.getD i 0))) ∧ ∀ n ∈ z0, (Lit.int .u8 n).wf = true) (y0 : len0 * 1 ≤ 140737488351232) (w1 : (a1 = none ∧ len1 = 0 ∧ cap1 = 0 ∧ z1 = []) ∨ ∃ x, a1 = some x ∧ len1 ≤ cap1 ∧ cap1 ≤ maxLen ∧ z1.length = cap1 ∧ (∀ i, i < z1.length → w.cell? (x.add i) = some (.int .u8 (z1.getD i 0))) ∧ ∀ n ∈ z1, (Lit.int .u8 n).wf = true) (y1 : len1 * 1 ≤ 140737488351232) :
    Calls Try.prog 7 #[.slice a0 len0 cap0, .slice a1 len1 cap1] w fun e w' => e = .returned (.bool true) ∧ Below w.heap.size w w' := by
  obtain ⟨l0, rfl, hr0, hm0, hw0, hc0⟩ := ReadsInt.ofRowC w0
  obtain ⟨l1, rfl, hr1, hm1, hw1, hc1⟩ := ReadsInt.ofRowC w1
  obtain ⟨k, h⟩ := P l0 l1 hm0 y0 hw0 hm1 y1 hw1
  refine (laws_FnCover.calls k _ _ l0 _ _ l1 true rfl w (Kd.C_of_reads (d := (0 : Int)) (h1 := fun _ => rfl) hr0) hc0 (Kd.C_of_reads (d := (0 : Int)) (h1 := fun _ => rfl) hr1) hc1 h).mono ?_
  rintro e w' ⟨rfl, hd⟩
  exact ⟨rfl, hd⟩
end Go.Proofs.Ytdbgnoolokfafaa.HFnCover
