-- Printed by a program of this session over the kit's print; functions that the print does not take stand here by hand.
import Derived.Test.YtdbgnoolokfafaaZShort
import Derived.Test.YtdbgnoolokfafaaZHFnCoverx0
import Derived.Test.YtdbgnoolokfafaaZHFnCoverx14
namespace Go.Proofs.Ytdbgnoolokfafaa.HFnCover
open Go.RowKit Go.Proofs.YtdbgnoolokfafaaW.PrintWords Go.Proofs.YtdbgnoolokfafaaW.PrintLast Go.Proofs.YtdbgnoolokfafaaW.PrintMore
attribute [local go_sem] max2_int min2_int max_two min_two max_three min_three max_four min_four   -- for this text's walks alone
set_option linter.unusedVariables false
set_option linter.unusedSimpArgs false
/-! ### spec_l11Lines: function 131 -/
mutual
def spec_l11Lines.l0 : Nat → List (S83) → Int → Int → Option (Bool)
  | 0, _, _, _ => none
  | k + 1, x10, x11, x12 => if x12 < x11 then (if 0 ≤ x12 then (if x12 < (x10.length : Int) then (spec_l11Lines.l1 k x10 x11 x12 ((rd_T83 x10 x12).f0) (((rd_T83 x10 x12).f0).length : Int) 0) else (none)) else (none)) else (some true)
def spec_l11Lines.l1 : Nat → List (S83) → Int → Int → List (S25) → Int → Int → Option (Bool)
  | 0, _, _, _, _, _, _ => none
  | k + 1, x10, x11, x12, x17, x18, x19 => if x19 < x18 then (if 0 ≤ x19 then (if x19 < (x17.length : Int) then ((spec_l10Point.f ((rd_T25 x17 x19).f0) ((rd_T25 x17 x19).f1)).bind fun t295 => (if t295 = true then (spec_l11Lines.l1 k x10 x11 x12 x17 x18 (wrap64 (x19 + 1))) else (some false))) else (none)) else (none)) else (spec_l11Lines.l0 k x10 x11 (wrap64 (x12 + 1)))
end
def spec_l11Lines.f (k : Nat) (l0 : List (S83)) : Option (Bool) := (spec_l9Many.f k l0).bind fun t290 => (if t290 > 4800 then (some false) else (spec_l11Lines.l0 k l0 (l0.length : Int) 0))
theorem spec_l11Lines.mono_l : ∀ k, (∀ y0 y1 y2, LeO (spec_l11Lines.l0 k y0 y1 y2) (spec_l11Lines.l0 (k + 1) y0 y1 y2)) ∧ (∀ y0 y1 y2 y3 y4 y5, LeO (spec_l11Lines.l1 k y0 y1 y2 y3 y4 y5) (spec_l11Lines.l1 (k + 1) y0 y1 y2 y3 y4 y5))
  | 0 => ⟨fun _ _ _ r h => by simp [spec_l11Lines.l0] at h, fun _ _ _ _ _ _ r h => by simp [spec_l11Lines.l1] at h⟩
  | k + 1 => by
    obtain ⟨ih0, ih1⟩ := spec_l11Lines.mono_l k
    refine ⟨?_, ?_⟩
    · intro y0 y1 y2
      unfold spec_l11Lines.l0
      repeat' first
    | with_reducible exact ih0 _ _ _
    | with_reducible exact ih1 _ _ _ _ _ _
    | with_reducible exact spec_l9Many.mono ..
    | with_reducible exact LeO.refl _
    | with_reducible exact LeO.none _
    | with_reducible refine LeO.ite ?_ ?_
    | with_reducible refine LeO.bind ?_ (fun _ => ?_)
    | exact ih0 _ _ _
    | exact ih1 _ _ _ _ _ _
    | exact LeO.none _
    | refine LeO.ite ?_ ?_
    | refine LeO.bind ?_ (fun _ => ?_)
    · intro y0 y1 y2 y3 y4 y5
      unfold spec_l11Lines.l1
      repeat' first
    | with_reducible exact ih0 _ _ _
    | with_reducible exact ih1 _ _ _ _ _ _
    | with_reducible exact spec_l9Many.mono ..
    | with_reducible exact LeO.refl _
    | with_reducible exact LeO.none _
    | with_reducible refine LeO.ite ?_ ?_
    | with_reducible refine LeO.bind ?_ (fun _ => ?_)
    | exact ih0 _ _ _
    | exact ih1 _ _ _ _ _ _
    | exact LeO.none _
    | refine LeO.ite ?_ ?_
    | refine LeO.bind ?_ (fun _ => ?_)
theorem spec_l11Lines.mono : ∀ a0 k, LeO (spec_l11Lines.f k a0) (spec_l11Lines.f (k + 1) a0) := by
  intro a0 k
  obtain ⟨ih0, ih1⟩ := spec_l11Lines.mono_l k
  unfold spec_l11Lines.f
  repeat' first
    | with_reducible exact ih0 _ _ _
    | with_reducible exact ih1 _ _ _ _ _ _
    | with_reducible exact spec_l9Many.mono ..
    | with_reducible exact LeO.refl _
    | with_reducible exact LeO.none _
    | with_reducible refine LeO.ite ?_ ?_
    | with_reducible refine LeO.bind ?_ (fun _ => ?_)
    | exact ih0 _ _ _
    | exact ih1 _ _ _ _ _ _
    | exact LeO.none _
    | refine LeO.ite ?_ ?_
    | refine LeO.bind ?_ (fun _ => ?_)
set_option maxHeartbeats 8000000 in
set_option maxRecDepth 100000 in
theorem spec_l11Lines.calls (k : Nat) (A0 : Option Addr) (c0 : Nat) (l0 : List (S83)) (r : Bool) (w : World) (hr0 : Kd.C k83 w A0 l0.length l0) (hc0 : l0.length ≤ c0) (h : spec_l11Lines.f k l0 = some r) :
    Calls Try.prog 131 #[.slice A0 l0.length c0] w fun e w' => e = .returned (.bool r) ∧ Below w.heap.size w w' := by
 have hu83 := Try.underlying83
 have hu25 := Try.underlying25
 have HR0 := Aside0.mk hr0
 have HC0 := Aside0.mk hc0
 clear hr0 hc0
 have HB := Aside0.mk (Below.refl w.heap.size w)
 have H : ((spec_l9Many.f k l0).bind fun t290 => (if t290 > 4800 then (some false) else (spec_l11Lines.l0 k l0 (l0.length : Int) 0))) = some r := h
 clear h
 replace H := Option.bind_eq_some_iff.mp H
 obtain ⟨t290, A20, H⟩ := H
 replace H : (if t290 > 4800 then (some false) else (spec_l11Lines.l0 k l0 (l0.length : Int) 0)) = some r := H
 have A2 := Aside0.mk A20
 clear A20
 by_cases c3 : t290 > 4800
 ·rw [if_pos c3] at H
  have c3b0 : decide (4800 < t290) = true := decide_eq_true c3
  clear c3
  obtain rfl := Option.some.inj H
  go_enter Try.func131, Try.ntmps131
  go_wp2_with (first | ((with_reducible refine gate_callee (f := 183) rfl ?_); refine z.gl (some 8) rfl rfl Try.func183 (by kernel_rfl) rfl #[.slice A0 l0.length c0] rfl ?_; (with_reducible refine (spec_l9Many.calls k _ _ l0 t290 _ ?side1 ?side2 A2.out).mono ?_); (case side1 => repeat (first | exact HR0.out | (with_reducible refine Kd.C_alloc ?_ _) | (with_reducible refine Kd.C_drewN ?_ _) | (with_reducible refine Kd.C_drew ?_))); (case side2 => exact HC0.out); rintro e w4 ⟨rfl, hb⟩; refine ⟨_, rfl, ?_⟩; replace HB := Aside0.mk (below_step (z.bl HB) hb); (try clear hb); (try clear hb2); (try clear hk); (try clear hi)))
  go_ret
  exact ⟨by first | rfl | (simp [errW_none, errW_some] <;> rfl) | (simp [*, errW_none, errW_some] <;> rfl), z.bl HB⟩
 ·rw [if_neg c3] at H
  have c3b0 : decide (4800 < t290) = false := decide_eq_false c3
  clear c3
  have H' := Aside0.mk H
  clear H
  go_enter Try.func131, Try.ntmps131
  go_wp2_with (first | ((with_reducible refine gate_callee (f := 183) rfl ?_); refine z.gl (some 8) rfl rfl Try.func183 (by kernel_rfl) rfl #[.slice A0 l0.length c0] rfl ?_; (with_reducible refine (spec_l9Many.calls k _ _ l0 t290 _ ?side1 ?side2 A2.out).mono ?_); (case side1 => repeat (first | exact HR0.out | (with_reducible refine Kd.C_alloc ?_ _) | (with_reducible refine Kd.C_drewN ?_ _) | (with_reducible refine Kd.C_drew ?_))); (case side2 => exact HC0.out); rintro e w5 ⟨rfl, hb⟩; refine ⟨_, rfl, ?_⟩; replace HB := Aside0.mk (below_step (z.bl HB) hb); (try clear hb); (try clear hb2); (try clear hk); (try clear hi)))
  go_loopg [12] k (fun kq v12 w' => ∃ (x12_1 : Int), v12 = .int .i64 x12_1 ∧ Aside0 (spec_l11Lines.l0 kq l0 (l0.length : Int) x12_1 = some r) ∧ Aside0 (kq ≤ k) ∧ Aside0 (Below w.heap.size w w'))
  case atStart => exact ⟨(0), (by first | rfl | (simp; done) | (simp [*]; done)), H', ⟨Nat.le_refl _⟩, ⟨z.bl HB⟩⟩
  case round =>
   clear H'
   try clear c1
   try clear p2
   try clear c3
   try clear c3b0
   obtain ⟨x12_1, rfl, HA, HK1, HB⟩ := hrel
   cases gk with
   | zero => exact absurd HA.out (by simp [spec_l11Lines.l0])
   | succ k1 =>
    have H := HA.out
    clear HA
    simp only [spec_l11Lines.l0] at H
    by_cases c6 : x12_1 < (l0.length : Int)
    ·rw [if_pos c6] at H
     have c6b0 : decide (x12_1 < (l0.length : Int)) = true := decide_eq_true c6
     clear c6
     by_cases c7 : 0 ≤ x12_1
     ·rw [if_pos c7] at H
      have c7b0 : decide (0 ≤ x12_1) = true := decide_eq_true c7
      clear c7
      by_cases c8 : x12_1 < (l0.length : Int)
      ·rw [if_pos c8] at H
       have c8b0 : decide (x12_1 < (l0.length : Int)) = true := decide_eq_true c8
       clear c8
       have H' := Aside0.mk H
       clear H
       have p291 : 0 ≤ (x12_1 : Int) := of_decide_eq_true (by first | (with_reducible assumption) | assumption)
       have q291 : x12_1 < (l0.length : Int) := of_decide_eq_true (by first | (with_reducible assumption) | assumption)
       obtain ⟨ad291, A291_0, c291_0, e291, hx291_0, hx291_1, hl291_0, hi291_0⟩ := at_T83 HR0.out x12_1 p291 q291
       cases e291
       replace hx291_0 := (HB.out.cell (World.block_lt_of_cell? w _ hx291_0)).trans hx291_0
       replace hx291_1 := (HB.out.cell (World.block_lt_of_cell? w _ hx291_1)).trans hx291_1
       have HR291_0 := Aside0.mk hi291_0
       have HC291_0 := Aside0.mk hl291_0
       clear hi291_0 hl291_0
       replace p291 := eq_true p291
       replace q291 := eq_true q291
       go_wp2_with (first | ((with_reducible refine gate_dst (N := 4) rfl ?_); refine box_event ?hg (N := 4) ?hd (cs := #[.slice none 0 0, .bool false]) (t := 83) ?hr ?_; (case hd => rfl); (case hg => rfl); (case hr => first | (go_simp; done) | (go_simp; rfl)); intro gb292 hg w9 hbox hb; have BK292 := Aside0.mk (hbox); have GW292 := Aside0.mk ((by rw [hg]; exact (below_size (z.bl HB)) : w.heap.size ≤ gb292)); have GE292 := Aside0.mk ((by rw [hg]; exact (below_size (z.bl HB)) : w.heap.size ≤ gb292)); replace HB := Aside0.mk (below_step (z.bl HB) hb); clear hb hbox hg; have hcz10_0 : w9.cell? ⟨gb292, 0, none⟩ = some (.slice none 0 0) := (blk_cell BK292.out 0).trans rfl; have hcz10_1 : w9.cell? ⟨gb292, 1, none⟩ = some (.bool false) := (blk_cell BK292.out 1).trans rfl; have hfz10_0 := blk_frozen BK292.out 0; have hfz10_1 := blk_frozen BK292.out 1))
       go_loopg [19] k1 (fun kq v19 w' => ∃ (x19_2 : Int), v19 = .int .i64 x19_2 ∧ Aside0 (spec_l11Lines.l1 kq l0 (l0.length : Int) x12_1 ((rd_T83 l0 x12_1).f0) (((rd_T83 l0 x12_1).f0).length : Int) x19_2 = some r) ∧ Aside0 (kq ≤ k1) ∧ Aside0 (w'.heap[gb292]? = some (.cells #[(.slice A291_0 ((rd_T83 l0 x12_1).f0).length c291_0), .bool ((rd_T83 l0 x12_1).f1)] 83 (0, 0))) ∧ Aside0 (Below w.heap.size w w'))
       case atStart => exact ⟨(0), (by first | rfl | (simp; done) | (simp [*]; done)), H', ⟨Nat.le_refl _⟩, ⟨by (with_reducible repeat (first | refine blk_drewN ?_ _ | refine blk_drew ?_ | refine blk_alloc ?_ _)); refine blk_put (cs := #[.slice A291_0 ((rd_T83 l0 x12_1).f0).length c291_0, .bool false]) ?_ 1 _ rfl; (with_reducible repeat (first | refine blk_drewN ?_ _ | refine blk_drew ?_ | refine blk_alloc ?_ _)); refine blk_put (cs := #[.slice none 0 0, .bool false]) ?_ 0 _ rfl; (with_reducible repeat (first | refine blk_drewN ?_ _ | refine blk_drew ?_ | refine blk_alloc ?_ _)); exact BK292.out⟩, ⟨z.bl HB⟩⟩
       case round =>
        clear H'
        try clear c1
        try clear c2
        try clear p2
        try clear q2
        try clear hx2
        try clear c3
        try clear c3b0
        try clear c6
        try clear c6b0
        try clear c7
        try clear c7b0
        try clear c8
        try clear c8b0
        try clear hcz10_0
        try clear hcz10_1
        try clear hfz10_0
        try clear hfz10_1
        try clear hx291_0
        try clear hx291_1
        try clear p2
        try clear p291
        try clear q291
        obtain ⟨x19_2, rfl, HA, HK2, BK292, HB⟩ := hrel
        cases gk with
        | zero => exact absurd HA.out (by simp [spec_l11Lines.l1])
        | succ k2 =>
         have H := HA.out
         clear HA
         simp only [spec_l11Lines.l1] at H
         by_cases c11 : x19_2 < (((rd_T83 l0 x12_1).f0).length : Int)
         ·rw [if_pos c11] at H
          have c11b0 : decide (x19_2 < (((rd_T83 l0 x12_1).f0).length : Int)) = true := decide_eq_true c11
          clear c11
          by_cases c12 : 0 ≤ x19_2
          ·rw [if_pos c12] at H
           have c12b0 : decide (0 ≤ x19_2) = true := decide_eq_true c12
           clear c12
           by_cases c13 : x19_2 < (((rd_T83 l0 x12_1).f0).length : Int)
           ·rw [if_pos c13] at H
            have c13b0 : decide (x19_2 < (((rd_T83 l0 x12_1).f0).length : Int)) = true := decide_eq_true c13
            clear c13
            replace H := Option.bind_eq_some_iff.mp H
            obtain ⟨t295, A140, H⟩ := H
            replace H : (if t295 = true then (spec_l11Lines.l1 k2 l0 (l0.length : Int) x12_1 ((rd_T83 l0 x12_1).f0) (((rd_T83 l0 x12_1).f0).length : Int) (wrap64 (x19_2 + 1))) else (some false)) = some r := H
            have A14 := Aside0.mk A140
            clear A140
            by_cases c15 : t295 = true
            ·subst c15
             have H1 : (spec_l11Lines.l1 k2 l0 (l0.length : Int) x12_1 ((rd_T83 l0 x12_1).f0) (((rd_T83 l0 x12_1).f0).length : Int) (wrap64 (x19_2 + 1))) = some r := by rw [if_pos rfl] at H; exact H
             clear H
             have H := H1
             clear H1
             have H' := Aside0.mk H
             clear H
             have p293 : 0 ≤ (x19_2 : Int) := of_decide_eq_true (by first | (with_reducible assumption) | assumption)
             have q293 : x19_2 < (((rd_T83 l0 x12_1).f0).length : Int) := of_decide_eq_true (by first | (with_reducible assumption) | assumption)
             obtain ⟨ad293, e293, hx293_0, hx293_1⟩ := at_T25 HR291_0.out x19_2 p293 q293
             cases e293
             replace hx293_0 := (HB.out.cell (World.block_lt_of_cell? w _ hx293_0)).trans hx293_0
             replace hx293_1 := (HB.out.cell (World.block_lt_of_cell? w _ hx293_1)).trans hx293_1
             replace p293 := eq_true p293
             replace q293 := eq_true q293
             go_wp2_with (first | ((with_reducible refine gate_dst (N := 6) rfl ?_); refine box_event ?hg (N := 6) ?hd (cs := #[.int .i64 0, .int .i64 0]) (t := 25) ?hr ?_; (case hd => rfl); (case hg => rfl); (case hr => first | (go_simp; done) | (go_simp; rfl)); intro gb294 hg w16 hbox hb; have BK294 := Aside0.mk (hbox); have GW294 := Aside0.mk ((by rw [hg]; exact (below_size (z.bl HB)) : w.heap.size ≤ gb294)); have GE294 := Aside0.mk ((by rw [hg]; exact (below_size (z.bl HB)) : w.heap.size ≤ gb294)); replace HB := Aside0.mk (below_step (z.bl HB) hb); have NB292_294 := z.ht BK292 hg; have NB294_292 := z.hu BK292 hg; replace BK292 := z.bb BK292 hb; clear hb hbox hg; have hnb17 := NB294_292.out; have hnc17 := NB292_294.out; have hcz18_0 : w16.cell? ⟨gb294, 0, none⟩ = some (.int .i64 0) := (blk_cell BK294.out 0).trans rfl; have hcz18_1 : w16.cell? ⟨gb294, 1, none⟩ = some (.int .i64 0) := (blk_cell BK294.out 1).trans rfl; have hfz18_0 := blk_frozen BK294.out 0; have hfz18_1 := blk_frozen BK294.out 1) | ((with_reducible refine gate_callee (f := 153) rfl ?_); refine z.gl (some 24) rfl rfl Try.func153 (by kernel_rfl) rfl #[.agg #[.int .i64 ((rd_T25 ((rd_T83 l0 x12_1).f0) x19_2).f0), .int .i64 ((rd_T25 ((rd_T83 l0 x12_1).f0) x19_2).f1)]] rfl ?_; (with_reducible refine (spec_l10Point.calls ((rd_T25 ((rd_T83 l0 x12_1).f0) x19_2).f0) ((rd_T25 ((rd_T83 l0 x12_1).f0) x19_2).f1) true _ A14.out).mono ?_); rintro e w19 ⟨rfl, hb⟩; refine ⟨_, rfl, ?_⟩; replace BK292 := Aside0.mk (blk_below (g := gb292) (o := .cells #[.slice (some ad293) ((rd_T83 l0 x12_1).f0).length c291_0, .bool ((rd_T83 l0 x12_1).f1)] 83 (0, 0)) (z.bf BK292) hb); replace BK294 := Aside0.mk (blk_below (g := gb294) (o := .cells #[.int .i64 ((rd_T25 ((rd_T83 l0 x12_1).f0) x19_2).f0), .int .i64 ((rd_T25 ((rd_T83 l0 x12_1).f0) x19_2).f1)] 25 (0, 0)) (by (with_reducible repeat (first | refine blk_drewN ?_ _ | refine blk_drew ?_ | refine blk_alloc ?_ _)); refine blk_put (cs := #[.int .i64 ((rd_T25 ((rd_T83 l0 x12_1).f0) x19_2).f0), .int .i64 0]) ?_ 1 _ rfl; (with_reducible repeat (first | refine blk_drewN ?_ _ | refine blk_drew ?_ | refine blk_alloc ?_ _)); refine blk_put (cs := #[.int .i64 0, .int .i64 0]) ?_ 0 _ rfl; (with_reducible repeat (first | refine blk_drewN ?_ _ | refine blk_drew ?_ | refine blk_alloc ?_ _)); exact BK294.out) hb); replace HB := Aside0.mk (below_step (z.bl HB) hb); (try clear hb); (try clear hb2); (try clear hk); (try clear hi)))
             go_roundg k2
             case measure => have := HK1.out; have := HK2.out; omega
             case rel => exact ⟨(wrap64 (x19_2 + 1)), (by first | rfl | (simp; done) | (simp [*]; done)), H', ⟨by have := HK1.out; have := HK2.out; omega⟩, ⟨z.bk BK292⟩, ⟨z.bl HB⟩⟩
            ·replace c15 := Bool.eq_false_iff.mpr c15
             subst c15
             have H1 : (some false) = some r := by rw [if_neg (show ¬ (false = true) by decide)] at H; exact H
             clear H
             have H := H1
             clear H1
             obtain rfl := Option.some.inj H
             have p293 : 0 ≤ (x19_2 : Int) := of_decide_eq_true (by first | (with_reducible assumption) | assumption)
             have q293 : x19_2 < (((rd_T83 l0 x12_1).f0).length : Int) := of_decide_eq_true (by first | (with_reducible assumption) | assumption)
             obtain ⟨ad293, e293, hx293_0, hx293_1⟩ := at_T25 HR291_0.out x19_2 p293 q293
             cases e293
             replace hx293_0 := (HB.out.cell (World.block_lt_of_cell? w _ hx293_0)).trans hx293_0
             replace hx293_1 := (HB.out.cell (World.block_lt_of_cell? w _ hx293_1)).trans hx293_1
             replace p293 := eq_true p293
             replace q293 := eq_true q293
             go_wp2_with (first | ((with_reducible refine gate_dst (N := 6) rfl ?_); refine box_event ?hg (N := 6) ?hd (cs := #[.int .i64 0, .int .i64 0]) (t := 25) ?hr ?_; (case hd => rfl); (case hg => rfl); (case hr => first | (go_simp; done) | (go_simp; rfl)); intro gb294 hg w20 hbox hb; have BK294 := Aside0.mk (hbox); have GW294 := Aside0.mk ((by rw [hg]; exact (below_size (z.bl HB)) : w.heap.size ≤ gb294)); have GE294 := Aside0.mk ((by rw [hg]; exact (below_size (z.bl HB)) : w.heap.size ≤ gb294)); replace HB := Aside0.mk (below_step (z.bl HB) hb); have NB292_294 := z.ht BK292 hg; have NB294_292 := z.hu BK292 hg; replace BK292 := z.bb BK292 hb; clear hb hbox hg; have hnb21 := NB294_292.out; have hnc21 := NB292_294.out; have hcz22_0 : w20.cell? ⟨gb294, 0, none⟩ = some (.int .i64 0) := (blk_cell BK294.out 0).trans rfl; have hcz22_1 : w20.cell? ⟨gb294, 1, none⟩ = some (.int .i64 0) := (blk_cell BK294.out 1).trans rfl; have hfz22_0 := blk_frozen BK294.out 0; have hfz22_1 := blk_frozen BK294.out 1) | ((with_reducible refine gate_callee (f := 153) rfl ?_); refine z.gl (some 24) rfl rfl Try.func153 (by kernel_rfl) rfl #[.agg #[.int .i64 ((rd_T25 ((rd_T83 l0 x12_1).f0) x19_2).f0), .int .i64 ((rd_T25 ((rd_T83 l0 x12_1).f0) x19_2).f1)]] rfl ?_; (with_reducible refine (spec_l10Point.calls ((rd_T25 ((rd_T83 l0 x12_1).f0) x19_2).f0) ((rd_T25 ((rd_T83 l0 x12_1).f0) x19_2).f1) false _ A14.out).mono ?_); rintro e w23 ⟨rfl, hb⟩; refine ⟨_, rfl, ?_⟩; replace BK292 := Aside0.mk (blk_below (g := gb292) (o := .cells #[.slice (some ad293) ((rd_T83 l0 x12_1).f0).length c291_0, .bool ((rd_T83 l0 x12_1).f1)] 83 (0, 0)) (z.bf BK292) hb); replace BK294 := Aside0.mk (blk_below (g := gb294) (o := .cells #[.int .i64 ((rd_T25 ((rd_T83 l0 x12_1).f0) x19_2).f0), .int .i64 ((rd_T25 ((rd_T83 l0 x12_1).f0) x19_2).f1)] 25 (0, 0)) (by (with_reducible repeat (first | refine blk_drewN ?_ _ | refine blk_drew ?_ | refine blk_alloc ?_ _)); refine blk_put (cs := #[.int .i64 ((rd_T25 ((rd_T83 l0 x12_1).f0) x19_2).f0), .int .i64 0]) ?_ 1 _ rfl; (with_reducible repeat (first | refine blk_drewN ?_ _ | refine blk_drew ?_ | refine blk_alloc ?_ _)); refine blk_put (cs := #[.int .i64 0, .int .i64 0]) ?_ 0 _ rfl; (with_reducible repeat (first | refine blk_drewN ?_ _ | refine blk_drew ?_ | refine blk_alloc ?_ _)); exact BK294.out) hb); replace HB := Aside0.mk (below_step (z.bl HB) hb); (try clear hb); (try clear hb2); (try clear hk); (try clear hi)))
             go_ret
             exact ⟨by first | rfl | (simp [errW_none, errW_some] <;> rfl) | (simp [*, errW_none, errW_some] <;> rfl), z.bl HB⟩
           ·rw [if_neg c13] at H
            exact absurd H (by simp)
          ·rw [if_neg c12] at H
           exact absurd H (by simp)
         ·rw [if_neg c11] at H
          have c11b0 : decide (x19_2 < (((rd_T83 l0 x12_1).f0).length : Int)) = false := decide_eq_false c11
          clear c11
          have H' := Aside0.mk H
          clear H
          go_wp2
          go_roundg k2
          case measure => have := HK1.out; have := HK2.out; omega
          case rel => exact ⟨(wrap64 (x12_1 + 1)), (by first | rfl | (simp; done) | (simp [*]; done)), H', ⟨by have := HK1.out; have := HK2.out; omega⟩, ⟨z.bl HB⟩⟩
      ·rw [if_neg c8] at H
       exact absurd H (by simp)
     ·rw [if_neg c7] at H
      exact absurd H (by simp)
    ·rw [if_neg c6] at H
     have c6b0 : decide (x12_1 < (l0.length : Int)) = false := decide_eq_false c6
     clear c6
     obtain rfl := Option.some.inj H
     go_wp2
     go_ret
     exact ⟨by first | rfl | (simp [errW_none, errW_some] <;> rfl) | (simp [*, errW_none, errW_some] <;> rfl), z.bl HB⟩
end Go.Proofs.Ytdbgnoolokfafaa.HFnCover
