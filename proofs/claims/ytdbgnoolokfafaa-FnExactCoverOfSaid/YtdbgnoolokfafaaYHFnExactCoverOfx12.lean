-- Printed by a program of this session over the kit's print; functions that the print does not take stand here by hand.
import Derived.Test.YtdbgnoolokfafaaYHFnExactCoverOfx0
namespace Go.Proofs.Ytdbgnoolokfafaa.HFnExactCoverOf
open Go.RowKit Go.Proofs.YtdbgnoolokfafaaW.PrintWords Go.Proofs.YtdbgnoolokfafaaW.PrintLast Go.Proofs.YtdbgnoolokfafaaW.PrintMore
attribute [local go_sem] max2_int min2_int max_two min_two max_three min_three max_four min_four   -- for this text's walks alone
set_option linter.unusedVariables false
set_option linter.unusedSimpArgs false
/-! ### spec_l11Winding: function 185 -/
mutual
def spec_l11Winding.l0 : Nat → Int → Int → Int → List (S228) → Int → Int → Option (Int)
  | 0, _, _, _, _, _, _ => none
  | k + 1, x1, x2, x7, x11, x12, x13 => if x13 < x12 then (if 0 ≤ x13 then (if x13 < (x11.length : Int) then (if ((rd_T228 x11 x13).f1) ≤ x2 then (if x2 < ((rd_T228 x11 x13).f3) then (spec_l11Winding.j1 k x1 x2 x7 (wrap64 ((wrap64 ((wrap64 (((rd_T228 x11 x13).f2) - ((rd_T228 x11 x13).f0))) * (wrap64 (x2 - ((rd_T228 x11 x13).f1))))) - (wrap64 ((wrap64 (x1 - ((rd_T228 x11 x13).f0))) * (wrap64 (((rd_T228 x11 x13).f3) - ((rd_T228 x11 x13).f1))))))) x11 x12 x13 (decide ((wrap64 ((wrap64 ((wrap64 (((rd_T228 x11 x13).f2) - ((rd_T228 x11 x13).f0))) * (wrap64 (x2 - ((rd_T228 x11 x13).f1))))) - (wrap64 ((wrap64 (x1 - ((rd_T228 x11 x13).f0))) * (wrap64 (((rd_T228 x11 x13).f3) - ((rd_T228 x11 x13).f1))))))) > 0)) ((rd_T228 x11 x13).f0) ((rd_T228 x11 x13).f1) ((rd_T228 x11 x13).f2) ((rd_T228 x11 x13).f3)) else (spec_l11Winding.j1 k x1 x2 x7 (wrap64 ((wrap64 ((wrap64 (((rd_T228 x11 x13).f2) - ((rd_T228 x11 x13).f0))) * (wrap64 (x2 - ((rd_T228 x11 x13).f1))))) - (wrap64 ((wrap64 (x1 - ((rd_T228 x11 x13).f0))) * (wrap64 (((rd_T228 x11 x13).f3) - ((rd_T228 x11 x13).f1))))))) x11 x12 x13 false ((rd_T228 x11 x13).f0) ((rd_T228 x11 x13).f1) ((rd_T228 x11 x13).f2) ((rd_T228 x11 x13).f3))) else (spec_l11Winding.j1 k x1 x2 x7 (wrap64 ((wrap64 ((wrap64 (((rd_T228 x11 x13).f2) - ((rd_T228 x11 x13).f0))) * (wrap64 (x2 - ((rd_T228 x11 x13).f1))))) - (wrap64 ((wrap64 (x1 - ((rd_T228 x11 x13).f0))) * (wrap64 (((rd_T228 x11 x13).f3) - ((rd_T228 x11 x13).f1))))))) x11 x12 x13 false ((rd_T228 x11 x13).f0) ((rd_T228 x11 x13).f1) ((rd_T228 x11 x13).f2) ((rd_T228 x11 x13).f3))) else (none)) else (none)) else (some x7)
def spec_l11Winding.j1 : Nat → Int → Int → Int → Int → List (S228) → Int → Int → Bool → Int → Int → Int → Int → Option (Int)
  | 0, _, _, _, _, _, _, _, _, _, _, _, _ => none
  | k + 1, x1, x2, x7, x10, x11, x12, x13, x51, x202000, x202001, x202002, x202003 => if x51 = true then (if x202003 ≤ x2 then (if x2 < x202001 then (if x10 < 0 then (spec_l11Winding.l0 k x1 x2 (wrap64 ((wrap64 (x7 + 1)) - 1)) x11 x12 (wrap64 (x13 + 1))) else (spec_l11Winding.l0 k x1 x2 (wrap64 (x7 + 1)) x11 x12 (wrap64 (x13 + 1)))) else (spec_l11Winding.l0 k x1 x2 (wrap64 (x7 + 1)) x11 x12 (wrap64 (x13 + 1)))) else (spec_l11Winding.l0 k x1 x2 (wrap64 (x7 + 1)) x11 x12 (wrap64 (x13 + 1)))) else (if x202003 ≤ x2 then (if x2 < x202001 then (if x10 < 0 then (spec_l11Winding.l0 k x1 x2 (wrap64 (x7 - 1)) x11 x12 (wrap64 (x13 + 1))) else (spec_l11Winding.l0 k x1 x2 x7 x11 x12 (wrap64 (x13 + 1)))) else (spec_l11Winding.l0 k x1 x2 x7 x11 x12 (wrap64 (x13 + 1)))) else (spec_l11Winding.l0 k x1 x2 x7 x11 x12 (wrap64 (x13 + 1))))
end
def spec_l11Winding.f (k : Nat) (l0 : List (S228)) (a1 : Int) (a2 : Int) : Option (Int) := spec_l11Winding.l0 k a1 a2 0 l0 (l0.length : Int) 0
theorem spec_l11Winding.mono_l : ∀ k, (∀ y0 y1 y2 y3 y4 y5, LeO (spec_l11Winding.l0 k y0 y1 y2 y3 y4 y5) (spec_l11Winding.l0 (k + 1) y0 y1 y2 y3 y4 y5)) ∧ (∀ y0 y1 y2 y3 y4 y5 y6 y7 y8 y9 y10 y11, LeO (spec_l11Winding.j1 k y0 y1 y2 y3 y4 y5 y6 y7 y8 y9 y10 y11) (spec_l11Winding.j1 (k + 1) y0 y1 y2 y3 y4 y5 y6 y7 y8 y9 y10 y11))
  | 0 => ⟨fun _ _ _ _ _ _ r h => by simp [spec_l11Winding.l0] at h, fun _ _ _ _ _ _ _ _ _ _ _ _ r h => by simp [spec_l11Winding.j1] at h⟩
  | k + 1 => by
    obtain ⟨ih0, ih1⟩ := spec_l11Winding.mono_l k
    refine ⟨?_, ?_⟩
    · intro y0 y1 y2 y3 y4 y5
      unfold spec_l11Winding.l0
      repeat' first
    | with_reducible exact ih0 _ _ _ _ _ _
    | with_reducible exact ih1 _ _ _ _ _ _ _ _ _ _ _ _
    | with_reducible exact LeO.refl _
    | with_reducible exact LeO.none _
    | with_reducible refine LeO.ite ?_ ?_
    | with_reducible refine LeO.bind ?_ (fun _ => ?_)
    | exact ih0 _ _ _ _ _ _
    | exact ih1 _ _ _ _ _ _ _ _ _ _ _ _
    | exact LeO.none _
    | refine LeO.ite ?_ ?_
    | refine LeO.bind ?_ (fun _ => ?_)
    · intro y0 y1 y2 y3 y4 y5 y6 y7 y8 y9 y10 y11
      unfold spec_l11Winding.j1
      repeat' first
    | with_reducible exact ih0 _ _ _ _ _ _
    | with_reducible exact ih1 _ _ _ _ _ _ _ _ _ _ _ _
    | with_reducible exact LeO.refl _
    | with_reducible exact LeO.none _
    | with_reducible refine LeO.ite ?_ ?_
    | with_reducible refine LeO.bind ?_ (fun _ => ?_)
    | exact ih0 _ _ _ _ _ _
    | exact ih1 _ _ _ _ _ _ _ _ _ _ _ _
    | exact LeO.none _
    | refine LeO.ite ?_ ?_
    | refine LeO.bind ?_ (fun _ => ?_)
theorem spec_l11Winding.mono : ∀ a0 a1 a2 k, LeO (spec_l11Winding.f k a0 a1 a2) (spec_l11Winding.f (k + 1) a0 a1 a2) := by
  intro a0 a1 a2 k
  obtain ⟨ih0, ih1⟩ := spec_l11Winding.mono_l k
  unfold spec_l11Winding.f
  repeat' first
    | with_reducible exact ih0 _ _ _ _ _ _
    | with_reducible exact ih1 _ _ _ _ _ _ _ _ _ _ _ _
    | with_reducible exact LeO.refl _
    | with_reducible exact LeO.none _
    | with_reducible refine LeO.ite ?_ ?_
    | with_reducible refine LeO.bind ?_ (fun _ => ?_)
    | exact ih0 _ _ _ _ _ _
    | exact ih1 _ _ _ _ _ _ _ _ _ _ _ _
    | exact LeO.none _
    | refine LeO.ite ?_ ?_
    | refine LeO.bind ?_ (fun _ => ?_)
set_option maxHeartbeats 8000000 in
set_option maxRecDepth 100000 in
theorem spec_l11Winding.calls (k : Nat) (A0 : Option Addr) (c0 : Nat) (l0 : List (S228)) (a1 : Int) (a2 : Int) (r : Int) (w : World) (hr0 : Kd.C k228 w A0 l0.length l0) (hc0 : l0.length ≤ c0) (h : spec_l11Winding.f k l0 a1 a2 = some r) :
    Calls Try.prog 185 #[.slice A0 l0.length c0, .int .i64 a1, .int .i64 a2] w fun e w' => e = .returned (.int .i64 r) ∧ Below w.heap.size w w' := by
  have hu228 := Try.underlying228
  have HR0 := Aside0.mk hr0
  have HC0 := Aside0.mk hc0
  clear hr0 hc0
  have HB := Aside0.mk (Below.refl w.heap.size w)
  have H : (spec_l11Winding.l0 k a1 a2 0 l0 (l0.length : Int) 0) = some r := h
  clear h
  have H' := Aside0.mk H
  clear H
  go_enter Try.func185, Try.ntmps185
  go_wp2
  go_loopg [7, 13] k (fun kq v7 v13 w' => ∃ (x7_1 : Int) (x13_1 : Int), v7 = .int .i64 x7_1 ∧ v13 = .int .i64 x13_1 ∧ Aside0 (spec_l11Winding.l0 kq a1 a2 x7_1 l0 (l0.length : Int) x13_1 = some r) ∧ Aside0 (kq ≤ k) ∧ Aside0 (Below w.heap.size w w'))
  case atStart => exact ⟨(0), (0), (by first | rfl | (simp; done) | (simp [*]; done)), (by first | rfl | (simp; done) | (simp [*]; done)), H', ⟨Nat.le_refl _⟩, ⟨by repeat (first | (with_reducible first | exact HB.out | apply below_alloc | apply pw_below_drewN | apply below_drew1) | exact HB.out)⟩⟩
  case round =>
    clear H'
    try clear c1
    try clear p2
    obtain ⟨x7_1, x13_1, rfl, rfl, HA, HK1, HB⟩ := hrel
    cases gk with
    | zero => exact absurd HA.out (by simp [spec_l11Winding.l0])
    | succ k1 =>
      have H := HA.out
      clear HA
      simp only [spec_l11Winding.l0] at H
      by_cases c4 : x13_1 < (l0.length : Int)
      · rw [if_pos c4] at H
        have c4b0 : decide (x13_1 < (l0.length : Int)) = true := decide_eq_true c4
        clear c4
        by_cases c5 : 0 ≤ x13_1
        · rw [if_pos c5] at H
          have c5b0 : decide (0 ≤ x13_1) = true := decide_eq_true c5
          clear c5
          by_cases c6 : x13_1 < (l0.length : Int)
          · rw [if_pos c6] at H
            have c6b0 : decide (x13_1 < (l0.length : Int)) = true := decide_eq_true c6
            clear c6
            have HC7 := Aside0.mk H
            clear H
            have p200 : 0 ≤ (x13_1 : Int) := of_decide_eq_true (by first | (with_reducible assumption) | assumption)
            have q200 : x13_1 < (l0.length : Int) := of_decide_eq_true (by first | (with_reducible assumption) | assumption)
            obtain ⟨ad200, e200, hx200_0, hx200_1, hx200_2, hx200_3⟩ := at_T228 HR0.out x13_1 p200 q200
            cases e200
            replace hx200_0 := (HB.out.cell (World.block_lt_of_cell? w _ hx200_0)).trans hx200_0
            replace hx200_1 := (HB.out.cell (World.block_lt_of_cell? w _ hx200_1)).trans hx200_1
            replace hx200_2 := (HB.out.cell (World.block_lt_of_cell? w _ hx200_2)).trans hx200_2
            replace hx200_3 := (HB.out.cell (World.block_lt_of_cell? w _ hx200_3)).trans hx200_3
            replace p200 := eq_true p200
            replace q200 := eq_true q200
            go_upto_region 6 with (first | ((with_reducible refine gate_dst (N := 9) rfl ?_); refine box_event ?hg (N := 9) ?hd (cs := #[.int .i64 0, .int .i64 0, .int .i64 0, .int .i64 0]) (t := 228) ?hr ?_; (case hd => rfl); (case hg => rfl); (case hr => first | (go_simp; done) | (go_simp; rfl)); intro gb201 hg w8 hbox hb; have n0_ := Aside0.mk (below_step (by repeat (first | (with_reducible first | exact HB.out | apply below_alloc | apply pw_below_drewN | apply below_drew1) | exact HB.out)) hb); have n1_ := Aside0.mk (hbox); have n2_ := Aside0.mk ((by rw [hg]; exact (below_size (by repeat (first | (with_reducible first | exact HB.out | apply below_alloc | apply pw_below_drewN | apply below_drew1) | exact HB.out))) : w.heap.size ≤ gb201)); have n3_ := Aside0.mk ((by rw [hg]; exact (below_size (by repeat (first | (with_reducible first | exact HB.out | apply below_alloc | apply pw_below_drewN | apply below_drew1) | exact HB.out))) : w.heap.size ≤ gb201)); clear HB; have HB := n0_; have BK201 := n1_; have GW201 := n2_; have GE201 := n3_; clear n0_ n1_ n2_ n3_; clear hb hbox hg; have hcz9_0 : w8.cell? ⟨gb201, 0, none⟩ = some (.int .i64 0) := (blk_cell BK201.out 0).trans rfl; have hcz9_1 : w8.cell? ⟨gb201, 1, none⟩ = some (.int .i64 0) := (blk_cell BK201.out 1).trans rfl; have hcz9_2 : w8.cell? ⟨gb201, 2, none⟩ = some (.int .i64 0) := (blk_cell BK201.out 2).trans rfl; have hcz9_3 : w8.cell? ⟨gb201, 3, none⟩ = some (.int .i64 0) := (blk_cell BK201.out 3).trans rfl; have hfz9_0 := blk_frozen BK201.out 0; have hfz9_1 := blk_frozen BK201.out 1; have hfz9_2 := blk_frozen BK201.out 2; have hfz9_3 := blk_frozen BK201.out 3))
            (try simp only [Act.put, List.setIfInBounds_toArray, List.set_cons_zero, List.set_cons_succ])
            go_cut [51] (fun v51 wc => ∃ (kq : Nat) (x51_6 : Bool), v51 = .bool x51_6 ∧ Aside0 (spec_l11Winding.j1 kq a1 a2 x7_1 (wrap64 ((wrap64 ((wrap64 (((rd_T228 l0 x13_1).f2) - ((rd_T228 l0 x13_1).f0))) * (wrap64 (a2 - ((rd_T228 l0 x13_1).f1))))) - (wrap64 ((wrap64 (a1 - ((rd_T228 l0 x13_1).f0))) * (wrap64 (((rd_T228 l0 x13_1).f3) - ((rd_T228 l0 x13_1).f1))))))) l0 (l0.length : Int) x13_1 x51_6 ((rd_T228 l0 x13_1).f0) ((rd_T228 l0 x13_1).f1) ((rd_T228 l0 x13_1).f2) ((rd_T228 l0 x13_1).f3) = some r) ∧ Aside0 (kq ≤ k1) ∧ Aside0 (wc.heap[gb201]? = some (.cells #[.int .i64 ((rd_T228 l0 x13_1).f0), .int .i64 ((rd_T228 l0 x13_1).f1), .int .i64 ((rd_T228 l0 x13_1).f2), .int .i64 ((rd_T228 l0 x13_1).f3)] 228 (0, 0))) ∧ Aside0 (Below w.heap.size w wc))
            case first =>
              have H := HC7.out
              clear HC7
              by_cases c10 : ((rd_T228 l0 x13_1).f1) ≤ a2
              · rw [if_pos c10] at H
                have c10b0 : decide (((rd_T228 l0 x13_1).f1) ≤ a2) = true := decide_eq_true c10
                clear c10
                (first | rw [c10b0] | (simp only [i64_w, i32_w]; rw [c10b0]) | skip)
                by_cases c11 : a2 < ((rd_T228 l0 x13_1).f3)
                · rw [if_pos c11] at H
                  have c11b0 : decide (a2 < ((rd_T228 l0 x13_1).f3)) = true := decide_eq_true c11
                  clear c11
                  have H' := Aside0.mk H
                  clear H
                  have hcz12_0 : w8.cell? ⟨gb201, 0, none⟩ = some (.int .i64 0) := (blk_cell BK201.out 0).trans rfl
                  have hcz12_1 : w8.cell? ⟨gb201, 1, none⟩ = some (.int .i64 0) := (blk_cell BK201.out 1).trans rfl
                  have hcz12_2 : w8.cell? ⟨gb201, 2, none⟩ = some (.int .i64 0) := (blk_cell BK201.out 2).trans rfl
                  have hcz12_3 : w8.cell? ⟨gb201, 3, none⟩ = some (.int .i64 0) := (blk_cell BK201.out 3).trans rfl
                  have hfz12_0 := blk_frozen BK201.out 0
                  have hfz12_1 := blk_frozen BK201.out 1
                  have hfz12_2 := blk_frozen BK201.out 2
                  have hfz12_3 := blk_frozen BK201.out 3
                  go_wp2
                  go_meet
                  case rel => exact ⟨_, (decide ((wrap64 ((wrap64 ((wrap64 (((rd_T228 l0 x13_1).f2) - ((rd_T228 l0 x13_1).f0))) * (wrap64 (a2 - ((rd_T228 l0 x13_1).f1))))) - (wrap64 ((wrap64 (a1 - ((rd_T228 l0 x13_1).f0))) * (wrap64 (((rd_T228 l0 x13_1).f3) - ((rd_T228 l0 x13_1).f1))))))) > 0)), (by first | rfl | (simp; done) | (simp [*]; done)), H', ⟨by have := HK1.out; first | omega | exact Nat.le_refl _⟩, ⟨by (with_reducible repeat (first | refine blk_drewN ?_ _ | refine blk_drew ?_ | refine blk_alloc ?_ _)); refine blk_put (cs := #[.int .i64 ((rd_T228 l0 x13_1).f0), .int .i64 ((rd_T228 l0 x13_1).f1), .int .i64 ((rd_T228 l0 x13_1).f2), .int .i64 0]) ?_ 3 _ rfl; (with_reducible repeat (first | refine blk_drewN ?_ _ | refine blk_drew ?_ | refine blk_alloc ?_ _)); refine blk_put (cs := #[.int .i64 ((rd_T228 l0 x13_1).f0), .int .i64 ((rd_T228 l0 x13_1).f1), .int .i64 0, .int .i64 0]) ?_ 2 _ rfl; (with_reducible repeat (first | refine blk_drewN ?_ _ | refine blk_drew ?_ | refine blk_alloc ?_ _)); refine blk_put (cs := #[.int .i64 ((rd_T228 l0 x13_1).f0), .int .i64 0, .int .i64 0, .int .i64 0]) ?_ 1 _ rfl; (with_reducible repeat (first | refine blk_drewN ?_ _ | refine blk_drew ?_ | refine blk_alloc ?_ _)); refine blk_put (cs := #[.int .i64 0, .int .i64 0, .int .i64 0, .int .i64 0]) ?_ 0 _ rfl; (with_reducible repeat (first | refine blk_drewN ?_ _ | refine blk_drew ?_ | refine blk_alloc ?_ _)); exact BK201.out⟩, ⟨by repeat (first | (with_reducible first | exact HB.out | apply below_alloc | apply pw_below_drewN | apply below_drew1 | refine below_set ?_ GE201.out) | exact HB.out)⟩⟩
                · rw [if_neg c11] at H
                  have c11b0 : decide (a2 < ((rd_T228 l0 x13_1).f3)) = false := decide_eq_false c11
                  clear c11
                  have H' := Aside0.mk H
                  clear H
                  have hcz13_0 : w8.cell? ⟨gb201, 0, none⟩ = some (.int .i64 0) := (blk_cell BK201.out 0).trans rfl
                  have hcz13_1 : w8.cell? ⟨gb201, 1, none⟩ = some (.int .i64 0) := (blk_cell BK201.out 1).trans rfl
                  have hcz13_2 : w8.cell? ⟨gb201, 2, none⟩ = some (.int .i64 0) := (blk_cell BK201.out 2).trans rfl
                  have hcz13_3 : w8.cell? ⟨gb201, 3, none⟩ = some (.int .i64 0) := (blk_cell BK201.out 3).trans rfl
                  have hfz13_0 := blk_frozen BK201.out 0
                  have hfz13_1 := blk_frozen BK201.out 1
                  have hfz13_2 := blk_frozen BK201.out 2
                  have hfz13_3 := blk_frozen BK201.out 3
                  go_wp2
                  go_meet
                  case rel => exact ⟨_, (false), (by first | rfl | (simp; done) | (simp [*]; done)), H', ⟨by have := HK1.out; first | omega | exact Nat.le_refl _⟩, ⟨by (with_reducible repeat (first | refine blk_drewN ?_ _ | refine blk_drew ?_ | refine blk_alloc ?_ _)); refine blk_put (cs := #[.int .i64 ((rd_T228 l0 x13_1).f0), .int .i64 ((rd_T228 l0 x13_1).f1), .int .i64 ((rd_T228 l0 x13_1).f2), .int .i64 0]) ?_ 3 _ rfl; (with_reducible repeat (first | refine blk_drewN ?_ _ | refine blk_drew ?_ | refine blk_alloc ?_ _)); refine blk_put (cs := #[.int .i64 ((rd_T228 l0 x13_1).f0), .int .i64 ((rd_T228 l0 x13_1).f1), .int .i64 0, .int .i64 0]) ?_ 2 _ rfl; (with_reducible repeat (first | refine blk_drewN ?_ _ | refine blk_drew ?_ | refine blk_alloc ?_ _)); refine blk_put (cs := #[.int .i64 ((rd_T228 l0 x13_1).f0), .int .i64 0, .int .i64 0, .int .i64 0]) ?_ 1 _ rfl; (with_reducible repeat (first | refine blk_drewN ?_ _ | refine blk_drew ?_ | refine blk_alloc ?_ _)); refine blk_put (cs := #[.int .i64 0, .int .i64 0, .int .i64 0, .int .i64 0]) ?_ 0 _ rfl; (with_reducible repeat (first | refine blk_drewN ?_ _ | refine blk_drew ?_ | refine blk_alloc ?_ _)); exact BK201.out⟩, ⟨by repeat (first | (with_reducible first | exact HB.out | apply below_alloc | apply pw_below_drewN | apply below_drew1 | refine below_set ?_ GE201.out) | exact HB.out)⟩⟩
              · rw [if_neg c10] at H
                have c10b0 : decide (((rd_T228 l0 x13_1).f1) ≤ a2) = false := decide_eq_false c10
                clear c10
                (first | rw [c10b0] | (simp only [i64_w, i32_w]; rw [c10b0]) | skip)
                have H' := Aside0.mk H
                clear H
                have hcz14_0 : w8.cell? ⟨gb201, 0, none⟩ = some (.int .i64 0) := (blk_cell BK201.out 0).trans rfl
                have hcz14_1 : w8.cell? ⟨gb201, 1, none⟩ = some (.int .i64 0) := (blk_cell BK201.out 1).trans rfl
                have hcz14_2 : w8.cell? ⟨gb201, 2, none⟩ = some (.int .i64 0) := (blk_cell BK201.out 2).trans rfl
                have hcz14_3 : w8.cell? ⟨gb201, 3, none⟩ = some (.int .i64 0) := (blk_cell BK201.out 3).trans rfl
                have hfz14_0 := blk_frozen BK201.out 0
                have hfz14_1 := blk_frozen BK201.out 1
                have hfz14_2 := blk_frozen BK201.out 2
                have hfz14_3 := blk_frozen BK201.out 3
                go_wp2
                go_meet
                case rel => exact ⟨_, (false), (by first | rfl | (simp; done) | (simp [*]; done)), H', ⟨by have := HK1.out; first | omega | exact Nat.le_refl _⟩, ⟨by (with_reducible repeat (first | refine blk_drewN ?_ _ | refine blk_drew ?_ | refine blk_alloc ?_ _)); refine blk_put (cs := #[.int .i64 ((rd_T228 l0 x13_1).f0), .int .i64 ((rd_T228 l0 x13_1).f1), .int .i64 ((rd_T228 l0 x13_1).f2), .int .i64 0]) ?_ 3 _ rfl; (with_reducible repeat (first | refine blk_drewN ?_ _ | refine blk_drew ?_ | refine blk_alloc ?_ _)); refine blk_put (cs := #[.int .i64 ((rd_T228 l0 x13_1).f0), .int .i64 ((rd_T228 l0 x13_1).f1), .int .i64 0, .int .i64 0]) ?_ 2 _ rfl; (with_reducible repeat (first | refine blk_drewN ?_ _ | refine blk_drew ?_ | refine blk_alloc ?_ _)); refine blk_put (cs := #[.int .i64 ((rd_T228 l0 x13_1).f0), .int .i64 0, .int .i64 0, .int .i64 0]) ?_ 1 _ rfl; (with_reducible repeat (first | refine blk_drewN ?_ _ | refine blk_drew ?_ | refine blk_alloc ?_ _)); refine blk_put (cs := #[.int .i64 0, .int .i64 0, .int .i64 0, .int .i64 0]) ?_ 0 _ rfl; (with_reducible repeat (first | refine blk_drewN ?_ _ | refine blk_drew ?_ | refine blk_alloc ?_ _)); exact BK201.out⟩, ⟨by repeat (first | (with_reducible first | exact HB.out | apply below_alloc | apply pw_below_drewN | apply below_drew1 | refine below_set ?_ GE201.out) | exact HB.out)⟩⟩
            case rest =>
              clear HC7
              try clear c1
              try clear p2
              try clear q2
              try clear hx2
              try clear c4
              try clear c4b0
              try clear c5
              try clear c5b0
              try clear c6
              try clear c6b0
              try clear p6
              try clear c10
              try clear c10b0
              try clear c11
              try clear c11b0
              try clear hcz12_0
              try clear hcz12_1
              try clear hcz12_2
              try clear hcz12_3
              try clear hcz13_0
              try clear hcz13_1
              try clear hcz13_2
              try clear hcz13_3
              try clear hcz14_0
              try clear hcz14_1
              try clear hcz14_2
              try clear hcz14_3
              try clear hcz9_0
              try clear hcz9_1
              try clear hcz9_2
              try clear hcz9_3
              try clear hfz12_0
              try clear hfz12_1
              try clear hfz12_2
              try clear hfz12_3
              try clear hfz13_0
              try clear hfz13_1
              try clear hfz13_2
              try clear hfz13_3
              try clear hfz14_0
              try clear hfz14_1
              try clear hfz14_2
              try clear hfz14_3
              try clear hfz9_0
              try clear hfz9_1
              try clear hfz9_2
              try clear hfz9_3
              try clear hx200_0
              try clear hx200_1
              try clear hx200_2
              try clear hx200_3
              try clear p2
              try clear p200
              try clear q200
              obtain ⟨kq, x51_6, rfl, HA, HJ6, BK201, HB⟩ := hcut
              cases kq with
              | zero => exact absurd HA.out (by simp [spec_l11Winding.j1])
              | succ kj6 =>
                have H := HA.out
                clear HA
                simp only [spec_l11Winding.j1] at H
                by_cases c15 : x51_6 = true
                · subst c15
                  have H1 : (if ((rd_T228 l0 x13_1).f3) ≤ a2 then (if a2 < ((rd_T228 l0 x13_1).f1) then (if (wrap64 ((wrap64 ((wrap64 (((rd_T228 l0 x13_1).f2) - ((rd_T228 l0 x13_1).f0))) * (wrap64 (a2 - ((rd_T228 l0 x13_1).f1))))) - (wrap64 ((wrap64 (a1 - ((rd_T228 l0 x13_1).f0))) * (wrap64 (((rd_T228 l0 x13_1).f3) - ((rd_T228 l0 x13_1).f1))))))) < 0 then (spec_l11Winding.l0 kj6 a1 a2 (wrap64 ((wrap64 (x7_1 + 1)) - 1)) l0 (l0.length : Int) (wrap64 (x13_1 + 1))) else (spec_l11Winding.l0 kj6 a1 a2 (wrap64 (x7_1 + 1)) l0 (l0.length : Int) (wrap64 (x13_1 + 1)))) else (spec_l11Winding.l0 kj6 a1 a2 (wrap64 (x7_1 + 1)) l0 (l0.length : Int) (wrap64 (x13_1 + 1)))) else (spec_l11Winding.l0 kj6 a1 a2 (wrap64 (x7_1 + 1)) l0 (l0.length : Int) (wrap64 (x13_1 + 1)))) = some r := by rw [if_pos rfl] at H; exact H
                  clear H
                  have H := H1
                  clear H1
                  by_cases c16 : ((rd_T228 l0 x13_1).f3) ≤ a2
                  · rw [if_pos c16] at H
                    have c16b0 : decide (((rd_T228 l0 x13_1).f3) ≤ a2) = true := decide_eq_true c16
                    clear c16
                    by_cases c17 : a2 < ((rd_T228 l0 x13_1).f1)
                    · rw [if_pos c17] at H
                      have c17b0 : decide (a2 < ((rd_T228 l0 x13_1).f1)) = true := decide_eq_true c17
                      clear c17
                      by_cases c18 : (wrap64 ((wrap64 ((wrap64 (((rd_T228 l0 x13_1).f2) - ((rd_T228 l0 x13_1).f0))) * (wrap64 (a2 - ((rd_T228 l0 x13_1).f1))))) - (wrap64 ((wrap64 (a1 - ((rd_T228 l0 x13_1).f0))) * (wrap64 (((rd_T228 l0 x13_1).f3) - ((rd_T228 l0 x13_1).f1))))))) < 0
                      · rw [if_pos c18] at H
                        have c18b0 : decide ((wrap64 ((wrap64 ((wrap64 (((rd_T228 l0 x13_1).f2) - ((rd_T228 l0 x13_1).f0))) * (wrap64 (a2 - ((rd_T228 l0 x13_1).f1))))) - (wrap64 ((wrap64 (a1 - ((rd_T228 l0 x13_1).f0))) * (wrap64 (((rd_T228 l0 x13_1).f3) - ((rd_T228 l0 x13_1).f1))))))) < 0) = true := decide_eq_true c18
                        clear c18
                        have H' := Aside0.mk H
                        clear H
                        have hcz19_0 : wc.cell? ⟨gb201, 0, none⟩ = some (.int .i64 ((rd_T228 l0 x13_1).f0)) := (blk_cell BK201.out 0).trans rfl
                        have hcz19_1 : wc.cell? ⟨gb201, 1, none⟩ = some (.int .i64 ((rd_T228 l0 x13_1).f1)) := (blk_cell BK201.out 1).trans rfl
                        have hcz19_2 : wc.cell? ⟨gb201, 2, none⟩ = some (.int .i64 ((rd_T228 l0 x13_1).f2)) := (blk_cell BK201.out 2).trans rfl
                        have hcz19_3 : wc.cell? ⟨gb201, 3, none⟩ = some (.int .i64 ((rd_T228 l0 x13_1).f3)) := (blk_cell BK201.out 3).trans rfl
                        have hfz19_0 := blk_frozen BK201.out 0
                        have hfz19_1 := blk_frozen BK201.out 1
                        have hfz19_2 := blk_frozen BK201.out 2
                        have hfz19_3 := blk_frozen BK201.out 3
                        go_wp2
                        go_roundg kj6
                        case measure => have := HK1.out; have := HJ6.out; omega
                        case rel => exact ⟨(wrap64 ((wrap64 (x7_1 + 1)) - 1)), (wrap64 (x13_1 + 1)), (by first | rfl | (simp; done) | (simp [*]; done)), (by first | rfl | (simp; done) | (simp [*]; done)), H', ⟨by have := HK1.out; have := HJ6.out; omega⟩, ⟨by repeat (first | (with_reducible first | exact HB.out | apply below_alloc | apply pw_below_drewN | apply below_drew1 | refine below_set ?_ GE201.out) | exact HB.out)⟩⟩
                      · rw [if_neg c18] at H
                        have c18b0 : decide ((wrap64 ((wrap64 ((wrap64 (((rd_T228 l0 x13_1).f2) - ((rd_T228 l0 x13_1).f0))) * (wrap64 (a2 - ((rd_T228 l0 x13_1).f1))))) - (wrap64 ((wrap64 (a1 - ((rd_T228 l0 x13_1).f0))) * (wrap64 (((rd_T228 l0 x13_1).f3) - ((rd_T228 l0 x13_1).f1))))))) < 0) = false := decide_eq_false c18
                        clear c18
                        have H' := Aside0.mk H
                        clear H
                        have hcz20_0 : wc.cell? ⟨gb201, 0, none⟩ = some (.int .i64 ((rd_T228 l0 x13_1).f0)) := (blk_cell BK201.out 0).trans rfl
                        have hcz20_1 : wc.cell? ⟨gb201, 1, none⟩ = some (.int .i64 ((rd_T228 l0 x13_1).f1)) := (blk_cell BK201.out 1).trans rfl
                        have hcz20_2 : wc.cell? ⟨gb201, 2, none⟩ = some (.int .i64 ((rd_T228 l0 x13_1).f2)) := (blk_cell BK201.out 2).trans rfl
                        have hcz20_3 : wc.cell? ⟨gb201, 3, none⟩ = some (.int .i64 ((rd_T228 l0 x13_1).f3)) := (blk_cell BK201.out 3).trans rfl
                        have hfz20_0 := blk_frozen BK201.out 0
                        have hfz20_1 := blk_frozen BK201.out 1
                        have hfz20_2 := blk_frozen BK201.out 2
                        have hfz20_3 := blk_frozen BK201.out 3
                        go_wp2
                        go_roundg kj6
                        case measure => have := HK1.out; have := HJ6.out; omega
                        case rel => exact ⟨(wrap64 (x7_1 + 1)), (wrap64 (x13_1 + 1)), (by first | rfl | (simp; done) | (simp [*]; done)), (by first | rfl | (simp; done) | (simp [*]; done)), H', ⟨by have := HK1.out; have := HJ6.out; omega⟩, ⟨by repeat (first | (with_reducible first | exact HB.out | apply below_alloc | apply pw_below_drewN | apply below_drew1 | refine below_set ?_ GE201.out) | exact HB.out)⟩⟩
                    · rw [if_neg c17] at H
                      have c17b0 : decide (a2 < ((rd_T228 l0 x13_1).f1)) = false := decide_eq_false c17
                      clear c17
                      have H' := Aside0.mk H
                      clear H
                      have hcz21_0 : wc.cell? ⟨gb201, 0, none⟩ = some (.int .i64 ((rd_T228 l0 x13_1).f0)) := (blk_cell BK201.out 0).trans rfl
                      have hcz21_1 : wc.cell? ⟨gb201, 1, none⟩ = some (.int .i64 ((rd_T228 l0 x13_1).f1)) := (blk_cell BK201.out 1).trans rfl
                      have hcz21_2 : wc.cell? ⟨gb201, 2, none⟩ = some (.int .i64 ((rd_T228 l0 x13_1).f2)) := (blk_cell BK201.out 2).trans rfl
                      have hcz21_3 : wc.cell? ⟨gb201, 3, none⟩ = some (.int .i64 ((rd_T228 l0 x13_1).f3)) := (blk_cell BK201.out 3).trans rfl
                      have hfz21_0 := blk_frozen BK201.out 0
                      have hfz21_1 := blk_frozen BK201.out 1
                      have hfz21_2 := blk_frozen BK201.out 2
                      have hfz21_3 := blk_frozen BK201.out 3
                      go_wp2
                      go_roundg kj6
                      case measure => have := HK1.out; have := HJ6.out; omega
                      case rel => exact ⟨(wrap64 (x7_1 + 1)), (wrap64 (x13_1 + 1)), (by first | rfl | (simp; done) | (simp [*]; done)), (by first | rfl | (simp; done) | (simp [*]; done)), H', ⟨by have := HK1.out; have := HJ6.out; omega⟩, ⟨by repeat (first | (with_reducible first | exact HB.out | apply below_alloc | apply pw_below_drewN | apply below_drew1 | refine below_set ?_ GE201.out) | exact HB.out)⟩⟩
                  · rw [if_neg c16] at H
                    have c16b0 : decide (((rd_T228 l0 x13_1).f3) ≤ a2) = false := decide_eq_false c16
                    clear c16
                    have H' := Aside0.mk H
                    clear H
                    have hcz22_0 : wc.cell? ⟨gb201, 0, none⟩ = some (.int .i64 ((rd_T228 l0 x13_1).f0)) := (blk_cell BK201.out 0).trans rfl
                    have hcz22_1 : wc.cell? ⟨gb201, 1, none⟩ = some (.int .i64 ((rd_T228 l0 x13_1).f1)) := (blk_cell BK201.out 1).trans rfl
                    have hcz22_2 : wc.cell? ⟨gb201, 2, none⟩ = some (.int .i64 ((rd_T228 l0 x13_1).f2)) := (blk_cell BK201.out 2).trans rfl
                    have hcz22_3 : wc.cell? ⟨gb201, 3, none⟩ = some (.int .i64 ((rd_T228 l0 x13_1).f3)) := (blk_cell BK201.out 3).trans rfl
                    have hfz22_0 := blk_frozen BK201.out 0
                    have hfz22_1 := blk_frozen BK201.out 1
                    have hfz22_2 := blk_frozen BK201.out 2
                    have hfz22_3 := blk_frozen BK201.out 3
                    go_wp2
                    go_roundg kj6
                    case measure => have := HK1.out; have := HJ6.out; omega
                    case rel => exact ⟨(wrap64 (x7_1 + 1)), (wrap64 (x13_1 + 1)), (by first | rfl | (simp; done) | (simp [*]; done)), (by first | rfl | (simp; done) | (simp [*]; done)), H', ⟨by have := HK1.out; have := HJ6.out; omega⟩, ⟨by repeat (first | (with_reducible first | exact HB.out | apply below_alloc | apply pw_below_drewN | apply below_drew1 | refine below_set ?_ GE201.out) | exact HB.out)⟩⟩
                · replace c15 := Bool.eq_false_iff.mpr c15
                  subst c15
                  have H1 : (if ((rd_T228 l0 x13_1).f3) ≤ a2 then (if a2 < ((rd_T228 l0 x13_1).f1) then (if (wrap64 ((wrap64 ((wrap64 (((rd_T228 l0 x13_1).f2) - ((rd_T228 l0 x13_1).f0))) * (wrap64 (a2 - ((rd_T228 l0 x13_1).f1))))) - (wrap64 ((wrap64 (a1 - ((rd_T228 l0 x13_1).f0))) * (wrap64 (((rd_T228 l0 x13_1).f3) - ((rd_T228 l0 x13_1).f1))))))) < 0 then (spec_l11Winding.l0 kj6 a1 a2 (wrap64 (x7_1 - 1)) l0 (l0.length : Int) (wrap64 (x13_1 + 1))) else (spec_l11Winding.l0 kj6 a1 a2 x7_1 l0 (l0.length : Int) (wrap64 (x13_1 + 1)))) else (spec_l11Winding.l0 kj6 a1 a2 x7_1 l0 (l0.length : Int) (wrap64 (x13_1 + 1)))) else (spec_l11Winding.l0 kj6 a1 a2 x7_1 l0 (l0.length : Int) (wrap64 (x13_1 + 1)))) = some r := by rw [if_neg (show ¬ (false = true) by decide)] at H; exact H
                  clear H
                  have H := H1
                  clear H1
                  by_cases c23 : ((rd_T228 l0 x13_1).f3) ≤ a2
                  · rw [if_pos c23] at H
                    have c23b0 : decide (((rd_T228 l0 x13_1).f3) ≤ a2) = true := decide_eq_true c23
                    clear c23
                    by_cases c24 : a2 < ((rd_T228 l0 x13_1).f1)
                    · rw [if_pos c24] at H
                      have c24b0 : decide (a2 < ((rd_T228 l0 x13_1).f1)) = true := decide_eq_true c24
                      clear c24
                      by_cases c25 : (wrap64 ((wrap64 ((wrap64 (((rd_T228 l0 x13_1).f2) - ((rd_T228 l0 x13_1).f0))) * (wrap64 (a2 - ((rd_T228 l0 x13_1).f1))))) - (wrap64 ((wrap64 (a1 - ((rd_T228 l0 x13_1).f0))) * (wrap64 (((rd_T228 l0 x13_1).f3) - ((rd_T228 l0 x13_1).f1))))))) < 0
                      · rw [if_pos c25] at H
                        have c25b0 : decide ((wrap64 ((wrap64 ((wrap64 (((rd_T228 l0 x13_1).f2) - ((rd_T228 l0 x13_1).f0))) * (wrap64 (a2 - ((rd_T228 l0 x13_1).f1))))) - (wrap64 ((wrap64 (a1 - ((rd_T228 l0 x13_1).f0))) * (wrap64 (((rd_T228 l0 x13_1).f3) - ((rd_T228 l0 x13_1).f1))))))) < 0) = true := decide_eq_true c25
                        clear c25
                        have H' := Aside0.mk H
                        clear H
                        have hcz26_0 : wc.cell? ⟨gb201, 0, none⟩ = some (.int .i64 ((rd_T228 l0 x13_1).f0)) := (blk_cell BK201.out 0).trans rfl
                        have hcz26_1 : wc.cell? ⟨gb201, 1, none⟩ = some (.int .i64 ((rd_T228 l0 x13_1).f1)) := (blk_cell BK201.out 1).trans rfl
                        have hcz26_2 : wc.cell? ⟨gb201, 2, none⟩ = some (.int .i64 ((rd_T228 l0 x13_1).f2)) := (blk_cell BK201.out 2).trans rfl
                        have hcz26_3 : wc.cell? ⟨gb201, 3, none⟩ = some (.int .i64 ((rd_T228 l0 x13_1).f3)) := (blk_cell BK201.out 3).trans rfl
                        have hfz26_0 := blk_frozen BK201.out 0
                        have hfz26_1 := blk_frozen BK201.out 1
                        have hfz26_2 := blk_frozen BK201.out 2
                        have hfz26_3 := blk_frozen BK201.out 3
                        go_wp2
                        go_roundg kj6
                        case measure => have := HK1.out; have := HJ6.out; omega
                        case rel => exact ⟨(wrap64 (x7_1 - 1)), (wrap64 (x13_1 + 1)), (by first | rfl | (simp; done) | (simp [*]; done)), (by first | rfl | (simp; done) | (simp [*]; done)), H', ⟨by have := HK1.out; have := HJ6.out; omega⟩, ⟨by repeat (first | (with_reducible first | exact HB.out | apply below_alloc | apply pw_below_drewN | apply below_drew1 | refine below_set ?_ GE201.out) | exact HB.out)⟩⟩
                      · rw [if_neg c25] at H
                        have c25b0 : decide ((wrap64 ((wrap64 ((wrap64 (((rd_T228 l0 x13_1).f2) - ((rd_T228 l0 x13_1).f0))) * (wrap64 (a2 - ((rd_T228 l0 x13_1).f1))))) - (wrap64 ((wrap64 (a1 - ((rd_T228 l0 x13_1).f0))) * (wrap64 (((rd_T228 l0 x13_1).f3) - ((rd_T228 l0 x13_1).f1))))))) < 0) = false := decide_eq_false c25
                        clear c25
                        have H' := Aside0.mk H
                        clear H
                        have hcz27_0 : wc.cell? ⟨gb201, 0, none⟩ = some (.int .i64 ((rd_T228 l0 x13_1).f0)) := (blk_cell BK201.out 0).trans rfl
                        have hcz27_1 : wc.cell? ⟨gb201, 1, none⟩ = some (.int .i64 ((rd_T228 l0 x13_1).f1)) := (blk_cell BK201.out 1).trans rfl
                        have hcz27_2 : wc.cell? ⟨gb201, 2, none⟩ = some (.int .i64 ((rd_T228 l0 x13_1).f2)) := (blk_cell BK201.out 2).trans rfl
                        have hcz27_3 : wc.cell? ⟨gb201, 3, none⟩ = some (.int .i64 ((rd_T228 l0 x13_1).f3)) := (blk_cell BK201.out 3).trans rfl
                        have hfz27_0 := blk_frozen BK201.out 0
                        have hfz27_1 := blk_frozen BK201.out 1
                        have hfz27_2 := blk_frozen BK201.out 2
                        have hfz27_3 := blk_frozen BK201.out 3
                        go_wp2
                        go_roundg kj6
                        case measure => have := HK1.out; have := HJ6.out; omega
                        case rel => exact ⟨(x7_1), (wrap64 (x13_1 + 1)), (by first | rfl | (simp; done) | (simp [*]; done)), (by first | rfl | (simp; done) | (simp [*]; done)), H', ⟨by have := HK1.out; have := HJ6.out; omega⟩, ⟨by repeat (first | (with_reducible first | exact HB.out | apply below_alloc | apply pw_below_drewN | apply below_drew1 | refine below_set ?_ GE201.out) | exact HB.out)⟩⟩
                    · rw [if_neg c24] at H
                      have c24b0 : decide (a2 < ((rd_T228 l0 x13_1).f1)) = false := decide_eq_false c24
                      clear c24
                      have H' := Aside0.mk H
                      clear H
                      have hcz28_0 : wc.cell? ⟨gb201, 0, none⟩ = some (.int .i64 ((rd_T228 l0 x13_1).f0)) := (blk_cell BK201.out 0).trans rfl
                      have hcz28_1 : wc.cell? ⟨gb201, 1, none⟩ = some (.int .i64 ((rd_T228 l0 x13_1).f1)) := (blk_cell BK201.out 1).trans rfl
                      have hcz28_2 : wc.cell? ⟨gb201, 2, none⟩ = some (.int .i64 ((rd_T228 l0 x13_1).f2)) := (blk_cell BK201.out 2).trans rfl
                      have hcz28_3 : wc.cell? ⟨gb201, 3, none⟩ = some (.int .i64 ((rd_T228 l0 x13_1).f3)) := (blk_cell BK201.out 3).trans rfl
                      have hfz28_0 := blk_frozen BK201.out 0
                      have hfz28_1 := blk_frozen BK201.out 1
                      have hfz28_2 := blk_frozen BK201.out 2
                      have hfz28_3 := blk_frozen BK201.out 3
                      go_wp2
                      go_roundg kj6
                      case measure => have := HK1.out; have := HJ6.out; omega
                      case rel => exact ⟨(x7_1), (wrap64 (x13_1 + 1)), (by first | rfl | (simp; done) | (simp [*]; done)), (by first | rfl | (simp; done) | (simp [*]; done)), H', ⟨by have := HK1.out; have := HJ6.out; omega⟩, ⟨by repeat (first | (with_reducible first | exact HB.out | apply below_alloc | apply pw_below_drewN | apply below_drew1 | refine below_set ?_ GE201.out) | exact HB.out)⟩⟩
                  · rw [if_neg c23] at H
                    have c23b0 : decide (((rd_T228 l0 x13_1).f3) ≤ a2) = false := decide_eq_false c23
                    clear c23
                    have H' := Aside0.mk H
                    clear H
                    have hcz29_0 : wc.cell? ⟨gb201, 0, none⟩ = some (.int .i64 ((rd_T228 l0 x13_1).f0)) := (blk_cell BK201.out 0).trans rfl
                    have hcz29_1 : wc.cell? ⟨gb201, 1, none⟩ = some (.int .i64 ((rd_T228 l0 x13_1).f1)) := (blk_cell BK201.out 1).trans rfl
                    have hcz29_2 : wc.cell? ⟨gb201, 2, none⟩ = some (.int .i64 ((rd_T228 l0 x13_1).f2)) := (blk_cell BK201.out 2).trans rfl
                    have hcz29_3 : wc.cell? ⟨gb201, 3, none⟩ = some (.int .i64 ((rd_T228 l0 x13_1).f3)) := (blk_cell BK201.out 3).trans rfl
                    have hfz29_0 := blk_frozen BK201.out 0
                    have hfz29_1 := blk_frozen BK201.out 1
                    have hfz29_2 := blk_frozen BK201.out 2
                    have hfz29_3 := blk_frozen BK201.out 3
                    go_wp2
                    go_roundg kj6
                    case measure => have := HK1.out; have := HJ6.out; omega
                    case rel => exact ⟨(x7_1), (wrap64 (x13_1 + 1)), (by first | rfl | (simp; done) | (simp [*]; done)), (by first | rfl | (simp; done) | (simp [*]; done)), H', ⟨by have := HK1.out; have := HJ6.out; omega⟩, ⟨by repeat (first | (with_reducible first | exact HB.out | apply below_alloc | apply pw_below_drewN | apply below_drew1 | refine below_set ?_ GE201.out) | exact HB.out)⟩⟩
          · rw [if_neg c6] at H
            exact absurd H (by simp)
        · rw [if_neg c5] at H
          exact absurd H (by simp)
      · rw [if_neg c4] at H
        have c4b0 : decide (x13_1 < (l0.length : Int)) = false := decide_eq_false c4
        clear c4
        obtain rfl := Option.some.inj H
        go_wp2
        go_ret
        exact ⟨by first | rfl | (simp [errW_none, errW_some] <;> rfl) | (simp [*, errW_none, errW_some] <;> rfl), by repeat (first | (with_reducible first | exact HB.out | apply below_alloc | apply pw_below_drewN | apply below_drew1) | exact HB.out)⟩
end Go.Proofs.Ytdbgnoolokfafaa.HFnExactCoverOf
