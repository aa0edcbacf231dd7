-- Printed by a program of this session over the kit's print; functions that the print does not take stand here by hand.
import Derived.Test.YtdbgnoolokfafaaZShort
import Derived.Test.YtdbgnoolokfafaaZHFnCoverx0
import Derived.Test.YtdbgnoolokfafaaZHFnCoverx16
namespace Go.Proofs.Ytdbgnoolokfafaa.HFnCover
open Go.RowKit Go.Proofs.YtdbgnoolokfafaaW.PrintWords Go.Proofs.YtdbgnoolokfafaaW.PrintLast Go.Proofs.YtdbgnoolokfafaaW.PrintMore
attribute [local go_sem] max2_int min2_int max_two min_two max_three min_three max_four min_four   -- for this text's walks alone
set_option linter.unusedVariables false
set_option linter.unusedSimpArgs false
/-! ### spec_l11Edges: function 184 -/
mutual
def spec_l11Edges.l0 : Nat → List (S228) → List (S83) → Int → Int → Option ((List (S228)))
  | 0, _, _, _, _ => none
  | k + 1, x3, x11, x12, x13 => if x13 < x12 then (if 0 ≤ x13 then (if x13 < (x11.length : Int) then (spec_l11Edges.l1 k x3 (((rd_T83 x11 x13).f0).length : Int) x11 x12 x13 ((rd_T83 x11 x13).f0) (((rd_T83 x11 x13).f0).length : Int) 0 ((rd_T83 x11 x13).f0) ((rd_T83 x11 x13).f1)) else (none)) else (none)) else (some x3)
def spec_l11Edges.l1 : Nat → List (S228) → Int → List (S83) → Int → Int → List (S25) → Int → Int → List (S25) → Bool → Option ((List (S228)))
  | 0, _, _, _, _, _, _, _, _, _, _ => none
  | k + 1, x3, x6, x11, x12, x13, x21, x22, x23, x300000, x300001 => if x23 < x22 then (if 0 ≤ x23 then (if x23 < (x21.length : Int) then (if x6 = 0 then (none) else (if 0 ≤ (Int.tmod (wrap64 (x23 + 1)) x6) then (if (Int.tmod (wrap64 (x23 + 1)) x6) < (x300000.length : Int) then ((spec_l11Fine.f ((rd_T25 x21 x23).f0)).bind fun t304 => ((spec_l11Fine.f ((rd_T25 x21 x23).f1)).bind fun t305 => ((spec_l11Fine.f ((rd_T25 x300000 (Int.tmod (wrap64 (x23 + 1)) x6)).f0)).bind fun t306 => ((spec_l11Fine.f ((rd_T25 x300000 (Int.tmod (wrap64 (x23 + 1)) x6)).f1)).bind fun t307 => (if t305 = t307 then (spec_l11Edges.l1 k x3 x6 x11 x12 x13 x21 x22 (wrap64 (x23 + 1)) x300000 x300001) else (if x3.length < 4398046511104 then (spec_l11Edges.l1 k (x3 ++ [(⟨t304, t305, t306, t307⟩ : S228)]) x6 x11 x12 x13 x21 x22 (wrap64 (x23 + 1)) x300000 x300001) else (none))))))) else (none)) else (none))) else (none)) else (none)) else (spec_l11Edges.l0 k x3 x11 x12 (wrap64 (x13 + 1)))
end
def spec_l11Edges.f (k : Nat) (l0 : List (S83)) : Option ((List (S228))) := spec_l11Edges.l0 k ([] : List (S228)) l0 (l0.length : Int) 0
theorem spec_l11Edges.mono_l : ∀ k, (∀ y0 y1 y2 y3, LeO (spec_l11Edges.l0 k y0 y1 y2 y3) (spec_l11Edges.l0 (k + 1) y0 y1 y2 y3)) ∧ (∀ y0 y1 y2 y3 y4 y5 y6 y7 y8 y9, LeO (spec_l11Edges.l1 k y0 y1 y2 y3 y4 y5 y6 y7 y8 y9) (spec_l11Edges.l1 (k + 1) y0 y1 y2 y3 y4 y5 y6 y7 y8 y9))
  | 0 => ⟨fun _ _ _ _ r h => by simp [spec_l11Edges.l0] at h, fun _ _ _ _ _ _ _ _ _ _ r h => by simp [spec_l11Edges.l1] at h⟩
  | k + 1 => by
    obtain ⟨ih0, ih1⟩ := spec_l11Edges.mono_l k
    refine ⟨?_, ?_⟩
    · intro y0 y1 y2 y3
      unfold spec_l11Edges.l0
      repeat' first
    | with_reducible exact ih0 _ _ _ _
    | with_reducible exact ih1 _ _ _ _ _ _ _ _ _ _
    | with_reducible exact LeO.refl _
    | with_reducible exact LeO.none _
    | with_reducible refine LeO.ite ?_ ?_
    | with_reducible refine LeO.bind ?_ (fun _ => ?_)
    | exact ih0 _ _ _ _
    | exact ih1 _ _ _ _ _ _ _ _ _ _
    | exact LeO.none _
    | refine LeO.ite ?_ ?_
    | refine LeO.bind ?_ (fun _ => ?_)
    · intro y0 y1 y2 y3 y4 y5 y6 y7 y8 y9
      unfold spec_l11Edges.l1
      repeat' first
    | with_reducible exact ih0 _ _ _ _
    | with_reducible exact ih1 _ _ _ _ _ _ _ _ _ _
    | with_reducible exact LeO.refl _
    | with_reducible exact LeO.none _
    | with_reducible refine LeO.ite ?_ ?_
    | with_reducible refine LeO.bind ?_ (fun _ => ?_)
    | exact ih0 _ _ _ _
    | exact ih1 _ _ _ _ _ _ _ _ _ _
    | exact LeO.none _
    | refine LeO.ite ?_ ?_
    | refine LeO.bind ?_ (fun _ => ?_)
theorem spec_l11Edges.mono : ∀ a0 k, LeO (spec_l11Edges.f k a0) (spec_l11Edges.f (k + 1) a0) := by
  intro a0 k
  obtain ⟨ih0, ih1⟩ := spec_l11Edges.mono_l k
  unfold spec_l11Edges.f
  repeat' first
    | with_reducible exact ih0 _ _ _ _
    | with_reducible exact ih1 _ _ _ _ _ _ _ _ _ _
    | with_reducible exact LeO.refl _
    | with_reducible exact LeO.none _
    | with_reducible refine LeO.ite ?_ ?_
    | with_reducible refine LeO.bind ?_ (fun _ => ?_)
    | exact ih0 _ _ _ _
    | exact ih1 _ _ _ _ _ _ _ _ _ _
    | exact LeO.none _
    | refine LeO.ite ?_ ?_
    | refine LeO.bind ?_ (fun _ => ?_)
def spec_l11Edges.T9 : Bool × List (List Nat × List Nat) := (true, [([], []), ([0], [0]), ([], []), ([2], [2]), ([], []), ([3, 4], [3, 4]), ([1, 5], [1, 5]), ([6], [6]), ([], []), ([8, 7, 0, 1, 2, 3, 4, 5, 6, 7, 8], [7, 8])])
def spec_l11Edges.B9 : List Nat := [0, 1, 0, 4, 0, 28, 63, 127, 0, 511]
theorem spec_l11Edges.tab9 : rtab .any (opsOf Try.f184 9) = spec_l11Edges.T9 := by kernel_rfl
theorem spec_l11Edges.bits9 : waitsOk spec_l11Edges.T9.2 spec_l11Edges.B9 = true := by kernel_rfl
def spec_l11Edges.T10 : Bool × List (List Nat × List Nat) := (true, [([], []), ([0], [0]), ([1], [1]), ([], []), ([3], [3]), ([4, 2], [4]), ([], []), ([6], [6]), ([7, 5], [7]), ([], []), ([9], [9]), ([10, 8], [10]), ([2, 5, 8, 11], [2, 5, 8, 11]), ([], []), ([13, 12, 11, 0, 1, 2, 3, 4, 5, 6, 7, 8, 9, 10, 11, 12, 13], [12, 13])])
def spec_l11Edges.B10 : List Nat := [0, 1, 3, 0, 8, 31, 0, 64, 255, 0, 512, 2047, 4095, 0, 16383]
theorem spec_l11Edges.tab10 : rtab .any (opsOf Try.f184 10) = spec_l11Edges.T10 := by kernel_rfl
theorem spec_l11Edges.bits10 : waitsOk spec_l11Edges.T10.2 spec_l11Edges.B10 = true := by kernel_rfl
set_option maxHeartbeats 8000000 in
set_option maxRecDepth 100000 in
theorem spec_l11Edges.calls (k : Nat) (A0 : Option Addr) (c0 : Nat) (l0 : List (S83)) (r : List (S228)) (w : World) (hr0 : Kd.C k83 w A0 l0.length l0) (hc0 : l0.length ≤ c0) (h : spec_l11Edges.f k l0 = some r) :
    Calls Try.prog 184 #[.slice A0 l0.length c0] w fun e w' => ∃ v0_ : Value, e = .returned (v0_) ∧ Kd.R k228 228 w' w.heap.size (fun _ => True) v0_ r ∧ Below w.heap.size w w' := by
 have hu83 := Try.underlying83
 have hu25 := Try.underlying25
 have hu228 := Try.underlying228
 have HR0 := Aside0.mk hr0
 have HC0 := Aside0.mk hc0
 clear hr0 hc0
 have HB := Aside0.mk (Below.refl w.heap.size w)
 have H : (spec_l11Edges.l0 k ([] : List (S228)) l0 (l0.length : Int) 0) = some r := h
 clear h
 have H' := Aside0.mk H
 clear H
 go_enter Try.func184, Try.ntmps184
 go_wp2
 go_loopg [3, 13] k (fun kq v3 v13 w' => ∃ (x3_1 : List (S228)) (x13_1 : Int), v13 = .int .i64 x13_1 ∧ Aside0 (spec_l11Edges.l0 kq x3_1 l0 (l0.length : Int) x13_1 = some r) ∧ Aside0 (kq ≤ k) ∧ Aside0 (Kd.R k228 228 w' w.heap.size (fun _ => True) v3 x3_1) ∧ Aside0 (Below w.heap.size w w'))
 case atStart => exact ⟨(([] : List (S228))), (0), (by first | rfl | (simp; done) | (simp [*]; done)), H', ⟨Nat.le_refl _⟩, ⟨by first | exact Kd.R_nil _ _ _ _ _ | exact Kd.N_nil _ _ _ _ _ | exact Kd.V_nil _ _ _ _ _ | exact Kd.Q_nil _ _ _ _ _ | exact Kd.S_nil _ _ _ _ _⟩, ⟨z.bl HB⟩⟩
 case round =>
  clear H'
  try clear c1
  obtain ⟨x3_1, x13_1, rfl, HA, HK1, HO_3, HB⟩ := hrel
  cases gk with
  | zero => exact absurd HA.out (by simp [spec_l11Edges.l0])
  | succ k1 =>
   have H := HA.out
   clear HA
   simp only [spec_l11Edges.l0] at H
   by_cases c2 : x13_1 < (l0.length : Int)
   ·rw [if_pos c2] at H
    have c2b0 : decide (x13_1 < (l0.length : Int)) = true := decide_eq_true c2
    clear c2
    by_cases c3 : 0 ≤ x13_1
    ·rw [if_pos c3] at H
     have c3b0 : decide (0 ≤ x13_1) = true := decide_eq_true c3
     clear c3
     by_cases c4 : x13_1 < (l0.length : Int)
     ·rw [if_pos c4] at H
      have c4b0 : decide (x13_1 < (l0.length : Int)) = true := decide_eq_true c4
      clear c4
      have H' := Aside0.mk H
      clear H
      have p298 : 0 ≤ (x13_1 : Int) := of_decide_eq_true (by first | (with_reducible assumption) | assumption)
      have q298 : x13_1 < (l0.length : Int) := of_decide_eq_true (by first | (with_reducible assumption) | assumption)
      obtain ⟨ad298, A298_0, c298_0, e298, hx298_0, hx298_1, hl298_0, hi298_0⟩ := at_T83 HR0.out x13_1 p298 q298
      cases e298
      replace hx298_0 := (HB.out.cell (World.block_lt_of_cell? w _ hx298_0)).trans hx298_0
      replace hx298_1 := (HB.out.cell (World.block_lt_of_cell? w _ hx298_1)).trans hx298_1
      have HR298_0 := Aside0.mk hi298_0
      have HC298_0 := Aside0.mk hl298_0
      clear hi298_0 hl298_0
      replace p298 := eq_true p298
      replace q298 := eq_true q298
      go_wp2_with (first | ((with_reducible refine gate_dst (N := 5) rfl ?_); refine box_event ?hg (N := 5) ?hd (cs := #[.slice none 0 0, .bool false]) (t := 83) ?hr ?_; (case hd => rfl); (case hg => rfl); (case hr => first | (go_simp; done) | (go_simp; rfl)); intro gb299 hg w5 hbox hb; replace HO_3 := z.rb HO_3 hb; have BK299 := Aside0.mk (hbox); have GW299 := Aside0.mk ((by rw [hg]; exact (below_size (z.bl HB)) : w.heap.size ≤ gb299)); have GE299 := Aside0.mk ((by rw [hg]; exact (below_size (z.bl HB)) : w.heap.size ≤ gb299)); replace HB := Aside0.mk (below_step (z.bl HB) hb); clear hb hbox hg; have hcz6_0 : w5.cell? ⟨gb299, 0, none⟩ = some (.slice none 0 0) := (blk_cell BK299.out 0).trans rfl; have hcz6_1 : w5.cell? ⟨gb299, 1, none⟩ = some (.bool false) := (blk_cell BK299.out 1).trans rfl; have hfz6_0 := blk_frozen BK299.out 0; have hfz6_1 := blk_frozen BK299.out 1))
      go_loopg [3, 23] k1 (fun kq v3 v23 w' => ∃ (x3_2 : List (S228)) (x23_2 : Int), v23 = .int .i64 x23_2 ∧ Aside0 (spec_l11Edges.l1 kq x3_2 (((rd_T83 l0 x13_1).f0).length : Int) l0 (l0.length : Int) x13_1 ((rd_T83 l0 x13_1).f0) (((rd_T83 l0 x13_1).f0).length : Int) x23_2 ((rd_T83 l0 x13_1).f0) ((rd_T83 l0 x13_1).f1) = some r) ∧ Aside0 (kq ≤ k1) ∧ Aside0 (Kd.R k228 228 w' w.heap.size (fun _ => True) v3 x3_2) ∧ Aside0 (w'.heap[gb299]? = some (.cells #[(.slice A298_0 ((rd_T83 l0 x13_1).f0).length c298_0), .bool ((rd_T83 l0 x13_1).f1)] 83 (0, 0))) ∧ Aside0 (Below w.heap.size w w'))
      case atStart => exact ⟨(x3_1), (0), (by first | rfl | (simp; done) | (simp [*]; done)), H', ⟨Nat.le_refl _⟩, ⟨z.rl (Kd.R_mono (Kd.R_far (p := ⟨gb299, 1, none⟩) (Kd.R_far (p := ⟨gb299, 0, none⟩) (Kd.R_types HO_3.out BK299.out (by decide)) (fun _ hk => hk.2) (.slice A298_0 ((rd_T83 l0 x13_1).f0).length c298_0)) (fun _ hk => hk.2) (.bool ((rd_T83 l0 x13_1).f1))) (fun _ hk => trivial))⟩, ⟨by (with_reducible repeat (first | refine blk_drewN ?_ _ | refine blk_drew ?_ | refine blk_alloc ?_ _)); refine blk_put (cs := #[.slice A298_0 ((rd_T83 l0 x13_1).f0).length c298_0, .bool false]) ?_ 1 _ rfl; (with_reducible repeat (first | refine blk_drewN ?_ _ | refine blk_drew ?_ | refine blk_alloc ?_ _)); refine blk_put (cs := #[.slice none 0 0, .bool false]) ?_ 0 _ rfl; (with_reducible repeat (first | refine blk_drewN ?_ _ | refine blk_drew ?_ | refine blk_alloc ?_ _)); exact BK299.out⟩, ⟨z.bl HB⟩⟩
      case round =>
       clear H'
       try clear c1
       try clear c2
       try clear c2b0
       try clear p2
       try clear q2
       try clear hx2
       try clear c3
       try clear c3b0
       try clear c4
       try clear c4b0
       try clear hcz6_0
       try clear hcz6_1
       try clear hfz6_0
       try clear hfz6_1
       try clear hx298_0
       try clear hx298_1
       try clear p298
       try clear q298
       obtain ⟨x3_2, x23_2, rfl, HA, HK2, HO_3, BK299, HB⟩ := hrel
       cases gk with
       | zero => exact absurd HA.out (by simp [spec_l11Edges.l1])
       | succ k2 =>
        have H := HA.out
        clear HA
        simp only [spec_l11Edges.l1] at H
        by_cases c7 : x23_2 < (((rd_T83 l0 x13_1).f0).length : Int)
        ·rw [if_pos c7] at H
         have c7b0 : decide (x23_2 < (((rd_T83 l0 x13_1).f0).length : Int)) = true := decide_eq_true c7
         clear c7
         by_cases c8 : 0 ≤ x23_2
         ·rw [if_pos c8] at H
          have c8b0 : decide (0 ≤ x23_2) = true := decide_eq_true c8
          clear c8
          by_cases c9 : x23_2 < (((rd_T83 l0 x13_1).f0).length : Int)
          ·rw [if_pos c9] at H
           have c9b0 : decide (x23_2 < (((rd_T83 l0 x13_1).f0).length : Int)) = true := decide_eq_true c9
           clear c9
           by_cases c10 : (((rd_T83 l0 x13_1).f0).length : Int) = 0
           ·rw [if_pos c10] at H
            exact absurd H (by simp)
           ·rw [if_neg c10] at H
            have c10b0 : ((((rd_T83 l0 x13_1).f0).length : Int) == 0) = false := beq_eq_false_iff_ne.mpr c10
            have c10b1 : ((((rd_T83 l0 x13_1).f0).length : Int) != 0) = true := bne_iff_ne.mpr c10
            have c10b2 : ¬ (((rd_T83 l0 x13_1).f0) = []) := fun h_ => c10 (by rw [h_]; rfl)
            obtain ⟨ji11, hji11⟩ : ∃ j_ : Int, (Int.tmod (wrap64 (x23_2 + 1)) (((rd_T83 l0 x13_1).f0).length : Int)) = j_ := ⟨_, rfl⟩
            replace H : (if 0 ≤ (ji11) then (if (ji11) < (((rd_T83 l0 x13_1).f0).length : Int) then ((spec_l11Fine.f ((rd_T25 ((rd_T83 l0 x13_1).f0) x23_2).f0)).bind fun t304 => ((spec_l11Fine.f ((rd_T25 ((rd_T83 l0 x13_1).f0) x23_2).f1)).bind fun t305 => ((spec_l11Fine.f ((rd_T25 ((rd_T83 l0 x13_1).f0) (ji11)).f0)).bind fun t306 => ((spec_l11Fine.f ((rd_T25 ((rd_T83 l0 x13_1).f0) (ji11)).f1)).bind fun t307 => (if t305 = t307 then (spec_l11Edges.l1 k2 x3_2 (((rd_T83 l0 x13_1).f0).length : Int) l0 (l0.length : Int) x13_1 ((rd_T83 l0 x13_1).f0) (((rd_T83 l0 x13_1).f0).length : Int) (wrap64 (x23_2 + 1)) ((rd_T83 l0 x13_1).f0) ((rd_T83 l0 x13_1).f1)) else (if x3_2.length < 4398046511104 then (spec_l11Edges.l1 k2 (x3_2 ++ [(⟨t304, t305, t306, t307⟩ : S228)]) (((rd_T83 l0 x13_1).f0).length : Int) l0 (l0.length : Int) x13_1 ((rd_T83 l0 x13_1).f0) (((rd_T83 l0 x13_1).f0).length : Int) (wrap64 (x23_2 + 1)) ((rd_T83 l0 x13_1).f0) ((rd_T83 l0 x13_1).f1)) else (none))))))) else (none)) else (none)) = some r := by first | (rw [hji11] at H; exact H) | (simp only [hji11] at H ⊢; exact H)
            by_cases c12 : 0 ≤ (ji11)
            ·rw [if_pos c12] at H
             have c12b0 : decide (0 ≤ (ji11)) = true := decide_eq_true c12
             clear c12
             by_cases c13 : (ji11) < (((rd_T83 l0 x13_1).f0).length : Int)
             ·rw [if_pos c13] at H
              have c13b0 : decide ((ji11) < (((rd_T83 l0 x13_1).f0).length : Int)) = true := decide_eq_true c13
              clear c13
              replace H := Option.bind_eq_some_iff.mp H
              obtain ⟨t304, A140, H⟩ := H
              replace H : ((spec_l11Fine.f ((rd_T25 ((rd_T83 l0 x13_1).f0) x23_2).f1)).bind fun t305 => ((spec_l11Fine.f ((rd_T25 ((rd_T83 l0 x13_1).f0) (ji11)).f0)).bind fun t306 => ((spec_l11Fine.f ((rd_T25 ((rd_T83 l0 x13_1).f0) (ji11)).f1)).bind fun t307 => (if t305 = t307 then (spec_l11Edges.l1 k2 x3_2 (((rd_T83 l0 x13_1).f0).length : Int) l0 (l0.length : Int) x13_1 ((rd_T83 l0 x13_1).f0) (((rd_T83 l0 x13_1).f0).length : Int) (wrap64 (x23_2 + 1)) ((rd_T83 l0 x13_1).f0) ((rd_T83 l0 x13_1).f1)) else (if x3_2.length < 4398046511104 then (spec_l11Edges.l1 k2 (x3_2 ++ [(⟨t304, t305, t306, t307⟩ : S228)]) (((rd_T83 l0 x13_1).f0).length : Int) l0 (l0.length : Int) x13_1 ((rd_T83 l0 x13_1).f0) (((rd_T83 l0 x13_1).f0).length : Int) (wrap64 (x23_2 + 1)) ((rd_T83 l0 x13_1).f0) ((rd_T83 l0 x13_1).f1)) else (none)))))) = some r := H
              have A14 := Aside0.mk A140
              clear A140
              replace H := Option.bind_eq_some_iff.mp H
              obtain ⟨t305, A150, H⟩ := H
              replace H : ((spec_l11Fine.f ((rd_T25 ((rd_T83 l0 x13_1).f0) (ji11)).f0)).bind fun t306 => ((spec_l11Fine.f ((rd_T25 ((rd_T83 l0 x13_1).f0) (ji11)).f1)).bind fun t307 => (if t305 = t307 then (spec_l11Edges.l1 k2 x3_2 (((rd_T83 l0 x13_1).f0).length : Int) l0 (l0.length : Int) x13_1 ((rd_T83 l0 x13_1).f0) (((rd_T83 l0 x13_1).f0).length : Int) (wrap64 (x23_2 + 1)) ((rd_T83 l0 x13_1).f0) ((rd_T83 l0 x13_1).f1)) else (if x3_2.length < 4398046511104 then (spec_l11Edges.l1 k2 (x3_2 ++ [(⟨t304, t305, t306, t307⟩ : S228)]) (((rd_T83 l0 x13_1).f0).length : Int) l0 (l0.length : Int) x13_1 ((rd_T83 l0 x13_1).f0) (((rd_T83 l0 x13_1).f0).length : Int) (wrap64 (x23_2 + 1)) ((rd_T83 l0 x13_1).f0) ((rd_T83 l0 x13_1).f1)) else (none))))) = some r := H
              have A15 := Aside0.mk A150
              clear A150
              replace H := Option.bind_eq_some_iff.mp H
              obtain ⟨t306, A160, H⟩ := H
              replace H : ((spec_l11Fine.f ((rd_T25 ((rd_T83 l0 x13_1).f0) (ji11)).f1)).bind fun t307 => (if t305 = t307 then (spec_l11Edges.l1 k2 x3_2 (((rd_T83 l0 x13_1).f0).length : Int) l0 (l0.length : Int) x13_1 ((rd_T83 l0 x13_1).f0) (((rd_T83 l0 x13_1).f0).length : Int) (wrap64 (x23_2 + 1)) ((rd_T83 l0 x13_1).f0) ((rd_T83 l0 x13_1).f1)) else (if x3_2.length < 4398046511104 then (spec_l11Edges.l1 k2 (x3_2 ++ [(⟨t304, t305, t306, t307⟩ : S228)]) (((rd_T83 l0 x13_1).f0).length : Int) l0 (l0.length : Int) x13_1 ((rd_T83 l0 x13_1).f0) (((rd_T83 l0 x13_1).f0).length : Int) (wrap64 (x23_2 + 1)) ((rd_T83 l0 x13_1).f0) ((rd_T83 l0 x13_1).f1)) else (none)))) = some r := H
              have A16 := Aside0.mk A160
              clear A160
              replace H := Option.bind_eq_some_iff.mp H
              obtain ⟨t307, A170, H⟩ := H
              replace H : (if t305 = t307 then (spec_l11Edges.l1 k2 x3_2 (((rd_T83 l0 x13_1).f0).length : Int) l0 (l0.length : Int) x13_1 ((rd_T83 l0 x13_1).f0) (((rd_T83 l0 x13_1).f0).length : Int) (wrap64 (x23_2 + 1)) ((rd_T83 l0 x13_1).f0) ((rd_T83 l0 x13_1).f1)) else (if x3_2.length < 4398046511104 then (spec_l11Edges.l1 k2 (x3_2 ++ [(⟨t304, t305, t306, t307⟩ : S228)]) (((rd_T83 l0 x13_1).f0).length : Int) l0 (l0.length : Int) x13_1 ((rd_T83 l0 x13_1).f0) (((rd_T83 l0 x13_1).f0).length : Int) (wrap64 (x23_2 + 1)) ((rd_T83 l0 x13_1).f0) ((rd_T83 l0 x13_1).f1)) else (none))) = some r := H
              have A17 := Aside0.mk A170
              clear A170
              by_cases c18 : t305 = t307
              ·rw [if_pos c18] at H
               have c18b0 : (t305 == t307) = true := beq_iff_eq.mpr c18
               have c18b1 : (t305 != t307) = false := bne_eq_false_iff_eq.mpr c18
               clear c18
               have H' := Aside0.mk H
               clear H
               have p300 : 0 ≤ (x23_2 : Int) := of_decide_eq_true (by first | (with_reducible assumption) | assumption)
               have q300 : x23_2 < (((rd_T83 l0 x13_1).f0).length : Int) := of_decide_eq_true (by first | (with_reducible assumption) | assumption)
               obtain ⟨ad300, e300, hx300_0, hx300_1⟩ := at_T25 HR298_0.out x23_2 p300 q300
               cases e300
               replace hx300_0 := (HB.out.cell (World.block_lt_of_cell? w _ hx300_0)).trans hx300_0
               replace hx300_1 := (HB.out.cell (World.block_lt_of_cell? w _ hx300_1)).trans hx300_1
               replace p300 := eq_true p300
               replace q300 := eq_true q300
               try go_wp2_with (first | ((with_reducible refine gate_dst (N := 8) rfl ?_); refine box_event ?hg (N := 8) ?hd (cs := #[.int .i64 0, .int .i64 0]) (t := 25) ?hr ?_; (case hd => rfl); (case hg => rfl); (case hr => first | (go_simp; done) | (go_simp; rfl)); intro gb301 hg w19 hbox hb; replace HO_3 := z.rb HO_3 hb; have BK301 := Aside0.mk (hbox); have GW301 := Aside0.mk ((by rw [hg]; exact (below_size (z.bl HB)) : w.heap.size ≤ gb301)); have GE301 := Aside0.mk ((by rw [hg]; exact (below_size (z.bl HB)) : w.heap.size ≤ gb301)); replace HB := Aside0.mk (below_step (z.bl HB) hb); have NB299_301 := z.ht BK299 hg; have NB301_299 := z.hu BK299 hg; replace BK299 := z.bb BK299 hb; clear hb hbox hg; have hnb20 := NB301_299.out; have hnc20 := NB299_301.out; have hcz21_0 : w19.cell? ⟨gb301, 0, none⟩ = some (.int .i64 0) := (blk_cell BK301.out 0).trans rfl; have hcz21_1 : w19.cell? ⟨gb301, 1, none⟩ = some (.int .i64 0) := (blk_cell BK301.out 1).trans rfl; have hfz21_0 := blk_frozen BK301.out 0; have hfz21_1 := blk_frozen BK301.out 1))
               have n0_ : Aside0 (Kd.R k228 228 ((w19.setCell ⟨gb301, 0, none⟩ (.int .i64 ((rd_T25 ((rd_T83 l0 x13_1).f0) x23_2).f0))).setCell ⟨gb301, 1, none⟩ (.int .i64 ((rd_T25 ((rd_T83 l0 x13_1).f0) x23_2).f1))) w.heap.size (fun _ => True) u3 x3_2) := ⟨z.rl (Kd.R_mono (Kd.R_far (p := ⟨gb301, 1, none⟩) (Kd.R_far (p := ⟨gb301, 0, none⟩) (Kd.R_types HO_3.out BK301.out (by decide)) (fun _ hk => hk.2) (.int .i64 ((rd_T25 ((rd_T83 l0 x13_1).f0) x23_2).f0))) (fun _ hk => hk.2) (.int .i64 ((rd_T25 ((rd_T83 l0 x13_1).f0) x23_2).f1))) (fun _ hk => trivial))⟩
               have n1_ : Aside0 (((w19.setCell ⟨gb301, 0, none⟩ (.int .i64 ((rd_T25 ((rd_T83 l0 x13_1).f0) x23_2).f0))).setCell ⟨gb301, 1, none⟩ (.int .i64 ((rd_T25 ((rd_T83 l0 x13_1).f0) x23_2).f1))).heap[gb299]? = some (.cells #[.slice (some ad300) ((rd_T83 l0 x13_1).f0).length c298_0, .bool ((rd_T83 l0 x13_1).f1)] 83 (0, 0))) := ⟨z.bf BK299⟩
               have n2_ : Aside0 (((w19.setCell ⟨gb301, 0, none⟩ (.int .i64 ((rd_T25 ((rd_T83 l0 x13_1).f0) x23_2).f0))).setCell ⟨gb301, 1, none⟩ (.int .i64 ((rd_T25 ((rd_T83 l0 x13_1).f0) x23_2).f1))).heap[gb301]? = some (.cells #[.int .i64 ((rd_T25 ((rd_T83 l0 x13_1).f0) x23_2).f0), .int .i64 ((rd_T25 ((rd_T83 l0 x13_1).f0) x23_2).f1)] 25 (0, 0))) := ⟨by (with_reducible repeat (first | refine blk_drewN ?_ _ | refine blk_drew ?_ | refine blk_alloc ?_ _)); refine blk_put (cs := #[.int .i64 ((rd_T25 ((rd_T83 l0 x13_1).f0) x23_2).f0), .int .i64 0]) ?_ 1 _ rfl; (with_reducible repeat (first | refine blk_drewN ?_ _ | refine blk_drew ?_ | refine blk_alloc ?_ _)); refine blk_put (cs := #[.int .i64 0, .int .i64 0]) ?_ 0 _ rfl; (with_reducible repeat (first | refine blk_drewN ?_ _ | refine blk_drew ?_ | refine blk_alloc ?_ _)); exact BK301.out⟩
               have n3_ : Aside0 (Below w.heap.size w ((w19.setCell ⟨gb301, 0, none⟩ (.int .i64 ((rd_T25 ((rd_T83 l0 x13_1).f0) x23_2).f0))).setCell ⟨gb301, 1, none⟩ (.int .i64 ((rd_T25 ((rd_T83 l0 x13_1).f0) x23_2).f1)))) := ⟨z.bl HB⟩
               (try clear HO_3)
               (try clear BK299)
               (try clear BK301)
               (try clear HB)
               generalize ((w19.setCell ⟨gb301, 0, none⟩ (.int .i64 ((rd_T25 ((rd_T83 l0 x13_1).f0) x23_2).f0))).setCell ⟨gb301, 1, none⟩ (.int .i64 ((rd_T25 ((rd_T83 l0 x13_1).f0) x23_2).f1))) = w22 at n0_ n1_ n2_ n3_ ⊢
               have HO_3 := n0_
               have BK299 := n1_
               have BK301 := n2_
               have HB := n3_
               clear n0_ n1_ n2_ n3_
               replace HO_3 := Aside0.mk (Kd.R_drew HO_3.out)
               replace BK299 := Aside0.mk (blk_drew BK299.out)
               replace BK301 := Aside0.mk (blk_drew BK301.out)
               replace HB := Aside0.mk (below_drew1 HB.out)
               have p302 : 0 ≤ ((ji11) : Int) := of_decide_eq_true (by first | (with_reducible assumption) | assumption)
               have q302 : (ji11) < (((rd_T83 l0 x13_1).f0).length : Int) := of_decide_eq_true (by first | (with_reducible assumption) | assumption)
               obtain ⟨ad302, e302, hx302_0, hx302_1⟩ := at_T25 HR298_0.out (ji11) p302 q302
               have hw302_1 := hx302_1
               have hw302_0 := hx302_0
               obtain rfl : ad300 = ad302 := (by injection e302)
               replace hx302_0 := (HB.out.cell (World.block_lt_of_cell? w _ hx302_0)).trans hx302_0
               replace hx302_1 := (HB.out.cell (World.block_lt_of_cell? w _ hx302_1)).trans hx302_1
               replace p302 := eq_true p302
               replace q302 := eq_true q302
               refine start_ (n := 10) (S := fun w' => w'.cell? ⟨gb299, 0, none⟩ = some (.slice (some ad300) ((rd_T83 l0 x13_1).f0).length c298_0) ∧ w'.cell? ⟨gb299, 1, none⟩ = some (.bool ((rd_T83 l0 x13_1).f1)) ∧ w'.cell? (ad300.add (((ji11)).toNat * 2)) = some (.int .i64 ((rd_T25 ((rd_T83 l0 x13_1).f0) (ji11)).f0)) ∧ w'.cell? ⟨(ad300.add (((ji11)).toNat * 2)).block, (ad300.add (((ji11)).toNat * 2)).off + 1, none⟩ = some (.int .i64 ((rd_T25 ((rd_T83 l0 x13_1).f0) (ji11)).f1))) (ds := []) #[false, false, false, false, false, false, false, false, false, false] (by kernel_rfl) rfl rfl ⟨(blk_cell BK299.out 0).trans rfl, (blk_cell BK299.out 1).trans rfl, ((HB.out.cell (World.block_lt_of_cell? w _ hw302_0)).trans hw302_0), ((HB.out.cell (World.block_lt_of_cell? w _ hw302_1)).trans hw302_1)⟩ (fun hHeld => ?_); refine with_tabW spec_l11Edges.tab9 spec_l11Edges.bits9 (fun HT_ HW_ => ?_)
               generalize w22.drew = w23 at HO_3 BK299 BK301 HB hx302_0 hx302_1 hHeld ⊢
               refine pure_ (i := 0) (N := some 28) (v := ?_) (a' := ?_) #[true, false, false, false, false, false, false, false, false, false] rfl rfl (any_of HT_.out (by kernel_rfl)) (fun _ _ _ h => h) (Or.inl ⟨by rfl, ?_⟩) ?_ ?_
               rotate_left
               ·intro w'
                go_simp
                with_reducible rfl
               rotate_left
               ·simp only [Act.put, List.setIfInBounds_toArray, List.set_cons_zero, List.set_cons_succ, i64_w, i32_w]
                rfl
               refine pure_ (i := 2) (N := some 30) (v := ?_) (a' := ?_) #[true, false, true, false, false, false, false, false, false, false] rfl rfl (any_of HT_.out (by kernel_rfl)) (fun _ _ _ h => h) (Or.inl ⟨by rfl, ?_⟩) ?_ ?_
               rotate_left
               ·intro w'
                go_simp
                with_reducible rfl
               rotate_left
               ·simp only [Act.put, List.setIfInBounds_toArray, List.set_cons_zero, List.set_cons_succ, i64_w, i32_w]
                rfl
               refine pure_ (i := 3) (N := some 31) (v := ?_) (a' := ?_) #[true, false, true, true, false, false, false, false, false, false] rfl rfl (any_of HT_.out (by kernel_rfl)) (fun _ _ _ h => h) (Or.inl ⟨by rfl, ?_⟩) ?_ ?_
               rotate_left
               ·intro w'
                go_simp
                with_reducible rfl
               rotate_left
               ·simp only [Act.put, List.setIfInBounds_toArray, List.set_cons_zero, List.set_cons_succ, i64_w, i32_w]
                rfl
               refine pure_ (i := 4) (N := some 32) (v := ?_) (a' := ?_) #[true, false, true, true, true, false, false, false, false, false] rfl rfl (any_of HT_.out (by kernel_rfl)) (fun _ _ _ h => h) (Or.inl ⟨by rfl, ?_⟩) ?_ ?_
               rotate_left
               ·intro w'
                go_simp
                with_reducible rfl
               rotate_left
               ·simp only [Act.put, List.setIfInBounds_toArray, List.set_cons_zero, List.set_cons_succ, i64_w, i32_w]
                rfl
               refine pure_ (i := 5) (N := some 33) (v := ?_) (a' := ?_) #[true, false, true, true, true, true, false, false, false, false] rfl rfl (any_of HT_.out (by kernel_rfl)) (fun _ _ _ h => h) (Or.inl ⟨by rfl, ?_⟩) ?_ ?_
               rotate_left
               ·intro w'
                go_simp
                with_reducible rfl
               rotate_left
               ·simp only [Act.put, List.setIfInBounds_toArray, List.set_cons_zero, List.set_cons_succ, i64_w, i32_w]
                rfl
               refine take_ (i := 1) (N := some 29) (v := ?_) (a' := ?_) #[true, true, true, true, true, true, false, false, false, false] rfl rfl (take_ofW HT_.out HW_.out (by kernel_rfl)) (fun _ _ _ h => h) (Or.inl ⟨by rfl, ?_⟩) hHeld ?_ ?_
               rotate_left
               ·rintro w' ⟨s0, s1, s2, s3⟩
                go_simp
                with_reducible rfl
               rotate_left
               ·simp only [Act.put, List.setIfInBounds_toArray, List.set_cons_zero, List.set_cons_succ, i64_w, i32_w]
                rfl
               refine pure_ (i := 6) (N := some 34) (v := ?_) (a' := ?_) #[true, true, true, true, true, true, true, false, false, false] rfl rfl (any_of HT_.out (by kernel_rfl)) (fun _ _ _ h => h) (Or.inl ⟨by rfl, ?_⟩) ?_ ?_
               rotate_left
               ·intro w'
                go_simp
                with_reducible rfl
               rotate_left
               ·simp only [Act.put, List.setIfInBounds_toArray, List.set_cons_zero, List.set_cons_succ, i64_w, i32_w]
                rfl
               refine take_ (i := 7) (N := some 35) (v := ?_) (a' := ?_) #[true, true, true, true, true, true, true, true, false, false] rfl rfl (take_ofW HT_.out HW_.out (by kernel_rfl)) (fun _ _ _ h => h) (Or.inl ⟨by rfl, ?_⟩) hHeld ?_ ?_
               rotate_left
               ·rintro w' ⟨s0, s1, s2, s3⟩
                go_simp
                with_reducible rfl
               rotate_left
               ·simp only [Act.put, List.setIfInBounds_toArray, List.set_cons_zero, List.set_cons_succ, i64_w, i32_w]
                rfl
               refine one_ (i := 8) (N := some 9) #[true, true, true, true, true, true, true, true, true, false] rfl rfl (one_of HT_.out (by kernel_rfl)) (by decide) (fun K hK => ?_)
               refine box_step ?hg (N := 9) ?hd (cs := #[.int .i64 0, .int .i64 0]) (t := 25) ?hr ?_; (case hd => rfl); (case hg => rfl); (case hr => first | (go_simp; done) | (go_simp; rfl))
               intro gb303 hg w24 hbox hb
               replace HO_3 := z.rb HO_3 hb
               have BK303 := Aside0.mk (hbox)
               have GW303 := Aside0.mk ((by rw [hg]; exact (below_size (z.bl HB)) : w.heap.size ≤ gb303))
               have GE303 := Aside0.mk ((by rw [hg]; exact (below_size (z.bl HB)) : w.heap.size ≤ gb303))
               replace HB := Aside0.mk (below_step (z.bl HB) hb)
               have NB299_303 := z.ht BK299 hg
               have NB303_299 := z.hu BK299 hg
               replace BK299 := z.bb BK299 hb
               have NB301_303 := z.ht BK301 hg
               have NB303_301 := z.hu BK301 hg
               replace BK301 := z.bb BK301 hb
               clear hb hbox hg
               refine hK.out _ _ ⟨(blk_cell BK299.out 0).trans rfl, (blk_cell BK299.out 1).trans rfl, ((HB.out.cell (World.block_lt_of_cell? w _ hw302_0)).trans hw302_0), ((HB.out.cell (World.block_lt_of_cell? w _ hw302_1)).trans hw302_1)⟩ (fun hHeld => ?_)
               clear hK K
               refine norm_ (a' := ?_) ?_ ?_
               rotate_left
               ·show Act.put _ (some 9) _ = _
                simp only [Act.put, List.setIfInBounds_toArray, List.set_cons_zero, List.set_cons_succ, i64_w, i32_w]
                rfl
               refine one_ (i := 9) (N := none) #[true, true, true, true, true, true, true, true, true, true] rfl rfl (one_of HT_.out (by kernel_rfl)) (by decide) (fun K hK => ?_)
               have hs25 : w24.cell? ⟨gb303, 0, none⟩ = some (.int .i64 0) := (blk_cell BK303.out 0).trans rfl
               have hfs25 := blk_frozen BK303.out 0
               have hns25_0 := NB299_303.out
               have hns25_1 := NB301_303.out
               have hms25_0 := NB303_299.out
               have hms25_1 := NB303_301.out
               have hs26 : w24.cell? ⟨gb303, 1, none⟩ = some (.int .i64 0) := (blk_cell BK303.out 1).trans rfl
               have hfs26 := blk_frozen BK303.out 1
               have hns26_0 := NB299_303.out
               have hns26_1 := NB301_303.out
               have hms26_0 := NB303_299.out
               have hms26_1 := NB303_301.out
               refine skip_ (w1 := ?_) (by rfl) rfl ?_ ?_
               rotate_left
               ·go_simp
                rfl
               refine hK.out _ _ ⟨((cell_far (p := ⟨gb303, _, none⟩) NB299_303.out _).trans (((cell_far (p := ⟨gb303, _, none⟩) NB299_303.out _).trans (hHeld.1)))), ((cell_far (p := ⟨gb303, _, none⟩) NB299_303.out _).trans (((cell_far (p := ⟨gb303, _, none⟩) NB299_303.out _).trans (hHeld.2.1)))), ((cell_far (p := ⟨gb303, _, none⟩) (by first | exact Nat.ne_of_lt (Nat.lt_of_lt_of_le (by have := World.block_lt_of_cell? _ _ hw302_0; first | rwa [add_block] at this | exact this) GW303.out) | (rw [add_block]; exact Nat.ne_of_lt (Nat.lt_of_lt_of_le (by have := World.block_lt_of_cell? _ _ hw302_0; first | rwa [add_block] at this | exact this) GW303.out)) | (show (Addr.add _ _).block ≠ _; rw [add_block]; exact Nat.ne_of_lt (Nat.lt_of_lt_of_le (by have := World.block_lt_of_cell? _ _ hw302_0; first | rwa [add_block] at this | exact this) GW303.out)) | (dsimp only; exact Nat.ne_of_lt (Nat.lt_of_lt_of_le (by have := World.block_lt_of_cell? _ _ hw302_0; first | rwa [add_block] at this | exact this) GW303.out))) _).trans (((cell_far (p := ⟨gb303, _, none⟩) (by first | exact Nat.ne_of_lt (Nat.lt_of_lt_of_le (by have := World.block_lt_of_cell? _ _ hw302_0; first | rwa [add_block] at this | exact this) GW303.out) | (rw [add_block]; exact Nat.ne_of_lt (Nat.lt_of_lt_of_le (by have := World.block_lt_of_cell? _ _ hw302_0; first | rwa [add_block] at this | exact this) GW303.out)) | (show (Addr.add _ _).block ≠ _; rw [add_block]; exact Nat.ne_of_lt (Nat.lt_of_lt_of_le (by have := World.block_lt_of_cell? _ _ hw302_0; first | rwa [add_block] at this | exact this) GW303.out)) | (dsimp only; exact Nat.ne_of_lt (Nat.lt_of_lt_of_le (by have := World.block_lt_of_cell? _ _ hw302_0; first | rwa [add_block] at this | exact this) GW303.out))) _).trans (hHeld.2.2.1)))), ((cell_far (p := ⟨gb303, _, none⟩) (by first | exact Nat.ne_of_lt (Nat.lt_of_lt_of_le (by have := World.block_lt_of_cell? _ _ hw302_1; first | rwa [add_block] at this | exact this) GW303.out) | (rw [add_block]; exact Nat.ne_of_lt (Nat.lt_of_lt_of_le (by have := World.block_lt_of_cell? _ _ hw302_1; first | rwa [add_block] at this | exact this) GW303.out)) | (show (Addr.add _ _).block ≠ _; rw [add_block]; exact Nat.ne_of_lt (Nat.lt_of_lt_of_le (by have := World.block_lt_of_cell? _ _ hw302_1; first | rwa [add_block] at this | exact this) GW303.out)) | (dsimp only; exact Nat.ne_of_lt (Nat.lt_of_lt_of_le (by have := World.block_lt_of_cell? _ _ hw302_1; first | rwa [add_block] at this | exact this) GW303.out))) _).trans (((cell_far (p := ⟨gb303, _, none⟩) (by first | exact Nat.ne_of_lt (Nat.lt_of_lt_of_le (by have := World.block_lt_of_cell? _ _ hw302_1; first | rwa [add_block] at this | exact this) GW303.out) | (rw [add_block]; exact Nat.ne_of_lt (Nat.lt_of_lt_of_le (by have := World.block_lt_of_cell? _ _ hw302_1; first | rwa [add_block] at this | exact this) GW303.out)) | (show (Addr.add _ _).block ≠ _; rw [add_block]; exact Nat.ne_of_lt (Nat.lt_of_lt_of_le (by have := World.block_lt_of_cell? _ _ hw302_1; first | rwa [add_block] at this | exact this) GW303.out)) | (dsimp only; exact Nat.ne_of_lt (Nat.lt_of_lt_of_le (by have := World.block_lt_of_cell? _ _ hw302_1; first | rwa [add_block] at this | exact this) GW303.out))) _).trans (hHeld.2.2.2))))⟩ (fun hHeld => ?_)
               clear hK K
               refine done_ (done_of HT_.out (by kernel_rfl)) ?_
               try go_wp2
               have n0_ : Aside0 (Kd.R k228 228 ((w24.setCell ⟨gb303, 0, none⟩ (.int .i64 ((rd_T25 ((rd_T83 l0 x13_1).f0) (ji11)).f0))).setCell ⟨gb303, 1, none⟩ (.int .i64 ((rd_T25 ((rd_T83 l0 x13_1).f0) (ji11)).f1))) w.heap.size (fun _ => True) u3 x3_2) := ⟨z.rl (Kd.R_mono (Kd.R_far (p := ⟨gb303, 1, none⟩) (Kd.R_far (p := ⟨gb303, 0, none⟩) (Kd.R_types HO_3.out BK303.out (by decide)) (fun _ hk => hk.2) (.int .i64 ((rd_T25 ((rd_T83 l0 x13_1).f0) (ji11)).f0))) (fun _ hk => hk.2) (.int .i64 ((rd_T25 ((rd_T83 l0 x13_1).f0) (ji11)).f1))) (fun _ hk => trivial))⟩
               have n1_ : Aside0 (((w24.setCell ⟨gb303, 0, none⟩ (.int .i64 ((rd_T25 ((rd_T83 l0 x13_1).f0) (ji11)).f0))).setCell ⟨gb303, 1, none⟩ (.int .i64 ((rd_T25 ((rd_T83 l0 x13_1).f0) (ji11)).f1))).heap[gb299]? = some (.cells #[.slice (some ad300) ((rd_T83 l0 x13_1).f0).length c298_0, .bool ((rd_T83 l0 x13_1).f1)] 83 (0, 0))) := ⟨z.bf BK299⟩
               have n2_ : Aside0 (((w24.setCell ⟨gb303, 0, none⟩ (.int .i64 ((rd_T25 ((rd_T83 l0 x13_1).f0) (ji11)).f0))).setCell ⟨gb303, 1, none⟩ (.int .i64 ((rd_T25 ((rd_T83 l0 x13_1).f0) (ji11)).f1))).heap[gb301]? = some (.cells #[.int .i64 ((rd_T25 ((rd_T83 l0 x13_1).f0) x23_2).f0), .int .i64 ((rd_T25 ((rd_T83 l0 x13_1).f0) x23_2).f1)] 25 (0, 0))) := ⟨z.bf BK301⟩
               have n3_ : Aside0 (((w24.setCell ⟨gb303, 0, none⟩ (.int .i64 ((rd_T25 ((rd_T83 l0 x13_1).f0) (ji11)).f0))).setCell ⟨gb303, 1, none⟩ (.int .i64 ((rd_T25 ((rd_T83 l0 x13_1).f0) (ji11)).f1))).heap[gb303]? = some (.cells #[.int .i64 ((rd_T25 ((rd_T83 l0 x13_1).f0) (ji11)).f0), .int .i64 ((rd_T25 ((rd_T83 l0 x13_1).f0) (ji11)).f1)] 25 (0, 0))) := ⟨by (with_reducible repeat (first | refine blk_drewN ?_ _ | refine blk_drew ?_ | refine blk_alloc ?_ _)); refine blk_put (cs := #[.int .i64 ((rd_T25 ((rd_T83 l0 x13_1).f0) (ji11)).f0), .int .i64 0]) ?_ 1 _ rfl; (with_reducible repeat (first | refine blk_drewN ?_ _ | refine blk_drew ?_ | refine blk_alloc ?_ _)); refine blk_put (cs := #[.int .i64 0, .int .i64 0]) ?_ 0 _ rfl; (with_reducible repeat (first | refine blk_drewN ?_ _ | refine blk_drew ?_ | refine blk_alloc ?_ _)); exact BK303.out⟩
               have n4_ : Aside0 (Below w.heap.size w ((w24.setCell ⟨gb303, 0, none⟩ (.int .i64 ((rd_T25 ((rd_T83 l0 x13_1).f0) (ji11)).f0))).setCell ⟨gb303, 1, none⟩ (.int .i64 ((rd_T25 ((rd_T83 l0 x13_1).f0) (ji11)).f1)))) := ⟨z.bl HB⟩
               (try clear HO_3)
               (try clear BK299)
               (try clear BK301)
               (try clear BK303)
               (try clear HB)
               generalize ((w24.setCell ⟨gb303, 0, none⟩ (.int .i64 ((rd_T25 ((rd_T83 l0 x13_1).f0) (ji11)).f0))).setCell ⟨gb303, 1, none⟩ (.int .i64 ((rd_T25 ((rd_T83 l0 x13_1).f0) (ji11)).f1))) = w27 at n0_ n1_ n2_ n3_ n4_ ⊢
               have HO_3 := n0_
               have BK299 := n1_
               have BK301 := n2_
               have BK303 := n3_
               have HB := n4_
               clear n0_ n1_ n2_ n3_ n4_
               replace HO_3 := Aside0.mk (Kd.R_drew HO_3.out)
               replace BK299 := Aside0.mk (blk_drew BK299.out)
               replace BK301 := Aside0.mk (blk_drew BK301.out)
               replace BK303 := Aside0.mk (blk_drew BK303.out)
               replace HB := Aside0.mk (below_drew1 HB.out)
               refine start_ (n := 15) (S := fun w' => w'.cell? ⟨gb301, 0, none⟩ = some (.int .i64 ((rd_T25 ((rd_T83 l0 x13_1).f0) x23_2).f0)) ∧ w'.cell? ⟨gb301, 1, none⟩ = some (.int .i64 ((rd_T25 ((rd_T83 l0 x13_1).f0) x23_2).f1)) ∧ w'.cell? ⟨gb303, 0, none⟩ = some (.int .i64 ((rd_T25 ((rd_T83 l0 x13_1).f0) (ji11)).f0)) ∧ w'.cell? ⟨gb303, 1, none⟩ = some (.int .i64 ((rd_T25 ((rd_T83 l0 x13_1).f0) (ji11)).f1))) (ds := []) #[false, false, false, false, false, false, false, false, false, false, false, false, false, false, false] (by kernel_rfl) rfl rfl ⟨(blk_cell BK301.out 0).trans rfl, (blk_cell BK301.out 1).trans rfl, (blk_cell BK303.out 0).trans rfl, (blk_cell BK303.out 1).trans rfl⟩ (fun hHeld => ?_); refine with_tabW spec_l11Edges.tab10 spec_l11Edges.bits10 (fun HT_ HW_ => ?_)
               generalize w27.drew = w28 at HO_3 BK299 BK301 BK303 HB hHeld ⊢
               refine pure_ (i := 0) (N := some 36) (v := ?_) (a' := ?_) #[true, false, false, false, false, false, false, false, false, false, false, false, false, false, false] rfl rfl (any_of HT_.out (by kernel_rfl)) (fun _ _ _ h => h) (Or.inl ⟨by rfl, ?_⟩) ?_ ?_
               rotate_left
               ·intro w'
                go_simp
                with_reducible rfl
               rotate_left
               ·simp only [Act.put, List.setIfInBounds_toArray, List.set_cons_zero, List.set_cons_succ, i64_w, i32_w]
                rfl
               refine pure_ (i := 3) (N := some 39) (v := ?_) (a' := ?_) #[true, false, false, true, false, false, false, false, false, false, false, false, false, false, false] rfl rfl (any_of HT_.out (by kernel_rfl)) (fun _ _ _ h => h) (Or.inl ⟨by rfl, ?_⟩) ?_ ?_
               rotate_left
               ·intro w'
                go_simp
                with_reducible rfl
               rotate_left
               ·simp only [Act.put, List.setIfInBounds_toArray, List.set_cons_zero, List.set_cons_succ, i64_w, i32_w]
                rfl
               refine pure_ (i := 6) (N := some 42) (v := ?_) (a' := ?_) #[true, false, false, true, false, false, true, false, false, false, false, false, false, false, false] rfl rfl (any_of HT_.out (by kernel_rfl)) (fun _ _ _ h => h) (Or.inl ⟨by rfl, ?_⟩) ?_ ?_
               rotate_left
               ·intro w'
                go_simp
                with_reducible rfl
               rotate_left
               ·simp only [Act.put, List.setIfInBounds_toArray, List.set_cons_zero, List.set_cons_succ, i64_w, i32_w]
                rfl
               refine pure_ (i := 9) (N := some 45) (v := ?_) (a' := ?_) #[true, false, false, true, false, false, true, false, false, true, false, false, false, false, false] rfl rfl (any_of HT_.out (by kernel_rfl)) (fun _ _ _ h => h) (Or.inl ⟨by rfl, ?_⟩) ?_ ?_
               rotate_left
               ·intro w'
                go_simp
                with_reducible rfl
               rotate_left
               ·simp only [Act.put, List.setIfInBounds_toArray, List.set_cons_zero, List.set_cons_succ, i64_w, i32_w]
                rfl
               refine take_ (i := 1) (N := some 37) (v := ?_) (a' := ?_) #[true, true, false, true, false, false, true, false, false, true, false, false, false, false, false] rfl rfl (take_ofW HT_.out HW_.out (by kernel_rfl)) (fun _ _ _ h => h) (Or.inl ⟨by rfl, ?_⟩) hHeld ?_ ?_
               rotate_left
               ·rintro w' ⟨s0, s1, s2, s3⟩
                go_simp
                with_reducible rfl
               rotate_left
               ·simp only [Act.put, List.setIfInBounds_toArray, List.set_cons_zero, List.set_cons_succ, i64_w, i32_w]
                rfl
               refine take_ (i := 4) (N := some 40) (v := ?_) (a' := ?_) #[true, true, false, true, true, false, true, false, false, true, false, false, false, false, false] rfl rfl (take_ofW HT_.out HW_.out (by kernel_rfl)) (fun _ _ _ h => h) (Or.inl ⟨by rfl, ?_⟩) hHeld ?_ ?_
               rotate_left
               ·rintro w' ⟨s0, s1, s2, s3⟩
                go_simp
                with_reducible rfl
               rotate_left
               ·simp only [Act.put, List.setIfInBounds_toArray, List.set_cons_zero, List.set_cons_succ, i64_w, i32_w]
                rfl
               refine take_ (i := 7) (N := some 43) (v := ?_) (a' := ?_) #[true, true, false, true, true, false, true, true, false, true, false, false, false, false, false] rfl rfl (take_ofW HT_.out HW_.out (by kernel_rfl)) (fun _ _ _ h => h) (Or.inl ⟨by rfl, ?_⟩) hHeld ?_ ?_
               rotate_left
               ·rintro w' ⟨s0, s1, s2, s3⟩
                go_simp
                with_reducible rfl
               rotate_left
               ·simp only [Act.put, List.setIfInBounds_toArray, List.set_cons_zero, List.set_cons_succ, i64_w, i32_w]
                rfl
               refine take_ (i := 10) (N := some 46) (v := ?_) (a' := ?_) #[true, true, false, true, true, false, true, true, false, true, true, false, false, false, false] rfl rfl (take_ofW HT_.out HW_.out (by kernel_rfl)) (fun _ _ _ h => h) (Or.inl ⟨by rfl, ?_⟩) hHeld ?_ ?_
               rotate_left
               ·rintro w' ⟨s0, s1, s2, s3⟩
                go_simp
                with_reducible rfl
               rotate_left
               ·simp only [Act.put, List.setIfInBounds_toArray, List.set_cons_zero, List.set_cons_succ, i64_w, i32_w]
                rfl
               refine join_ (σ := Nat) 1 #[true, true, true, true, true, true, true, true, true, true, true, true, true, true, false] (fun s_ => [(38, .int .i64 t304), (41, .int .i64 t305), (44, .int .i64 t306), (47, .int .i64 t307), (10, .pointer (some ⟨s_, 0, none⟩)), (48, .agg #[.int .i64 t304, .int .i64 t305, .int .i64 t306, .int .i64 t307])]) (fun s_ w' => (w'.cell? ⟨gb301, 0, none⟩ = some (.int .i64 ((rd_T25 ((rd_T83 l0 x13_1).f0) x23_2).f0)) ∧ w'.cell? ⟨gb301, 1, none⟩ = some (.int .i64 ((rd_T25 ((rd_T83 l0 x13_1).f0) x23_2).f1)) ∧ w'.cell? ⟨gb303, 0, none⟩ = some (.int .i64 ((rd_T25 ((rd_T83 l0 x13_1).f0) (ji11)).f0)) ∧ w'.cell? ⟨gb303, 1, none⟩ = some (.int .i64 ((rd_T25 ((rd_T83 l0 x13_1).f0) (ji11)).f1))) ∧ (Kd.R k228 228 w' w.heap.size (fun k_ => k_ ≠ s_) u3 x3_2) ∧ (w'.heap[gb299]? = some (.cells #[.slice (some ad300) ((rd_T83 l0 x13_1).f0).length c298_0, .bool ((rd_T83 l0 x13_1).f1)] 83 (0, 0))) ∧ (w'.heap[gb301]? = some (.cells #[.int .i64 ((rd_T25 ((rd_T83 l0 x13_1).f0) x23_2).f0), .int .i64 ((rd_T25 ((rd_T83 l0 x13_1).f0) x23_2).f1)] 25 (0, 0))) ∧ (w'.heap[gb303]? = some (.cells #[.int .i64 ((rd_T25 ((rd_T83 l0 x13_1).f0) (ji11)).f0), .int .i64 ((rd_T25 ((rd_T83 l0 x13_1).f0) (ji11)).f1)] 25 (0, 0))) ∧ (w'.heap[s_]? = some (.cells #[.int .i64 0, .int .i64 0, .int .i64 0, .int .i64 0] 228 (0, 0))) ∧ (w.heap.size ≤ s_) ∧ (w.heap.size ≤ s_) ∧ (gb299 ≠ s_) ∧ (s_ ≠ gb299) ∧ (gb301 ≠ s_) ∧ (s_ ≠ gb301) ∧ (gb303 ≠ s_) ∧ (s_ ≠ gb303) ∧ (Below w.heap.size w w')) ?_ ?_
               rotate_left
               ·intro hJ2_5_8_11_13
                refine join_ (σ := Unit) 2 #[true, true, true, true, true, true, true, true, true, true, true, true, true, false, false] (fun s_ => [(38, .int .i64 t304), (41, .int .i64 t305), (44, .int .i64 t306), (47, .int .i64 t307), (48, .agg #[.int .i64 t304, .int .i64 t305, .int .i64 t306, .int .i64 t307])]) (fun s_ w' => (w'.cell? ⟨gb301, 0, none⟩ = some (.int .i64 ((rd_T25 ((rd_T83 l0 x13_1).f0) x23_2).f0)) ∧ w'.cell? ⟨gb301, 1, none⟩ = some (.int .i64 ((rd_T25 ((rd_T83 l0 x13_1).f0) x23_2).f1)) ∧ w'.cell? ⟨gb303, 0, none⟩ = some (.int .i64 ((rd_T25 ((rd_T83 l0 x13_1).f0) (ji11)).f0)) ∧ w'.cell? ⟨gb303, 1, none⟩ = some (.int .i64 ((rd_T25 ((rd_T83 l0 x13_1).f0) (ji11)).f1))) ∧ (Kd.R k228 228 w' w.heap.size (fun _ => True) u3 x3_2) ∧ (w'.heap[gb299]? = some (.cells #[.slice (some ad300) ((rd_T83 l0 x13_1).f0).length c298_0, .bool ((rd_T83 l0 x13_1).f1)] 83 (0, 0))) ∧ (w'.heap[gb301]? = some (.cells #[.int .i64 ((rd_T25 ((rd_T83 l0 x13_1).f0) x23_2).f0), .int .i64 ((rd_T25 ((rd_T83 l0 x13_1).f0) x23_2).f1)] 25 (0, 0))) ∧ (w'.heap[gb303]? = some (.cells #[.int .i64 ((rd_T25 ((rd_T83 l0 x13_1).f0) (ji11)).f0), .int .i64 ((rd_T25 ((rd_T83 l0 x13_1).f0) (ji11)).f1)] 25 (0, 0))) ∧ (Below w.heap.size w w')) ?_ ?_
                rotate_left
                ·intro hJ2_5_8_11
                 refine join_ (σ := Nat) 3 #[true, true, true, true, true, true, true, true, true, true, true, false, false, true, false] (fun s_ => [(38, .int .i64 t304), (41, .int .i64 t305), (44, .int .i64 t306), (10, .pointer (some ⟨s_, 0, none⟩))]) (fun s_ w' => (w'.cell? ⟨gb301, 0, none⟩ = some (.int .i64 ((rd_T25 ((rd_T83 l0 x13_1).f0) x23_2).f0)) ∧ w'.cell? ⟨gb301, 1, none⟩ = some (.int .i64 ((rd_T25 ((rd_T83 l0 x13_1).f0) x23_2).f1)) ∧ w'.cell? ⟨gb303, 0, none⟩ = some (.int .i64 ((rd_T25 ((rd_T83 l0 x13_1).f0) (ji11)).f0)) ∧ w'.cell? ⟨gb303, 1, none⟩ = some (.int .i64 ((rd_T25 ((rd_T83 l0 x13_1).f0) (ji11)).f1))) ∧ (Kd.R k228 228 w' w.heap.size (fun k_ => k_ ≠ s_) u3 x3_2) ∧ (w'.heap[gb299]? = some (.cells #[.slice (some ad300) ((rd_T83 l0 x13_1).f0).length c298_0, .bool ((rd_T83 l0 x13_1).f1)] 83 (0, 0))) ∧ (w'.heap[gb301]? = some (.cells #[.int .i64 ((rd_T25 ((rd_T83 l0 x13_1).f0) x23_2).f0), .int .i64 ((rd_T25 ((rd_T83 l0 x13_1).f0) x23_2).f1)] 25 (0, 0))) ∧ (w'.heap[gb303]? = some (.cells #[.int .i64 ((rd_T25 ((rd_T83 l0 x13_1).f0) (ji11)).f0), .int .i64 ((rd_T25 ((rd_T83 l0 x13_1).f0) (ji11)).f1)] 25 (0, 0))) ∧ (w'.heap[s_]? = some (.cells #[.int .i64 0, .int .i64 0, .int .i64 0, .int .i64 0] 228 (0, 0))) ∧ (w.heap.size ≤ s_) ∧ (w.heap.size ≤ s_) ∧ (gb299 ≠ s_) ∧ (s_ ≠ gb299) ∧ (gb301 ≠ s_) ∧ (s_ ≠ gb301) ∧ (gb303 ≠ s_) ∧ (s_ ≠ gb303) ∧ (Below w.heap.size w w')) ?_ ?_
                 rotate_left
                 ·intro hJ2_5_8_13
                  refine join_ (σ := Unit) 4 #[true, true, true, true, true, true, true, true, true, true, true, false, false, false, false] (fun s_ => [(38, .int .i64 t304), (41, .int .i64 t305), (44, .int .i64 t306)]) (fun s_ w' => (w'.cell? ⟨gb301, 0, none⟩ = some (.int .i64 ((rd_T25 ((rd_T83 l0 x13_1).f0) x23_2).f0)) ∧ w'.cell? ⟨gb301, 1, none⟩ = some (.int .i64 ((rd_T25 ((rd_T83 l0 x13_1).f0) x23_2).f1)) ∧ w'.cell? ⟨gb303, 0, none⟩ = some (.int .i64 ((rd_T25 ((rd_T83 l0 x13_1).f0) (ji11)).f0)) ∧ w'.cell? ⟨gb303, 1, none⟩ = some (.int .i64 ((rd_T25 ((rd_T83 l0 x13_1).f0) (ji11)).f1))) ∧ (Kd.R k228 228 w' w.heap.size (fun _ => True) u3 x3_2) ∧ (w'.heap[gb299]? = some (.cells #[.slice (some ad300) ((rd_T83 l0 x13_1).f0).length c298_0, .bool ((rd_T83 l0 x13_1).f1)] 83 (0, 0))) ∧ (w'.heap[gb301]? = some (.cells #[.int .i64 ((rd_T25 ((rd_T83 l0 x13_1).f0) x23_2).f0), .int .i64 ((rd_T25 ((rd_T83 l0 x13_1).f0) x23_2).f1)] 25 (0, 0))) ∧ (w'.heap[gb303]? = some (.cells #[.int .i64 ((rd_T25 ((rd_T83 l0 x13_1).f0) (ji11)).f0), .int .i64 ((rd_T25 ((rd_T83 l0 x13_1).f0) (ji11)).f1)] 25 (0, 0))) ∧ (Below w.heap.size w w')) ?_ ?_
                  rotate_left
                  ·intro hJ2_5_8
                   refine join_ (σ := Nat) 4 #[true, true, true, true, true, true, true, true, false, true, true, false, false, true, false] (fun s_ => [(38, .int .i64 t304), (41, .int .i64 t305), (10, .pointer (some ⟨s_, 0, none⟩))]) (fun s_ w' => (w'.cell? ⟨gb301, 0, none⟩ = some (.int .i64 ((rd_T25 ((rd_T83 l0 x13_1).f0) x23_2).f0)) ∧ w'.cell? ⟨gb301, 1, none⟩ = some (.int .i64 ((rd_T25 ((rd_T83 l0 x13_1).f0) x23_2).f1)) ∧ w'.cell? ⟨gb303, 0, none⟩ = some (.int .i64 ((rd_T25 ((rd_T83 l0 x13_1).f0) (ji11)).f0)) ∧ w'.cell? ⟨gb303, 1, none⟩ = some (.int .i64 ((rd_T25 ((rd_T83 l0 x13_1).f0) (ji11)).f1))) ∧ (Kd.R k228 228 w' w.heap.size (fun k_ => k_ ≠ s_) u3 x3_2) ∧ (w'.heap[gb299]? = some (.cells #[.slice (some ad300) ((rd_T83 l0 x13_1).f0).length c298_0, .bool ((rd_T83 l0 x13_1).f1)] 83 (0, 0))) ∧ (w'.heap[gb301]? = some (.cells #[.int .i64 ((rd_T25 ((rd_T83 l0 x13_1).f0) x23_2).f0), .int .i64 ((rd_T25 ((rd_T83 l0 x13_1).f0) x23_2).f1)] 25 (0, 0))) ∧ (w'.heap[gb303]? = some (.cells #[.int .i64 ((rd_T25 ((rd_T83 l0 x13_1).f0) (ji11)).f0), .int .i64 ((rd_T25 ((rd_T83 l0 x13_1).f0) (ji11)).f1)] 25 (0, 0))) ∧ (w'.heap[s_]? = some (.cells #[.int .i64 0, .int .i64 0, .int .i64 0, .int .i64 0] 228 (0, 0))) ∧ (w.heap.size ≤ s_) ∧ (w.heap.size ≤ s_) ∧ (gb299 ≠ s_) ∧ (s_ ≠ gb299) ∧ (gb301 ≠ s_) ∧ (s_ ≠ gb301) ∧ (gb303 ≠ s_) ∧ (s_ ≠ gb303) ∧ (Below w.heap.size w w')) ?_ ?_
                   rotate_left
                   ·intro hJ2_5_13
                    refine join_ (σ := Unit) 5 #[true, true, true, true, true, true, true, true, false, true, true, false, false, false, false] (fun s_ => [(38, .int .i64 t304), (41, .int .i64 t305)]) (fun s_ w' => (w'.cell? ⟨gb301, 0, none⟩ = some (.int .i64 ((rd_T25 ((rd_T83 l0 x13_1).f0) x23_2).f0)) ∧ w'.cell? ⟨gb301, 1, none⟩ = some (.int .i64 ((rd_T25 ((rd_T83 l0 x13_1).f0) x23_2).f1)) ∧ w'.cell? ⟨gb303, 0, none⟩ = some (.int .i64 ((rd_T25 ((rd_T83 l0 x13_1).f0) (ji11)).f0)) ∧ w'.cell? ⟨gb303, 1, none⟩ = some (.int .i64 ((rd_T25 ((rd_T83 l0 x13_1).f0) (ji11)).f1))) ∧ (Kd.R k228 228 w' w.heap.size (fun _ => True) u3 x3_2) ∧ (w'.heap[gb299]? = some (.cells #[.slice (some ad300) ((rd_T83 l0 x13_1).f0).length c298_0, .bool ((rd_T83 l0 x13_1).f1)] 83 (0, 0))) ∧ (w'.heap[gb301]? = some (.cells #[.int .i64 ((rd_T25 ((rd_T83 l0 x13_1).f0) x23_2).f0), .int .i64 ((rd_T25 ((rd_T83 l0 x13_1).f0) x23_2).f1)] 25 (0, 0))) ∧ (w'.heap[gb303]? = some (.cells #[.int .i64 ((rd_T25 ((rd_T83 l0 x13_1).f0) (ji11)).f0), .int .i64 ((rd_T25 ((rd_T83 l0 x13_1).f0) (ji11)).f1)] 25 (0, 0))) ∧ (Below w.heap.size w w')) ?_ ?_
                    rotate_left
                    ·intro hJ2_5
                     refine join_ (σ := Nat) 5 #[true, true, true, true, true, false, true, true, false, true, true, false, false, true, false] (fun s_ => [(38, .int .i64 t304), (10, .pointer (some ⟨s_, 0, none⟩))]) (fun s_ w' => (w'.cell? ⟨gb301, 0, none⟩ = some (.int .i64 ((rd_T25 ((rd_T83 l0 x13_1).f0) x23_2).f0)) ∧ w'.cell? ⟨gb301, 1, none⟩ = some (.int .i64 ((rd_T25 ((rd_T83 l0 x13_1).f0) x23_2).f1)) ∧ w'.cell? ⟨gb303, 0, none⟩ = some (.int .i64 ((rd_T25 ((rd_T83 l0 x13_1).f0) (ji11)).f0)) ∧ w'.cell? ⟨gb303, 1, none⟩ = some (.int .i64 ((rd_T25 ((rd_T83 l0 x13_1).f0) (ji11)).f1))) ∧ (Kd.R k228 228 w' w.heap.size (fun k_ => k_ ≠ s_) u3 x3_2) ∧ (w'.heap[gb299]? = some (.cells #[.slice (some ad300) ((rd_T83 l0 x13_1).f0).length c298_0, .bool ((rd_T83 l0 x13_1).f1)] 83 (0, 0))) ∧ (w'.heap[gb301]? = some (.cells #[.int .i64 ((rd_T25 ((rd_T83 l0 x13_1).f0) x23_2).f0), .int .i64 ((rd_T25 ((rd_T83 l0 x13_1).f0) x23_2).f1)] 25 (0, 0))) ∧ (w'.heap[gb303]? = some (.cells #[.int .i64 ((rd_T25 ((rd_T83 l0 x13_1).f0) (ji11)).f0), .int .i64 ((rd_T25 ((rd_T83 l0 x13_1).f0) (ji11)).f1)] 25 (0, 0))) ∧ (w'.heap[s_]? = some (.cells #[.int .i64 0, .int .i64 0, .int .i64 0, .int .i64 0] 228 (0, 0))) ∧ (w.heap.size ≤ s_) ∧ (w.heap.size ≤ s_) ∧ (gb299 ≠ s_) ∧ (s_ ≠ gb299) ∧ (gb301 ≠ s_) ∧ (s_ ≠ gb301) ∧ (gb303 ≠ s_) ∧ (s_ ≠ gb303) ∧ (Below w.heap.size w w')) ?_ ?_
                     rotate_left
                     ·intro hJ2_13
                      refine join_ (σ := Unit) 6 #[true, true, true, true, true, false, true, true, false, true, true, false, false, false, false] (fun s_ => [(38, .int .i64 t304)]) (fun s_ w' => (w'.cell? ⟨gb301, 0, none⟩ = some (.int .i64 ((rd_T25 ((rd_T83 l0 x13_1).f0) x23_2).f0)) ∧ w'.cell? ⟨gb301, 1, none⟩ = some (.int .i64 ((rd_T25 ((rd_T83 l0 x13_1).f0) x23_2).f1)) ∧ w'.cell? ⟨gb303, 0, none⟩ = some (.int .i64 ((rd_T25 ((rd_T83 l0 x13_1).f0) (ji11)).f0)) ∧ w'.cell? ⟨gb303, 1, none⟩ = some (.int .i64 ((rd_T25 ((rd_T83 l0 x13_1).f0) (ji11)).f1))) ∧ (Kd.R k228 228 w' w.heap.size (fun _ => True) u3 x3_2) ∧ (w'.heap[gb299]? = some (.cells #[.slice (some ad300) ((rd_T83 l0 x13_1).f0).length c298_0, .bool ((rd_T83 l0 x13_1).f1)] 83 (0, 0))) ∧ (w'.heap[gb301]? = some (.cells #[.int .i64 ((rd_T25 ((rd_T83 l0 x13_1).f0) x23_2).f0), .int .i64 ((rd_T25 ((rd_T83 l0 x13_1).f0) x23_2).f1)] 25 (0, 0))) ∧ (w'.heap[gb303]? = some (.cells #[.int .i64 ((rd_T25 ((rd_T83 l0 x13_1).f0) (ji11)).f0), .int .i64 ((rd_T25 ((rd_T83 l0 x13_1).f0) (ji11)).f1)] 25 (0, 0))) ∧ (Below w.heap.size w w')) ?_ ?_
                      rotate_left
                      ·intro hJ2
                       refine join_ (σ := Nat) 6 #[true, true, false, true, true, false, true, true, false, true, true, false, false, true, false] (fun s_ => [(10, .pointer (some ⟨s_, 0, none⟩))]) (fun s_ w' => (w'.cell? ⟨gb301, 0, none⟩ = some (.int .i64 ((rd_T25 ((rd_T83 l0 x13_1).f0) x23_2).f0)) ∧ w'.cell? ⟨gb301, 1, none⟩ = some (.int .i64 ((rd_T25 ((rd_T83 l0 x13_1).f0) x23_2).f1)) ∧ w'.cell? ⟨gb303, 0, none⟩ = some (.int .i64 ((rd_T25 ((rd_T83 l0 x13_1).f0) (ji11)).f0)) ∧ w'.cell? ⟨gb303, 1, none⟩ = some (.int .i64 ((rd_T25 ((rd_T83 l0 x13_1).f0) (ji11)).f1))) ∧ (Kd.R k228 228 w' w.heap.size (fun k_ => k_ ≠ s_) u3 x3_2) ∧ (w'.heap[gb299]? = some (.cells #[.slice (some ad300) ((rd_T83 l0 x13_1).f0).length c298_0, .bool ((rd_T83 l0 x13_1).f1)] 83 (0, 0))) ∧ (w'.heap[gb301]? = some (.cells #[.int .i64 ((rd_T25 ((rd_T83 l0 x13_1).f0) x23_2).f0), .int .i64 ((rd_T25 ((rd_T83 l0 x13_1).f0) x23_2).f1)] 25 (0, 0))) ∧ (w'.heap[gb303]? = some (.cells #[.int .i64 ((rd_T25 ((rd_T83 l0 x13_1).f0) (ji11)).f0), .int .i64 ((rd_T25 ((rd_T83 l0 x13_1).f0) (ji11)).f1)] 25 (0, 0))) ∧ (w'.heap[s_]? = some (.cells #[.int .i64 0, .int .i64 0, .int .i64 0, .int .i64 0] 228 (0, 0))) ∧ (w.heap.size ≤ s_) ∧ (w.heap.size ≤ s_) ∧ (gb299 ≠ s_) ∧ (s_ ≠ gb299) ∧ (gb301 ≠ s_) ∧ (s_ ≠ gb301) ∧ (gb303 ≠ s_) ∧ (s_ ≠ gb303) ∧ (Below w.heap.size w w')) ?_ ?_
                       rotate_left
                       ·intro hJ13
                        refine two_ (i := 2) (j := 13) (Ni := some 38) (Nj := some 10) #[true, true, true, true, true, false, true, true, false, true, true, false, false, false, false] #[true, true, false, true, true, false, true, true, false, true, true, false, false, true, false] rfl rfl rfl rfl (two_of HT_.out (by kernel_rfl)) (by decide) (by decide) (fun K hK => ?_) (fun K hK => ?_)
                        ·skip
                         refine z.gs Try.func213 (by kernel_rfl) rfl #[.int .i64 ((rd_T25 ((rd_T83 l0 x13_1).f0) x23_2).f0)] (by rfl) rfl rfl ?_
                         with_reducible refine (spec_l11Fine.calls ((rd_T25 ((rd_T83 l0 x13_1).f0) x23_2).f0) t304 _ A14.out).mono ?_
                         rintro e w' ⟨rfl, ⟨nd, rfl⟩⟩
                         refine ⟨_, rfl, ?_⟩
                         refine hK.out _ _ ⟨(blk_cell BK301.out 0).trans rfl, (blk_cell BK301.out 1).trans rfl, (blk_cell BK303.out 0).trans rfl, (blk_cell BK303.out 1).trans rfl⟩ (fun hHeld => ?_)
                         clear hK K
                         refine norm_ (a' := ?_) ?_ ?_
                         rotate_left
                         ·show Act.put _ (some 38) _ = _
                          simp only [Act.put, List.setIfInBounds_toArray, List.set_cons_zero, List.set_cons_succ, i64_w, i32_w]
                          rfl
                         exact norm_ (by first | (simp only [putAll, Act.put, List.setIfInBounds_toArray, List.set_cons_zero, List.set_cons_succ]; done) | (simp only [putAll, Act.put, List.setIfInBounds_toArray, List.set_cons_zero, List.set_cons_succ]; rfl)) (hJ2 () _ ⟨hHeld, (z.rl HO_3.out), (z.bk BK299), (z.bk BK301), (z.bk BK303), (z.bl HB)⟩)
                        ·skip
                         refine box_step ?hg (N := 10) ?hd (cs := #[.int .i64 0, .int .i64 0, .int .i64 0, .int .i64 0]) (t := 228) ?hr ?_; (case hd => rfl); (case hg => rfl); (case hr => first | (go_simp; done) | (go_simp; rfl))
                         intro gb308 hg w29 hbox hb
                         replace HO_3 := Aside0.mk (Kd.R_below (Kd.R_elderB (z.rl HO_3.out) gb308 (Nat.le_of_eq hg.symm)) hb)
                         have BK308 := Aside0.mk (hbox)
                         have GW308 := Aside0.mk ((by rw [hg]; exact (below_size (z.bl HB)) : w.heap.size ≤ gb308))
                         have GE308 := Aside0.mk ((by rw [hg]; exact (below_size (z.bl HB)) : w.heap.size ≤ gb308))
                         replace HB := Aside0.mk (below_step (z.bl HB) hb)
                         have NB299_308 := z.ht BK299 hg
                         have NB308_299 := z.hu BK299 hg
                         replace BK299 := z.bb BK299 hb
                         have NB301_308 := z.ht BK301 hg
                         have NB308_301 := z.hu BK301 hg
                         replace BK301 := z.bb BK301 hb
                         have NB303_308 := z.ht BK303 hg
                         have NB308_303 := z.hu BK303 hg
                         replace BK303 := z.bb BK303 hb
                         clear hb hbox hg
                         refine hK.out _ _ ⟨(blk_cell BK301.out 0).trans rfl, (blk_cell BK301.out 1).trans rfl, (blk_cell BK303.out 0).trans rfl, (blk_cell BK303.out 1).trans rfl⟩ (fun hHeld => ?_)
                         clear hK K
                         refine norm_ (a' := ?_) ?_ ?_
                         rotate_left
                         ·show Act.put _ (some 10) _ = _
                          simp only [Act.put, List.setIfInBounds_toArray, List.set_cons_zero, List.set_cons_succ, i64_w, i32_w]
                          rfl
                         exact norm_ (by first | (simp only [putAll, Act.put, List.setIfInBounds_toArray, List.set_cons_zero, List.set_cons_succ]; done) | (simp only [putAll, Act.put, List.setIfInBounds_toArray, List.set_cons_zero, List.set_cons_succ]; rfl)) (hJ13 (gb308) _ ⟨hHeld, (z.rl (Kd.R_mono HO_3.out (fun _ hk => hk.2))), (z.bk BK299), (z.bk BK301), (z.bk BK303), (z.bk BK308), GW308.out, GE308.out, NB299_308.out, NB308_299.out, NB301_308.out, NB308_301.out, NB303_308.out, NB308_303.out, (z.bl HB)⟩)
                       ·skip
                        rintro gb308 w30 ⟨hS_, h0_, h1_, h2_, h3_, h4_, h5_, h6_, h7_, h8_, h9_, h10_, h11_, h12_, h13_⟩
                        have n0_ : Aside0 (Kd.R k228 228 w30 w.heap.size (fun k_ => k_ ≠ gb308) u3 x3_2) := ⟨h0_⟩
                        have n1_ : Aside0 (w30.heap[gb299]? = some (.cells #[.slice (some ad300) ((rd_T83 l0 x13_1).f0).length c298_0, .bool ((rd_T83 l0 x13_1).f1)] 83 (0, 0))) := ⟨h1_⟩
                        have n2_ : Aside0 (w30.heap[gb301]? = some (.cells #[.int .i64 ((rd_T25 ((rd_T83 l0 x13_1).f0) x23_2).f0), .int .i64 ((rd_T25 ((rd_T83 l0 x13_1).f0) x23_2).f1)] 25 (0, 0))) := ⟨h2_⟩
                        have n3_ : Aside0 (w30.heap[gb303]? = some (.cells #[.int .i64 ((rd_T25 ((rd_T83 l0 x13_1).f0) (ji11)).f0), .int .i64 ((rd_T25 ((rd_T83 l0 x13_1).f0) (ji11)).f1)] 25 (0, 0))) := ⟨h3_⟩
                        have n4_ : Aside0 (w30.heap[gb308]? = some (.cells #[.int .i64 0, .int .i64 0, .int .i64 0, .int .i64 0] 228 (0, 0))) := ⟨h4_⟩
                        have n5_ : Aside0 (w.heap.size ≤ gb308) := ⟨h5_⟩
                        have n6_ : Aside0 (w.heap.size ≤ gb308) := ⟨h6_⟩
                        have n7_ : Aside0 (gb299 ≠ gb308) := ⟨h7_⟩
                        have n8_ : Aside0 (gb308 ≠ gb299) := ⟨h8_⟩
                        have n9_ : Aside0 (gb301 ≠ gb308) := ⟨h9_⟩
                        have n10_ : Aside0 (gb308 ≠ gb301) := ⟨h10_⟩
                        have n11_ : Aside0 (gb303 ≠ gb308) := ⟨h11_⟩
                        have n12_ : Aside0 (gb308 ≠ gb303) := ⟨h12_⟩
                        have n13_ : Aside0 (Below w.heap.size w w30) := ⟨h13_⟩
                        clear HO_3
                        clear BK299
                        clear BK301
                        clear BK303
                        clear HB
                        clear h0_ h1_ h2_ h3_ h4_ h5_ h6_ h7_ h8_ h9_ h10_ h11_ h12_ h13_
                        have HO_3 := n0_
                        have BK299 := n1_
                        have BK301 := n2_
                        have BK303 := n3_
                        have BK308 := n4_
                        have GW308 := n5_
                        have GE308 := n6_
                        have NB299_308 := n7_
                        have NB308_299 := n8_
                        have NB301_308 := n9_
                        have NB308_301 := n10_
                        have NB303_308 := n11_
                        have NB308_303 := n12_
                        have HB := n13_
                        clear n0_ n1_ n2_ n3_ n4_ n5_ n6_ n7_ n8_ n9_ n10_ n11_ n12_ n13_
                        have hHeld : w30.cell? ⟨gb301, 0, none⟩ = some (.int .i64 ((rd_T25 ((rd_T83 l0 x13_1).f0) x23_2).f0)) ∧ w30.cell? ⟨gb301, 1, none⟩ = some (.int .i64 ((rd_T25 ((rd_T83 l0 x13_1).f0) x23_2).f1)) ∧ w30.cell? ⟨gb303, 0, none⟩ = some (.int .i64 ((rd_T25 ((rd_T83 l0 x13_1).f0) (ji11)).f0)) ∧ w30.cell? ⟨gb303, 1, none⟩ = some (.int .i64 ((rd_T25 ((rd_T83 l0 x13_1).f0) (ji11)).f1)) := hS_
                        refine norm_ (a' := ?_) ?_ ?_
                        rotate_left
                        ·simp only [putAll, Act.put, List.setIfInBounds_toArray, List.set_cons_zero, List.set_cons_succ]
                         rfl
                        refine one_ (i := 2) (N := some 38) #[true, true, true, true, true, false, true, true, false, true, true, false, false, true, false] rfl rfl (one_of HT_.out (by kernel_rfl)) (by decide) (fun K hK => ?_)
                        refine z.gs Try.func213 (by kernel_rfl) rfl #[.int .i64 ((rd_T25 ((rd_T83 l0 x13_1).f0) x23_2).f0)] (by rfl) rfl rfl ?_
                        with_reducible refine (spec_l11Fine.calls ((rd_T25 ((rd_T83 l0 x13_1).f0) x23_2).f0) t304 _ A14.out).mono ?_
                        rintro e w' ⟨rfl, ⟨nd, rfl⟩⟩
                        refine ⟨_, rfl, ?_⟩
                        refine hK.out _ _ ⟨(blk_cell BK301.out 0).trans rfl, (blk_cell BK301.out 1).trans rfl, (blk_cell BK303.out 0).trans rfl, (blk_cell BK303.out 1).trans rfl⟩ (fun hHeld => ?_)
                        clear hK K
                        refine norm_ (a' := ?_) ?_ ?_
                        rotate_left
                        ·show Act.put _ (some 38) _ = _
                         simp only [Act.put, List.setIfInBounds_toArray, List.set_cons_zero, List.set_cons_succ, i64_w, i32_w]
                         rfl
                        exact norm_ (by first | (simp only [putAll, Act.put, List.setIfInBounds_toArray, List.set_cons_zero, List.set_cons_succ]; done) | (simp only [putAll, Act.put, List.setIfInBounds_toArray, List.set_cons_zero, List.set_cons_succ]; rfl)) (hJ2_13 (gb308) _ ⟨hHeld, (z.rl HO_3.out), (z.bk BK299), (z.bk BK301), (z.bk BK303), (z.bk BK308), GW308.out, GE308.out, NB299_308.out, NB308_299.out, NB301_308.out, NB308_301.out, NB303_308.out, NB308_303.out, (z.bl HB)⟩)
                      ·skip
                       rintro _ w29 ⟨hS_, h0_, h1_, h2_, h3_, h4_⟩
                       have n0_ : Aside0 (Kd.R k228 228 w29 w.heap.size (fun _ => True) u3 x3_2) := ⟨h0_⟩
                       have n1_ : Aside0 (w29.heap[gb299]? = some (.cells #[.slice (some ad300) ((rd_T83 l0 x13_1).f0).length c298_0, .bool ((rd_T83 l0 x13_1).f1)] 83 (0, 0))) := ⟨h1_⟩
                       have n2_ : Aside0 (w29.heap[gb301]? = some (.cells #[.int .i64 ((rd_T25 ((rd_T83 l0 x13_1).f0) x23_2).f0), .int .i64 ((rd_T25 ((rd_T83 l0 x13_1).f0) x23_2).f1)] 25 (0, 0))) := ⟨h2_⟩
                       have n3_ : Aside0 (w29.heap[gb303]? = some (.cells #[.int .i64 ((rd_T25 ((rd_T83 l0 x13_1).f0) (ji11)).f0), .int .i64 ((rd_T25 ((rd_T83 l0 x13_1).f0) (ji11)).f1)] 25 (0, 0))) := ⟨h3_⟩
                       have n4_ : Aside0 (Below w.heap.size w w29) := ⟨h4_⟩
                       clear HO_3
                       clear BK299
                       clear BK301
                       clear BK303
                       clear HB
                       clear h0_ h1_ h2_ h3_ h4_
                       have HO_3 := n0_
                       have BK299 := n1_
                       have BK301 := n2_
                       have BK303 := n3_
                       have HB := n4_
                       clear n0_ n1_ n2_ n3_ n4_
                       have hHeld : w29.cell? ⟨gb301, 0, none⟩ = some (.int .i64 ((rd_T25 ((rd_T83 l0 x13_1).f0) x23_2).f0)) ∧ w29.cell? ⟨gb301, 1, none⟩ = some (.int .i64 ((rd_T25 ((rd_T83 l0 x13_1).f0) x23_2).f1)) ∧ w29.cell? ⟨gb303, 0, none⟩ = some (.int .i64 ((rd_T25 ((rd_T83 l0 x13_1).f0) (ji11)).f0)) ∧ w29.cell? ⟨gb303, 1, none⟩ = some (.int .i64 ((rd_T25 ((rd_T83 l0 x13_1).f0) (ji11)).f1)) := hS_
                       refine norm_ (a' := ?_) ?_ ?_
                       rotate_left
                       ·simp only [putAll, Act.put, List.setIfInBounds_toArray, List.set_cons_zero, List.set_cons_succ]
                        rfl
                       refine two_ (i := 5) (j := 13) (Ni := some 41) (Nj := some 10) #[true, true, true, true, true, true, true, true, false, true, true, false, false, false, false] #[true, true, true, true, true, false, true, true, false, true, true, false, false, true, false] rfl rfl rfl rfl (two_of HT_.out (by kernel_rfl)) (by decide) (by decide) (fun K hK => ?_) (fun K hK => ?_)
                       ·skip
                        refine z.gs Try.func213 (by kernel_rfl) rfl #[.int .i64 ((rd_T25 ((rd_T83 l0 x13_1).f0) x23_2).f1)] (by rfl) rfl rfl ?_
                        with_reducible refine (spec_l11Fine.calls ((rd_T25 ((rd_T83 l0 x13_1).f0) x23_2).f1) t305 _ A15.out).mono ?_
                        rintro e w' ⟨rfl, ⟨nd, rfl⟩⟩
                        refine ⟨_, rfl, ?_⟩
                        refine hK.out _ _ ⟨(blk_cell BK301.out 0).trans rfl, (blk_cell BK301.out 1).trans rfl, (blk_cell BK303.out 0).trans rfl, (blk_cell BK303.out 1).trans rfl⟩ (fun hHeld => ?_)
                        clear hK K
                        refine norm_ (a' := ?_) ?_ ?_
                        rotate_left
                        ·show Act.put _ (some 41) _ = _
                         simp only [Act.put, List.setIfInBounds_toArray, List.set_cons_zero, List.set_cons_succ, i64_w, i32_w]
                         rfl
                        exact norm_ (by first | (simp only [putAll, Act.put, List.setIfInBounds_toArray, List.set_cons_zero, List.set_cons_succ]; done) | (simp only [putAll, Act.put, List.setIfInBounds_toArray, List.set_cons_zero, List.set_cons_succ]; rfl)) (hJ2_5 () _ ⟨hHeld, (z.rl HO_3.out), (z.bk BK299), (z.bk BK301), (z.bk BK303), (z.bl HB)⟩)
                       ·skip
                        refine box_step ?hg (N := 10) ?hd (cs := #[.int .i64 0, .int .i64 0, .int .i64 0, .int .i64 0]) (t := 228) ?hr ?_; (case hd => rfl); (case hg => rfl); (case hr => first | (go_simp; done) | (go_simp; rfl))
                        intro gb308 hg w30 hbox hb
                        replace HO_3 := Aside0.mk (Kd.R_below (Kd.R_elderB (z.rl HO_3.out) gb308 (Nat.le_of_eq hg.symm)) hb)
                        have BK308 := Aside0.mk (hbox)
                        have GW308 := Aside0.mk ((by rw [hg]; exact (below_size (z.bl HB)) : w.heap.size ≤ gb308))
                        have GE308 := Aside0.mk ((by rw [hg]; exact (below_size (z.bl HB)) : w.heap.size ≤ gb308))
                        replace HB := Aside0.mk (below_step (z.bl HB) hb)
                        have NB299_308 := z.ht BK299 hg
                        have NB308_299 := z.hu BK299 hg
                        replace BK299 := z.bb BK299 hb
                        have NB301_308 := z.ht BK301 hg
                        have NB308_301 := z.hu BK301 hg
                        replace BK301 := z.bb BK301 hb
                        have NB303_308 := z.ht BK303 hg
                        have NB308_303 := z.hu BK303 hg
                        replace BK303 := z.bb BK303 hb
                        clear hb hbox hg
                        refine hK.out _ _ ⟨(blk_cell BK301.out 0).trans rfl, (blk_cell BK301.out 1).trans rfl, (blk_cell BK303.out 0).trans rfl, (blk_cell BK303.out 1).trans rfl⟩ (fun hHeld => ?_)
                        clear hK K
                        refine norm_ (a' := ?_) ?_ ?_
                        rotate_left
                        ·show Act.put _ (some 10) _ = _
                         simp only [Act.put, List.setIfInBounds_toArray, List.set_cons_zero, List.set_cons_succ, i64_w, i32_w]
                         rfl
                        exact norm_ (by first | (simp only [putAll, Act.put, List.setIfInBounds_toArray, List.set_cons_zero, List.set_cons_succ]; done) | (simp only [putAll, Act.put, List.setIfInBounds_toArray, List.set_cons_zero, List.set_cons_succ]; rfl)) (hJ2_13 (gb308) _ ⟨hHeld, (z.rl (Kd.R_mono HO_3.out (fun _ hk => hk.2))), (z.bk BK299), (z.bk BK301), (z.bk BK303), (z.bk BK308), GW308.out, GE308.out, NB299_308.out, NB308_299.out, NB301_308.out, NB308_301.out, NB303_308.out, NB308_303.out, (z.bl HB)⟩)
                     ·skip
                      rintro gb308 w30 ⟨hS_, h0_, h1_, h2_, h3_, h4_, h5_, h6_, h7_, h8_, h9_, h10_, h11_, h12_, h13_⟩
                      have n0_ : Aside0 (Kd.R k228 228 w30 w.heap.size (fun k_ => k_ ≠ gb308) u3 x3_2) := ⟨h0_⟩
                      have n1_ : Aside0 (w30.heap[gb299]? = some (.cells #[.slice (some ad300) ((rd_T83 l0 x13_1).f0).length c298_0, .bool ((rd_T83 l0 x13_1).f1)] 83 (0, 0))) := ⟨h1_⟩
                      have n2_ : Aside0 (w30.heap[gb301]? = some (.cells #[.int .i64 ((rd_T25 ((rd_T83 l0 x13_1).f0) x23_2).f0), .int .i64 ((rd_T25 ((rd_T83 l0 x13_1).f0) x23_2).f1)] 25 (0, 0))) := ⟨h2_⟩
                      have n3_ : Aside0 (w30.heap[gb303]? = some (.cells #[.int .i64 ((rd_T25 ((rd_T83 l0 x13_1).f0) (ji11)).f0), .int .i64 ((rd_T25 ((rd_T83 l0 x13_1).f0) (ji11)).f1)] 25 (0, 0))) := ⟨h3_⟩
                      have n4_ : Aside0 (w30.heap[gb308]? = some (.cells #[.int .i64 0, .int .i64 0, .int .i64 0, .int .i64 0] 228 (0, 0))) := ⟨h4_⟩
                      have n5_ : Aside0 (w.heap.size ≤ gb308) := ⟨h5_⟩
                      have n6_ : Aside0 (w.heap.size ≤ gb308) := ⟨h6_⟩
                      have n7_ : Aside0 (gb299 ≠ gb308) := ⟨h7_⟩
                      have n8_ : Aside0 (gb308 ≠ gb299) := ⟨h8_⟩
                      have n9_ : Aside0 (gb301 ≠ gb308) := ⟨h9_⟩
                      have n10_ : Aside0 (gb308 ≠ gb301) := ⟨h10_⟩
                      have n11_ : Aside0 (gb303 ≠ gb308) := ⟨h11_⟩
                      have n12_ : Aside0 (gb308 ≠ gb303) := ⟨h12_⟩
                      have n13_ : Aside0 (Below w.heap.size w w30) := ⟨h13_⟩
                      clear HO_3
                      clear BK299
                      clear BK301
                      clear BK303
                      clear HB
                      clear h0_ h1_ h2_ h3_ h4_ h5_ h6_ h7_ h8_ h9_ h10_ h11_ h12_ h13_
                      have HO_3 := n0_
                      have BK299 := n1_
                      have BK301 := n2_
                      have BK303 := n3_
                      have BK308 := n4_
                      have GW308 := n5_
                      have GE308 := n6_
                      have NB299_308 := n7_
                      have NB308_299 := n8_
                      have NB301_308 := n9_
                      have NB308_301 := n10_
                      have NB303_308 := n11_
                      have NB308_303 := n12_
                      have HB := n13_
                      clear n0_ n1_ n2_ n3_ n4_ n5_ n6_ n7_ n8_ n9_ n10_ n11_ n12_ n13_
                      have hHeld : w30.cell? ⟨gb301, 0, none⟩ = some (.int .i64 ((rd_T25 ((rd_T83 l0 x13_1).f0) x23_2).f0)) ∧ w30.cell? ⟨gb301, 1, none⟩ = some (.int .i64 ((rd_T25 ((rd_T83 l0 x13_1).f0) x23_2).f1)) ∧ w30.cell? ⟨gb303, 0, none⟩ = some (.int .i64 ((rd_T25 ((rd_T83 l0 x13_1).f0) (ji11)).f0)) ∧ w30.cell? ⟨gb303, 1, none⟩ = some (.int .i64 ((rd_T25 ((rd_T83 l0 x13_1).f0) (ji11)).f1)) := hS_
                      refine norm_ (a' := ?_) ?_ ?_
                      rotate_left
                      ·simp only [putAll, Act.put, List.setIfInBounds_toArray, List.set_cons_zero, List.set_cons_succ]
                       rfl
                      refine one_ (i := 5) (N := some 41) #[true, true, true, true, true, true, true, true, false, true, true, false, false, true, false] rfl rfl (one_of HT_.out (by kernel_rfl)) (by decide) (fun K hK => ?_)
                      refine z.gs Try.func213 (by kernel_rfl) rfl #[.int .i64 ((rd_T25 ((rd_T83 l0 x13_1).f0) x23_2).f1)] (by rfl) rfl rfl ?_
                      with_reducible refine (spec_l11Fine.calls ((rd_T25 ((rd_T83 l0 x13_1).f0) x23_2).f1) t305 _ A15.out).mono ?_
                      rintro e w' ⟨rfl, ⟨nd, rfl⟩⟩
                      refine ⟨_, rfl, ?_⟩
                      refine hK.out _ _ ⟨(blk_cell BK301.out 0).trans rfl, (blk_cell BK301.out 1).trans rfl, (blk_cell BK303.out 0).trans rfl, (blk_cell BK303.out 1).trans rfl⟩ (fun hHeld => ?_)
                      clear hK K
                      refine norm_ (a' := ?_) ?_ ?_
                      rotate_left
                      ·show Act.put _ (some 41) _ = _
                       simp only [Act.put, List.setIfInBounds_toArray, List.set_cons_zero, List.set_cons_succ, i64_w, i32_w]
                       rfl
                      exact norm_ (by first | (simp only [putAll, Act.put, List.setIfInBounds_toArray, List.set_cons_zero, List.set_cons_succ]; done) | (simp only [putAll, Act.put, List.setIfInBounds_toArray, List.set_cons_zero, List.set_cons_succ]; rfl)) (hJ2_5_13 (gb308) _ ⟨hHeld, (z.rl HO_3.out), (z.bk BK299), (z.bk BK301), (z.bk BK303), (z.bk BK308), GW308.out, GE308.out, NB299_308.out, NB308_299.out, NB301_308.out, NB308_301.out, NB303_308.out, NB308_303.out, (z.bl HB)⟩)
                    ·skip
                     rintro _ w29 ⟨hS_, h0_, h1_, h2_, h3_, h4_⟩
                     have n0_ : Aside0 (Kd.R k228 228 w29 w.heap.size (fun _ => True) u3 x3_2) := ⟨h0_⟩
                     have n1_ : Aside0 (w29.heap[gb299]? = some (.cells #[.slice (some ad300) ((rd_T83 l0 x13_1).f0).length c298_0, .bool ((rd_T83 l0 x13_1).f1)] 83 (0, 0))) := ⟨h1_⟩
                     have n2_ : Aside0 (w29.heap[gb301]? = some (.cells #[.int .i64 ((rd_T25 ((rd_T83 l0 x13_1).f0) x23_2).f0), .int .i64 ((rd_T25 ((rd_T83 l0 x13_1).f0) x23_2).f1)] 25 (0, 0))) := ⟨h2_⟩
                     have n3_ : Aside0 (w29.heap[gb303]? = some (.cells #[.int .i64 ((rd_T25 ((rd_T83 l0 x13_1).f0) (ji11)).f0), .int .i64 ((rd_T25 ((rd_T83 l0 x13_1).f0) (ji11)).f1)] 25 (0, 0))) := ⟨h3_⟩
                     have n4_ : Aside0 (Below w.heap.size w w29) := ⟨h4_⟩
                     clear HO_3
                     clear BK299
                     clear BK301
                     clear BK303
                     clear HB
                     clear h0_ h1_ h2_ h3_ h4_
                     have HO_3 := n0_
                     have BK299 := n1_
                     have BK301 := n2_
                     have BK303 := n3_
                     have HB := n4_
                     clear n0_ n1_ n2_ n3_ n4_
                     have hHeld : w29.cell? ⟨gb301, 0, none⟩ = some (.int .i64 ((rd_T25 ((rd_T83 l0 x13_1).f0) x23_2).f0)) ∧ w29.cell? ⟨gb301, 1, none⟩ = some (.int .i64 ((rd_T25 ((rd_T83 l0 x13_1).f0) x23_2).f1)) ∧ w29.cell? ⟨gb303, 0, none⟩ = some (.int .i64 ((rd_T25 ((rd_T83 l0 x13_1).f0) (ji11)).f0)) ∧ w29.cell? ⟨gb303, 1, none⟩ = some (.int .i64 ((rd_T25 ((rd_T83 l0 x13_1).f0) (ji11)).f1)) := hS_
                     refine norm_ (a' := ?_) ?_ ?_
                     rotate_left
                     ·simp only [putAll, Act.put, List.setIfInBounds_toArray, List.set_cons_zero, List.set_cons_succ]
                      rfl
                     refine two_ (i := 8) (j := 13) (Ni := some 44) (Nj := some 10) #[true, true, true, true, true, true, true, true, true, true, true, false, false, false, false] #[true, true, true, true, true, true, true, true, false, true, true, false, false, true, false] rfl rfl rfl rfl (two_of HT_.out (by kernel_rfl)) (by decide) (by decide) (fun K hK => ?_) (fun K hK => ?_)
                     ·skip
                      refine goes_ Try.func213 (by kernel_rfl) rfl #[.int .i64 ((rd_T25 ((rd_T83 l0 x13_1).f0) (ji11)).f0)] (by rfl) rfl rfl (by (try simp only [List.map_toArray, List.map_cons, List.map_nil]); first | done | (simp only [hji11]; rfl) | rfl | (simp only [List.length_drop, List.length_take]; rfl)) ?_
                      with_reducible refine (spec_l11Fine.calls ((rd_T25 ((rd_T83 l0 x13_1).f0) (ji11)).f0) t306 _ A16.out).mono ?_
                      rintro e w' ⟨rfl, ⟨nd, rfl⟩⟩
                      refine ⟨_, rfl, ?_⟩
                      refine hK.out _ _ ⟨(blk_cell BK301.out 0).trans rfl, (blk_cell BK301.out 1).trans rfl, (blk_cell BK303.out 0).trans rfl, (blk_cell BK303.out 1).trans rfl⟩ (fun hHeld => ?_)
                      clear hK K
                      refine norm_ (a' := ?_) ?_ ?_
                      rotate_left
                      ·show Act.put _ (some 44) _ = _
                       simp only [Act.put, List.setIfInBounds_toArray, List.set_cons_zero, List.set_cons_succ, i64_w, i32_w]
                       rfl
                      exact norm_ (by first | (simp only [putAll, Act.put, List.setIfInBounds_toArray, List.set_cons_zero, List.set_cons_succ]; done) | (simp only [putAll, Act.put, List.setIfInBounds_toArray, List.set_cons_zero, List.set_cons_succ]; rfl)) (hJ2_5_8 () _ ⟨hHeld, (z.rl HO_3.out), (z.bk BK299), (z.bk BK301), (z.bk BK303), (z.bl HB)⟩)
                     ·skip
                      refine box_step ?hg (N := 10) ?hd (cs := #[.int .i64 0, .int .i64 0, .int .i64 0, .int .i64 0]) (t := 228) ?hr ?_; (case hd => rfl); (case hg => rfl); (case hr => first | (go_simp; done) | (go_simp; rfl))
                      intro gb308 hg w30 hbox hb
                      replace HO_3 := Aside0.mk (Kd.R_below (Kd.R_elderB (z.rl HO_3.out) gb308 (Nat.le_of_eq hg.symm)) hb)
                      have BK308 := Aside0.mk (hbox)
                      have GW308 := Aside0.mk ((by rw [hg]; exact (below_size (z.bl HB)) : w.heap.size ≤ gb308))
                      have GE308 := Aside0.mk ((by rw [hg]; exact (below_size (z.bl HB)) : w.heap.size ≤ gb308))
                      replace HB := Aside0.mk (below_step (z.bl HB) hb)
                      have NB299_308 := z.ht BK299 hg
                      have NB308_299 := z.hu BK299 hg
                      replace BK299 := z.bb BK299 hb
                      have NB301_308 := z.ht BK301 hg
                      have NB308_301 := z.hu BK301 hg
                      replace BK301 := z.bb BK301 hb
                      have NB303_308 := z.ht BK303 hg
                      have NB308_303 := z.hu BK303 hg
                      replace BK303 := z.bb BK303 hb
                      clear hb hbox hg
                      refine hK.out _ _ ⟨(blk_cell BK301.out 0).trans rfl, (blk_cell BK301.out 1).trans rfl, (blk_cell BK303.out 0).trans rfl, (blk_cell BK303.out 1).trans rfl⟩ (fun hHeld => ?_)
                      clear hK K
                      refine norm_ (a' := ?_) ?_ ?_
                      rotate_left
                      ·show Act.put _ (some 10) _ = _
                       simp only [Act.put, List.setIfInBounds_toArray, List.set_cons_zero, List.set_cons_succ, i64_w, i32_w]
                       rfl
                      exact norm_ (by first | (simp only [putAll, Act.put, List.setIfInBounds_toArray, List.set_cons_zero, List.set_cons_succ]; done) | (simp only [putAll, Act.put, List.setIfInBounds_toArray, List.set_cons_zero, List.set_cons_succ]; rfl)) (hJ2_5_13 (gb308) _ ⟨hHeld, (z.rl (Kd.R_mono HO_3.out (fun _ hk => hk.2))), (z.bk BK299), (z.bk BK301), (z.bk BK303), (z.bk BK308), GW308.out, GE308.out, NB299_308.out, NB308_299.out, NB301_308.out, NB308_301.out, NB303_308.out, NB308_303.out, (z.bl HB)⟩)
                   ·skip
                    rintro gb308 w30 ⟨hS_, h0_, h1_, h2_, h3_, h4_, h5_, h6_, h7_, h8_, h9_, h10_, h11_, h12_, h13_⟩
                    have n0_ : Aside0 (Kd.R k228 228 w30 w.heap.size (fun k_ => k_ ≠ gb308) u3 x3_2) := ⟨h0_⟩
                    have n1_ : Aside0 (w30.heap[gb299]? = some (.cells #[.slice (some ad300) ((rd_T83 l0 x13_1).f0).length c298_0, .bool ((rd_T83 l0 x13_1).f1)] 83 (0, 0))) := ⟨h1_⟩
                    have n2_ : Aside0 (w30.heap[gb301]? = some (.cells #[.int .i64 ((rd_T25 ((rd_T83 l0 x13_1).f0) x23_2).f0), .int .i64 ((rd_T25 ((rd_T83 l0 x13_1).f0) x23_2).f1)] 25 (0, 0))) := ⟨h2_⟩
                    have n3_ : Aside0 (w30.heap[gb303]? = some (.cells #[.int .i64 ((rd_T25 ((rd_T83 l0 x13_1).f0) (ji11)).f0), .int .i64 ((rd_T25 ((rd_T83 l0 x13_1).f0) (ji11)).f1)] 25 (0, 0))) := ⟨h3_⟩
                    have n4_ : Aside0 (w30.heap[gb308]? = some (.cells #[.int .i64 0, .int .i64 0, .int .i64 0, .int .i64 0] 228 (0, 0))) := ⟨h4_⟩
                    have n5_ : Aside0 (w.heap.size ≤ gb308) := ⟨h5_⟩
                    have n6_ : Aside0 (w.heap.size ≤ gb308) := ⟨h6_⟩
                    have n7_ : Aside0 (gb299 ≠ gb308) := ⟨h7_⟩
                    have n8_ : Aside0 (gb308 ≠ gb299) := ⟨h8_⟩
                    have n9_ : Aside0 (gb301 ≠ gb308) := ⟨h9_⟩
                    have n10_ : Aside0 (gb308 ≠ gb301) := ⟨h10_⟩
                    have n11_ : Aside0 (gb303 ≠ gb308) := ⟨h11_⟩
                    have n12_ : Aside0 (gb308 ≠ gb303) := ⟨h12_⟩
                    have n13_ : Aside0 (Below w.heap.size w w30) := ⟨h13_⟩
                    clear HO_3
                    clear BK299
                    clear BK301
                    clear BK303
                    clear HB
                    clear h0_ h1_ h2_ h3_ h4_ h5_ h6_ h7_ h8_ h9_ h10_ h11_ h12_ h13_
                    have HO_3 := n0_
                    have BK299 := n1_
                    have BK301 := n2_
                    have BK303 := n3_
                    have BK308 := n4_
                    have GW308 := n5_
                    have GE308 := n6_
                    have NB299_308 := n7_
                    have NB308_299 := n8_
                    have NB301_308 := n9_
                    have NB308_301 := n10_
                    have NB303_308 := n11_
                    have NB308_303 := n12_
                    have HB := n13_
                    clear n0_ n1_ n2_ n3_ n4_ n5_ n6_ n7_ n8_ n9_ n10_ n11_ n12_ n13_
                    have hHeld : w30.cell? ⟨gb301, 0, none⟩ = some (.int .i64 ((rd_T25 ((rd_T83 l0 x13_1).f0) x23_2).f0)) ∧ w30.cell? ⟨gb301, 1, none⟩ = some (.int .i64 ((rd_T25 ((rd_T83 l0 x13_1).f0) x23_2).f1)) ∧ w30.cell? ⟨gb303, 0, none⟩ = some (.int .i64 ((rd_T25 ((rd_T83 l0 x13_1).f0) (ji11)).f0)) ∧ w30.cell? ⟨gb303, 1, none⟩ = some (.int .i64 ((rd_T25 ((rd_T83 l0 x13_1).f0) (ji11)).f1)) := hS_
                    refine norm_ (a' := ?_) ?_ ?_
                    rotate_left
                    ·simp only [putAll, Act.put, List.setIfInBounds_toArray, List.set_cons_zero, List.set_cons_succ]
                     rfl
                    refine one_ (i := 8) (N := some 44) #[true, true, true, true, true, true, true, true, true, true, true, false, false, true, false] rfl rfl (one_of HT_.out (by kernel_rfl)) (by decide) (fun K hK => ?_)
                    refine goes_ Try.func213 (by kernel_rfl) rfl #[.int .i64 ((rd_T25 ((rd_T83 l0 x13_1).f0) (ji11)).f0)] (by rfl) rfl rfl (by (try simp only [List.map_toArray, List.map_cons, List.map_nil]); first | done | (simp only [hji11]; rfl) | rfl | (simp only [List.length_drop, List.length_take]; rfl)) ?_
                    with_reducible refine (spec_l11Fine.calls ((rd_T25 ((rd_T83 l0 x13_1).f0) (ji11)).f0) t306 _ A16.out).mono ?_
                    rintro e w' ⟨rfl, ⟨nd, rfl⟩⟩
                    refine ⟨_, rfl, ?_⟩
                    refine hK.out _ _ ⟨(blk_cell BK301.out 0).trans rfl, (blk_cell BK301.out 1).trans rfl, (blk_cell BK303.out 0).trans rfl, (blk_cell BK303.out 1).trans rfl⟩ (fun hHeld => ?_)
                    clear hK K
                    refine norm_ (a' := ?_) ?_ ?_
                    rotate_left
                    ·show Act.put _ (some 44) _ = _
                     simp only [Act.put, List.setIfInBounds_toArray, List.set_cons_zero, List.set_cons_succ, i64_w, i32_w]
                     rfl
                    exact norm_ (by first | (simp only [putAll, Act.put, List.setIfInBounds_toArray, List.set_cons_zero, List.set_cons_succ]; done) | (simp only [putAll, Act.put, List.setIfInBounds_toArray, List.set_cons_zero, List.set_cons_succ]; rfl)) (hJ2_5_8_13 (gb308) _ ⟨hHeld, (z.rl HO_3.out), (z.bk BK299), (z.bk BK301), (z.bk BK303), (z.bk BK308), GW308.out, GE308.out, NB299_308.out, NB308_299.out, NB301_308.out, NB308_301.out, NB303_308.out, NB308_303.out, (z.bl HB)⟩)
                  ·skip
                   rintro _ w29 ⟨hS_, h0_, h1_, h2_, h3_, h4_⟩
                   have n0_ : Aside0 (Kd.R k228 228 w29 w.heap.size (fun _ => True) u3 x3_2) := ⟨h0_⟩
                   have n1_ : Aside0 (w29.heap[gb299]? = some (.cells #[.slice (some ad300) ((rd_T83 l0 x13_1).f0).length c298_0, .bool ((rd_T83 l0 x13_1).f1)] 83 (0, 0))) := ⟨h1_⟩
                   have n2_ : Aside0 (w29.heap[gb301]? = some (.cells #[.int .i64 ((rd_T25 ((rd_T83 l0 x13_1).f0) x23_2).f0), .int .i64 ((rd_T25 ((rd_T83 l0 x13_1).f0) x23_2).f1)] 25 (0, 0))) := ⟨h2_⟩
                   have n3_ : Aside0 (w29.heap[gb303]? = some (.cells #[.int .i64 ((rd_T25 ((rd_T83 l0 x13_1).f0) (ji11)).f0), .int .i64 ((rd_T25 ((rd_T83 l0 x13_1).f0) (ji11)).f1)] 25 (0, 0))) := ⟨h3_⟩
                   have n4_ : Aside0 (Below w.heap.size w w29) := ⟨h4_⟩
                   clear HO_3
                   clear BK299
                   clear BK301
                   clear BK303
                   clear HB
                   clear h0_ h1_ h2_ h3_ h4_
                   have HO_3 := n0_
                   have BK299 := n1_
                   have BK301 := n2_
                   have BK303 := n3_
                   have HB := n4_
                   clear n0_ n1_ n2_ n3_ n4_
                   have hHeld : w29.cell? ⟨gb301, 0, none⟩ = some (.int .i64 ((rd_T25 ((rd_T83 l0 x13_1).f0) x23_2).f0)) ∧ w29.cell? ⟨gb301, 1, none⟩ = some (.int .i64 ((rd_T25 ((rd_T83 l0 x13_1).f0) x23_2).f1)) ∧ w29.cell? ⟨gb303, 0, none⟩ = some (.int .i64 ((rd_T25 ((rd_T83 l0 x13_1).f0) (ji11)).f0)) ∧ w29.cell? ⟨gb303, 1, none⟩ = some (.int .i64 ((rd_T25 ((rd_T83 l0 x13_1).f0) (ji11)).f1)) := hS_
                   refine norm_ (a' := ?_) ?_ ?_
                   rotate_left
                   ·simp only [putAll, Act.put, List.setIfInBounds_toArray, List.set_cons_zero, List.set_cons_succ]
                    rfl
                   refine two_ (i := 11) (j := 13) (Ni := some 47) (Nj := some 10) #[true, true, true, true, true, true, true, true, true, true, true, true, false, false, false] #[true, true, true, true, true, true, true, true, true, true, true, false, false, true, false] rfl rfl rfl rfl (two_of HT_.out (by kernel_rfl)) (by decide) (by decide) (fun K hK => ?_) (fun K hK => ?_)
                   ·skip
                    refine goes_ Try.func213 (by kernel_rfl) rfl #[.int .i64 ((rd_T25 ((rd_T83 l0 x13_1).f0) (ji11)).f1)] (by rfl) rfl rfl (by (try simp only [List.map_toArray, List.map_cons, List.map_nil]); first | done | (simp only [hji11]; rfl) | rfl | (simp only [List.length_drop, List.length_take]; rfl)) ?_
                    with_reducible refine (spec_l11Fine.calls ((rd_T25 ((rd_T83 l0 x13_1).f0) (ji11)).f1) t307 _ A17.out).mono ?_
                    rintro e w' ⟨rfl, ⟨nd, rfl⟩⟩
                    refine ⟨_, rfl, ?_⟩
                    refine hK.out _ _ ⟨(blk_cell BK301.out 0).trans rfl, (blk_cell BK301.out 1).trans rfl, (blk_cell BK303.out 0).trans rfl, (blk_cell BK303.out 1).trans rfl⟩ (fun hHeld => ?_)
                    clear hK K
                    refine norm_ (a' := ?_) ?_ ?_
                    rotate_left
                    ·show Act.put _ (some 47) _ = _
                     simp only [Act.put, List.setIfInBounds_toArray, List.set_cons_zero, List.set_cons_succ, i64_w, i32_w]
                     rfl
                    refine pure_ (i := 12) (N := some 48) (v := ?_) (a' := ?_) #[true, true, true, true, true, true, true, true, true, true, true, true, true, false, false] rfl rfl (any_of HT_.out (by kernel_rfl)) (fun _ _ _ h => h) (Or.inl ⟨by rfl, ?_⟩) ?_ ?_
                    rotate_left
                    ·intro w'
                     go_simp
                     with_reducible rfl
                    rotate_left
                    ·simp only [Act.put, List.setIfInBounds_toArray, List.set_cons_zero, List.set_cons_succ, i64_w, i32_w]
                     rfl
                    exact norm_ (by first | (simp only [putAll, Act.put, List.setIfInBounds_toArray, List.set_cons_zero, List.set_cons_succ]; done) | (simp only [putAll, Act.put, List.setIfInBounds_toArray, List.set_cons_zero, List.set_cons_succ]; rfl)) (hJ2_5_8_11 () _ ⟨hHeld, (z.rl HO_3.out), (z.bk BK299), (z.bk BK301), (z.bk BK303), (z.bl HB)⟩)
                   ·skip
                    refine box_step ?hg (N := 10) ?hd (cs := #[.int .i64 0, .int .i64 0, .int .i64 0, .int .i64 0]) (t := 228) ?hr ?_; (case hd => rfl); (case hg => rfl); (case hr => first | (go_simp; done) | (go_simp; rfl))
                    intro gb308 hg w30 hbox hb
                    replace HO_3 := Aside0.mk (Kd.R_below (Kd.R_elderB (z.rl HO_3.out) gb308 (Nat.le_of_eq hg.symm)) hb)
                    have BK308 := Aside0.mk (hbox)
                    have GW308 := Aside0.mk ((by rw [hg]; exact (below_size (z.bl HB)) : w.heap.size ≤ gb308))
                    have GE308 := Aside0.mk ((by rw [hg]; exact (below_size (z.bl HB)) : w.heap.size ≤ gb308))
                    replace HB := Aside0.mk (below_step (z.bl HB) hb)
                    have NB299_308 := z.ht BK299 hg
                    have NB308_299 := z.hu BK299 hg
                    replace BK299 := z.bb BK299 hb
                    have NB301_308 := z.ht BK301 hg
                    have NB308_301 := z.hu BK301 hg
                    replace BK301 := z.bb BK301 hb
                    have NB303_308 := z.ht BK303 hg
                    have NB308_303 := z.hu BK303 hg
                    replace BK303 := z.bb BK303 hb
                    clear hb hbox hg
                    refine hK.out _ _ ⟨(blk_cell BK301.out 0).trans rfl, (blk_cell BK301.out 1).trans rfl, (blk_cell BK303.out 0).trans rfl, (blk_cell BK303.out 1).trans rfl⟩ (fun hHeld => ?_)
                    clear hK K
                    refine norm_ (a' := ?_) ?_ ?_
                    rotate_left
                    ·show Act.put _ (some 10) _ = _
                     simp only [Act.put, List.setIfInBounds_toArray, List.set_cons_zero, List.set_cons_succ, i64_w, i32_w]
                     rfl
                    exact norm_ (by first | (simp only [putAll, Act.put, List.setIfInBounds_toArray, List.set_cons_zero, List.set_cons_succ]; done) | (simp only [putAll, Act.put, List.setIfInBounds_toArray, List.set_cons_zero, List.set_cons_succ]; rfl)) (hJ2_5_8_13 (gb308) _ ⟨hHeld, (z.rl (Kd.R_mono HO_3.out (fun _ hk => hk.2))), (z.bk BK299), (z.bk BK301), (z.bk BK303), (z.bk BK308), GW308.out, GE308.out, NB299_308.out, NB308_299.out, NB301_308.out, NB308_301.out, NB303_308.out, NB308_303.out, (z.bl HB)⟩)
                 ·skip
                  rintro gb308 w30 ⟨hS_, h0_, h1_, h2_, h3_, h4_, h5_, h6_, h7_, h8_, h9_, h10_, h11_, h12_, h13_⟩
                  have n0_ : Aside0 (Kd.R k228 228 w30 w.heap.size (fun k_ => k_ ≠ gb308) u3 x3_2) := ⟨h0_⟩
                  have n1_ : Aside0 (w30.heap[gb299]? = some (.cells #[.slice (some ad300) ((rd_T83 l0 x13_1).f0).length c298_0, .bool ((rd_T83 l0 x13_1).f1)] 83 (0, 0))) := ⟨h1_⟩
                  have n2_ : Aside0 (w30.heap[gb301]? = some (.cells #[.int .i64 ((rd_T25 ((rd_T83 l0 x13_1).f0) x23_2).f0), .int .i64 ((rd_T25 ((rd_T83 l0 x13_1).f0) x23_2).f1)] 25 (0, 0))) := ⟨h2_⟩
                  have n3_ : Aside0 (w30.heap[gb303]? = some (.cells #[.int .i64 ((rd_T25 ((rd_T83 l0 x13_1).f0) (ji11)).f0), .int .i64 ((rd_T25 ((rd_T83 l0 x13_1).f0) (ji11)).f1)] 25 (0, 0))) := ⟨h3_⟩
                  have n4_ : Aside0 (w30.heap[gb308]? = some (.cells #[.int .i64 0, .int .i64 0, .int .i64 0, .int .i64 0] 228 (0, 0))) := ⟨h4_⟩
                  have n5_ : Aside0 (w.heap.size ≤ gb308) := ⟨h5_⟩
                  have n6_ : Aside0 (w.heap.size ≤ gb308) := ⟨h6_⟩
                  have n7_ : Aside0 (gb299 ≠ gb308) := ⟨h7_⟩
                  have n8_ : Aside0 (gb308 ≠ gb299) := ⟨h8_⟩
                  have n9_ : Aside0 (gb301 ≠ gb308) := ⟨h9_⟩
                  have n10_ : Aside0 (gb308 ≠ gb301) := ⟨h10_⟩
                  have n11_ : Aside0 (gb303 ≠ gb308) := ⟨h11_⟩
                  have n12_ : Aside0 (gb308 ≠ gb303) := ⟨h12_⟩
                  have n13_ : Aside0 (Below w.heap.size w w30) := ⟨h13_⟩
                  clear HO_3
                  clear BK299
                  clear BK301
                  clear BK303
                  clear HB
                  clear h0_ h1_ h2_ h3_ h4_ h5_ h6_ h7_ h8_ h9_ h10_ h11_ h12_ h13_
                  have HO_3 := n0_
                  have BK299 := n1_
                  have BK301 := n2_
                  have BK303 := n3_
                  have BK308 := n4_
                  have GW308 := n5_
                  have GE308 := n6_
                  have NB299_308 := n7_
                  have NB308_299 := n8_
                  have NB301_308 := n9_
                  have NB308_301 := n10_
                  have NB303_308 := n11_
                  have NB308_303 := n12_
                  have HB := n13_
                  clear n0_ n1_ n2_ n3_ n4_ n5_ n6_ n7_ n8_ n9_ n10_ n11_ n12_ n13_
                  have hHeld : w30.cell? ⟨gb301, 0, none⟩ = some (.int .i64 ((rd_T25 ((rd_T83 l0 x13_1).f0) x23_2).f0)) ∧ w30.cell? ⟨gb301, 1, none⟩ = some (.int .i64 ((rd_T25 ((rd_T83 l0 x13_1).f0) x23_2).f1)) ∧ w30.cell? ⟨gb303, 0, none⟩ = some (.int .i64 ((rd_T25 ((rd_T83 l0 x13_1).f0) (ji11)).f0)) ∧ w30.cell? ⟨gb303, 1, none⟩ = some (.int .i64 ((rd_T25 ((rd_T83 l0 x13_1).f0) (ji11)).f1)) := hS_
                  refine norm_ (a' := ?_) ?_ ?_
                  rotate_left
                  ·simp only [putAll, Act.put, List.setIfInBounds_toArray, List.set_cons_zero, List.set_cons_succ]
                   rfl
                  refine one_ (i := 11) (N := some 47) #[true, true, true, true, true, true, true, true, true, true, true, true, false, true, false] rfl rfl (one_of HT_.out (by kernel_rfl)) (by decide) (fun K hK => ?_)
                  refine goes_ Try.func213 (by kernel_rfl) rfl #[.int .i64 ((rd_T25 ((rd_T83 l0 x13_1).f0) (ji11)).f1)] (by rfl) rfl rfl (by (try simp only [List.map_toArray, List.map_cons, List.map_nil]); first | done | (simp only [hji11]; rfl) | rfl | (simp only [List.length_drop, List.length_take]; rfl)) ?_
                  with_reducible refine (spec_l11Fine.calls ((rd_T25 ((rd_T83 l0 x13_1).f0) (ji11)).f1) t307 _ A17.out).mono ?_
                  rintro e w' ⟨rfl, ⟨nd, rfl⟩⟩
                  refine ⟨_, rfl, ?_⟩
                  refine hK.out _ _ ⟨(blk_cell BK301.out 0).trans rfl, (blk_cell BK301.out 1).trans rfl, (blk_cell BK303.out 0).trans rfl, (blk_cell BK303.out 1).trans rfl⟩ (fun hHeld => ?_)
                  clear hK K
                  refine norm_ (a' := ?_) ?_ ?_
                  rotate_left
                  ·show Act.put _ (some 47) _ = _
                   simp only [Act.put, List.setIfInBounds_toArray, List.set_cons_zero, List.set_cons_succ, i64_w, i32_w]
                   rfl
                  refine pure_ (i := 12) (N := some 48) (v := ?_) (a' := ?_) #[true, true, true, true, true, true, true, true, true, true, true, true, true, true, false] rfl rfl (any_of HT_.out (by kernel_rfl)) (fun _ _ _ h => h) (Or.inl ⟨by rfl, ?_⟩) ?_ ?_
                  rotate_left
                  ·intro w'
                   go_simp
                   with_reducible rfl
                  rotate_left
                  ·simp only [Act.put, List.setIfInBounds_toArray, List.set_cons_zero, List.set_cons_succ, i64_w, i32_w]
                   rfl
                  exact norm_ (by first | (simp only [putAll, Act.put, List.setIfInBounds_toArray, List.set_cons_zero, List.set_cons_succ]; done) | (simp only [putAll, Act.put, List.setIfInBounds_toArray, List.set_cons_zero, List.set_cons_succ]; rfl)) (hJ2_5_8_11_13 (gb308) _ ⟨hHeld, (z.rl HO_3.out), (z.bk BK299), (z.bk BK301), (z.bk BK303), (z.bk BK308), GW308.out, GE308.out, NB299_308.out, NB308_299.out, NB301_308.out, NB308_301.out, NB303_308.out, NB308_303.out, (z.bl HB)⟩)
                ·skip
                 rintro _ w29 ⟨hS_, h0_, h1_, h2_, h3_, h4_⟩
                 have n0_ : Aside0 (Kd.R k228 228 w29 w.heap.size (fun _ => True) u3 x3_2) := ⟨h0_⟩
                 have n1_ : Aside0 (w29.heap[gb299]? = some (.cells #[.slice (some ad300) ((rd_T83 l0 x13_1).f0).length c298_0, .bool ((rd_T83 l0 x13_1).f1)] 83 (0, 0))) := ⟨h1_⟩
                 have n2_ : Aside0 (w29.heap[gb301]? = some (.cells #[.int .i64 ((rd_T25 ((rd_T83 l0 x13_1).f0) x23_2).f0), .int .i64 ((rd_T25 ((rd_T83 l0 x13_1).f0) x23_2).f1)] 25 (0, 0))) := ⟨h2_⟩
                 have n3_ : Aside0 (w29.heap[gb303]? = some (.cells #[.int .i64 ((rd_T25 ((rd_T83 l0 x13_1).f0) (ji11)).f0), .int .i64 ((rd_T25 ((rd_T83 l0 x13_1).f0) (ji11)).f1)] 25 (0, 0))) := ⟨h3_⟩
                 have n4_ : Aside0 (Below w.heap.size w w29) := ⟨h4_⟩
                 clear HO_3
                 clear BK299
                 clear BK301
                 clear BK303
                 clear HB
                 clear h0_ h1_ h2_ h3_ h4_
                 have HO_3 := n0_
                 have BK299 := n1_
                 have BK301 := n2_
                 have BK303 := n3_
                 have HB := n4_
                 clear n0_ n1_ n2_ n3_ n4_
                 have hHeld : w29.cell? ⟨gb301, 0, none⟩ = some (.int .i64 ((rd_T25 ((rd_T83 l0 x13_1).f0) x23_2).f0)) ∧ w29.cell? ⟨gb301, 1, none⟩ = some (.int .i64 ((rd_T25 ((rd_T83 l0 x13_1).f0) x23_2).f1)) ∧ w29.cell? ⟨gb303, 0, none⟩ = some (.int .i64 ((rd_T25 ((rd_T83 l0 x13_1).f0) (ji11)).f0)) ∧ w29.cell? ⟨gb303, 1, none⟩ = some (.int .i64 ((rd_T25 ((rd_T83 l0 x13_1).f0) (ji11)).f1)) := hS_
                 refine norm_ (a' := ?_) ?_ ?_
                 rotate_left
                 ·simp only [putAll, Act.put, List.setIfInBounds_toArray, List.set_cons_zero, List.set_cons_succ]
                  rfl
                 refine one_ (i := 13) (N := some 10) #[true, true, true, true, true, true, true, true, true, true, true, true, true, true, false] rfl rfl (one_of HT_.out (by kernel_rfl)) (by decide) (fun K hK => ?_)
                 refine box_step ?hg (N := 10) ?hd (cs := #[.int .i64 0, .int .i64 0, .int .i64 0, .int .i64 0]) (t := 228) ?hr ?_; (case hd => rfl); (case hg => rfl); (case hr => first | (go_simp; done) | (go_simp; rfl))
                 intro gb308 hg w30 hbox hb
                 replace HO_3 := Aside0.mk (Kd.R_below (Kd.R_elderB (z.rl HO_3.out) gb308 (Nat.le_of_eq hg.symm)) hb)
                 have BK308 := Aside0.mk (hbox)
                 have GW308 := Aside0.mk ((by rw [hg]; exact (below_size (z.bl HB)) : w.heap.size ≤ gb308))
                 have GE308 := Aside0.mk ((by rw [hg]; exact (below_size (z.bl HB)) : w.heap.size ≤ gb308))
                 replace HB := Aside0.mk (below_step (z.bl HB) hb)
                 have NB299_308 := z.ht BK299 hg
                 have NB308_299 := z.hu BK299 hg
                 replace BK299 := z.bb BK299 hb
                 have NB301_308 := z.ht BK301 hg
                 have NB308_301 := z.hu BK301 hg
                 replace BK301 := z.bb BK301 hb
                 have NB303_308 := z.ht BK303 hg
                 have NB308_303 := z.hu BK303 hg
                 replace BK303 := z.bb BK303 hb
                 clear hb hbox hg
                 refine hK.out _ _ ⟨(blk_cell BK301.out 0).trans rfl, (blk_cell BK301.out 1).trans rfl, (blk_cell BK303.out 0).trans rfl, (blk_cell BK303.out 1).trans rfl⟩ (fun hHeld => ?_)
                 clear hK K
                 refine norm_ (a' := ?_) ?_ ?_
                 rotate_left
                 ·show Act.put _ (some 10) _ = _
                  simp only [Act.put, List.setIfInBounds_toArray, List.set_cons_zero, List.set_cons_succ, i64_w, i32_w]
                  rfl
                 exact norm_ (by first | (simp only [putAll, Act.put, List.setIfInBounds_toArray, List.set_cons_zero, List.set_cons_succ]; done) | (simp only [putAll, Act.put, List.setIfInBounds_toArray, List.set_cons_zero, List.set_cons_succ]; rfl)) (hJ2_5_8_11_13 (gb308) _ ⟨hHeld, (z.rl (Kd.R_mono HO_3.out (fun _ hk => hk.2))), (z.bk BK299), (z.bk BK301), (z.bk BK303), (z.bk BK308), GW308.out, GE308.out, NB299_308.out, NB308_299.out, NB301_308.out, NB308_301.out, NB303_308.out, NB308_303.out, (z.bl HB)⟩)
               rintro gb308 w30 ⟨hS_, h0_, h1_, h2_, h3_, h4_, h5_, h6_, h7_, h8_, h9_, h10_, h11_, h12_, h13_⟩
               have n0_ : Aside0 (Kd.R k228 228 w30 w.heap.size (fun k_ => k_ ≠ gb308) u3 x3_2) := ⟨h0_⟩
               have n1_ : Aside0 (w30.heap[gb299]? = some (.cells #[.slice (some ad300) ((rd_T83 l0 x13_1).f0).length c298_0, .bool ((rd_T83 l0 x13_1).f1)] 83 (0, 0))) := ⟨h1_⟩
               have n2_ : Aside0 (w30.heap[gb301]? = some (.cells #[.int .i64 ((rd_T25 ((rd_T83 l0 x13_1).f0) x23_2).f0), .int .i64 ((rd_T25 ((rd_T83 l0 x13_1).f0) x23_2).f1)] 25 (0, 0))) := ⟨h2_⟩
               have n3_ : Aside0 (w30.heap[gb303]? = some (.cells #[.int .i64 ((rd_T25 ((rd_T83 l0 x13_1).f0) (ji11)).f0), .int .i64 ((rd_T25 ((rd_T83 l0 x13_1).f0) (ji11)).f1)] 25 (0, 0))) := ⟨h3_⟩
               have n4_ : Aside0 (w30.heap[gb308]? = some (.cells #[.int .i64 0, .int .i64 0, .int .i64 0, .int .i64 0] 228 (0, 0))) := ⟨h4_⟩
               have n5_ : Aside0 (w.heap.size ≤ gb308) := ⟨h5_⟩
               have n6_ : Aside0 (w.heap.size ≤ gb308) := ⟨h6_⟩
               have n7_ : Aside0 (gb299 ≠ gb308) := ⟨h7_⟩
               have n8_ : Aside0 (gb308 ≠ gb299) := ⟨h8_⟩
               have n9_ : Aside0 (gb301 ≠ gb308) := ⟨h9_⟩
               have n10_ : Aside0 (gb308 ≠ gb301) := ⟨h10_⟩
               have n11_ : Aside0 (gb303 ≠ gb308) := ⟨h11_⟩
               have n12_ : Aside0 (gb308 ≠ gb303) := ⟨h12_⟩
               have n13_ : Aside0 (Below w.heap.size w w30) := ⟨h13_⟩
               clear HO_3
               clear BK299
               clear BK301
               clear BK303
               clear HB
               clear h0_ h1_ h2_ h3_ h4_ h5_ h6_ h7_ h8_ h9_ h10_ h11_ h12_ h13_
               have HO_3 := n0_
               have BK299 := n1_
               have BK301 := n2_
               have BK303 := n3_
               have BK308 := n4_
               have GW308 := n5_
               have GE308 := n6_
               have NB299_308 := n7_
               have NB308_299 := n8_
               have NB301_308 := n9_
               have NB308_301 := n10_
               have NB303_308 := n11_
               have NB308_303 := n12_
               have HB := n13_
               clear n0_ n1_ n2_ n3_ n4_ n5_ n6_ n7_ n8_ n9_ n10_ n11_ n12_ n13_
               have hHeld : w30.cell? ⟨gb301, 0, none⟩ = some (.int .i64 ((rd_T25 ((rd_T83 l0 x13_1).f0) x23_2).f0)) ∧ w30.cell? ⟨gb301, 1, none⟩ = some (.int .i64 ((rd_T25 ((rd_T83 l0 x13_1).f0) x23_2).f1)) ∧ w30.cell? ⟨gb303, 0, none⟩ = some (.int .i64 ((rd_T25 ((rd_T83 l0 x13_1).f0) (ji11)).f0)) ∧ w30.cell? ⟨gb303, 1, none⟩ = some (.int .i64 ((rd_T25 ((rd_T83 l0 x13_1).f0) (ji11)).f1)) := hS_
               refine norm_ (a' := ?_) ?_ ?_
               rotate_left
               ·simp only [putAll, Act.put, List.setIfInBounds_toArray, List.set_cons_zero, List.set_cons_succ]
                rfl
               refine one_ (i := 14) (N := none) #[true, true, true, true, true, true, true, true, true, true, true, true, true, true, true] rfl rfl (one_of HT_.out (by kernel_rfl)) (by decide) (fun K hK => ?_)
               have hs31 : w30.cell? ⟨gb308, 0, none⟩ = some (.int .i64 0) := (blk_cell BK308.out 0).trans rfl
               have hfs31 := blk_frozen BK308.out 0
               have hns31_0 := NB299_308.out
               have hns31_1 := NB301_308.out
               have hns31_2 := NB303_308.out
               have hms31_0 := NB308_299.out
               have hms31_1 := NB308_301.out
               have hms31_2 := NB308_303.out
               have hs32 : w30.cell? ⟨gb308, 1, none⟩ = some (.int .i64 0) := (blk_cell BK308.out 1).trans rfl
               have hfs32 := blk_frozen BK308.out 1
               have hns32_0 := NB299_308.out
               have hns32_1 := NB301_308.out
               have hns32_2 := NB303_308.out
               have hms32_0 := NB308_299.out
               have hms32_1 := NB308_301.out
               have hms32_2 := NB308_303.out
               have hs33 : w30.cell? ⟨gb308, 2, none⟩ = some (.int .i64 0) := (blk_cell BK308.out 2).trans rfl
               have hfs33 := blk_frozen BK308.out 2
               have hns33_0 := NB299_308.out
               have hns33_1 := NB301_308.out
               have hns33_2 := NB303_308.out
               have hms33_0 := NB308_299.out
               have hms33_1 := NB308_301.out
               have hms33_2 := NB308_303.out
               have hs34 : w30.cell? ⟨gb308, 3, none⟩ = some (.int .i64 0) := (blk_cell BK308.out 3).trans rfl
               have hfs34 := blk_frozen BK308.out 3
               have hns34_0 := NB299_308.out
               have hns34_1 := NB301_308.out
               have hns34_2 := NB303_308.out
               have hms34_0 := NB308_299.out
               have hms34_1 := NB308_301.out
               have hms34_2 := NB308_303.out
               refine skip_ (w1 := ?_) (by rfl) rfl ?_ ?_
               rotate_left
               ·go_simp
                rfl
               refine hK.out _ _ ⟨((cell_far (p := ⟨gb308, _, none⟩) NB301_308.out _).trans (((cell_far (p := ⟨gb308, _, none⟩) NB301_308.out _).trans (((cell_far (p := ⟨gb308, _, none⟩) NB301_308.out _).trans (((cell_far (p := ⟨gb308, _, none⟩) NB301_308.out _).trans (hHeld.1)))))))), ((cell_far (p := ⟨gb308, _, none⟩) NB301_308.out _).trans (((cell_far (p := ⟨gb308, _, none⟩) NB301_308.out _).trans (((cell_far (p := ⟨gb308, _, none⟩) NB301_308.out _).trans (((cell_far (p := ⟨gb308, _, none⟩) NB301_308.out _).trans (hHeld.2.1)))))))), ((cell_far (p := ⟨gb308, _, none⟩) NB303_308.out _).trans (((cell_far (p := ⟨gb308, _, none⟩) NB303_308.out _).trans (((cell_far (p := ⟨gb308, _, none⟩) NB303_308.out _).trans (((cell_far (p := ⟨gb308, _, none⟩) NB303_308.out _).trans (hHeld.2.2.1)))))))), ((cell_far (p := ⟨gb308, _, none⟩) NB303_308.out _).trans (((cell_far (p := ⟨gb308, _, none⟩) NB303_308.out _).trans (((cell_far (p := ⟨gb308, _, none⟩) NB303_308.out _).trans (((cell_far (p := ⟨gb308, _, none⟩) NB303_308.out _).trans (hHeld.2.2.2))))))))⟩ (fun hHeld => ?_)
               clear hK K
               refine done_ (done_of HT_.out (by kernel_rfl)) ?_
               have hnb35 := NB308_299.out
               have hnc35 := NB299_308.out
               have hnb36 := NB308_301.out
               have hnc36 := NB301_308.out
               have hnb37 := NB308_303.out
               have hnc37 := NB303_308.out
               have hcz38_0 : w30.cell? ⟨gb308, 0, none⟩ = some (.int .i64 0) := (blk_cell BK308.out 0).trans rfl
               have hcz38_1 : w30.cell? ⟨gb308, 1, none⟩ = some (.int .i64 0) := (blk_cell BK308.out 1).trans rfl
               have hcz38_2 : w30.cell? ⟨gb308, 2, none⟩ = some (.int .i64 0) := (blk_cell BK308.out 2).trans rfl
               have hcz38_3 : w30.cell? ⟨gb308, 3, none⟩ = some (.int .i64 0) := (blk_cell BK308.out 3).trans rfl
               have hfz38_0 := blk_frozen BK308.out 0
               have hfz38_1 := blk_frozen BK308.out 1
               have hfz38_2 := blk_frozen BK308.out 2
               have hfz38_3 := blk_frozen BK308.out 3
               try go_wp2
               go_roundg k2
               case measure => have := HK1.out; have := HK2.out; omega
               case rel => exact ⟨(x3_2), (wrap64 (x23_2 + 1)), (by first | rfl | (simp; done) | (simp [*]; done)), H', ⟨by have := HK1.out; have := HK2.out; omega⟩, ⟨z.rl (Kd.R_mono (Kd.R_far (p := ⟨gb308, 3, none⟩) (Kd.R_far (p := ⟨gb308, 2, none⟩) (Kd.R_far (p := ⟨gb308, 1, none⟩) (Kd.R_far (p := ⟨gb308, 0, none⟩) (Kd.R_mono HO_3.out (fun k_ hk => (⟨hk, hk⟩ : _ ∧ k_ ≠ gb308))) (fun _ hk => hk.2) (.int .i64 t304)) (fun _ hk => hk.2) (.int .i64 t305)) (fun _ hk => hk.2) (.int .i64 t306)) (fun _ hk => hk.2) (.int .i64 t307)) (fun _ hk => trivial))⟩, ⟨z.bf BK299⟩, ⟨z.bl HB⟩⟩
              ·rw [if_neg c18] at H
               have c18b0 : (t305 == t307) = false := beq_eq_false_iff_ne.mpr c18
               have c18b1 : (t305 != t307) = true := bne_iff_ne.mpr c18
               by_cases c39 : x3_2.length < 4398046511104
               ·rw [if_pos c39] at H
                have LMc39 := Aside0.mk c39
                clear c39
                obtain ⟨y309, hy309⟩ : ∃ y_ : List (S228), y_ = (x3_2 ++ [(⟨t304, t305, t306, t307⟩ : S228)]) := ⟨_, rfl⟩
                replace H : (spec_l11Edges.l1 k2 y309 (((rd_T83 l0 x13_1).f0).length : Int) l0 (l0.length : Int) x13_1 ((rd_T83 l0 x13_1).f0) (((rd_T83 l0 x13_1).f0).length : Int) (wrap64 (x23_2 + 1)) ((rd_T83 l0 x13_1).f0) ((rd_T83 l0 x13_1).f1)) = some r := by first | (rw [hy309]; with_reducible exact H) | (have H2_ := (Option.bind_some _ _).symm.trans H; rw [hy309]; with_reducible exact H2_) | (have H2_ := (Option.bind_some _ _).symm.trans H; with_reducible exact H2_) | with_reducible exact H | (rw [hy309]; exact H) | exact H
                have Ny309 := Aside0.mk hy309
                clear hy309
                have H' := Aside0.mk H
                clear H
                have p300 : 0 ≤ (x23_2 : Int) := of_decide_eq_true (by first | (with_reducible assumption) | assumption)
                have q300 : x23_2 < (((rd_T83 l0 x13_1).f0).length : Int) := of_decide_eq_true (by first | (with_reducible assumption) | assumption)
                obtain ⟨ad300, e300, hx300_0, hx300_1⟩ := at_T25 HR298_0.out x23_2 p300 q300
                cases e300
                replace hx300_0 := (HB.out.cell (World.block_lt_of_cell? w _ hx300_0)).trans hx300_0
                replace hx300_1 := (HB.out.cell (World.block_lt_of_cell? w _ hx300_1)).trans hx300_1
                replace p300 := eq_true p300
                replace q300 := eq_true q300
                try go_wp2_with (first | ((with_reducible refine gate_dst (N := 8) rfl ?_); refine box_event ?hg (N := 8) ?hd (cs := #[.int .i64 0, .int .i64 0]) (t := 25) ?hr ?_; (case hd => rfl); (case hg => rfl); (case hr => first | (go_simp; done) | (go_simp; rfl)); intro gb301 hg w40 hbox hb; replace HO_3 := z.rb HO_3 hb; have BK301 := Aside0.mk (hbox); have GW301 := Aside0.mk ((by rw [hg]; exact (below_size (z.bl HB)) : w.heap.size ≤ gb301)); have GE301 := Aside0.mk ((by rw [hg]; exact (below_size (z.bl HB)) : w.heap.size ≤ gb301)); replace HB := Aside0.mk (below_step (z.bl HB) hb); have NB299_301 := z.ht BK299 hg; have NB301_299 := z.hu BK299 hg; replace BK299 := z.bb BK299 hb; clear hb hbox hg; have hnb41 := NB301_299.out; have hnc41 := NB299_301.out; have hcz42_0 : w40.cell? ⟨gb301, 0, none⟩ = some (.int .i64 0) := (blk_cell BK301.out 0).trans rfl; have hcz42_1 : w40.cell? ⟨gb301, 1, none⟩ = some (.int .i64 0) := (blk_cell BK301.out 1).trans rfl; have hfz42_0 := blk_frozen BK301.out 0; have hfz42_1 := blk_frozen BK301.out 1))
                have n0_ : Aside0 (Kd.R k228 228 ((w40.setCell ⟨gb301, 0, none⟩ (.int .i64 ((rd_T25 ((rd_T83 l0 x13_1).f0) x23_2).f0))).setCell ⟨gb301, 1, none⟩ (.int .i64 ((rd_T25 ((rd_T83 l0 x13_1).f0) x23_2).f1))) w.heap.size (fun _ => True) u3 x3_2) := ⟨z.rl (Kd.R_mono (Kd.R_far (p := ⟨gb301, 1, none⟩) (Kd.R_far (p := ⟨gb301, 0, none⟩) (Kd.R_types HO_3.out BK301.out (by decide)) (fun _ hk => hk.2) (.int .i64 ((rd_T25 ((rd_T83 l0 x13_1).f0) x23_2).f0))) (fun _ hk => hk.2) (.int .i64 ((rd_T25 ((rd_T83 l0 x13_1).f0) x23_2).f1))) (fun _ hk => trivial))⟩
                have n1_ : Aside0 (((w40.setCell ⟨gb301, 0, none⟩ (.int .i64 ((rd_T25 ((rd_T83 l0 x13_1).f0) x23_2).f0))).setCell ⟨gb301, 1, none⟩ (.int .i64 ((rd_T25 ((rd_T83 l0 x13_1).f0) x23_2).f1))).heap[gb299]? = some (.cells #[.slice (some ad300) ((rd_T83 l0 x13_1).f0).length c298_0, .bool ((rd_T83 l0 x13_1).f1)] 83 (0, 0))) := ⟨z.bf BK299⟩
                have n2_ : Aside0 (((w40.setCell ⟨gb301, 0, none⟩ (.int .i64 ((rd_T25 ((rd_T83 l0 x13_1).f0) x23_2).f0))).setCell ⟨gb301, 1, none⟩ (.int .i64 ((rd_T25 ((rd_T83 l0 x13_1).f0) x23_2).f1))).heap[gb301]? = some (.cells #[.int .i64 ((rd_T25 ((rd_T83 l0 x13_1).f0) x23_2).f0), .int .i64 ((rd_T25 ((rd_T83 l0 x13_1).f0) x23_2).f1)] 25 (0, 0))) := ⟨by (with_reducible repeat (first | refine blk_drewN ?_ _ | refine blk_drew ?_ | refine blk_alloc ?_ _)); refine blk_put (cs := #[.int .i64 ((rd_T25 ((rd_T83 l0 x13_1).f0) x23_2).f0), .int .i64 0]) ?_ 1 _ rfl; (with_reducible repeat (first | refine blk_drewN ?_ _ | refine blk_drew ?_ | refine blk_alloc ?_ _)); refine blk_put (cs := #[.int .i64 0, .int .i64 0]) ?_ 0 _ rfl; (with_reducible repeat (first | refine blk_drewN ?_ _ | refine blk_drew ?_ | refine blk_alloc ?_ _)); exact BK301.out⟩
                have n3_ : Aside0 (Below w.heap.size w ((w40.setCell ⟨gb301, 0, none⟩ (.int .i64 ((rd_T25 ((rd_T83 l0 x13_1).f0) x23_2).f0))).setCell ⟨gb301, 1, none⟩ (.int .i64 ((rd_T25 ((rd_T83 l0 x13_1).f0) x23_2).f1)))) := ⟨z.bl HB⟩
                (try clear HO_3)
                (try clear BK299)
                (try clear BK301)
                (try clear HB)
                generalize ((w40.setCell ⟨gb301, 0, none⟩ (.int .i64 ((rd_T25 ((rd_T83 l0 x13_1).f0) x23_2).f0))).setCell ⟨gb301, 1, none⟩ (.int .i64 ((rd_T25 ((rd_T83 l0 x13_1).f0) x23_2).f1))) = w43 at n0_ n1_ n2_ n3_ ⊢
                have HO_3 := n0_
                have BK299 := n1_
                have BK301 := n2_
                have HB := n3_
                clear n0_ n1_ n2_ n3_
                replace HO_3 := Aside0.mk (Kd.R_drew HO_3.out)
                replace BK299 := Aside0.mk (blk_drew BK299.out)
                replace BK301 := Aside0.mk (blk_drew BK301.out)
                replace HB := Aside0.mk (below_drew1 HB.out)
                have p302 : 0 ≤ ((ji11) : Int) := of_decide_eq_true (by first | (with_reducible assumption) | assumption)
                have q302 : (ji11) < (((rd_T83 l0 x13_1).f0).length : Int) := of_decide_eq_true (by first | (with_reducible assumption) | assumption)
                obtain ⟨ad302, e302, hx302_0, hx302_1⟩ := at_T25 HR298_0.out (ji11) p302 q302
                have hw302_1 := hx302_1
                have hw302_0 := hx302_0
                obtain rfl : ad300 = ad302 := (by injection e302)
                replace hx302_0 := (HB.out.cell (World.block_lt_of_cell? w _ hx302_0)).trans hx302_0
                replace hx302_1 := (HB.out.cell (World.block_lt_of_cell? w _ hx302_1)).trans hx302_1
                replace p302 := eq_true p302
                replace q302 := eq_true q302
                refine start_ (n := 10) (S := fun w' => w'.cell? ⟨gb299, 0, none⟩ = some (.slice (some ad300) ((rd_T83 l0 x13_1).f0).length c298_0) ∧ w'.cell? ⟨gb299, 1, none⟩ = some (.bool ((rd_T83 l0 x13_1).f1)) ∧ w'.cell? (ad300.add (((ji11)).toNat * 2)) = some (.int .i64 ((rd_T25 ((rd_T83 l0 x13_1).f0) (ji11)).f0)) ∧ w'.cell? ⟨(ad300.add (((ji11)).toNat * 2)).block, (ad300.add (((ji11)).toNat * 2)).off + 1, none⟩ = some (.int .i64 ((rd_T25 ((rd_T83 l0 x13_1).f0) (ji11)).f1))) (ds := []) #[false, false, false, false, false, false, false, false, false, false] (by kernel_rfl) rfl rfl ⟨(blk_cell BK299.out 0).trans rfl, (blk_cell BK299.out 1).trans rfl, ((HB.out.cell (World.block_lt_of_cell? w _ hw302_0)).trans hw302_0), ((HB.out.cell (World.block_lt_of_cell? w _ hw302_1)).trans hw302_1)⟩ (fun hHeld => ?_); refine with_tabW spec_l11Edges.tab9 spec_l11Edges.bits9 (fun HT_ HW_ => ?_)
                generalize w43.drew = w44 at HO_3 BK299 BK301 HB hx302_0 hx302_1 hHeld ⊢
                refine pure_ (i := 0) (N := some 28) (v := ?_) (a' := ?_) #[true, false, false, false, false, false, false, false, false, false] rfl rfl (any_of HT_.out (by kernel_rfl)) (fun _ _ _ h => h) (Or.inl ⟨by rfl, ?_⟩) ?_ ?_
                rotate_left
                ·intro w'
                 go_simp
                 with_reducible rfl
                rotate_left
                ·simp only [Act.put, List.setIfInBounds_toArray, List.set_cons_zero, List.set_cons_succ, i64_w, i32_w]
                 rfl
                refine pure_ (i := 2) (N := some 30) (v := ?_) (a' := ?_) #[true, false, true, false, false, false, false, false, false, false] rfl rfl (any_of HT_.out (by kernel_rfl)) (fun _ _ _ h => h) (Or.inl ⟨by rfl, ?_⟩) ?_ ?_
                rotate_left
                ·intro w'
                 go_simp
                 with_reducible rfl
                rotate_left
                ·simp only [Act.put, List.setIfInBounds_toArray, List.set_cons_zero, List.set_cons_succ, i64_w, i32_w]
                 rfl
                refine pure_ (i := 3) (N := some 31) (v := ?_) (a' := ?_) #[true, false, true, true, false, false, false, false, false, false] rfl rfl (any_of HT_.out (by kernel_rfl)) (fun _ _ _ h => h) (Or.inl ⟨by rfl, ?_⟩) ?_ ?_
                rotate_left
                ·intro w'
                 go_simp
                 with_reducible rfl
                rotate_left
                ·simp only [Act.put, List.setIfInBounds_toArray, List.set_cons_zero, List.set_cons_succ, i64_w, i32_w]
                 rfl
                refine pure_ (i := 4) (N := some 32) (v := ?_) (a' := ?_) #[true, false, true, true, true, false, false, false, false, false] rfl rfl (any_of HT_.out (by kernel_rfl)) (fun _ _ _ h => h) (Or.inl ⟨by rfl, ?_⟩) ?_ ?_
                rotate_left
                ·intro w'
                 go_simp
                 with_reducible rfl
                rotate_left
                ·simp only [Act.put, List.setIfInBounds_toArray, List.set_cons_zero, List.set_cons_succ, i64_w, i32_w]
                 rfl
                refine pure_ (i := 5) (N := some 33) (v := ?_) (a' := ?_) #[true, false, true, true, true, true, false, false, false, false] rfl rfl (any_of HT_.out (by kernel_rfl)) (fun _ _ _ h => h) (Or.inl ⟨by rfl, ?_⟩) ?_ ?_
                rotate_left
                ·intro w'
                 go_simp
                 with_reducible rfl
                rotate_left
                ·simp only [Act.put, List.setIfInBounds_toArray, List.set_cons_zero, List.set_cons_succ, i64_w, i32_w]
                 rfl
                refine take_ (i := 1) (N := some 29) (v := ?_) (a' := ?_) #[true, true, true, true, true, true, false, false, false, false] rfl rfl (take_ofW HT_.out HW_.out (by kernel_rfl)) (fun _ _ _ h => h) (Or.inl ⟨by rfl, ?_⟩) hHeld ?_ ?_
                rotate_left
                ·rintro w' ⟨s0, s1, s2, s3⟩
                 go_simp
                 with_reducible rfl
                rotate_left
                ·simp only [Act.put, List.setIfInBounds_toArray, List.set_cons_zero, List.set_cons_succ, i64_w, i32_w]
                 rfl
                refine pure_ (i := 6) (N := some 34) (v := ?_) (a' := ?_) #[true, true, true, true, true, true, true, false, false, false] rfl rfl (any_of HT_.out (by kernel_rfl)) (fun _ _ _ h => h) (Or.inl ⟨by rfl, ?_⟩) ?_ ?_
                rotate_left
                ·intro w'
                 go_simp
                 with_reducible rfl
                rotate_left
                ·simp only [Act.put, List.setIfInBounds_toArray, List.set_cons_zero, List.set_cons_succ, i64_w, i32_w]
                 rfl
                refine take_ (i := 7) (N := some 35) (v := ?_) (a' := ?_) #[true, true, true, true, true, true, true, true, false, false] rfl rfl (take_ofW HT_.out HW_.out (by kernel_rfl)) (fun _ _ _ h => h) (Or.inl ⟨by rfl, ?_⟩) hHeld ?_ ?_
                rotate_left
                ·rintro w' ⟨s0, s1, s2, s3⟩
                 go_simp
                 with_reducible rfl
                rotate_left
                ·simp only [Act.put, List.setIfInBounds_toArray, List.set_cons_zero, List.set_cons_succ, i64_w, i32_w]
                 rfl
                refine one_ (i := 8) (N := some 9) #[true, true, true, true, true, true, true, true, true, false] rfl rfl (one_of HT_.out (by kernel_rfl)) (by decide) (fun K hK => ?_)
                refine box_step ?hg (N := 9) ?hd (cs := #[.int .i64 0, .int .i64 0]) (t := 25) ?hr ?_; (case hd => rfl); (case hg => rfl); (case hr => first | (go_simp; done) | (go_simp; rfl))
                intro gb303 hg w45 hbox hb
                replace HO_3 := z.rb HO_3 hb
                have BK303 := Aside0.mk (hbox)
                have GW303 := Aside0.mk ((by rw [hg]; exact (below_size (z.bl HB)) : w.heap.size ≤ gb303))
                have GE303 := Aside0.mk ((by rw [hg]; exact (below_size (z.bl HB)) : w.heap.size ≤ gb303))
                replace HB := Aside0.mk (below_step (z.bl HB) hb)
                have NB299_303 := z.ht BK299 hg
                have NB303_299 := z.hu BK299 hg
                replace BK299 := z.bb BK299 hb
                have NB301_303 := z.ht BK301 hg
                have NB303_301 := z.hu BK301 hg
                replace BK301 := z.bb BK301 hb
                clear hb hbox hg
                refine hK.out _ _ ⟨(blk_cell BK299.out 0).trans rfl, (blk_cell BK299.out 1).trans rfl, ((HB.out.cell (World.block_lt_of_cell? w _ hw302_0)).trans hw302_0), ((HB.out.cell (World.block_lt_of_cell? w _ hw302_1)).trans hw302_1)⟩ (fun hHeld => ?_)
                clear hK K
                refine norm_ (a' := ?_) ?_ ?_
                rotate_left
                ·show Act.put _ (some 9) _ = _
                 simp only [Act.put, List.setIfInBounds_toArray, List.set_cons_zero, List.set_cons_succ, i64_w, i32_w]
                 rfl
                refine one_ (i := 9) (N := none) #[true, true, true, true, true, true, true, true, true, true] rfl rfl (one_of HT_.out (by kernel_rfl)) (by decide) (fun K hK => ?_)
                have hs46 : w45.cell? ⟨gb303, 0, none⟩ = some (.int .i64 0) := (blk_cell BK303.out 0).trans rfl
                have hfs46 := blk_frozen BK303.out 0
                have hns46_0 := NB299_303.out
                have hns46_1 := NB301_303.out
                have hms46_0 := NB303_299.out
                have hms46_1 := NB303_301.out
                have hs47 : w45.cell? ⟨gb303, 1, none⟩ = some (.int .i64 0) := (blk_cell BK303.out 1).trans rfl
                have hfs47 := blk_frozen BK303.out 1
                have hns47_0 := NB299_303.out
                have hns47_1 := NB301_303.out
                have hms47_0 := NB303_299.out
                have hms47_1 := NB303_301.out
                refine skip_ (w1 := ?_) (by rfl) rfl ?_ ?_
                rotate_left
                ·go_simp
                 rfl
                refine hK.out _ _ ⟨((cell_far (p := ⟨gb303, _, none⟩) NB299_303.out _).trans (((cell_far (p := ⟨gb303, _, none⟩) NB299_303.out _).trans (hHeld.1)))), ((cell_far (p := ⟨gb303, _, none⟩) NB299_303.out _).trans (((cell_far (p := ⟨gb303, _, none⟩) NB299_303.out _).trans (hHeld.2.1)))), ((cell_far (p := ⟨gb303, _, none⟩) (by first | exact Nat.ne_of_lt (Nat.lt_of_lt_of_le (by have := World.block_lt_of_cell? _ _ hw302_0; first | rwa [add_block] at this | exact this) GW303.out) | (rw [add_block]; exact Nat.ne_of_lt (Nat.lt_of_lt_of_le (by have := World.block_lt_of_cell? _ _ hw302_0; first | rwa [add_block] at this | exact this) GW303.out)) | (show (Addr.add _ _).block ≠ _; rw [add_block]; exact Nat.ne_of_lt (Nat.lt_of_lt_of_le (by have := World.block_lt_of_cell? _ _ hw302_0; first | rwa [add_block] at this | exact this) GW303.out)) | (dsimp only; exact Nat.ne_of_lt (Nat.lt_of_lt_of_le (by have := World.block_lt_of_cell? _ _ hw302_0; first | rwa [add_block] at this | exact this) GW303.out))) _).trans (((cell_far (p := ⟨gb303, _, none⟩) (by first | exact Nat.ne_of_lt (Nat.lt_of_lt_of_le (by have := World.block_lt_of_cell? _ _ hw302_0; first | rwa [add_block] at this | exact this) GW303.out) | (rw [add_block]; exact Nat.ne_of_lt (Nat.lt_of_lt_of_le (by have := World.block_lt_of_cell? _ _ hw302_0; first | rwa [add_block] at this | exact this) GW303.out)) | (show (Addr.add _ _).block ≠ _; rw [add_block]; exact Nat.ne_of_lt (Nat.lt_of_lt_of_le (by have := World.block_lt_of_cell? _ _ hw302_0; first | rwa [add_block] at this | exact this) GW303.out)) | (dsimp only; exact Nat.ne_of_lt (Nat.lt_of_lt_of_le (by have := World.block_lt_of_cell? _ _ hw302_0; first | rwa [add_block] at this | exact this) GW303.out))) _).trans (hHeld.2.2.1)))), ((cell_far (p := ⟨gb303, _, none⟩) (by first | exact Nat.ne_of_lt (Nat.lt_of_lt_of_le (by have := World.block_lt_of_cell? _ _ hw302_1; first | rwa [add_block] at this | exact this) GW303.out) | (rw [add_block]; exact Nat.ne_of_lt (Nat.lt_of_lt_of_le (by have := World.block_lt_of_cell? _ _ hw302_1; first | rwa [add_block] at this | exact this) GW303.out)) | (show (Addr.add _ _).block ≠ _; rw [add_block]; exact Nat.ne_of_lt (Nat.lt_of_lt_of_le (by have := World.block_lt_of_cell? _ _ hw302_1; first | rwa [add_block] at this | exact this) GW303.out)) | (dsimp only; exact Nat.ne_of_lt (Nat.lt_of_lt_of_le (by have := World.block_lt_of_cell? _ _ hw302_1; first | rwa [add_block] at this | exact this) GW303.out))) _).trans (((cell_far (p := ⟨gb303, _, none⟩) (by first | exact Nat.ne_of_lt (Nat.lt_of_lt_of_le (by have := World.block_lt_of_cell? _ _ hw302_1; first | rwa [add_block] at this | exact this) GW303.out) | (rw [add_block]; exact Nat.ne_of_lt (Nat.lt_of_lt_of_le (by have := World.block_lt_of_cell? _ _ hw302_1; first | rwa [add_block] at this | exact this) GW303.out)) | (show (Addr.add _ _).block ≠ _; rw [add_block]; exact Nat.ne_of_lt (Nat.lt_of_lt_of_le (by have := World.block_lt_of_cell? _ _ hw302_1; first | rwa [add_block] at this | exact this) GW303.out)) | (dsimp only; exact Nat.ne_of_lt (Nat.lt_of_lt_of_le (by have := World.block_lt_of_cell? _ _ hw302_1; first | rwa [add_block] at this | exact this) GW303.out))) _).trans (hHeld.2.2.2))))⟩ (fun hHeld => ?_)
                clear hK K
                refine done_ (done_of HT_.out (by kernel_rfl)) ?_
                try go_wp2
                have n0_ : Aside0 (Kd.R k228 228 ((w45.setCell ⟨gb303, 0, none⟩ (.int .i64 ((rd_T25 ((rd_T83 l0 x13_1).f0) (ji11)).f0))).setCell ⟨gb303, 1, none⟩ (.int .i64 ((rd_T25 ((rd_T83 l0 x13_1).f0) (ji11)).f1))) w.heap.size (fun _ => True) u3 x3_2) := ⟨z.rl (Kd.R_mono (Kd.R_far (p := ⟨gb303, 1, none⟩) (Kd.R_far (p := ⟨gb303, 0, none⟩) (Kd.R_types HO_3.out BK303.out (by decide)) (fun _ hk => hk.2) (.int .i64 ((rd_T25 ((rd_T83 l0 x13_1).f0) (ji11)).f0))) (fun _ hk => hk.2) (.int .i64 ((rd_T25 ((rd_T83 l0 x13_1).f0) (ji11)).f1))) (fun _ hk => trivial))⟩
                have n1_ : Aside0 (((w45.setCell ⟨gb303, 0, none⟩ (.int .i64 ((rd_T25 ((rd_T83 l0 x13_1).f0) (ji11)).f0))).setCell ⟨gb303, 1, none⟩ (.int .i64 ((rd_T25 ((rd_T83 l0 x13_1).f0) (ji11)).f1))).heap[gb299]? = some (.cells #[.slice (some ad300) ((rd_T83 l0 x13_1).f0).length c298_0, .bool ((rd_T83 l0 x13_1).f1)] 83 (0, 0))) := ⟨z.bf BK299⟩
                have n2_ : Aside0 (((w45.setCell ⟨gb303, 0, none⟩ (.int .i64 ((rd_T25 ((rd_T83 l0 x13_1).f0) (ji11)).f0))).setCell ⟨gb303, 1, none⟩ (.int .i64 ((rd_T25 ((rd_T83 l0 x13_1).f0) (ji11)).f1))).heap[gb301]? = some (.cells #[.int .i64 ((rd_T25 ((rd_T83 l0 x13_1).f0) x23_2).f0), .int .i64 ((rd_T25 ((rd_T83 l0 x13_1).f0) x23_2).f1)] 25 (0, 0))) := ⟨z.bf BK301⟩
                have n3_ : Aside0 (((w45.setCell ⟨gb303, 0, none⟩ (.int .i64 ((rd_T25 ((rd_T83 l0 x13_1).f0) (ji11)).f0))).setCell ⟨gb303, 1, none⟩ (.int .i64 ((rd_T25 ((rd_T83 l0 x13_1).f0) (ji11)).f1))).heap[gb303]? = some (.cells #[.int .i64 ((rd_T25 ((rd_T83 l0 x13_1).f0) (ji11)).f0), .int .i64 ((rd_T25 ((rd_T83 l0 x13_1).f0) (ji11)).f1)] 25 (0, 0))) := ⟨by (with_reducible repeat (first | refine blk_drewN ?_ _ | refine blk_drew ?_ | refine blk_alloc ?_ _)); refine blk_put (cs := #[.int .i64 ((rd_T25 ((rd_T83 l0 x13_1).f0) (ji11)).f0), .int .i64 0]) ?_ 1 _ rfl; (with_reducible repeat (first | refine blk_drewN ?_ _ | refine blk_drew ?_ | refine blk_alloc ?_ _)); refine blk_put (cs := #[.int .i64 0, .int .i64 0]) ?_ 0 _ rfl; (with_reducible repeat (first | refine blk_drewN ?_ _ | refine blk_drew ?_ | refine blk_alloc ?_ _)); exact BK303.out⟩
                have n4_ : Aside0 (Below w.heap.size w ((w45.setCell ⟨gb303, 0, none⟩ (.int .i64 ((rd_T25 ((rd_T83 l0 x13_1).f0) (ji11)).f0))).setCell ⟨gb303, 1, none⟩ (.int .i64 ((rd_T25 ((rd_T83 l0 x13_1).f0) (ji11)).f1)))) := ⟨z.bl HB⟩
                (try clear HO_3)
                (try clear BK299)
                (try clear BK301)
                (try clear BK303)
                (try clear HB)
                generalize ((w45.setCell ⟨gb303, 0, none⟩ (.int .i64 ((rd_T25 ((rd_T83 l0 x13_1).f0) (ji11)).f0))).setCell ⟨gb303, 1, none⟩ (.int .i64 ((rd_T25 ((rd_T83 l0 x13_1).f0) (ji11)).f1))) = w48 at n0_ n1_ n2_ n3_ n4_ ⊢
                have HO_3 := n0_
                have BK299 := n1_
                have BK301 := n2_
                have BK303 := n3_
                have HB := n4_
                clear n0_ n1_ n2_ n3_ n4_
                replace HO_3 := Aside0.mk (Kd.R_drew HO_3.out)
                replace BK299 := Aside0.mk (blk_drew BK299.out)
                replace BK301 := Aside0.mk (blk_drew BK301.out)
                replace BK303 := Aside0.mk (blk_drew BK303.out)
                replace HB := Aside0.mk (below_drew1 HB.out)
                refine start_ (n := 15) (S := fun w' => w'.cell? ⟨gb301, 0, none⟩ = some (.int .i64 ((rd_T25 ((rd_T83 l0 x13_1).f0) x23_2).f0)) ∧ w'.cell? ⟨gb301, 1, none⟩ = some (.int .i64 ((rd_T25 ((rd_T83 l0 x13_1).f0) x23_2).f1)) ∧ w'.cell? ⟨gb303, 0, none⟩ = some (.int .i64 ((rd_T25 ((rd_T83 l0 x13_1).f0) (ji11)).f0)) ∧ w'.cell? ⟨gb303, 1, none⟩ = some (.int .i64 ((rd_T25 ((rd_T83 l0 x13_1).f0) (ji11)).f1))) (ds := []) #[false, false, false, false, false, false, false, false, false, false, false, false, false, false, false] (by kernel_rfl) rfl rfl ⟨(blk_cell BK301.out 0).trans rfl, (blk_cell BK301.out 1).trans rfl, (blk_cell BK303.out 0).trans rfl, (blk_cell BK303.out 1).trans rfl⟩ (fun hHeld => ?_); refine with_tabW spec_l11Edges.tab10 spec_l11Edges.bits10 (fun HT_ HW_ => ?_)
                generalize w48.drew = w49 at HO_3 BK299 BK301 BK303 HB hHeld ⊢
                refine pure_ (i := 0) (N := some 36) (v := ?_) (a' := ?_) #[true, false, false, false, false, false, false, false, false, false, false, false, false, false, false] rfl rfl (any_of HT_.out (by kernel_rfl)) (fun _ _ _ h => h) (Or.inl ⟨by rfl, ?_⟩) ?_ ?_
                rotate_left
                ·intro w'
                 go_simp
                 with_reducible rfl
                rotate_left
                ·simp only [Act.put, List.setIfInBounds_toArray, List.set_cons_zero, List.set_cons_succ, i64_w, i32_w]
                 rfl
                refine pure_ (i := 3) (N := some 39) (v := ?_) (a' := ?_) #[true, false, false, true, false, false, false, false, false, false, false, false, false, false, false] rfl rfl (any_of HT_.out (by kernel_rfl)) (fun _ _ _ h => h) (Or.inl ⟨by rfl, ?_⟩) ?_ ?_
                rotate_left
                ·intro w'
                 go_simp
                 with_reducible rfl
                rotate_left
                ·simp only [Act.put, List.setIfInBounds_toArray, List.set_cons_zero, List.set_cons_succ, i64_w, i32_w]
                 rfl
                refine pure_ (i := 6) (N := some 42) (v := ?_) (a' := ?_) #[true, false, false, true, false, false, true, false, false, false, false, false, false, false, false] rfl rfl (any_of HT_.out (by kernel_rfl)) (fun _ _ _ h => h) (Or.inl ⟨by rfl, ?_⟩) ?_ ?_
                rotate_left
                ·intro w'
                 go_simp
                 with_reducible rfl
                rotate_left
                ·simp only [Act.put, List.setIfInBounds_toArray, List.set_cons_zero, List.set_cons_succ, i64_w, i32_w]
                 rfl
                refine pure_ (i := 9) (N := some 45) (v := ?_) (a' := ?_) #[true, false, false, true, false, false, true, false, false, true, false, false, false, false, false] rfl rfl (any_of HT_.out (by kernel_rfl)) (fun _ _ _ h => h) (Or.inl ⟨by rfl, ?_⟩) ?_ ?_
                rotate_left
                ·intro w'
                 go_simp
                 with_reducible rfl
                rotate_left
                ·simp only [Act.put, List.setIfInBounds_toArray, List.set_cons_zero, List.set_cons_succ, i64_w, i32_w]
                 rfl
                refine take_ (i := 1) (N := some 37) (v := ?_) (a' := ?_) #[true, true, false, true, false, false, true, false, false, true, false, false, false, false, false] rfl rfl (take_ofW HT_.out HW_.out (by kernel_rfl)) (fun _ _ _ h => h) (Or.inl ⟨by rfl, ?_⟩) hHeld ?_ ?_
                rotate_left
                ·rintro w' ⟨s0, s1, s2, s3⟩
                 go_simp
                 with_reducible rfl
                rotate_left
                ·simp only [Act.put, List.setIfInBounds_toArray, List.set_cons_zero, List.set_cons_succ, i64_w, i32_w]
                 rfl
                refine take_ (i := 4) (N := some 40) (v := ?_) (a' := ?_) #[true, true, false, true, true, false, true, false, false, true, false, false, false, false, false] rfl rfl (take_ofW HT_.out HW_.out (by kernel_rfl)) (fun _ _ _ h => h) (Or.inl ⟨by rfl, ?_⟩) hHeld ?_ ?_
                rotate_left
                ·rintro w' ⟨s0, s1, s2, s3⟩
                 go_simp
                 with_reducible rfl
                rotate_left
                ·simp only [Act.put, List.setIfInBounds_toArray, List.set_cons_zero, List.set_cons_succ, i64_w, i32_w]
                 rfl
                refine take_ (i := 7) (N := some 43) (v := ?_) (a' := ?_) #[true, true, false, true, true, false, true, true, false, true, false, false, false, false, false] rfl rfl (take_ofW HT_.out HW_.out (by kernel_rfl)) (fun _ _ _ h => h) (Or.inl ⟨by rfl, ?_⟩) hHeld ?_ ?_
                rotate_left
                ·rintro w' ⟨s0, s1, s2, s3⟩
                 go_simp
                 with_reducible rfl
                rotate_left
                ·simp only [Act.put, List.setIfInBounds_toArray, List.set_cons_zero, List.set_cons_succ, i64_w, i32_w]
                 rfl
                refine take_ (i := 10) (N := some 46) (v := ?_) (a' := ?_) #[true, true, false, true, true, false, true, true, false, true, true, false, false, false, false] rfl rfl (take_ofW HT_.out HW_.out (by kernel_rfl)) (fun _ _ _ h => h) (Or.inl ⟨by rfl, ?_⟩) hHeld ?_ ?_
                rotate_left
                ·rintro w' ⟨s0, s1, s2, s3⟩
                 go_simp
                 with_reducible rfl
                rotate_left
                ·simp only [Act.put, List.setIfInBounds_toArray, List.set_cons_zero, List.set_cons_succ, i64_w, i32_w]
                 rfl
                refine join_ (σ := Nat) 1 #[true, true, true, true, true, true, true, true, true, true, true, true, true, true, false] (fun s_ => [(38, .int .i64 t304), (41, .int .i64 t305), (44, .int .i64 t306), (47, .int .i64 t307), (10, .pointer (some ⟨s_, 0, none⟩)), (48, .agg #[.int .i64 t304, .int .i64 t305, .int .i64 t306, .int .i64 t307])]) (fun s_ w' => (w'.cell? ⟨gb301, 0, none⟩ = some (.int .i64 ((rd_T25 ((rd_T83 l0 x13_1).f0) x23_2).f0)) ∧ w'.cell? ⟨gb301, 1, none⟩ = some (.int .i64 ((rd_T25 ((rd_T83 l0 x13_1).f0) x23_2).f1)) ∧ w'.cell? ⟨gb303, 0, none⟩ = some (.int .i64 ((rd_T25 ((rd_T83 l0 x13_1).f0) (ji11)).f0)) ∧ w'.cell? ⟨gb303, 1, none⟩ = some (.int .i64 ((rd_T25 ((rd_T83 l0 x13_1).f0) (ji11)).f1))) ∧ (Kd.R k228 228 w' w.heap.size (fun k_ => k_ ≠ s_) u3 x3_2) ∧ (w'.heap[gb299]? = some (.cells #[.slice (some ad300) ((rd_T83 l0 x13_1).f0).length c298_0, .bool ((rd_T83 l0 x13_1).f1)] 83 (0, 0))) ∧ (w'.heap[gb301]? = some (.cells #[.int .i64 ((rd_T25 ((rd_T83 l0 x13_1).f0) x23_2).f0), .int .i64 ((rd_T25 ((rd_T83 l0 x13_1).f0) x23_2).f1)] 25 (0, 0))) ∧ (w'.heap[gb303]? = some (.cells #[.int .i64 ((rd_T25 ((rd_T83 l0 x13_1).f0) (ji11)).f0), .int .i64 ((rd_T25 ((rd_T83 l0 x13_1).f0) (ji11)).f1)] 25 (0, 0))) ∧ (w'.heap[s_]? = some (.cells #[.int .i64 0, .int .i64 0, .int .i64 0, .int .i64 0] 228 (0, 0))) ∧ (w.heap.size ≤ s_) ∧ (w.heap.size ≤ s_) ∧ (gb299 ≠ s_) ∧ (s_ ≠ gb299) ∧ (gb301 ≠ s_) ∧ (s_ ≠ gb301) ∧ (gb303 ≠ s_) ∧ (s_ ≠ gb303) ∧ (Below w.heap.size w w')) ?_ ?_
                rotate_left
                ·intro hJ2_5_8_11_13
                 refine join_ (σ := Unit) 2 #[true, true, true, true, true, true, true, true, true, true, true, true, true, false, false] (fun s_ => [(38, .int .i64 t304), (41, .int .i64 t305), (44, .int .i64 t306), (47, .int .i64 t307), (48, .agg #[.int .i64 t304, .int .i64 t305, .int .i64 t306, .int .i64 t307])]) (fun s_ w' => (w'.cell? ⟨gb301, 0, none⟩ = some (.int .i64 ((rd_T25 ((rd_T83 l0 x13_1).f0) x23_2).f0)) ∧ w'.cell? ⟨gb301, 1, none⟩ = some (.int .i64 ((rd_T25 ((rd_T83 l0 x13_1).f0) x23_2).f1)) ∧ w'.cell? ⟨gb303, 0, none⟩ = some (.int .i64 ((rd_T25 ((rd_T83 l0 x13_1).f0) (ji11)).f0)) ∧ w'.cell? ⟨gb303, 1, none⟩ = some (.int .i64 ((rd_T25 ((rd_T83 l0 x13_1).f0) (ji11)).f1))) ∧ (Kd.R k228 228 w' w.heap.size (fun _ => True) u3 x3_2) ∧ (w'.heap[gb299]? = some (.cells #[.slice (some ad300) ((rd_T83 l0 x13_1).f0).length c298_0, .bool ((rd_T83 l0 x13_1).f1)] 83 (0, 0))) ∧ (w'.heap[gb301]? = some (.cells #[.int .i64 ((rd_T25 ((rd_T83 l0 x13_1).f0) x23_2).f0), .int .i64 ((rd_T25 ((rd_T83 l0 x13_1).f0) x23_2).f1)] 25 (0, 0))) ∧ (w'.heap[gb303]? = some (.cells #[.int .i64 ((rd_T25 ((rd_T83 l0 x13_1).f0) (ji11)).f0), .int .i64 ((rd_T25 ((rd_T83 l0 x13_1).f0) (ji11)).f1)] 25 (0, 0))) ∧ (Below w.heap.size w w')) ?_ ?_
                 rotate_left
                 ·intro hJ2_5_8_11
                  refine join_ (σ := Nat) 3 #[true, true, true, true, true, true, true, true, true, true, true, false, false, true, false] (fun s_ => [(38, .int .i64 t304), (41, .int .i64 t305), (44, .int .i64 t306), (10, .pointer (some ⟨s_, 0, none⟩))]) (fun s_ w' => (w'.cell? ⟨gb301, 0, none⟩ = some (.int .i64 ((rd_T25 ((rd_T83 l0 x13_1).f0) x23_2).f0)) ∧ w'.cell? ⟨gb301, 1, none⟩ = some (.int .i64 ((rd_T25 ((rd_T83 l0 x13_1).f0) x23_2).f1)) ∧ w'.cell? ⟨gb303, 0, none⟩ = some (.int .i64 ((rd_T25 ((rd_T83 l0 x13_1).f0) (ji11)).f0)) ∧ w'.cell? ⟨gb303, 1, none⟩ = some (.int .i64 ((rd_T25 ((rd_T83 l0 x13_1).f0) (ji11)).f1))) ∧ (Kd.R k228 228 w' w.heap.size (fun k_ => k_ ≠ s_) u3 x3_2) ∧ (w'.heap[gb299]? = some (.cells #[.slice (some ad300) ((rd_T83 l0 x13_1).f0).length c298_0, .bool ((rd_T83 l0 x13_1).f1)] 83 (0, 0))) ∧ (w'.heap[gb301]? = some (.cells #[.int .i64 ((rd_T25 ((rd_T83 l0 x13_1).f0) x23_2).f0), .int .i64 ((rd_T25 ((rd_T83 l0 x13_1).f0) x23_2).f1)] 25 (0, 0))) ∧ (w'.heap[gb303]? = some (.cells #[.int .i64 ((rd_T25 ((rd_T83 l0 x13_1).f0) (ji11)).f0), .int .i64 ((rd_T25 ((rd_T83 l0 x13_1).f0) (ji11)).f1)] 25 (0, 0))) ∧ (w'.heap[s_]? = some (.cells #[.int .i64 0, .int .i64 0, .int .i64 0, .int .i64 0] 228 (0, 0))) ∧ (w.heap.size ≤ s_) ∧ (w.heap.size ≤ s_) ∧ (gb299 ≠ s_) ∧ (s_ ≠ gb299) ∧ (gb301 ≠ s_) ∧ (s_ ≠ gb301) ∧ (gb303 ≠ s_) ∧ (s_ ≠ gb303) ∧ (Below w.heap.size w w')) ?_ ?_
                  rotate_left
                  ·intro hJ2_5_8_13
                   refine join_ (σ := Unit) 4 #[true, true, true, true, true, true, true, true, true, true, true, false, false, false, false] (fun s_ => [(38, .int .i64 t304), (41, .int .i64 t305), (44, .int .i64 t306)]) (fun s_ w' => (w'.cell? ⟨gb301, 0, none⟩ = some (.int .i64 ((rd_T25 ((rd_T83 l0 x13_1).f0) x23_2).f0)) ∧ w'.cell? ⟨gb301, 1, none⟩ = some (.int .i64 ((rd_T25 ((rd_T83 l0 x13_1).f0) x23_2).f1)) ∧ w'.cell? ⟨gb303, 0, none⟩ = some (.int .i64 ((rd_T25 ((rd_T83 l0 x13_1).f0) (ji11)).f0)) ∧ w'.cell? ⟨gb303, 1, none⟩ = some (.int .i64 ((rd_T25 ((rd_T83 l0 x13_1).f0) (ji11)).f1))) ∧ (Kd.R k228 228 w' w.heap.size (fun _ => True) u3 x3_2) ∧ (w'.heap[gb299]? = some (.cells #[.slice (some ad300) ((rd_T83 l0 x13_1).f0).length c298_0, .bool ((rd_T83 l0 x13_1).f1)] 83 (0, 0))) ∧ (w'.heap[gb301]? = some (.cells #[.int .i64 ((rd_T25 ((rd_T83 l0 x13_1).f0) x23_2).f0), .int .i64 ((rd_T25 ((rd_T83 l0 x13_1).f0) x23_2).f1)] 25 (0, 0))) ∧ (w'.heap[gb303]? = some (.cells #[.int .i64 ((rd_T25 ((rd_T83 l0 x13_1).f0) (ji11)).f0), .int .i64 ((rd_T25 ((rd_T83 l0 x13_1).f0) (ji11)).f1)] 25 (0, 0))) ∧ (Below w.heap.size w w')) ?_ ?_
                   rotate_left
                   ·intro hJ2_5_8
                    refine join_ (σ := Nat) 4 #[true, true, true, true, true, true, true, true, false, true, true, false, false, true, false] (fun s_ => [(38, .int .i64 t304), (41, .int .i64 t305), (10, .pointer (some ⟨s_, 0, none⟩))]) (fun s_ w' => (w'.cell? ⟨gb301, 0, none⟩ = some (.int .i64 ((rd_T25 ((rd_T83 l0 x13_1).f0) x23_2).f0)) ∧ w'.cell? ⟨gb301, 1, none⟩ = some (.int .i64 ((rd_T25 ((rd_T83 l0 x13_1).f0) x23_2).f1)) ∧ w'.cell? ⟨gb303, 0, none⟩ = some (.int .i64 ((rd_T25 ((rd_T83 l0 x13_1).f0) (ji11)).f0)) ∧ w'.cell? ⟨gb303, 1, none⟩ = some (.int .i64 ((rd_T25 ((rd_T83 l0 x13_1).f0) (ji11)).f1))) ∧ (Kd.R k228 228 w' w.heap.size (fun k_ => k_ ≠ s_) u3 x3_2) ∧ (w'.heap[gb299]? = some (.cells #[.slice (some ad300) ((rd_T83 l0 x13_1).f0).length c298_0, .bool ((rd_T83 l0 x13_1).f1)] 83 (0, 0))) ∧ (w'.heap[gb301]? = some (.cells #[.int .i64 ((rd_T25 ((rd_T83 l0 x13_1).f0) x23_2).f0), .int .i64 ((rd_T25 ((rd_T83 l0 x13_1).f0) x23_2).f1)] 25 (0, 0))) ∧ (w'.heap[gb303]? = some (.cells #[.int .i64 ((rd_T25 ((rd_T83 l0 x13_1).f0) (ji11)).f0), .int .i64 ((rd_T25 ((rd_T83 l0 x13_1).f0) (ji11)).f1)] 25 (0, 0))) ∧ (w'.heap[s_]? = some (.cells #[.int .i64 0, .int .i64 0, .int .i64 0, .int .i64 0] 228 (0, 0))) ∧ (w.heap.size ≤ s_) ∧ (w.heap.size ≤ s_) ∧ (gb299 ≠ s_) ∧ (s_ ≠ gb299) ∧ (gb301 ≠ s_) ∧ (s_ ≠ gb301) ∧ (gb303 ≠ s_) ∧ (s_ ≠ gb303) ∧ (Below w.heap.size w w')) ?_ ?_
                    rotate_left
                    ·intro hJ2_5_13
                     refine join_ (σ := Unit) 5 #[true, true, true, true, true, true, true, true, false, true, true, false, false, false, false] (fun s_ => [(38, .int .i64 t304), (41, .int .i64 t305)]) (fun s_ w' => (w'.cell? ⟨gb301, 0, none⟩ = some (.int .i64 ((rd_T25 ((rd_T83 l0 x13_1).f0) x23_2).f0)) ∧ w'.cell? ⟨gb301, 1, none⟩ = some (.int .i64 ((rd_T25 ((rd_T83 l0 x13_1).f0) x23_2).f1)) ∧ w'.cell? ⟨gb303, 0, none⟩ = some (.int .i64 ((rd_T25 ((rd_T83 l0 x13_1).f0) (ji11)).f0)) ∧ w'.cell? ⟨gb303, 1, none⟩ = some (.int .i64 ((rd_T25 ((rd_T83 l0 x13_1).f0) (ji11)).f1))) ∧ (Kd.R k228 228 w' w.heap.size (fun _ => True) u3 x3_2) ∧ (w'.heap[gb299]? = some (.cells #[.slice (some ad300) ((rd_T83 l0 x13_1).f0).length c298_0, .bool ((rd_T83 l0 x13_1).f1)] 83 (0, 0))) ∧ (w'.heap[gb301]? = some (.cells #[.int .i64 ((rd_T25 ((rd_T83 l0 x13_1).f0) x23_2).f0), .int .i64 ((rd_T25 ((rd_T83 l0 x13_1).f0) x23_2).f1)] 25 (0, 0))) ∧ (w'.heap[gb303]? = some (.cells #[.int .i64 ((rd_T25 ((rd_T83 l0 x13_1).f0) (ji11)).f0), .int .i64 ((rd_T25 ((rd_T83 l0 x13_1).f0) (ji11)).f1)] 25 (0, 0))) ∧ (Below w.heap.size w w')) ?_ ?_
                     rotate_left
                     ·intro hJ2_5
                      refine join_ (σ := Nat) 5 #[true, true, true, true, true, false, true, true, false, true, true, false, false, true, false] (fun s_ => [(38, .int .i64 t304), (10, .pointer (some ⟨s_, 0, none⟩))]) (fun s_ w' => (w'.cell? ⟨gb301, 0, none⟩ = some (.int .i64 ((rd_T25 ((rd_T83 l0 x13_1).f0) x23_2).f0)) ∧ w'.cell? ⟨gb301, 1, none⟩ = some (.int .i64 ((rd_T25 ((rd_T83 l0 x13_1).f0) x23_2).f1)) ∧ w'.cell? ⟨gb303, 0, none⟩ = some (.int .i64 ((rd_T25 ((rd_T83 l0 x13_1).f0) (ji11)).f0)) ∧ w'.cell? ⟨gb303, 1, none⟩ = some (.int .i64 ((rd_T25 ((rd_T83 l0 x13_1).f0) (ji11)).f1))) ∧ (Kd.R k228 228 w' w.heap.size (fun k_ => k_ ≠ s_) u3 x3_2) ∧ (w'.heap[gb299]? = some (.cells #[.slice (some ad300) ((rd_T83 l0 x13_1).f0).length c298_0, .bool ((rd_T83 l0 x13_1).f1)] 83 (0, 0))) ∧ (w'.heap[gb301]? = some (.cells #[.int .i64 ((rd_T25 ((rd_T83 l0 x13_1).f0) x23_2).f0), .int .i64 ((rd_T25 ((rd_T83 l0 x13_1).f0) x23_2).f1)] 25 (0, 0))) ∧ (w'.heap[gb303]? = some (.cells #[.int .i64 ((rd_T25 ((rd_T83 l0 x13_1).f0) (ji11)).f0), .int .i64 ((rd_T25 ((rd_T83 l0 x13_1).f0) (ji11)).f1)] 25 (0, 0))) ∧ (w'.heap[s_]? = some (.cells #[.int .i64 0, .int .i64 0, .int .i64 0, .int .i64 0] 228 (0, 0))) ∧ (w.heap.size ≤ s_) ∧ (w.heap.size ≤ s_) ∧ (gb299 ≠ s_) ∧ (s_ ≠ gb299) ∧ (gb301 ≠ s_) ∧ (s_ ≠ gb301) ∧ (gb303 ≠ s_) ∧ (s_ ≠ gb303) ∧ (Below w.heap.size w w')) ?_ ?_
                      rotate_left
                      ·intro hJ2_13
                       refine join_ (σ := Unit) 6 #[true, true, true, true, true, false, true, true, false, true, true, false, false, false, false] (fun s_ => [(38, .int .i64 t304)]) (fun s_ w' => (w'.cell? ⟨gb301, 0, none⟩ = some (.int .i64 ((rd_T25 ((rd_T83 l0 x13_1).f0) x23_2).f0)) ∧ w'.cell? ⟨gb301, 1, none⟩ = some (.int .i64 ((rd_T25 ((rd_T83 l0 x13_1).f0) x23_2).f1)) ∧ w'.cell? ⟨gb303, 0, none⟩ = some (.int .i64 ((rd_T25 ((rd_T83 l0 x13_1).f0) (ji11)).f0)) ∧ w'.cell? ⟨gb303, 1, none⟩ = some (.int .i64 ((rd_T25 ((rd_T83 l0 x13_1).f0) (ji11)).f1))) ∧ (Kd.R k228 228 w' w.heap.size (fun _ => True) u3 x3_2) ∧ (w'.heap[gb299]? = some (.cells #[.slice (some ad300) ((rd_T83 l0 x13_1).f0).length c298_0, .bool ((rd_T83 l0 x13_1).f1)] 83 (0, 0))) ∧ (w'.heap[gb301]? = some (.cells #[.int .i64 ((rd_T25 ((rd_T83 l0 x13_1).f0) x23_2).f0), .int .i64 ((rd_T25 ((rd_T83 l0 x13_1).f0) x23_2).f1)] 25 (0, 0))) ∧ (w'.heap[gb303]? = some (.cells #[.int .i64 ((rd_T25 ((rd_T83 l0 x13_1).f0) (ji11)).f0), .int .i64 ((rd_T25 ((rd_T83 l0 x13_1).f0) (ji11)).f1)] 25 (0, 0))) ∧ (Below w.heap.size w w')) ?_ ?_
                       rotate_left
                       ·intro hJ2
                        refine join_ (σ := Nat) 6 #[true, true, false, true, true, false, true, true, false, true, true, false, false, true, false] (fun s_ => [(10, .pointer (some ⟨s_, 0, none⟩))]) (fun s_ w' => (w'.cell? ⟨gb301, 0, none⟩ = some (.int .i64 ((rd_T25 ((rd_T83 l0 x13_1).f0) x23_2).f0)) ∧ w'.cell? ⟨gb301, 1, none⟩ = some (.int .i64 ((rd_T25 ((rd_T83 l0 x13_1).f0) x23_2).f1)) ∧ w'.cell? ⟨gb303, 0, none⟩ = some (.int .i64 ((rd_T25 ((rd_T83 l0 x13_1).f0) (ji11)).f0)) ∧ w'.cell? ⟨gb303, 1, none⟩ = some (.int .i64 ((rd_T25 ((rd_T83 l0 x13_1).f0) (ji11)).f1))) ∧ (Kd.R k228 228 w' w.heap.size (fun k_ => k_ ≠ s_) u3 x3_2) ∧ (w'.heap[gb299]? = some (.cells #[.slice (some ad300) ((rd_T83 l0 x13_1).f0).length c298_0, .bool ((rd_T83 l0 x13_1).f1)] 83 (0, 0))) ∧ (w'.heap[gb301]? = some (.cells #[.int .i64 ((rd_T25 ((rd_T83 l0 x13_1).f0) x23_2).f0), .int .i64 ((rd_T25 ((rd_T83 l0 x13_1).f0) x23_2).f1)] 25 (0, 0))) ∧ (w'.heap[gb303]? = some (.cells #[.int .i64 ((rd_T25 ((rd_T83 l0 x13_1).f0) (ji11)).f0), .int .i64 ((rd_T25 ((rd_T83 l0 x13_1).f0) (ji11)).f1)] 25 (0, 0))) ∧ (w'.heap[s_]? = some (.cells #[.int .i64 0, .int .i64 0, .int .i64 0, .int .i64 0] 228 (0, 0))) ∧ (w.heap.size ≤ s_) ∧ (w.heap.size ≤ s_) ∧ (gb299 ≠ s_) ∧ (s_ ≠ gb299) ∧ (gb301 ≠ s_) ∧ (s_ ≠ gb301) ∧ (gb303 ≠ s_) ∧ (s_ ≠ gb303) ∧ (Below w.heap.size w w')) ?_ ?_
                        rotate_left
                        ·intro hJ13
                         refine two_ (i := 2) (j := 13) (Ni := some 38) (Nj := some 10) #[true, true, true, true, true, false, true, true, false, true, true, false, false, false, false] #[true, true, false, true, true, false, true, true, false, true, true, false, false, true, false] rfl rfl rfl rfl (two_of HT_.out (by kernel_rfl)) (by decide) (by decide) (fun K hK => ?_) (fun K hK => ?_)
                         ·skip
                          refine z.gs Try.func213 (by kernel_rfl) rfl #[.int .i64 ((rd_T25 ((rd_T83 l0 x13_1).f0) x23_2).f0)] (by rfl) rfl rfl ?_
                          with_reducible refine (spec_l11Fine.calls ((rd_T25 ((rd_T83 l0 x13_1).f0) x23_2).f0) t304 _ A14.out).mono ?_
                          rintro e w' ⟨rfl, ⟨nd, rfl⟩⟩
                          refine ⟨_, rfl, ?_⟩
                          refine hK.out _ _ ⟨(blk_cell BK301.out 0).trans rfl, (blk_cell BK301.out 1).trans rfl, (blk_cell BK303.out 0).trans rfl, (blk_cell BK303.out 1).trans rfl⟩ (fun hHeld => ?_)
                          clear hK K
                          refine norm_ (a' := ?_) ?_ ?_
                          rotate_left
                          ·show Act.put _ (some 38) _ = _
                           simp only [Act.put, List.setIfInBounds_toArray, List.set_cons_zero, List.set_cons_succ, i64_w, i32_w]
                           rfl
                          exact norm_ (by first | (simp only [putAll, Act.put, List.setIfInBounds_toArray, List.set_cons_zero, List.set_cons_succ]; done) | (simp only [putAll, Act.put, List.setIfInBounds_toArray, List.set_cons_zero, List.set_cons_succ]; rfl)) (hJ2 () _ ⟨hHeld, (z.rl HO_3.out), (z.bk BK299), (z.bk BK301), (z.bk BK303), (z.bl HB)⟩)
                         ·skip
                          refine box_step ?hg (N := 10) ?hd (cs := #[.int .i64 0, .int .i64 0, .int .i64 0, .int .i64 0]) (t := 228) ?hr ?_; (case hd => rfl); (case hg => rfl); (case hr => first | (go_simp; done) | (go_simp; rfl))
                          intro gb308 hg w50 hbox hb
                          replace HO_3 := Aside0.mk (Kd.R_below (Kd.R_elderB (z.rl HO_3.out) gb308 (Nat.le_of_eq hg.symm)) hb)
                          have BK308 := Aside0.mk (hbox)
                          have GW308 := Aside0.mk ((by rw [hg]; exact (below_size (z.bl HB)) : w.heap.size ≤ gb308))
                          have GE308 := Aside0.mk ((by rw [hg]; exact (below_size (z.bl HB)) : w.heap.size ≤ gb308))
                          replace HB := Aside0.mk (below_step (z.bl HB) hb)
                          have NB299_308 := z.ht BK299 hg
                          have NB308_299 := z.hu BK299 hg
                          replace BK299 := z.bb BK299 hb
                          have NB301_308 := z.ht BK301 hg
                          have NB308_301 := z.hu BK301 hg
                          replace BK301 := z.bb BK301 hb
                          have NB303_308 := z.ht BK303 hg
                          have NB308_303 := z.hu BK303 hg
                          replace BK303 := z.bb BK303 hb
                          clear hb hbox hg
                          refine hK.out _ _ ⟨(blk_cell BK301.out 0).trans rfl, (blk_cell BK301.out 1).trans rfl, (blk_cell BK303.out 0).trans rfl, (blk_cell BK303.out 1).trans rfl⟩ (fun hHeld => ?_)
                          clear hK K
                          refine norm_ (a' := ?_) ?_ ?_
                          rotate_left
                          ·show Act.put _ (some 10) _ = _
                           simp only [Act.put, List.setIfInBounds_toArray, List.set_cons_zero, List.set_cons_succ, i64_w, i32_w]
                           rfl
                          exact norm_ (by first | (simp only [putAll, Act.put, List.setIfInBounds_toArray, List.set_cons_zero, List.set_cons_succ]; done) | (simp only [putAll, Act.put, List.setIfInBounds_toArray, List.set_cons_zero, List.set_cons_succ]; rfl)) (hJ13 (gb308) _ ⟨hHeld, (z.rl (Kd.R_mono HO_3.out (fun _ hk => hk.2))), (z.bk BK299), (z.bk BK301), (z.bk BK303), (z.bk BK308), GW308.out, GE308.out, NB299_308.out, NB308_299.out, NB301_308.out, NB308_301.out, NB303_308.out, NB308_303.out, (z.bl HB)⟩)
                        ·skip
                         rintro gb308 w51 ⟨hS_, h0_, h1_, h2_, h3_, h4_, h5_, h6_, h7_, h8_, h9_, h10_, h11_, h12_, h13_⟩
                         have n0_ : Aside0 (Kd.R k228 228 w51 w.heap.size (fun k_ => k_ ≠ gb308) u3 x3_2) := ⟨h0_⟩
                         have n1_ : Aside0 (w51.heap[gb299]? = some (.cells #[.slice (some ad300) ((rd_T83 l0 x13_1).f0).length c298_0, .bool ((rd_T83 l0 x13_1).f1)] 83 (0, 0))) := ⟨h1_⟩
                         have n2_ : Aside0 (w51.heap[gb301]? = some (.cells #[.int .i64 ((rd_T25 ((rd_T83 l0 x13_1).f0) x23_2).f0), .int .i64 ((rd_T25 ((rd_T83 l0 x13_1).f0) x23_2).f1)] 25 (0, 0))) := ⟨h2_⟩
                         have n3_ : Aside0 (w51.heap[gb303]? = some (.cells #[.int .i64 ((rd_T25 ((rd_T83 l0 x13_1).f0) (ji11)).f0), .int .i64 ((rd_T25 ((rd_T83 l0 x13_1).f0) (ji11)).f1)] 25 (0, 0))) := ⟨h3_⟩
                         have n4_ : Aside0 (w51.heap[gb308]? = some (.cells #[.int .i64 0, .int .i64 0, .int .i64 0, .int .i64 0] 228 (0, 0))) := ⟨h4_⟩
                         have n5_ : Aside0 (w.heap.size ≤ gb308) := ⟨h5_⟩
                         have n6_ : Aside0 (w.heap.size ≤ gb308) := ⟨h6_⟩
                         have n7_ : Aside0 (gb299 ≠ gb308) := ⟨h7_⟩
                         have n8_ : Aside0 (gb308 ≠ gb299) := ⟨h8_⟩
                         have n9_ : Aside0 (gb301 ≠ gb308) := ⟨h9_⟩
                         have n10_ : Aside0 (gb308 ≠ gb301) := ⟨h10_⟩
                         have n11_ : Aside0 (gb303 ≠ gb308) := ⟨h11_⟩
                         have n12_ : Aside0 (gb308 ≠ gb303) := ⟨h12_⟩
                         have n13_ : Aside0 (Below w.heap.size w w51) := ⟨h13_⟩
                         clear HO_3
                         clear BK299
                         clear BK301
                         clear BK303
                         clear HB
                         clear h0_ h1_ h2_ h3_ h4_ h5_ h6_ h7_ h8_ h9_ h10_ h11_ h12_ h13_
                         have HO_3 := n0_
                         have BK299 := n1_
                         have BK301 := n2_
                         have BK303 := n3_
                         have BK308 := n4_
                         have GW308 := n5_
                         have GE308 := n6_
                         have NB299_308 := n7_
                         have NB308_299 := n8_
                         have NB301_308 := n9_
                         have NB308_301 := n10_
                         have NB303_308 := n11_
                         have NB308_303 := n12_
                         have HB := n13_
                         clear n0_ n1_ n2_ n3_ n4_ n5_ n6_ n7_ n8_ n9_ n10_ n11_ n12_ n13_
                         have hHeld : w51.cell? ⟨gb301, 0, none⟩ = some (.int .i64 ((rd_T25 ((rd_T83 l0 x13_1).f0) x23_2).f0)) ∧ w51.cell? ⟨gb301, 1, none⟩ = some (.int .i64 ((rd_T25 ((rd_T83 l0 x13_1).f0) x23_2).f1)) ∧ w51.cell? ⟨gb303, 0, none⟩ = some (.int .i64 ((rd_T25 ((rd_T83 l0 x13_1).f0) (ji11)).f0)) ∧ w51.cell? ⟨gb303, 1, none⟩ = some (.int .i64 ((rd_T25 ((rd_T83 l0 x13_1).f0) (ji11)).f1)) := hS_
                         refine norm_ (a' := ?_) ?_ ?_
                         rotate_left
                         ·simp only [putAll, Act.put, List.setIfInBounds_toArray, List.set_cons_zero, List.set_cons_succ]
                          rfl
                         refine one_ (i := 2) (N := some 38) #[true, true, true, true, true, false, true, true, false, true, true, false, false, true, false] rfl rfl (one_of HT_.out (by kernel_rfl)) (by decide) (fun K hK => ?_)
                         refine z.gs Try.func213 (by kernel_rfl) rfl #[.int .i64 ((rd_T25 ((rd_T83 l0 x13_1).f0) x23_2).f0)] (by rfl) rfl rfl ?_
                         with_reducible refine (spec_l11Fine.calls ((rd_T25 ((rd_T83 l0 x13_1).f0) x23_2).f0) t304 _ A14.out).mono ?_
                         rintro e w' ⟨rfl, ⟨nd, rfl⟩⟩
                         refine ⟨_, rfl, ?_⟩
                         refine hK.out _ _ ⟨(blk_cell BK301.out 0).trans rfl, (blk_cell BK301.out 1).trans rfl, (blk_cell BK303.out 0).trans rfl, (blk_cell BK303.out 1).trans rfl⟩ (fun hHeld => ?_)
                         clear hK K
                         refine norm_ (a' := ?_) ?_ ?_
                         rotate_left
                         ·show Act.put _ (some 38) _ = _
                          simp only [Act.put, List.setIfInBounds_toArray, List.set_cons_zero, List.set_cons_succ, i64_w, i32_w]
                          rfl
                         exact norm_ (by first | (simp only [putAll, Act.put, List.setIfInBounds_toArray, List.set_cons_zero, List.set_cons_succ]; done) | (simp only [putAll, Act.put, List.setIfInBounds_toArray, List.set_cons_zero, List.set_cons_succ]; rfl)) (hJ2_13 (gb308) _ ⟨hHeld, (z.rl HO_3.out), (z.bk BK299), (z.bk BK301), (z.bk BK303), (z.bk BK308), GW308.out, GE308.out, NB299_308.out, NB308_299.out, NB301_308.out, NB308_301.out, NB303_308.out, NB308_303.out, (z.bl HB)⟩)
                       ·skip
                        rintro _ w50 ⟨hS_, h0_, h1_, h2_, h3_, h4_⟩
                        have n0_ : Aside0 (Kd.R k228 228 w50 w.heap.size (fun _ => True) u3 x3_2) := ⟨h0_⟩
                        have n1_ : Aside0 (w50.heap[gb299]? = some (.cells #[.slice (some ad300) ((rd_T83 l0 x13_1).f0).length c298_0, .bool ((rd_T83 l0 x13_1).f1)] 83 (0, 0))) := ⟨h1_⟩
                        have n2_ : Aside0 (w50.heap[gb301]? = some (.cells #[.int .i64 ((rd_T25 ((rd_T83 l0 x13_1).f0) x23_2).f0), .int .i64 ((rd_T25 ((rd_T83 l0 x13_1).f0) x23_2).f1)] 25 (0, 0))) := ⟨h2_⟩
                        have n3_ : Aside0 (w50.heap[gb303]? = some (.cells #[.int .i64 ((rd_T25 ((rd_T83 l0 x13_1).f0) (ji11)).f0), .int .i64 ((rd_T25 ((rd_T83 l0 x13_1).f0) (ji11)).f1)] 25 (0, 0))) := ⟨h3_⟩
                        have n4_ : Aside0 (Below w.heap.size w w50) := ⟨h4_⟩
                        clear HO_3
                        clear BK299
                        clear BK301
                        clear BK303
                        clear HB
                        clear h0_ h1_ h2_ h3_ h4_
                        have HO_3 := n0_
                        have BK299 := n1_
                        have BK301 := n2_
                        have BK303 := n3_
                        have HB := n4_
                        clear n0_ n1_ n2_ n3_ n4_
                        have hHeld : w50.cell? ⟨gb301, 0, none⟩ = some (.int .i64 ((rd_T25 ((rd_T83 l0 x13_1).f0) x23_2).f0)) ∧ w50.cell? ⟨gb301, 1, none⟩ = some (.int .i64 ((rd_T25 ((rd_T83 l0 x13_1).f0) x23_2).f1)) ∧ w50.cell? ⟨gb303, 0, none⟩ = some (.int .i64 ((rd_T25 ((rd_T83 l0 x13_1).f0) (ji11)).f0)) ∧ w50.cell? ⟨gb303, 1, none⟩ = some (.int .i64 ((rd_T25 ((rd_T83 l0 x13_1).f0) (ji11)).f1)) := hS_
                        refine norm_ (a' := ?_) ?_ ?_
                        rotate_left
                        ·simp only [putAll, Act.put, List.setIfInBounds_toArray, List.set_cons_zero, List.set_cons_succ]
                         rfl
                        refine two_ (i := 5) (j := 13) (Ni := some 41) (Nj := some 10) #[true, true, true, true, true, true, true, true, false, true, true, false, false, false, false] #[true, true, true, true, true, false, true, true, false, true, true, false, false, true, false] rfl rfl rfl rfl (two_of HT_.out (by kernel_rfl)) (by decide) (by decide) (fun K hK => ?_) (fun K hK => ?_)
                        ·skip
                         refine z.gs Try.func213 (by kernel_rfl) rfl #[.int .i64 ((rd_T25 ((rd_T83 l0 x13_1).f0) x23_2).f1)] (by rfl) rfl rfl ?_
                         with_reducible refine (spec_l11Fine.calls ((rd_T25 ((rd_T83 l0 x13_1).f0) x23_2).f1) t305 _ A15.out).mono ?_
                         rintro e w' ⟨rfl, ⟨nd, rfl⟩⟩
                         refine ⟨_, rfl, ?_⟩
                         refine hK.out _ _ ⟨(blk_cell BK301.out 0).trans rfl, (blk_cell BK301.out 1).trans rfl, (blk_cell BK303.out 0).trans rfl, (blk_cell BK303.out 1).trans rfl⟩ (fun hHeld => ?_)
                         clear hK K
                         refine norm_ (a' := ?_) ?_ ?_
                         rotate_left
                         ·show Act.put _ (some 41) _ = _
                          simp only [Act.put, List.setIfInBounds_toArray, List.set_cons_zero, List.set_cons_succ, i64_w, i32_w]
                          rfl
                         exact norm_ (by first | (simp only [putAll, Act.put, List.setIfInBounds_toArray, List.set_cons_zero, List.set_cons_succ]; done) | (simp only [putAll, Act.put, List.setIfInBounds_toArray, List.set_cons_zero, List.set_cons_succ]; rfl)) (hJ2_5 () _ ⟨hHeld, (z.rl HO_3.out), (z.bk BK299), (z.bk BK301), (z.bk BK303), (z.bl HB)⟩)
                        ·skip
                         refine box_step ?hg (N := 10) ?hd (cs := #[.int .i64 0, .int .i64 0, .int .i64 0, .int .i64 0]) (t := 228) ?hr ?_; (case hd => rfl); (case hg => rfl); (case hr => first | (go_simp; done) | (go_simp; rfl))
                         intro gb308 hg w51 hbox hb
                         replace HO_3 := Aside0.mk (Kd.R_below (Kd.R_elderB (z.rl HO_3.out) gb308 (Nat.le_of_eq hg.symm)) hb)
                         have BK308 := Aside0.mk (hbox)
                         have GW308 := Aside0.mk ((by rw [hg]; exact (below_size (z.bl HB)) : w.heap.size ≤ gb308))
                         have GE308 := Aside0.mk ((by rw [hg]; exact (below_size (z.bl HB)) : w.heap.size ≤ gb308))
                         replace HB := Aside0.mk (below_step (z.bl HB) hb)
                         have NB299_308 := z.ht BK299 hg
                         have NB308_299 := z.hu BK299 hg
                         replace BK299 := z.bb BK299 hb
                         have NB301_308 := z.ht BK301 hg
                         have NB308_301 := z.hu BK301 hg
                         replace BK301 := z.bb BK301 hb
                         have NB303_308 := z.ht BK303 hg
                         have NB308_303 := z.hu BK303 hg
                         replace BK303 := z.bb BK303 hb
                         clear hb hbox hg
                         refine hK.out _ _ ⟨(blk_cell BK301.out 0).trans rfl, (blk_cell BK301.out 1).trans rfl, (blk_cell BK303.out 0).trans rfl, (blk_cell BK303.out 1).trans rfl⟩ (fun hHeld => ?_)
                         clear hK K
                         refine norm_ (a' := ?_) ?_ ?_
                         rotate_left
                         ·show Act.put _ (some 10) _ = _
                          simp only [Act.put, List.setIfInBounds_toArray, List.set_cons_zero, List.set_cons_succ, i64_w, i32_w]
                          rfl
                         exact norm_ (by first | (simp only [putAll, Act.put, List.setIfInBounds_toArray, List.set_cons_zero, List.set_cons_succ]; done) | (simp only [putAll, Act.put, List.setIfInBounds_toArray, List.set_cons_zero, List.set_cons_succ]; rfl)) (hJ2_13 (gb308) _ ⟨hHeld, (z.rl (Kd.R_mono HO_3.out (fun _ hk => hk.2))), (z.bk BK299), (z.bk BK301), (z.bk BK303), (z.bk BK308), GW308.out, GE308.out, NB299_308.out, NB308_299.out, NB301_308.out, NB308_301.out, NB303_308.out, NB308_303.out, (z.bl HB)⟩)
                      ·skip
                       rintro gb308 w51 ⟨hS_, h0_, h1_, h2_, h3_, h4_, h5_, h6_, h7_, h8_, h9_, h10_, h11_, h12_, h13_⟩
                       have n0_ : Aside0 (Kd.R k228 228 w51 w.heap.size (fun k_ => k_ ≠ gb308) u3 x3_2) := ⟨h0_⟩
                       have n1_ : Aside0 (w51.heap[gb299]? = some (.cells #[.slice (some ad300) ((rd_T83 l0 x13_1).f0).length c298_0, .bool ((rd_T83 l0 x13_1).f1)] 83 (0, 0))) := ⟨h1_⟩
                       have n2_ : Aside0 (w51.heap[gb301]? = some (.cells #[.int .i64 ((rd_T25 ((rd_T83 l0 x13_1).f0) x23_2).f0), .int .i64 ((rd_T25 ((rd_T83 l0 x13_1).f0) x23_2).f1)] 25 (0, 0))) := ⟨h2_⟩
                       have n3_ : Aside0 (w51.heap[gb303]? = some (.cells #[.int .i64 ((rd_T25 ((rd_T83 l0 x13_1).f0) (ji11)).f0), .int .i64 ((rd_T25 ((rd_T83 l0 x13_1).f0) (ji11)).f1)] 25 (0, 0))) := ⟨h3_⟩
                       have n4_ : Aside0 (w51.heap[gb308]? = some (.cells #[.int .i64 0, .int .i64 0, .int .i64 0, .int .i64 0] 228 (0, 0))) := ⟨h4_⟩
                       have n5_ : Aside0 (w.heap.size ≤ gb308) := ⟨h5_⟩
                       have n6_ : Aside0 (w.heap.size ≤ gb308) := ⟨h6_⟩
                       have n7_ : Aside0 (gb299 ≠ gb308) := ⟨h7_⟩
                       have n8_ : Aside0 (gb308 ≠ gb299) := ⟨h8_⟩
                       have n9_ : Aside0 (gb301 ≠ gb308) := ⟨h9_⟩
                       have n10_ : Aside0 (gb308 ≠ gb301) := ⟨h10_⟩
                       have n11_ : Aside0 (gb303 ≠ gb308) := ⟨h11_⟩
                       have n12_ : Aside0 (gb308 ≠ gb303) := ⟨h12_⟩
                       have n13_ : Aside0 (Below w.heap.size w w51) := ⟨h13_⟩
                       clear HO_3
                       clear BK299
                       clear BK301
                       clear BK303
                       clear HB
                       clear h0_ h1_ h2_ h3_ h4_ h5_ h6_ h7_ h8_ h9_ h10_ h11_ h12_ h13_
                       have HO_3 := n0_
                       have BK299 := n1_
                       have BK301 := n2_
                       have BK303 := n3_
                       have BK308 := n4_
                       have GW308 := n5_
                       have GE308 := n6_
                       have NB299_308 := n7_
                       have NB308_299 := n8_
                       have NB301_308 := n9_
                       have NB308_301 := n10_
                       have NB303_308 := n11_
                       have NB308_303 := n12_
                       have HB := n13_
                       clear n0_ n1_ n2_ n3_ n4_ n5_ n6_ n7_ n8_ n9_ n10_ n11_ n12_ n13_
                       have hHeld : w51.cell? ⟨gb301, 0, none⟩ = some (.int .i64 ((rd_T25 ((rd_T83 l0 x13_1).f0) x23_2).f0)) ∧ w51.cell? ⟨gb301, 1, none⟩ = some (.int .i64 ((rd_T25 ((rd_T83 l0 x13_1).f0) x23_2).f1)) ∧ w51.cell? ⟨gb303, 0, none⟩ = some (.int .i64 ((rd_T25 ((rd_T83 l0 x13_1).f0) (ji11)).f0)) ∧ w51.cell? ⟨gb303, 1, none⟩ = some (.int .i64 ((rd_T25 ((rd_T83 l0 x13_1).f0) (ji11)).f1)) := hS_
                       refine norm_ (a' := ?_) ?_ ?_
                       rotate_left
                       ·simp only [putAll, Act.put, List.setIfInBounds_toArray, List.set_cons_zero, List.set_cons_succ]
                        rfl
                       refine one_ (i := 5) (N := some 41) #[true, true, true, true, true, true, true, true, false, true, true, false, false, true, false] rfl rfl (one_of HT_.out (by kernel_rfl)) (by decide) (fun K hK => ?_)
                       refine z.gs Try.func213 (by kernel_rfl) rfl #[.int .i64 ((rd_T25 ((rd_T83 l0 x13_1).f0) x23_2).f1)] (by rfl) rfl rfl ?_
                       with_reducible refine (spec_l11Fine.calls ((rd_T25 ((rd_T83 l0 x13_1).f0) x23_2).f1) t305 _ A15.out).mono ?_
                       rintro e w' ⟨rfl, ⟨nd, rfl⟩⟩
                       refine ⟨_, rfl, ?_⟩
                       refine hK.out _ _ ⟨(blk_cell BK301.out 0).trans rfl, (blk_cell BK301.out 1).trans rfl, (blk_cell BK303.out 0).trans rfl, (blk_cell BK303.out 1).trans rfl⟩ (fun hHeld => ?_)
                       clear hK K
                       refine norm_ (a' := ?_) ?_ ?_
                       rotate_left
                       ·show Act.put _ (some 41) _ = _
                        simp only [Act.put, List.setIfInBounds_toArray, List.set_cons_zero, List.set_cons_succ, i64_w, i32_w]
                        rfl
                       exact norm_ (by first | (simp only [putAll, Act.put, List.setIfInBounds_toArray, List.set_cons_zero, List.set_cons_succ]; done) | (simp only [putAll, Act.put, List.setIfInBounds_toArray, List.set_cons_zero, List.set_cons_succ]; rfl)) (hJ2_5_13 (gb308) _ ⟨hHeld, (z.rl HO_3.out), (z.bk BK299), (z.bk BK301), (z.bk BK303), (z.bk BK308), GW308.out, GE308.out, NB299_308.out, NB308_299.out, NB301_308.out, NB308_301.out, NB303_308.out, NB308_303.out, (z.bl HB)⟩)
                     ·skip
                      rintro _ w50 ⟨hS_, h0_, h1_, h2_, h3_, h4_⟩
                      have n0_ : Aside0 (Kd.R k228 228 w50 w.heap.size (fun _ => True) u3 x3_2) := ⟨h0_⟩
                      have n1_ : Aside0 (w50.heap[gb299]? = some (.cells #[.slice (some ad300) ((rd_T83 l0 x13_1).f0).length c298_0, .bool ((rd_T83 l0 x13_1).f1)] 83 (0, 0))) := ⟨h1_⟩
                      have n2_ : Aside0 (w50.heap[gb301]? = some (.cells #[.int .i64 ((rd_T25 ((rd_T83 l0 x13_1).f0) x23_2).f0), .int .i64 ((rd_T25 ((rd_T83 l0 x13_1).f0) x23_2).f1)] 25 (0, 0))) := ⟨h2_⟩
                      have n3_ : Aside0 (w50.heap[gb303]? = some (.cells #[.int .i64 ((rd_T25 ((rd_T83 l0 x13_1).f0) (ji11)).f0), .int .i64 ((rd_T25 ((rd_T83 l0 x13_1).f0) (ji11)).f1)] 25 (0, 0))) := ⟨h3_⟩
                      have n4_ : Aside0 (Below w.heap.size w w50) := ⟨h4_⟩
                      clear HO_3
                      clear BK299
                      clear BK301
                      clear BK303
                      clear HB
                      clear h0_ h1_ h2_ h3_ h4_
                      have HO_3 := n0_
                      have BK299 := n1_
                      have BK301 := n2_
                      have BK303 := n3_
                      have HB := n4_
                      clear n0_ n1_ n2_ n3_ n4_
                      have hHeld : w50.cell? ⟨gb301, 0, none⟩ = some (.int .i64 ((rd_T25 ((rd_T83 l0 x13_1).f0) x23_2).f0)) ∧ w50.cell? ⟨gb301, 1, none⟩ = some (.int .i64 ((rd_T25 ((rd_T83 l0 x13_1).f0) x23_2).f1)) ∧ w50.cell? ⟨gb303, 0, none⟩ = some (.int .i64 ((rd_T25 ((rd_T83 l0 x13_1).f0) (ji11)).f0)) ∧ w50.cell? ⟨gb303, 1, none⟩ = some (.int .i64 ((rd_T25 ((rd_T83 l0 x13_1).f0) (ji11)).f1)) := hS_
                      refine norm_ (a' := ?_) ?_ ?_
                      rotate_left
                      ·simp only [putAll, Act.put, List.setIfInBounds_toArray, List.set_cons_zero, List.set_cons_succ]
                       rfl
                      refine two_ (i := 8) (j := 13) (Ni := some 44) (Nj := some 10) #[true, true, true, true, true, true, true, true, true, true, true, false, false, false, false] #[true, true, true, true, true, true, true, true, false, true, true, false, false, true, false] rfl rfl rfl rfl (two_of HT_.out (by kernel_rfl)) (by decide) (by decide) (fun K hK => ?_) (fun K hK => ?_)
                      ·skip
                       refine goes_ Try.func213 (by kernel_rfl) rfl #[.int .i64 ((rd_T25 ((rd_T83 l0 x13_1).f0) (ji11)).f0)] (by rfl) rfl rfl (by (try simp only [List.map_toArray, List.map_cons, List.map_nil]); first | done | (simp only [hji11]; rfl) | rfl | (simp only [List.length_drop, List.length_take]; rfl)) ?_
                       with_reducible refine (spec_l11Fine.calls ((rd_T25 ((rd_T83 l0 x13_1).f0) (ji11)).f0) t306 _ A16.out).mono ?_
                       rintro e w' ⟨rfl, ⟨nd, rfl⟩⟩
                       refine ⟨_, rfl, ?_⟩
                       refine hK.out _ _ ⟨(blk_cell BK301.out 0).trans rfl, (blk_cell BK301.out 1).trans rfl, (blk_cell BK303.out 0).trans rfl, (blk_cell BK303.out 1).trans rfl⟩ (fun hHeld => ?_)
                       clear hK K
                       refine norm_ (a' := ?_) ?_ ?_
                       rotate_left
                       ·show Act.put _ (some 44) _ = _
                        simp only [Act.put, List.setIfInBounds_toArray, List.set_cons_zero, List.set_cons_succ, i64_w, i32_w]
                        rfl
                       exact norm_ (by first | (simp only [putAll, Act.put, List.setIfInBounds_toArray, List.set_cons_zero, List.set_cons_succ]; done) | (simp only [putAll, Act.put, List.setIfInBounds_toArray, List.set_cons_zero, List.set_cons_succ]; rfl)) (hJ2_5_8 () _ ⟨hHeld, (z.rl HO_3.out), (z.bk BK299), (z.bk BK301), (z.bk BK303), (z.bl HB)⟩)
                      ·skip
                       refine box_step ?hg (N := 10) ?hd (cs := #[.int .i64 0, .int .i64 0, .int .i64 0, .int .i64 0]) (t := 228) ?hr ?_; (case hd => rfl); (case hg => rfl); (case hr => first | (go_simp; done) | (go_simp; rfl))
                       intro gb308 hg w51 hbox hb
                       replace HO_3 := Aside0.mk (Kd.R_below (Kd.R_elderB (z.rl HO_3.out) gb308 (Nat.le_of_eq hg.symm)) hb)
                       have BK308 := Aside0.mk (hbox)
                       have GW308 := Aside0.mk ((by rw [hg]; exact (below_size (z.bl HB)) : w.heap.size ≤ gb308))
                       have GE308 := Aside0.mk ((by rw [hg]; exact (below_size (z.bl HB)) : w.heap.size ≤ gb308))
                       replace HB := Aside0.mk (below_step (z.bl HB) hb)
                       have NB299_308 := z.ht BK299 hg
                       have NB308_299 := z.hu BK299 hg
                       replace BK299 := z.bb BK299 hb
                       have NB301_308 := z.ht BK301 hg
                       have NB308_301 := z.hu BK301 hg
                       replace BK301 := z.bb BK301 hb
                       have NB303_308 := z.ht BK303 hg
                       have NB308_303 := z.hu BK303 hg
                       replace BK303 := z.bb BK303 hb
                       clear hb hbox hg
                       refine hK.out _ _ ⟨(blk_cell BK301.out 0).trans rfl, (blk_cell BK301.out 1).trans rfl, (blk_cell BK303.out 0).trans rfl, (blk_cell BK303.out 1).trans rfl⟩ (fun hHeld => ?_)
                       clear hK K
                       refine norm_ (a' := ?_) ?_ ?_
                       rotate_left
                       ·show Act.put _ (some 10) _ = _
                        simp only [Act.put, List.setIfInBounds_toArray, List.set_cons_zero, List.set_cons_succ, i64_w, i32_w]
                        rfl
                       exact norm_ (by first | (simp only [putAll, Act.put, List.setIfInBounds_toArray, List.set_cons_zero, List.set_cons_succ]; done) | (simp only [putAll, Act.put, List.setIfInBounds_toArray, List.set_cons_zero, List.set_cons_succ]; rfl)) (hJ2_5_13 (gb308) _ ⟨hHeld, (z.rl (Kd.R_mono HO_3.out (fun _ hk => hk.2))), (z.bk BK299), (z.bk BK301), (z.bk BK303), (z.bk BK308), GW308.out, GE308.out, NB299_308.out, NB308_299.out, NB301_308.out, NB308_301.out, NB303_308.out, NB308_303.out, (z.bl HB)⟩)
                    ·skip
                     rintro gb308 w51 ⟨hS_, h0_, h1_, h2_, h3_, h4_, h5_, h6_, h7_, h8_, h9_, h10_, h11_, h12_, h13_⟩
                     have n0_ : Aside0 (Kd.R k228 228 w51 w.heap.size (fun k_ => k_ ≠ gb308) u3 x3_2) := ⟨h0_⟩
                     have n1_ : Aside0 (w51.heap[gb299]? = some (.cells #[.slice (some ad300) ((rd_T83 l0 x13_1).f0).length c298_0, .bool ((rd_T83 l0 x13_1).f1)] 83 (0, 0))) := ⟨h1_⟩
                     have n2_ : Aside0 (w51.heap[gb301]? = some (.cells #[.int .i64 ((rd_T25 ((rd_T83 l0 x13_1).f0) x23_2).f0), .int .i64 ((rd_T25 ((rd_T83 l0 x13_1).f0) x23_2).f1)] 25 (0, 0))) := ⟨h2_⟩
                     have n3_ : Aside0 (w51.heap[gb303]? = some (.cells #[.int .i64 ((rd_T25 ((rd_T83 l0 x13_1).f0) (ji11)).f0), .int .i64 ((rd_T25 ((rd_T83 l0 x13_1).f0) (ji11)).f1)] 25 (0, 0))) := ⟨h3_⟩
                     have n4_ : Aside0 (w51.heap[gb308]? = some (.cells #[.int .i64 0, .int .i64 0, .int .i64 0, .int .i64 0] 228 (0, 0))) := ⟨h4_⟩
                     have n5_ : Aside0 (w.heap.size ≤ gb308) := ⟨h5_⟩
                     have n6_ : Aside0 (w.heap.size ≤ gb308) := ⟨h6_⟩
                     have n7_ : Aside0 (gb299 ≠ gb308) := ⟨h7_⟩
                     have n8_ : Aside0 (gb308 ≠ gb299) := ⟨h8_⟩
                     have n9_ : Aside0 (gb301 ≠ gb308) := ⟨h9_⟩
                     have n10_ : Aside0 (gb308 ≠ gb301) := ⟨h10_⟩
                     have n11_ : Aside0 (gb303 ≠ gb308) := ⟨h11_⟩
                     have n12_ : Aside0 (gb308 ≠ gb303) := ⟨h12_⟩
                     have n13_ : Aside0 (Below w.heap.size w w51) := ⟨h13_⟩
                     clear HO_3
                     clear BK299
                     clear BK301
                     clear BK303
                     clear HB
                     clear h0_ h1_ h2_ h3_ h4_ h5_ h6_ h7_ h8_ h9_ h10_ h11_ h12_ h13_
                     have HO_3 := n0_
                     have BK299 := n1_
                     have BK301 := n2_
                     have BK303 := n3_
                     have BK308 := n4_
                     have GW308 := n5_
                     have GE308 := n6_
                     have NB299_308 := n7_
                     have NB308_299 := n8_
                     have NB301_308 := n9_
                     have NB308_301 := n10_
                     have NB303_308 := n11_
                     have NB308_303 := n12_
                     have HB := n13_
                     clear n0_ n1_ n2_ n3_ n4_ n5_ n6_ n7_ n8_ n9_ n10_ n11_ n12_ n13_
                     have hHeld : w51.cell? ⟨gb301, 0, none⟩ = some (.int .i64 ((rd_T25 ((rd_T83 l0 x13_1).f0) x23_2).f0)) ∧ w51.cell? ⟨gb301, 1, none⟩ = some (.int .i64 ((rd_T25 ((rd_T83 l0 x13_1).f0) x23_2).f1)) ∧ w51.cell? ⟨gb303, 0, none⟩ = some (.int .i64 ((rd_T25 ((rd_T83 l0 x13_1).f0) (ji11)).f0)) ∧ w51.cell? ⟨gb303, 1, none⟩ = some (.int .i64 ((rd_T25 ((rd_T83 l0 x13_1).f0) (ji11)).f1)) := hS_
                     refine norm_ (a' := ?_) ?_ ?_
                     rotate_left
                     ·simp only [putAll, Act.put, List.setIfInBounds_toArray, List.set_cons_zero, List.set_cons_succ]
                      rfl
                     refine one_ (i := 8) (N := some 44) #[true, true, true, true, true, true, true, true, true, true, true, false, false, true, false] rfl rfl (one_of HT_.out (by kernel_rfl)) (by decide) (fun K hK => ?_)
                     refine goes_ Try.func213 (by kernel_rfl) rfl #[.int .i64 ((rd_T25 ((rd_T83 l0 x13_1).f0) (ji11)).f0)] (by rfl) rfl rfl (by (try simp only [List.map_toArray, List.map_cons, List.map_nil]); first | done | (simp only [hji11]; rfl) | rfl | (simp only [List.length_drop, List.length_take]; rfl)) ?_
                     with_reducible refine (spec_l11Fine.calls ((rd_T25 ((rd_T83 l0 x13_1).f0) (ji11)).f0) t306 _ A16.out).mono ?_
                     rintro e w' ⟨rfl, ⟨nd, rfl⟩⟩
                     refine ⟨_, rfl, ?_⟩
                     refine hK.out _ _ ⟨(blk_cell BK301.out 0).trans rfl, (blk_cell BK301.out 1).trans rfl, (blk_cell BK303.out 0).trans rfl, (blk_cell BK303.out 1).trans rfl⟩ (fun hHeld => ?_)
                     clear hK K
                     refine norm_ (a' := ?_) ?_ ?_
                     rotate_left
                     ·show Act.put _ (some 44) _ = _
                      simp only [Act.put, List.setIfInBounds_toArray, List.set_cons_zero, List.set_cons_succ, i64_w, i32_w]
                      rfl
                     exact norm_ (by first | (simp only [putAll, Act.put, List.setIfInBounds_toArray, List.set_cons_zero, List.set_cons_succ]; done) | (simp only [putAll, Act.put, List.setIfInBounds_toArray, List.set_cons_zero, List.set_cons_succ]; rfl)) (hJ2_5_8_13 (gb308) _ ⟨hHeld, (z.rl HO_3.out), (z.bk BK299), (z.bk BK301), (z.bk BK303), (z.bk BK308), GW308.out, GE308.out, NB299_308.out, NB308_299.out, NB301_308.out, NB308_301.out, NB303_308.out, NB308_303.out, (z.bl HB)⟩)
                   ·skip
                    rintro _ w50 ⟨hS_, h0_, h1_, h2_, h3_, h4_⟩
                    have n0_ : Aside0 (Kd.R k228 228 w50 w.heap.size (fun _ => True) u3 x3_2) := ⟨h0_⟩
                    have n1_ : Aside0 (w50.heap[gb299]? = some (.cells #[.slice (some ad300) ((rd_T83 l0 x13_1).f0).length c298_0, .bool ((rd_T83 l0 x13_1).f1)] 83 (0, 0))) := ⟨h1_⟩
                    have n2_ : Aside0 (w50.heap[gb301]? = some (.cells #[.int .i64 ((rd_T25 ((rd_T83 l0 x13_1).f0) x23_2).f0), .int .i64 ((rd_T25 ((rd_T83 l0 x13_1).f0) x23_2).f1)] 25 (0, 0))) := ⟨h2_⟩
                    have n3_ : Aside0 (w50.heap[gb303]? = some (.cells #[.int .i64 ((rd_T25 ((rd_T83 l0 x13_1).f0) (ji11)).f0), .int .i64 ((rd_T25 ((rd_T83 l0 x13_1).f0) (ji11)).f1)] 25 (0, 0))) := ⟨h3_⟩
                    have n4_ : Aside0 (Below w.heap.size w w50) := ⟨h4_⟩
                    clear HO_3
                    clear BK299
                    clear BK301
                    clear BK303
                    clear HB
                    clear h0_ h1_ h2_ h3_ h4_
                    have HO_3 := n0_
                    have BK299 := n1_
                    have BK301 := n2_
                    have BK303 := n3_
                    have HB := n4_
                    clear n0_ n1_ n2_ n3_ n4_
                    have hHeld : w50.cell? ⟨gb301, 0, none⟩ = some (.int .i64 ((rd_T25 ((rd_T83 l0 x13_1).f0) x23_2).f0)) ∧ w50.cell? ⟨gb301, 1, none⟩ = some (.int .i64 ((rd_T25 ((rd_T83 l0 x13_1).f0) x23_2).f1)) ∧ w50.cell? ⟨gb303, 0, none⟩ = some (.int .i64 ((rd_T25 ((rd_T83 l0 x13_1).f0) (ji11)).f0)) ∧ w50.cell? ⟨gb303, 1, none⟩ = some (.int .i64 ((rd_T25 ((rd_T83 l0 x13_1).f0) (ji11)).f1)) := hS_
                    refine norm_ (a' := ?_) ?_ ?_
                    rotate_left
                    ·simp only [putAll, Act.put, List.setIfInBounds_toArray, List.set_cons_zero, List.set_cons_succ]
                     rfl
                    refine two_ (i := 11) (j := 13) (Ni := some 47) (Nj := some 10) #[true, true, true, true, true, true, true, true, true, true, true, true, false, false, false] #[true, true, true, true, true, true, true, true, true, true, true, false, false, true, false] rfl rfl rfl rfl (two_of HT_.out (by kernel_rfl)) (by decide) (by decide) (fun K hK => ?_) (fun K hK => ?_)
                    ·skip
                     refine goes_ Try.func213 (by kernel_rfl) rfl #[.int .i64 ((rd_T25 ((rd_T83 l0 x13_1).f0) (ji11)).f1)] (by rfl) rfl rfl (by (try simp only [List.map_toArray, List.map_cons, List.map_nil]); first | done | (simp only [hji11]; rfl) | rfl | (simp only [List.length_drop, List.length_take]; rfl)) ?_
                     with_reducible refine (spec_l11Fine.calls ((rd_T25 ((rd_T83 l0 x13_1).f0) (ji11)).f1) t307 _ A17.out).mono ?_
                     rintro e w' ⟨rfl, ⟨nd, rfl⟩⟩
                     refine ⟨_, rfl, ?_⟩
                     refine hK.out _ _ ⟨(blk_cell BK301.out 0).trans rfl, (blk_cell BK301.out 1).trans rfl, (blk_cell BK303.out 0).trans rfl, (blk_cell BK303.out 1).trans rfl⟩ (fun hHeld => ?_)
                     clear hK K
                     refine norm_ (a' := ?_) ?_ ?_
                     rotate_left
                     ·show Act.put _ (some 47) _ = _
                      simp only [Act.put, List.setIfInBounds_toArray, List.set_cons_zero, List.set_cons_succ, i64_w, i32_w]
                      rfl
                     refine pure_ (i := 12) (N := some 48) (v := ?_) (a' := ?_) #[true, true, true, true, true, true, true, true, true, true, true, true, true, false, false] rfl rfl (any_of HT_.out (by kernel_rfl)) (fun _ _ _ h => h) (Or.inl ⟨by rfl, ?_⟩) ?_ ?_
                     rotate_left
                     ·intro w'
                      go_simp
                      with_reducible rfl
                     rotate_left
                     ·simp only [Act.put, List.setIfInBounds_toArray, List.set_cons_zero, List.set_cons_succ, i64_w, i32_w]
                      rfl
                     exact norm_ (by first | (simp only [putAll, Act.put, List.setIfInBounds_toArray, List.set_cons_zero, List.set_cons_succ]; done) | (simp only [putAll, Act.put, List.setIfInBounds_toArray, List.set_cons_zero, List.set_cons_succ]; rfl)) (hJ2_5_8_11 () _ ⟨hHeld, (z.rl HO_3.out), (z.bk BK299), (z.bk BK301), (z.bk BK303), (z.bl HB)⟩)
                    ·skip
                     refine box_step ?hg (N := 10) ?hd (cs := #[.int .i64 0, .int .i64 0, .int .i64 0, .int .i64 0]) (t := 228) ?hr ?_; (case hd => rfl); (case hg => rfl); (case hr => first | (go_simp; done) | (go_simp; rfl))
                     intro gb308 hg w51 hbox hb
                     replace HO_3 := Aside0.mk (Kd.R_below (Kd.R_elderB (z.rl HO_3.out) gb308 (Nat.le_of_eq hg.symm)) hb)
                     have BK308 := Aside0.mk (hbox)
                     have GW308 := Aside0.mk ((by rw [hg]; exact (below_size (z.bl HB)) : w.heap.size ≤ gb308))
                     have GE308 := Aside0.mk ((by rw [hg]; exact (below_size (z.bl HB)) : w.heap.size ≤ gb308))
                     replace HB := Aside0.mk (below_step (z.bl HB) hb)
                     have NB299_308 := z.ht BK299 hg
                     have NB308_299 := z.hu BK299 hg
                     replace BK299 := z.bb BK299 hb
                     have NB301_308 := z.ht BK301 hg
                     have NB308_301 := z.hu BK301 hg
                     replace BK301 := z.bb BK301 hb
                     have NB303_308 := z.ht BK303 hg
                     have NB308_303 := z.hu BK303 hg
                     replace BK303 := z.bb BK303 hb
                     clear hb hbox hg
                     refine hK.out _ _ ⟨(blk_cell BK301.out 0).trans rfl, (blk_cell BK301.out 1).trans rfl, (blk_cell BK303.out 0).trans rfl, (blk_cell BK303.out 1).trans rfl⟩ (fun hHeld => ?_)
                     clear hK K
                     refine norm_ (a' := ?_) ?_ ?_
                     rotate_left
                     ·show Act.put _ (some 10) _ = _
                      simp only [Act.put, List.setIfInBounds_toArray, List.set_cons_zero, List.set_cons_succ, i64_w, i32_w]
                      rfl
                     exact norm_ (by first | (simp only [putAll, Act.put, List.setIfInBounds_toArray, List.set_cons_zero, List.set_cons_succ]; done) | (simp only [putAll, Act.put, List.setIfInBounds_toArray, List.set_cons_zero, List.set_cons_succ]; rfl)) (hJ2_5_8_13 (gb308) _ ⟨hHeld, (z.rl (Kd.R_mono HO_3.out (fun _ hk => hk.2))), (z.bk BK299), (z.bk BK301), (z.bk BK303), (z.bk BK308), GW308.out, GE308.out, NB299_308.out, NB308_299.out, NB301_308.out, NB308_301.out, NB303_308.out, NB308_303.out, (z.bl HB)⟩)
                  ·skip
                   rintro gb308 w51 ⟨hS_, h0_, h1_, h2_, h3_, h4_, h5_, h6_, h7_, h8_, h9_, h10_, h11_, h12_, h13_⟩
                   have n0_ : Aside0 (Kd.R k228 228 w51 w.heap.size (fun k_ => k_ ≠ gb308) u3 x3_2) := ⟨h0_⟩
                   have n1_ : Aside0 (w51.heap[gb299]? = some (.cells #[.slice (some ad300) ((rd_T83 l0 x13_1).f0).length c298_0, .bool ((rd_T83 l0 x13_1).f1)] 83 (0, 0))) := ⟨h1_⟩
                   have n2_ : Aside0 (w51.heap[gb301]? = some (.cells #[.int .i64 ((rd_T25 ((rd_T83 l0 x13_1).f0) x23_2).f0), .int .i64 ((rd_T25 ((rd_T83 l0 x13_1).f0) x23_2).f1)] 25 (0, 0))) := ⟨h2_⟩
                   have n3_ : Aside0 (w51.heap[gb303]? = some (.cells #[.int .i64 ((rd_T25 ((rd_T83 l0 x13_1).f0) (ji11)).f0), .int .i64 ((rd_T25 ((rd_T83 l0 x13_1).f0) (ji11)).f1)] 25 (0, 0))) := ⟨h3_⟩
                   have n4_ : Aside0 (w51.heap[gb308]? = some (.cells #[.int .i64 0, .int .i64 0, .int .i64 0, .int .i64 0] 228 (0, 0))) := ⟨h4_⟩
                   have n5_ : Aside0 (w.heap.size ≤ gb308) := ⟨h5_⟩
                   have n6_ : Aside0 (w.heap.size ≤ gb308) := ⟨h6_⟩
                   have n7_ : Aside0 (gb299 ≠ gb308) := ⟨h7_⟩
                   have n8_ : Aside0 (gb308 ≠ gb299) := ⟨h8_⟩
                   have n9_ : Aside0 (gb301 ≠ gb308) := ⟨h9_⟩
                   have n10_ : Aside0 (gb308 ≠ gb301) := ⟨h10_⟩
                   have n11_ : Aside0 (gb303 ≠ gb308) := ⟨h11_⟩
                   have n12_ : Aside0 (gb308 ≠ gb303) := ⟨h12_⟩
                   have n13_ : Aside0 (Below w.heap.size w w51) := ⟨h13_⟩
                   clear HO_3
                   clear BK299
                   clear BK301
                   clear BK303
                   clear HB
                   clear h0_ h1_ h2_ h3_ h4_ h5_ h6_ h7_ h8_ h9_ h10_ h11_ h12_ h13_
                   have HO_3 := n0_
                   have BK299 := n1_
                   have BK301 := n2_
                   have BK303 := n3_
                   have BK308 := n4_
                   have GW308 := n5_
                   have GE308 := n6_
                   have NB299_308 := n7_
                   have NB308_299 := n8_
                   have NB301_308 := n9_
                   have NB308_301 := n10_
                   have NB303_308 := n11_
                   have NB308_303 := n12_
                   have HB := n13_
                   clear n0_ n1_ n2_ n3_ n4_ n5_ n6_ n7_ n8_ n9_ n10_ n11_ n12_ n13_
                   have hHeld : w51.cell? ⟨gb301, 0, none⟩ = some (.int .i64 ((rd_T25 ((rd_T83 l0 x13_1).f0) x23_2).f0)) ∧ w51.cell? ⟨gb301, 1, none⟩ = some (.int .i64 ((rd_T25 ((rd_T83 l0 x13_1).f0) x23_2).f1)) ∧ w51.cell? ⟨gb303, 0, none⟩ = some (.int .i64 ((rd_T25 ((rd_T83 l0 x13_1).f0) (ji11)).f0)) ∧ w51.cell? ⟨gb303, 1, none⟩ = some (.int .i64 ((rd_T25 ((rd_T83 l0 x13_1).f0) (ji11)).f1)) := hS_
                   refine norm_ (a' := ?_) ?_ ?_
                   rotate_left
                   ·simp only [putAll, Act.put, List.setIfInBounds_toArray, List.set_cons_zero, List.set_cons_succ]
                    rfl
                   refine one_ (i := 11) (N := some 47) #[true, true, true, true, true, true, true, true, true, true, true, true, false, true, false] rfl rfl (one_of HT_.out (by kernel_rfl)) (by decide) (fun K hK => ?_)
                   refine goes_ Try.func213 (by kernel_rfl) rfl #[.int .i64 ((rd_T25 ((rd_T83 l0 x13_1).f0) (ji11)).f1)] (by rfl) rfl rfl (by (try simp only [List.map_toArray, List.map_cons, List.map_nil]); first | done | (simp only [hji11]; rfl) | rfl | (simp only [List.length_drop, List.length_take]; rfl)) ?_
                   with_reducible refine (spec_l11Fine.calls ((rd_T25 ((rd_T83 l0 x13_1).f0) (ji11)).f1) t307 _ A17.out).mono ?_
                   rintro e w' ⟨rfl, ⟨nd, rfl⟩⟩
                   refine ⟨_, rfl, ?_⟩
                   refine hK.out _ _ ⟨(blk_cell BK301.out 0).trans rfl, (blk_cell BK301.out 1).trans rfl, (blk_cell BK303.out 0).trans rfl, (blk_cell BK303.out 1).trans rfl⟩ (fun hHeld => ?_)
                   clear hK K
                   refine norm_ (a' := ?_) ?_ ?_
                   rotate_left
                   ·show Act.put _ (some 47) _ = _
                    simp only [Act.put, List.setIfInBounds_toArray, List.set_cons_zero, List.set_cons_succ, i64_w, i32_w]
                    rfl
                   refine pure_ (i := 12) (N := some 48) (v := ?_) (a' := ?_) #[true, true, true, true, true, true, true, true, true, true, true, true, true, true, false] rfl rfl (any_of HT_.out (by kernel_rfl)) (fun _ _ _ h => h) (Or.inl ⟨by rfl, ?_⟩) ?_ ?_
                   rotate_left
                   ·intro w'
                    go_simp
                    with_reducible rfl
                   rotate_left
                   ·simp only [Act.put, List.setIfInBounds_toArray, List.set_cons_zero, List.set_cons_succ, i64_w, i32_w]
                    rfl
                   exact norm_ (by first | (simp only [putAll, Act.put, List.setIfInBounds_toArray, List.set_cons_zero, List.set_cons_succ]; done) | (simp only [putAll, Act.put, List.setIfInBounds_toArray, List.set_cons_zero, List.set_cons_succ]; rfl)) (hJ2_5_8_11_13 (gb308) _ ⟨hHeld, (z.rl HO_3.out), (z.bk BK299), (z.bk BK301), (z.bk BK303), (z.bk BK308), GW308.out, GE308.out, NB299_308.out, NB308_299.out, NB301_308.out, NB308_301.out, NB303_308.out, NB308_303.out, (z.bl HB)⟩)
                 ·skip
                  rintro _ w50 ⟨hS_, h0_, h1_, h2_, h3_, h4_⟩
                  have n0_ : Aside0 (Kd.R k228 228 w50 w.heap.size (fun _ => True) u3 x3_2) := ⟨h0_⟩
                  have n1_ : Aside0 (w50.heap[gb299]? = some (.cells #[.slice (some ad300) ((rd_T83 l0 x13_1).f0).length c298_0, .bool ((rd_T83 l0 x13_1).f1)] 83 (0, 0))) := ⟨h1_⟩
                  have n2_ : Aside0 (w50.heap[gb301]? = some (.cells #[.int .i64 ((rd_T25 ((rd_T83 l0 x13_1).f0) x23_2).f0), .int .i64 ((rd_T25 ((rd_T83 l0 x13_1).f0) x23_2).f1)] 25 (0, 0))) := ⟨h2_⟩
                  have n3_ : Aside0 (w50.heap[gb303]? = some (.cells #[.int .i64 ((rd_T25 ((rd_T83 l0 x13_1).f0) (ji11)).f0), .int .i64 ((rd_T25 ((rd_T83 l0 x13_1).f0) (ji11)).f1)] 25 (0, 0))) := ⟨h3_⟩
                  have n4_ : Aside0 (Below w.heap.size w w50) := ⟨h4_⟩
                  clear HO_3
                  clear BK299
                  clear BK301
                  clear BK303
                  clear HB
                  clear h0_ h1_ h2_ h3_ h4_
                  have HO_3 := n0_
                  have BK299 := n1_
                  have BK301 := n2_
                  have BK303 := n3_
                  have HB := n4_
                  clear n0_ n1_ n2_ n3_ n4_
                  have hHeld : w50.cell? ⟨gb301, 0, none⟩ = some (.int .i64 ((rd_T25 ((rd_T83 l0 x13_1).f0) x23_2).f0)) ∧ w50.cell? ⟨gb301, 1, none⟩ = some (.int .i64 ((rd_T25 ((rd_T83 l0 x13_1).f0) x23_2).f1)) ∧ w50.cell? ⟨gb303, 0, none⟩ = some (.int .i64 ((rd_T25 ((rd_T83 l0 x13_1).f0) (ji11)).f0)) ∧ w50.cell? ⟨gb303, 1, none⟩ = some (.int .i64 ((rd_T25 ((rd_T83 l0 x13_1).f0) (ji11)).f1)) := hS_
                  refine norm_ (a' := ?_) ?_ ?_
                  rotate_left
                  ·simp only [putAll, Act.put, List.setIfInBounds_toArray, List.set_cons_zero, List.set_cons_succ]
                   rfl
                  refine one_ (i := 13) (N := some 10) #[true, true, true, true, true, true, true, true, true, true, true, true, true, true, false] rfl rfl (one_of HT_.out (by kernel_rfl)) (by decide) (fun K hK => ?_)
                  refine box_step ?hg (N := 10) ?hd (cs := #[.int .i64 0, .int .i64 0, .int .i64 0, .int .i64 0]) (t := 228) ?hr ?_; (case hd => rfl); (case hg => rfl); (case hr => first | (go_simp; done) | (go_simp; rfl))
                  intro gb308 hg w51 hbox hb
                  replace HO_3 := Aside0.mk (Kd.R_below (Kd.R_elderB (z.rl HO_3.out) gb308 (Nat.le_of_eq hg.symm)) hb)
                  have BK308 := Aside0.mk (hbox)
                  have GW308 := Aside0.mk ((by rw [hg]; exact (below_size (z.bl HB)) : w.heap.size ≤ gb308))
                  have GE308 := Aside0.mk ((by rw [hg]; exact (below_size (z.bl HB)) : w.heap.size ≤ gb308))
                  replace HB := Aside0.mk (below_step (z.bl HB) hb)
                  have NB299_308 := z.ht BK299 hg
                  have NB308_299 := z.hu BK299 hg
                  replace BK299 := z.bb BK299 hb
                  have NB301_308 := z.ht BK301 hg
                  have NB308_301 := z.hu BK301 hg
                  replace BK301 := z.bb BK301 hb
                  have NB303_308 := z.ht BK303 hg
                  have NB308_303 := z.hu BK303 hg
                  replace BK303 := z.bb BK303 hb
                  clear hb hbox hg
                  refine hK.out _ _ ⟨(blk_cell BK301.out 0).trans rfl, (blk_cell BK301.out 1).trans rfl, (blk_cell BK303.out 0).trans rfl, (blk_cell BK303.out 1).trans rfl⟩ (fun hHeld => ?_)
                  clear hK K
                  refine norm_ (a' := ?_) ?_ ?_
                  rotate_left
                  ·show Act.put _ (some 10) _ = _
                   simp only [Act.put, List.setIfInBounds_toArray, List.set_cons_zero, List.set_cons_succ, i64_w, i32_w]
                   rfl
                  exact norm_ (by first | (simp only [putAll, Act.put, List.setIfInBounds_toArray, List.set_cons_zero, List.set_cons_succ]; done) | (simp only [putAll, Act.put, List.setIfInBounds_toArray, List.set_cons_zero, List.set_cons_succ]; rfl)) (hJ2_5_8_11_13 (gb308) _ ⟨hHeld, (z.rl (Kd.R_mono HO_3.out (fun _ hk => hk.2))), (z.bk BK299), (z.bk BK301), (z.bk BK303), (z.bk BK308), GW308.out, GE308.out, NB299_308.out, NB308_299.out, NB301_308.out, NB308_301.out, NB303_308.out, NB308_303.out, (z.bl HB)⟩)
                rintro gb308 w51 ⟨hS_, h0_, h1_, h2_, h3_, h4_, h5_, h6_, h7_, h8_, h9_, h10_, h11_, h12_, h13_⟩
                have n0_ : Aside0 (Kd.R k228 228 w51 w.heap.size (fun k_ => k_ ≠ gb308) u3 x3_2) := ⟨h0_⟩
                have n1_ : Aside0 (w51.heap[gb299]? = some (.cells #[.slice (some ad300) ((rd_T83 l0 x13_1).f0).length c298_0, .bool ((rd_T83 l0 x13_1).f1)] 83 (0, 0))) := ⟨h1_⟩
                have n2_ : Aside0 (w51.heap[gb301]? = some (.cells #[.int .i64 ((rd_T25 ((rd_T83 l0 x13_1).f0) x23_2).f0), .int .i64 ((rd_T25 ((rd_T83 l0 x13_1).f0) x23_2).f1)] 25 (0, 0))) := ⟨h2_⟩
                have n3_ : Aside0 (w51.heap[gb303]? = some (.cells #[.int .i64 ((rd_T25 ((rd_T83 l0 x13_1).f0) (ji11)).f0), .int .i64 ((rd_T25 ((rd_T83 l0 x13_1).f0) (ji11)).f1)] 25 (0, 0))) := ⟨h3_⟩
                have n4_ : Aside0 (w51.heap[gb308]? = some (.cells #[.int .i64 0, .int .i64 0, .int .i64 0, .int .i64 0] 228 (0, 0))) := ⟨h4_⟩
                have n5_ : Aside0 (w.heap.size ≤ gb308) := ⟨h5_⟩
                have n6_ : Aside0 (w.heap.size ≤ gb308) := ⟨h6_⟩
                have n7_ : Aside0 (gb299 ≠ gb308) := ⟨h7_⟩
                have n8_ : Aside0 (gb308 ≠ gb299) := ⟨h8_⟩
                have n9_ : Aside0 (gb301 ≠ gb308) := ⟨h9_⟩
                have n10_ : Aside0 (gb308 ≠ gb301) := ⟨h10_⟩
                have n11_ : Aside0 (gb303 ≠ gb308) := ⟨h11_⟩
                have n12_ : Aside0 (gb308 ≠ gb303) := ⟨h12_⟩
                have n13_ : Aside0 (Below w.heap.size w w51) := ⟨h13_⟩
                clear HO_3
                clear BK299
                clear BK301
                clear BK303
                clear HB
                clear h0_ h1_ h2_ h3_ h4_ h5_ h6_ h7_ h8_ h9_ h10_ h11_ h12_ h13_
                have HO_3 := n0_
                have BK299 := n1_
                have BK301 := n2_
                have BK303 := n3_
                have BK308 := n4_
                have GW308 := n5_
                have GE308 := n6_
                have NB299_308 := n7_
                have NB308_299 := n8_
                have NB301_308 := n9_
                have NB308_301 := n10_
                have NB303_308 := n11_
                have NB308_303 := n12_
                have HB := n13_
                clear n0_ n1_ n2_ n3_ n4_ n5_ n6_ n7_ n8_ n9_ n10_ n11_ n12_ n13_
                have hHeld : w51.cell? ⟨gb301, 0, none⟩ = some (.int .i64 ((rd_T25 ((rd_T83 l0 x13_1).f0) x23_2).f0)) ∧ w51.cell? ⟨gb301, 1, none⟩ = some (.int .i64 ((rd_T25 ((rd_T83 l0 x13_1).f0) x23_2).f1)) ∧ w51.cell? ⟨gb303, 0, none⟩ = some (.int .i64 ((rd_T25 ((rd_T83 l0 x13_1).f0) (ji11)).f0)) ∧ w51.cell? ⟨gb303, 1, none⟩ = some (.int .i64 ((rd_T25 ((rd_T83 l0 x13_1).f0) (ji11)).f1)) := hS_
                refine norm_ (a' := ?_) ?_ ?_
                rotate_left
                ·simp only [putAll, Act.put, List.setIfInBounds_toArray, List.set_cons_zero, List.set_cons_succ]
                 rfl
                refine one_ (i := 14) (N := none) #[true, true, true, true, true, true, true, true, true, true, true, true, true, true, true] rfl rfl (one_of HT_.out (by kernel_rfl)) (by decide) (fun K hK => ?_)
                have hs52 : w51.cell? ⟨gb308, 0, none⟩ = some (.int .i64 0) := (blk_cell BK308.out 0).trans rfl
                have hfs52 := blk_frozen BK308.out 0
                have hns52_0 := NB299_308.out
                have hns52_1 := NB301_308.out
                have hns52_2 := NB303_308.out
                have hms52_0 := NB308_299.out
                have hms52_1 := NB308_301.out
                have hms52_2 := NB308_303.out
                have hs53 : w51.cell? ⟨gb308, 1, none⟩ = some (.int .i64 0) := (blk_cell BK308.out 1).trans rfl
                have hfs53 := blk_frozen BK308.out 1
                have hns53_0 := NB299_308.out
                have hns53_1 := NB301_308.out
                have hns53_2 := NB303_308.out
                have hms53_0 := NB308_299.out
                have hms53_1 := NB308_301.out
                have hms53_2 := NB308_303.out
                have hs54 : w51.cell? ⟨gb308, 2, none⟩ = some (.int .i64 0) := (blk_cell BK308.out 2).trans rfl
                have hfs54 := blk_frozen BK308.out 2
                have hns54_0 := NB299_308.out
                have hns54_1 := NB301_308.out
                have hns54_2 := NB303_308.out
                have hms54_0 := NB308_299.out
                have hms54_1 := NB308_301.out
                have hms54_2 := NB308_303.out
                have hs55 : w51.cell? ⟨gb308, 3, none⟩ = some (.int .i64 0) := (blk_cell BK308.out 3).trans rfl
                have hfs55 := blk_frozen BK308.out 3
                have hns55_0 := NB299_308.out
                have hns55_1 := NB301_308.out
                have hns55_2 := NB303_308.out
                have hms55_0 := NB308_299.out
                have hms55_1 := NB308_301.out
                have hms55_2 := NB308_303.out
                refine skip_ (w1 := ?_) (by rfl) rfl ?_ ?_
                rotate_left
                ·go_simp
                 rfl
                refine hK.out _ _ ⟨((cell_far (p := ⟨gb308, _, none⟩) NB301_308.out _).trans (((cell_far (p := ⟨gb308, _, none⟩) NB301_308.out _).trans (((cell_far (p := ⟨gb308, _, none⟩) NB301_308.out _).trans (((cell_far (p := ⟨gb308, _, none⟩) NB301_308.out _).trans (hHeld.1)))))))), ((cell_far (p := ⟨gb308, _, none⟩) NB301_308.out _).trans (((cell_far (p := ⟨gb308, _, none⟩) NB301_308.out _).trans (((cell_far (p := ⟨gb308, _, none⟩) NB301_308.out _).trans (((cell_far (p := ⟨gb308, _, none⟩) NB301_308.out _).trans (hHeld.2.1)))))))), ((cell_far (p := ⟨gb308, _, none⟩) NB303_308.out _).trans (((cell_far (p := ⟨gb308, _, none⟩) NB303_308.out _).trans (((cell_far (p := ⟨gb308, _, none⟩) NB303_308.out _).trans (((cell_far (p := ⟨gb308, _, none⟩) NB303_308.out _).trans (hHeld.2.2.1)))))))), ((cell_far (p := ⟨gb308, _, none⟩) NB303_308.out _).trans (((cell_far (p := ⟨gb308, _, none⟩) NB303_308.out _).trans (((cell_far (p := ⟨gb308, _, none⟩) NB303_308.out _).trans (((cell_far (p := ⟨gb308, _, none⟩) NB303_308.out _).trans (hHeld.2.2.2))))))))⟩ (fun hHeld => ?_)
                clear hK K
                refine done_ (done_of HT_.out (by kernel_rfl)) ?_
                have hnb56 := NB308_299.out
                have hnc56 := NB299_308.out
                have hnb57 := NB308_301.out
                have hnc57 := NB301_308.out
                have hnb58 := NB308_303.out
                have hnc58 := NB303_308.out
                have hcz59_0 : w51.cell? ⟨gb308, 0, none⟩ = some (.int .i64 0) := (blk_cell BK308.out 0).trans rfl
                have hcz59_1 : w51.cell? ⟨gb308, 1, none⟩ = some (.int .i64 0) := (blk_cell BK308.out 1).trans rfl
                have hcz59_2 : w51.cell? ⟨gb308, 2, none⟩ = some (.int .i64 0) := (blk_cell BK308.out 2).trans rfl
                have hcz59_3 : w51.cell? ⟨gb308, 3, none⟩ = some (.int .i64 0) := (blk_cell BK308.out 3).trans rfl
                have hfz59_0 := blk_frozen BK308.out 0
                have hfz59_1 := blk_frozen BK308.out 1
                have hfz59_2 := blk_frozen BK308.out 2
                have hfz59_3 := blk_frozen BK308.out 3
                try go_wp2_with (first | ((with_reducible refine gate_builtin (b := .append) (xs := #[.tmp 54, .tmp 56]) rfl ?_); at_builtin; refine Kd.R_append k228 (w0 := w) w.heap.size rfl (.tmp 54) (.tmp 56) 225 228 (.agg #[(.int .i64 0), (.int .i64 0), (.int .i64 0), (.int .i64 0)]) 32 rfl Try.underlying225 info228 rfl (by decide) (by omega) u3 x3_2 (⟨t304, t305, t306, t307⟩ : S228) [.int .i64 t304, .int .i64 t305, .int .i64 t306, .int .i64 t307] (fun k_ => k_ ≠ gb308) (fun _ => False) rfl (by first | (go_simp; done) | (go_simp; rfl)) ?aP (fun _ hk => hk.elim) ?aF ?aO ?aB ?aS ?aL ?_; (case aP => exact k228_mkM _ _ _ (⟨t304, t305, t306, t307⟩ : S228)); (case aB => exact (z.bl HB)); (case aF => exact (fun k_ hk => Kd.freshB (g := gb308) (o := .cells #[.int .i64 t304, .int .i64 t305, .int .i64 t306, .int .i64 t307] 228 (0, 0)) (by (with_reducible repeat (first | refine blk_drewN ?_ _ | refine blk_drew ?_ | refine blk_alloc ?_ _)); refine blk_put (cs := #[.int .i64 t304, .int .i64 t305, .int .i64 t306, .int .i64 0]) ?_ 3 _ rfl; (with_reducible repeat (first | refine blk_drewN ?_ _ | refine blk_drew ?_ | refine blk_alloc ?_ _)); refine blk_put (cs := #[.int .i64 t304, .int .i64 t305, .int .i64 0, .int .i64 0]) ?_ 2 _ rfl; (with_reducible repeat (first | refine blk_drewN ?_ _ | refine blk_drew ?_ | refine blk_alloc ?_ _)); refine blk_put (cs := #[.int .i64 t304, .int .i64 0, .int .i64 0, .int .i64 0]) ?_ 1 _ rfl; (with_reducible repeat (first | refine blk_drewN ?_ _ | refine blk_drew ?_ | refine blk_alloc ?_ _)); refine blk_put (cs := #[.int .i64 0, .int .i64 0, .int .i64 0, .int .i64 0]) ?_ 0 _ rfl; (with_reducible repeat (first | refine blk_drewN ?_ _ | refine blk_drew ?_ | refine blk_alloc ?_ _)); exact BK308.out) k_ hk)); (case aO => exact (z.rl (Kd.R_mono (Kd.R_far (p := ⟨gb308, 3, none⟩) (Kd.R_far (p := ⟨gb308, 2, none⟩) (Kd.R_far (p := ⟨gb308, 1, none⟩) (Kd.R_far (p := ⟨gb308, 0, none⟩) (Kd.R_mono HO_3.out (fun k_ hk => (⟨hk, hk⟩ : _ ∧ k_ ≠ gb308))) (fun _ hk => hk.2) (.int .i64 t304)) (fun _ hk => hk.2) (.int .i64 t305)) (fun _ hk => hk.2) (.int .i64 t306)) (fun _ hk => hk.2) (.int .i64 t307)) (fun _ hk => hk.1)))); (case aS => exact (below_size (z.bl HB))); (case aL => have := LMc39.out; omega); intro v310 w60 ho hb hg hat; rw [← Ny309.out] at ho; replace BK299 := Aside0.mk (blk_grown (g := gb299) (o := .cells #[.slice (some ad300) ((rd_T83 l0 x13_1).f0).length c298_0, .bool ((rd_T83 l0 x13_1).f1)] 83 (0, 0)) (z.bf BK299) hg (Kd.R_ne HO_3.out BK299.out (by decide))); replace BK301 := Aside0.mk (blk_grown (g := gb301) (o := .cells #[.int .i64 ((rd_T25 ((rd_T83 l0 x13_1).f0) x23_2).f0), .int .i64 ((rd_T25 ((rd_T83 l0 x13_1).f0) x23_2).f1)] 25 (0, 0)) (z.bf BK301) hg (Kd.R_ne HO_3.out BK301.out (by decide))); replace BK303 := Aside0.mk (blk_grown (g := gb303) (o := .cells #[.int .i64 ((rd_T25 ((rd_T83 l0 x13_1).f0) (ji11)).f0), .int .i64 ((rd_T25 ((rd_T83 l0 x13_1).f0) (ji11)).f1)] 25 (0, 0)) (z.bf BK303) hg (Kd.R_ne HO_3.out BK303.out (by decide))); replace BK308 := Aside0.mk (blk_grown (g := gb308) (o := .cells #[.int .i64 t304, .int .i64 t305, .int .i64 t306, .int .i64 t307] 228 (0, 0)) (by (with_reducible repeat (first | refine blk_drewN ?_ _ | refine blk_drew ?_ | refine blk_alloc ?_ _)); refine blk_put (cs := #[.int .i64 t304, .int .i64 t305, .int .i64 t306, .int .i64 0]) ?_ 3 _ rfl; (with_reducible repeat (first | refine blk_drewN ?_ _ | refine blk_drew ?_ | refine blk_alloc ?_ _)); refine blk_put (cs := #[.int .i64 t304, .int .i64 t305, .int .i64 0, .int .i64 0]) ?_ 2 _ rfl; (with_reducible repeat (first | refine blk_drewN ?_ _ | refine blk_drew ?_ | refine blk_alloc ?_ _)); refine blk_put (cs := #[.int .i64 t304, .int .i64 0, .int .i64 0, .int .i64 0]) ?_ 1 _ rfl; (with_reducible repeat (first | refine blk_drewN ?_ _ | refine blk_drew ?_ | refine blk_alloc ?_ _)); refine blk_put (cs := #[.int .i64 0, .int .i64 0, .int .i64 0, .int .i64 0]) ?_ 0 _ rfl; (with_reducible repeat (first | refine blk_drewN ?_ _ | refine blk_drew ?_ | refine blk_alloc ?_ _)); exact BK308.out) hg (Kd.R_away HO_3.out (fun _ hk => hk))); replace HB := Aside0.mk (hb); have HO311 := Aside0.mk (ho); clear HO_3; clear ho hb hg hat))
                go_roundg k2
                case measure => have := HK1.out; have := HK2.out; omega
                case rel => exact ⟨(y309), (wrap64 (x23_2 + 1)), (by first | rfl | (simp; done) | (simp [*]; done)), H', ⟨by have := HK1.out; have := HK2.out; omega⟩, ⟨z.rl (Kd.R_mono HO311.out (fun _ hk => trivial))⟩, ⟨z.bk BK299⟩, ⟨z.bl HB⟩⟩
               ·rw [if_neg c39] at H
                exact absurd H (by simp)
             ·rw [if_neg c13] at H
              exact absurd H (by simp)
            ·rw [if_neg c12] at H
             exact absurd H (by simp)
          ·rw [if_neg c9] at H
           exact absurd H (by simp)
         ·rw [if_neg c8] at H
          exact absurd H (by simp)
        ·rw [if_neg c7] at H
         have c7b0 : decide (x23_2 < (((rd_T83 l0 x13_1).f0).length : Int)) = false := decide_eq_false c7
         clear c7
         have H' := Aside0.mk H
         clear H
         go_wp2
         go_roundg k2
         case measure => have := HK1.out; have := HK2.out; omega
         case rel => exact ⟨(x3_2), (wrap64 (x13_1 + 1)), (by first | rfl | (simp; done) | (simp [*]; done)), H', ⟨by have := HK1.out; have := HK2.out; omega⟩, ⟨z.rl HO_3.out⟩, ⟨z.bl HB⟩⟩
     ·rw [if_neg c4] at H
      exact absurd H (by simp)
    ·rw [if_neg c3] at H
     exact absurd H (by simp)
   ·rw [if_neg c2] at H
    have c2b0 : decide (x13_1 < (l0.length : Int)) = false := decide_eq_false c2
    clear c2
    obtain rfl := Option.some.inj H
    go_wp2
    go_ret
    exact ⟨_, by first | rfl | (simp [errW_none, errW_some] <;> rfl) | (simp [*, errW_none, errW_some] <;> rfl), z.rl HO_3.out, z.bl HB⟩
end Go.Proofs.Ytdbgnoolokfafaa.HFnCover
