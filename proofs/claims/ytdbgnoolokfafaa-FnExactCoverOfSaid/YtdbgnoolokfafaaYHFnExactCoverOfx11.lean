-- Printed by a program of this session over the kit's print; functions that the print does not take stand here by hand.
import Derived.Test.YtdbgnoolokfafaaYShort
import Derived.Test.YtdbgnoolokfafaaYHFnExactCoverOfx0
import Derived.Test.YtdbgnoolokfafaaYHFnExactCoverOfx10
namespace Go.Proofs.Ytdbgnoolokfafaa.HFnExactCoverOf
open Go.RowKit Go.Proofs.YtdbgnoolokfafaaW.PrintWords Go.Proofs.YtdbgnoolokfafaaW.PrintLast Go.Proofs.YtdbgnoolokfafaaW.PrintMore
attribute [local go_sem] max2_int min2_int max_two min_two max_three min_three max_four min_four   -- for this text's walks alone
set_option linter.unusedVariables false
set_option linter.unusedSimpArgs false
/-! ### spec_l11Edges: function 184 -/
mutual
def spec_l11Edges.l0 : Nat → List (S228) → List (S83) → Int → Int → Option ((List (S228)))
  | 0, _, _, _, _ => none
  | k + 1, x3, x11, x12, x13 => if x13 < x12 then (if 0 ≤ x13 then (if x13 < (x11.length : Int) then (spec_l11Edges.l1 k x3 (((rd_T83 x11 x13).f0).length : Int) x11 x12 x13 ((rd_T83 x11 x13).f0) (((rd_T83 x11 x13).f0).length : Int) 0 ((rd_T83 x11 x13).f0) ((rd_T83 x11 x13).f1)) else (none)) else (none)) else (some x3)
def spec_l11Edges.l1 : Nat → List (S228) → Int → List (S83) → Int → Int → List (S25) → Int → Int → List (S25) → Bool → Option ((List (S228)))
  | 0, _, _, _, _, _, _, _, _, _, _ => none
  | k + 1, x3, x6, x11, x12, x13, x21, x22, x23, x188000, x188001 => if x23 < x22 then (if 0 ≤ x23 then (if x23 < (x21.length : Int) then (if x6 = 0 then (none) else (if 0 ≤ (Int.tmod (wrap64 (x23 + 1)) x6) then (if (Int.tmod (wrap64 (x23 + 1)) x6) < (x188000.length : Int) then ((spec_l11Fine.f ((rd_T25 x21 x23).f0)).bind fun t192 => ((spec_l11Fine.f ((rd_T25 x21 x23).f1)).bind fun t193 => ((spec_l11Fine.f ((rd_T25 x188000 (Int.tmod (wrap64 (x23 + 1)) x6)).f0)).bind fun t194 => ((spec_l11Fine.f ((rd_T25 x188000 (Int.tmod (wrap64 (x23 + 1)) x6)).f1)).bind fun t195 => (if t193 = t195 then (spec_l11Edges.l1 k x3 x6 x11 x12 x13 x21 x22 (wrap64 (x23 + 1)) x188000 x188001) else (if x3.length < 4398046511104 then (spec_l11Edges.l1 k (x3 ++ [(⟨t192, t193, t194, t195⟩ : S228)]) x6 x11 x12 x13 x21 x22 (wrap64 (x23 + 1)) x188000 x188001) else (none))))))) else (none)) else (none))) else (none)) else (none)) else (spec_l11Edges.l0 k x3 x11 x12 (wrap64 (x13 + 1)))
end
def spec_l11Edges.f (k : Nat) (l0 : List (S83)) : Option ((List (S228))) := spec_l11Edges.l0 k ([] : List (S228)) l0 (l0.length : Int) 0
theorem spec_l11Edges.mono_l : ∀ k, (∀ y0 y1 y2 y3, LeO (spec_l11Edges.l0 k y0 y1 y2 y3) (spec_l11Edges.l0 (k + 1) y0 y1 y2 y3)) ∧ (∀ y0 y1 y2 y3 y4 y5 y6 y7 y8 y9, LeO (spec_l11Edges.l1 k y0 y1 y2 y3 y4 y5 y6 y7 y8 y9) (spec_l11Edges.l1 (k + 1) y0 y1 y2 y3 y4 y5 y6 y7 y8 y9))
  | 0 => ⟨fun _ _ _ _ r h => by simp [spec_l11Edges.l0] at h, fun _ _ _ _ _ _ _ _ _ _ r h => by simp [spec_l11Edges.l1] at h⟩
  | k + 1 => by
    obtain ⟨ih0, ih1⟩ := spec_l11Edges.mono_l k
    refine ⟨?_, ?_⟩
    · intro y0 y1 y2 y3
      unfold spec_l11Edges.l0
      repeat' first
    | with_reducible exact ih0 _ _ _ _
    | with_reducible exact ih1 _ _ _ _ _ _ _ _ _ _
    | with_reducible exact LeO.refl _
    | with_reducible exact LeO.none _
    | with_reducible refine LeO.ite ?_ ?_
    | with_reducible refine LeO.bind ?_ (fun _ => ?_)
    | exact ih0 _ _ _ _
    | exact ih1 _ _ _ _ _ _ _ _ _ _
    | exact LeO.none _
    | refine LeO.ite ?_ ?_
    | refine LeO.bind ?_ (fun _ => ?_)
    · intro y0 y1 y2 y3 y4 y5 y6 y7 y8 y9
      unfold spec_l11Edges.l1
      repeat' first
    | with_reducible exact ih0 _ _ _ _
    | with_reducible exact ih1 _ _ _ _ _ _ _ _ _ _
    | with_reducible exact LeO.refl _
    | with_reducible exact LeO.none _
    | with_reducible refine LeO.ite ?_ ?_
    | with_reducible refine LeO.bind ?_ (fun _ => ?_)
    | exact ih0 _ _ _ _
    | exact ih1 _ _ _ _ _ _ _ _ _ _
    | exact LeO.none _
    | refine LeO.ite ?_ ?_
    | refine LeO.bind ?_ (fun _ => ?_)
theorem spec_l11Edges.mono : ∀ a0 k, LeO (spec_l11Edges.f k a0) (spec_l11Edges.f (k + 1) a0) := by
  intro a0 k
  obtain ⟨ih0, ih1⟩ := spec_l11Edges.mono_l k
  unfold spec_l11Edges.f
  repeat' first
    | with_reducible exact ih0 _ _ _ _
    | with_reducible exact ih1 _ _ _ _ _ _ _ _ _ _
    | with_reducible exact LeO.refl _
    | with_reducible exact LeO.none _
    | with_reducible refine LeO.ite ?_ ?_
    | with_reducible refine LeO.bind ?_ (fun _ => ?_)
    | exact ih0 _ _ _ _
    | exact ih1 _ _ _ _ _ _ _ _ _ _
    | exact LeO.none _
    | refine LeO.ite ?_ ?_
    | refine LeO.bind ?_ (fun _ => ?_)
def spec_l11Edges.T9 : Bool × List (List Nat × List Nat) := (true, [([], []), ([0], [0]), ([], []), ([2], [2]), ([], []), ([3, 4], [3, 4]), ([1, 5], [1, 5]), ([6], [6]), ([], []), ([8, 7, 0, 1, 2, 3, 4, 5, 6, 7, 8], [7, 8])])
def spec_l11Edges.B9 : List Nat := [0, 1, 0, 4, 0, 28, 63, 127, 0, 511]
theorem spec_l11Edges.tab9 : rtab .any (opsOf Try.f184 9) = spec_l11Edges.T9 := by kernel_rfl
theorem spec_l11Edges.bits9 : waitsOk spec_l11Edges.T9.2 spec_l11Edges.B9 = true := by kernel_rfl
def spec_l11Edges.T10 : Bool × List (List Nat × List Nat) := (true, [([], []), ([0], [0]), ([1], [1]), ([], []), ([3], [3]), ([4, 2], [4]), ([], []), ([6], [6]), ([7, 5], [7]), ([], []), ([9], [9]), ([10, 8], [10]), ([2, 5, 8, 11], [2, 5, 8, 11]), ([], []), ([13, 12, 11, 0, 1, 2, 3, 4, 5, 6, 7, 8, 9, 10, 11, 12, 13], [12, 13])])
def spec_l11Edges.B10 : List Nat := [0, 1, 3, 0, 8, 31, 0, 64, 255, 0, 512, 2047, 4095, 0, 16383]
theorem spec_l11Edges.tab10 : rtab .any (opsOf Try.f184 10) = spec_l11Edges.T10 := by kernel_rfl
theorem spec_l11Edges.bits10 : waitsOk spec_l11Edges.T10.2 spec_l11Edges.B10 = true := by kernel_rfl
set_option maxHeartbeats 8000000 in
set_option maxRecDepth 100000 in
theorem spec_l11Edges.calls (k : Nat) (A0 : Option Addr) (c0 : Nat) (l0 : List (S83)) (r : List (S228)) (w : World) (hr0 : Kd.C k83 w A0 l0.length l0) (hc0 : l0.length ≤ c0) (h : spec_l11Edges.f k l0 = some r) :
    Calls Try.prog 184 #[.slice A0 l0.length c0] w fun e w' => ∃ v0_ : Value, e = .returned (v0_) ∧ Kd.R k228 228 w' w.heap.size (fun _ => True) v0_ r ∧ Below w.heap.size w w' := by
 have hu83 := Try.underlying83
 have hu25 := Try.underlying25
 have hu228 := Try.underlying228
 have HR0 := Aside0.mk hr0
 have HC0 := Aside0.mk hc0
 clear hr0 hc0
 have HB := Aside0.mk (Below.refl w.heap.size w)
 have H : (spec_l11Edges.l0 k ([] : List (S228)) l0 (l0.length : Int) 0) = some r := h
 clear h
 have H' := Aside0.mk H
 clear H
 go_enter Try.func184, Try.ntmps184
 go_wp2
 go_loopg [3, 13] k (fun kq v3 v13 w' => ∃ (x3_1 : List (S228)) (x13_1 : Int), v13 = .int .i64 x13_1 ∧ Aside0 (spec_l11Edges.l0 kq x3_1 l0 (l0.length : Int) x13_1 = some r) ∧ Aside0 (kq ≤ k) ∧ Aside0 (Kd.R k228 228 w' w.heap.size (fun _ => True) v3 x3_1) ∧ Aside0 (Below w.heap.size w w'))
 case atStart => exact ⟨(([] : List (S228))), (0), (by first | rfl | (simp; done) | (simp [*]; done)), H', ⟨Nat.le_refl _⟩, ⟨by first | exact Kd.R_nil _ _ _ _ _ | exact Kd.N_nil _ _ _ _ _ | exact Kd.V_nil _ _ _ _ _ | exact Kd.Q_nil _ _ _ _ _ | exact Kd.S_nil _ _ _ _ _⟩, ⟨z.bl HB⟩⟩
 case round =>
  clear H'
  try clear c1
  obtain ⟨x3_1, x13_1, rfl, HA, HK1, HO_3, HB⟩ := hrel
  cases gk with
  | zero => exact absurd HA.out (by simp [spec_l11Edges.l0])
  | succ k1 =>
   have H := HA.out
   clear HA
   simp only [spec_l11Edges.l0] at H
   by_cases c2 : x13_1 < (l0.length : Int)
   ·rw [if_pos c2] at H
    have c2b0 : decide (x13_1 < (l0.length : Int)) = true := decide_eq_true c2
    clear c2
    by_cases c3 : 0 ≤ x13_1
    ·rw [if_pos c3] at H
     have c3b0 : decide (0 ≤ x13_1) = true := decide_eq_true c3
     clear c3
     by_cases c4 : x13_1 < (l0.length : Int)
     ·rw [if_pos c4] at H
      have c4b0 : decide (x13_1 < (l0.length : Int)) = true := decide_eq_true c4
      clear c4
      have H' := Aside0.mk H
      clear H
      have p186 : 0 ≤ (x13_1 : Int) := of_decide_eq_true (by first | (with_reducible assumption) | assumption)
      have q186 : x13_1 < (l0.length : Int) := of_decide_eq_true (by first | (with_reducible assumption) | assumption)
      obtain ⟨ad186, A186_0, c186_0, e186, hx186_0, hx186_1, hl186_0, hi186_0⟩ := at_T83 HR0.out x13_1 p186 q186
      cases e186
      replace hx186_0 := (HB.out.cell (World.block_lt_of_cell? w _ hx186_0)).trans hx186_0
      replace hx186_1 := (HB.out.cell (World.block_lt_of_cell? w _ hx186_1)).trans hx186_1
      have HR186_0 := Aside0.mk hi186_0
      have HC186_0 := Aside0.mk hl186_0
      clear hi186_0 hl186_0
      replace p186 := eq_true p186
      replace q186 := eq_true q186
      go_wp2_with (first | ((with_reducible refine gate_dst (N := 5) rfl ?_); refine box_event ?hg (N := 5) ?hd (cs := #[.slice none 0 0, .bool false]) (t := 83) ?hr ?_; (case hd => rfl); (case hg => rfl); (case hr => first | (go_simp; done) | (go_simp; rfl)); intro gb187 hg w5 hbox hb; replace HO_3 := z.rb HO_3 hb; have BK187 := Aside0.mk (hbox); have GW187 := Aside0.mk ((by rw [hg]; exact (below_size (z.bl HB)) : w.heap.size ≤ gb187)); have GE187 := Aside0.mk ((by rw [hg]; exact (below_size (z.bl HB)) : w.heap.size ≤ gb187)); replace HB := Aside0.mk (below_step (z.bl HB) hb); clear hb hbox hg; have hcz6_0 : w5.cell? ⟨gb187, 0, none⟩ = some (.slice none 0 0) := (blk_cell BK187.out 0).trans rfl; have hcz6_1 : w5.cell? ⟨gb187, 1, none⟩ = some (.bool false) := (blk_cell BK187.out 1).trans rfl; have hfz6_0 := blk_frozen BK187.out 0; have hfz6_1 := blk_frozen BK187.out 1))
      go_loopg [3, 23] k1 (fun kq v3 v23 w' => ∃ (x3_2 : List (S228)) (x23_2 : Int), v23 = .int .i64 x23_2 ∧ Aside0 (spec_l11Edges.l1 kq x3_2 (((rd_T83 l0 x13_1).f0).length : Int) l0 (l0.length : Int) x13_1 ((rd_T83 l0 x13_1).f0) (((rd_T83 l0 x13_1).f0).length : Int) x23_2 ((rd_T83 l0 x13_1).f0) ((rd_T83 l0 x13_1).f1) = some r) ∧ Aside0 (kq ≤ k1) ∧ Aside0 (Kd.R k228 228 w' w.heap.size (fun _ => True) v3 x3_2) ∧ Aside0 (w'.heap[gb187]? = some (.cells #[(.slice A186_0 ((rd_T83 l0 x13_1).f0).length c186_0), .bool ((rd_T83 l0 x13_1).f1)] 83 (0, 0))) ∧ Aside0 (Below w.heap.size w w'))
      case atStart => exact ⟨(x3_1), (0), (by first | rfl | (simp; done) | (simp [*]; done)), H', ⟨Nat.le_refl _⟩, ⟨z.rl (Kd.R_mono (Kd.R_far (p := ⟨gb187, 1, none⟩) (Kd.R_far (p := ⟨gb187, 0, none⟩) (Kd.R_types HO_3.out BK187.out (by decide)) (fun _ hk => hk.2) (.slice A186_0 ((rd_T83 l0 x13_1).f0).length c186_0)) (fun _ hk => hk.2) (.bool ((rd_T83 l0 x13_1).f1))) (fun _ hk => trivial))⟩, ⟨by (with_reducible repeat (first | refine blk_drewN ?_ _ | refine blk_drew ?_ | refine blk_alloc ?_ _)); refine blk_put (cs := #[.slice A186_0 ((rd_T83 l0 x13_1).f0).length c186_0, .bool false]) ?_ 1 _ rfl; (with_reducible repeat (first | refine blk_drewN ?_ _ | refine blk_drew ?_ | refine blk_alloc ?_ _)); refine blk_put (cs := #[.slice none 0 0, .bool false]) ?_ 0 _ rfl; (with_reducible repeat (first | refine blk_drewN ?_ _ | refine blk_drew ?_ | refine blk_alloc ?_ _)); exact BK187.out⟩, ⟨z.bl HB⟩⟩
      case round =>
       clear H'
       try clear c1
       try clear p1
       try clear q1
       try clear hx1
       try clear c2
       try clear c2b0
       try clear p2
       try clear c3
       try clear c3b0
       try clear c4
       try clear c4b0
       try clear hcz6_0
       try clear hcz6_1
       try clear hfz6_0
       try clear hfz6_1
       try clear hx186_0
       try clear hx186_1
       try clear p186
       try clear q186
       obtain ⟨x3_2, x23_2, rfl, HA, HK2, HO_3, BK187, HB⟩ := hrel
       cases gk with
       | zero => exact absurd HA.out (by simp [spec_l11Edges.l1])
       | succ k2 =>
        have H := HA.out
        clear HA
        simp only [spec_l11Edges.l1] at H
        by_cases c7 : x23_2 < (((rd_T83 l0 x13_1).f0).length : Int)
        ·rw [if_pos c7] at H
         have c7b0 : decide (x23_2 < (((rd_T83 l0 x13_1).f0).length : Int)) = true := decide_eq_true c7
         clear c7
         by_cases c8 : 0 ≤ x23_2
         ·rw [if_pos c8] at H
          have c8b0 : decide (0 ≤ x23_2) = true := decide_eq_true c8
          clear c8
          by_cases c9 : x23_2 < (((rd_T83 l0 x13_1).f0).length : Int)
          ·rw [if_pos c9] at H
           have c9b0 : decide (x23_2 < (((rd_T83 l0 x13_1).f0).length : Int)) = true := decide_eq_true c9
           clear c9
           by_cases c10 : (((rd_T83 l0 x13_1).f0).length : Int) = 0
           ·rw [if_pos c10] at H
            exact absurd H (by simp)
           ·rw [if_neg c10] at H
            have c10b0 : ((((rd_T83 l0 x13_1).f0).length : Int) == 0) = false := beq_eq_false_iff_ne.mpr c10
            have c10b1 : ((((rd_T83 l0 x13_1).f0).length : Int) != 0) = true := bne_iff_ne.mpr c10
            have c10b2 : ¬ (((rd_T83 l0 x13_1).f0) = []) := fun h_ => c10 (by rw [h_]; rfl)
            obtain ⟨ji11, hji11⟩ : ∃ j_ : Int, (Int.tmod (wrap64 (x23_2 + 1)) (((rd_T83 l0 x13_1).f0).length : Int)) = j_ := ⟨_, rfl⟩
            replace H : (if 0 ≤ (ji11) then (if (ji11) < (((rd_T83 l0 x13_1).f0).length : Int) then ((spec_l11Fine.f ((rd_T25 ((rd_T83 l0 x13_1).f0) x23_2).f0)).bind fun t192 => ((spec_l11Fine.f ((rd_T25 ((rd_T83 l0 x13_1).f0) x23_2).f1)).bind fun t193 => ((spec_l11Fine.f ((rd_T25 ((rd_T83 l0 x13_1).f0) (ji11)).f0)).bind fun t194 => ((spec_l11Fine.f ((rd_T25 ((rd_T83 l0 x13_1).f0) (ji11)).f1)).bind fun t195 => (if t193 = t195 then (spec_l11Edges.l1 k2 x3_2 (((rd_T83 l0 x13_1).f0).length : Int) l0 (l0.length : Int) x13_1 ((rd_T83 l0 x13_1).f0) (((rd_T83 l0 x13_1).f0).length : Int) (wrap64 (x23_2 + 1)) ((rd_T83 l0 x13_1).f0) ((rd_T83 l0 x13_1).f1)) else (if x3_2.length < 4398046511104 then (spec_l11Edges.l1 k2 (x3_2 ++ [(⟨t192, t193, t194, t195⟩ : S228)]) (((rd_T83 l0 x13_1).f0).length : Int) l0 (l0.length : Int) x13_1 ((rd_T83 l0 x13_1).f0) (((rd_T83 l0 x13_1).f0).length : Int) (wrap64 (x23_2 + 1)) ((rd_T83 l0 x13_1).f0) ((rd_T83 l0 x13_1).f1)) else (none))))))) else (none)) else (none)) = some r := by first | (rw [hji11] at H; exact H) | (simp only [hji11] at H ⊢; exact H)
            by_cases c12 : 0 ≤ (ji11)
            ·rw [if_pos c12] at H
             have c12b0 : decide (0 ≤ (ji11)) = true := decide_eq_true c12
             clear c12
             by_cases c13 : (ji11) < (((rd_T83 l0 x13_1).f0).length : Int)
             ·rw [if_pos c13] at H
              have c13b0 : decide ((ji11) < (((rd_T83 l0 x13_1).f0).length : Int)) = true := decide_eq_true c13
              clear c13
              replace H := Option.bind_eq_some_iff.mp H
              obtain ⟨t192, A140, H⟩ := H
              replace H : ((spec_l11Fine.f ((rd_T25 ((rd_T83 l0 x13_1).f0) x23_2).f1)).bind fun t193 => ((spec_l11Fine.f ((rd_T25 ((rd_T83 l0 x13_1).f0) (ji11)).f0)).bind fun t194 => ((spec_l11Fine.f ((rd_T25 ((rd_T83 l0 x13_1).f0) (ji11)).f1)).bind fun t195 => (if t193 = t195 then (spec_l11Edges.l1 k2 x3_2 (((rd_T83 l0 x13_1).f0).length : Int) l0 (l0.length : Int) x13_1 ((rd_T83 l0 x13_1).f0) (((rd_T83 l0 x13_1).f0).length : Int) (wrap64 (x23_2 + 1)) ((rd_T83 l0 x13_1).f0) ((rd_T83 l0 x13_1).f1)) else (if x3_2.length < 4398046511104 then (spec_l11Edges.l1 k2 (x3_2 ++ [(⟨t192, t193, t194, t195⟩ : S228)]) (((rd_T83 l0 x13_1).f0).length : Int) l0 (l0.length : Int) x13_1 ((rd_T83 l0 x13_1).f0) (((rd_T83 l0 x13_1).f0).length : Int) (wrap64 (x23_2 + 1)) ((rd_T83 l0 x13_1).f0) ((rd_T83 l0 x13_1).f1)) else (none)))))) = some r := H
              have A14 := Aside0.mk A140
              clear A140
              replace H := Option.bind_eq_some_iff.mp H
              obtain ⟨t193, A150, H⟩ := H
              replace H : ((spec_l11Fine.f ((rd_T25 ((rd_T83 l0 x13_1).f0) (ji11)).f0)).bind fun t194 => ((spec_l11Fine.f ((rd_T25 ((rd_T83 l0 x13_1).f0) (ji11)).f1)).bind fun t195 => (if t193 = t195 then (spec_l11Edges.l1 k2 x3_2 (((rd_T83 l0 x13_1).f0).length : Int) l0 (l0.length : Int) x13_1 ((rd_T83 l0 x13_1).f0) (((rd_T83 l0 x13_1).f0).length : Int) (wrap64 (x23_2 + 1)) ((rd_T83 l0 x13_1).f0) ((rd_T83 l0 x13_1).f1)) else (if x3_2.length < 4398046511104 then (spec_l11Edges.l1 k2 (x3_2 ++ [(⟨t192, t193, t194, t195⟩ : S228)]) (((rd_T83 l0 x13_1).f0).length : Int) l0 (l0.length : Int) x13_1 ((rd_T83 l0 x13_1).f0) (((rd_T83 l0 x13_1).f0).length : Int) (wrap64 (x23_2 + 1)) ((rd_T83 l0 x13_1).f0) ((rd_T83 l0 x13_1).f1)) else (none))))) = some r := H
              have A15 := Aside0.mk A150
              clear A150
              replace H := Option.bind_eq_some_iff.mp H
              obtain ⟨t194, A160, H⟩ := H
              replace H : ((spec_l11Fine.f ((rd_T25 ((rd_T83 l0 x13_1).f0) (ji11)).f1)).bind fun t195 => (if t193 = t195 then (spec_l11Edges.l1 k2 x3_2 (((rd_T83 l0 x13_1).f0).length : Int) l0 (l0.length : Int) x13_1 ((rd_T83 l0 x13_1).f0) (((rd_T83 l0 x13_1).f0).length : Int) (wrap64 (x23_2 + 1)) ((rd_T83 l0 x13_1).f0) ((rd_T83 l0 x13_1).f1)) else (if x3_2.length < 4398046511104 then (spec_l11Edges.l1 k2 (x3_2 ++ [(⟨t192, t193, t194, t195⟩ : S228)]) (((rd_T83 l0 x13_1).f0).length : Int) l0 (l0.length : Int) x13_1 ((rd_T83 l0 x13_1).f0) (((rd_T83 l0 x13_1).f0).length : Int) (wrap64 (x23_2 + 1)) ((rd_T83 l0 x13_1).f0) ((rd_T83 l0 x13_1).f1)) else (none)))) = some r := H
              have A16 := Aside0.mk A160
              clear A160
              replace H := Option.bind_eq_some_iff.mp H
              obtain ⟨t195, A170, H⟩ := H
              replace H : (if t193 = t195 then (spec_l11Edges.l1 k2 x3_2 (((rd_T83 l0 x13_1).f0).length : Int) l0 (l0.length : Int) x13_1 ((rd_T83 l0 x13_1).f0) (((rd_T83 l0 x13_1).f0).length : Int) (wrap64 (x23_2 + 1)) ((rd_T83 l0 x13_1).f0) ((rd_T83 l0 x13_1).f1)) else (if x3_2.length < 4398046511104 then (spec_l11Edges.l1 k2 (x3_2 ++ [(⟨t192, t193, t194, t195⟩ : S228)]) (((rd_T83 l0 x13_1).f0).length : Int) l0 (l0.length : Int) x13_1 ((rd_T83 l0 x13_1).f0) (((rd_T83 l0 x13_1).f0).length : Int) (wrap64 (x23_2 + 1)) ((rd_T83 l0 x13_1).f0) ((rd_T83 l0 x13_1).f1)) else (none))) = some r := H
              have A17 := Aside0.mk A170
              clear A170
              by_cases c18 : t193 = t195
              ·rw [if_pos c18] at H
               have c18b0 : (t193 == t195) = true := beq_iff_eq.mpr c18
               have c18b1 : (t193 != t195) = false := bne_eq_false_iff_eq.mpr c18
               clear c18
               have H' := Aside0.mk H
               clear H
               have p188 : 0 ≤ (x23_2 : Int) := of_decide_eq_true (by first | (with_reducible assumption) | assumption)
               have q188 : x23_2 < (((rd_T83 l0 x13_1).f0).length : Int) := of_decide_eq_true (by first | (with_reducible assumption) | assumption)
               obtain ⟨ad188, e188, hx188_0, hx188_1⟩ := at_T25 HR186_0.out x23_2 p188 q188
               cases e188
               replace hx188_0 := (HB.out.cell (World.block_lt_of_cell? w _ hx188_0)).trans hx188_0
               replace hx188_1 := (HB.out.cell (World.block_lt_of_cell? w _ hx188_1)).trans hx188_1
               replace p188 := eq_true p188
               replace q188 := eq_true q188
               try go_wp2_with (first | ((with_reducible refine gate_dst (N := 8) rfl ?_); refine box_event ?hg (N := 8) ?hd (cs := #[.int .i64 0, .int .i64 0]) (t := 25) ?hr ?_; (case hd => rfl); (case hg => rfl); (case hr => first | (go_simp; done) | (go_simp; rfl)); intro gb189 hg w19 hbox hb; replace HO_3 := z.rb HO_3 hb; have BK189 := Aside0.mk (hbox); have GW189 := Aside0.mk ((by rw [hg]; exact (below_size (z.bl HB)) : w.heap.size ≤ gb189)); have GE189 := Aside0.mk ((by rw [hg]; exact (below_size (z.bl HB)) : w.heap.size ≤ gb189)); replace HB := Aside0.mk (below_step (z.bl HB) hb); have NB187_189 := z.ht BK187 hg; have NB189_187 := z.hu BK187 hg; replace BK187 := z.bb BK187 hb; clear hb hbox hg; have hnb20 := NB189_187.out; have hnc20 := NB187_189.out; have hcz21_0 : w19.cell? ⟨gb189, 0, none⟩ = some (.int .i64 0) := (blk_cell BK189.out 0).trans rfl; have hcz21_1 : w19.cell? ⟨gb189, 1, none⟩ = some (.int .i64 0) := (blk_cell BK189.out 1).trans rfl; have hfz21_0 := blk_frozen BK189.out 0; have hfz21_1 := blk_frozen BK189.out 1))
               have n0_ : Aside0 (Kd.R k228 228 ((w19.setCell ⟨gb189, 0, none⟩ (.int .i64 ((rd_T25 ((rd_T83 l0 x13_1).f0) x23_2).f0))).setCell ⟨gb189, 1, none⟩ (.int .i64 ((rd_T25 ((rd_T83 l0 x13_1).f0) x23_2).f1))) w.heap.size (fun _ => True) u3 x3_2) := ⟨z.rl (Kd.R_mono (Kd.R_far (p := ⟨gb189, 1, none⟩) (Kd.R_far (p := ⟨gb189, 0, none⟩) (Kd.R_types HO_3.out BK189.out (by decide)) (fun _ hk => hk.2) (.int .i64 ((rd_T25 ((rd_T83 l0 x13_1).f0) x23_2).f0))) (fun _ hk => hk.2) (.int .i64 ((rd_T25 ((rd_T83 l0 x13_1).f0) x23_2).f1))) (fun _ hk => trivial))⟩
               have n1_ : Aside0 (((w19.setCell ⟨gb189, 0, none⟩ (.int .i64 ((rd_T25 ((rd_T83 l0 x13_1).f0) x23_2).f0))).setCell ⟨gb189, 1, none⟩ (.int .i64 ((rd_T25 ((rd_T83 l0 x13_1).f0) x23_2).f1))).heap[gb187]? = some (.cells #[.slice (some ad188) ((rd_T83 l0 x13_1).f0).length c186_0, .bool ((rd_T83 l0 x13_1).f1)] 83 (0, 0))) := ⟨z.bf BK187⟩
               have n2_ : Aside0 (((w19.setCell ⟨gb189, 0, none⟩ (.int .i64 ((rd_T25 ((rd_T83 l0 x13_1).f0) x23_2).f0))).setCell ⟨gb189, 1, none⟩ (.int .i64 ((rd_T25 ((rd_T83 l0 x13_1).f0) x23_2).f1))).heap[gb189]? = some (.cells #[.int .i64 ((rd_T25 ((rd_T83 l0 x13_1).f0) x23_2).f0), .int .i64 ((rd_T25 ((rd_T83 l0 x13_1).f0) x23_2).f1)] 25 (0, 0))) := ⟨by (with_reducible repeat (first | refine blk_drewN ?_ _ | refine blk_drew ?_ | refine blk_alloc ?_ _)); refine blk_put (cs := #[.int .i64 ((rd_T25 ((rd_T83 l0 x13_1).f0) x23_2).f0), .int .i64 0]) ?_ 1 _ rfl; (with_reducible repeat (first | refine blk_drewN ?_ _ | refine blk_drew ?_ | refine blk_alloc ?_ _)); refine blk_put (cs := #[.int .i64 0, .int .i64 0]) ?_ 0 _ rfl; (with_reducible repeat (first | refine blk_drewN ?_ _ | refine blk_drew ?_ | refine blk_alloc ?_ _)); exact BK189.out⟩
               have n3_ : Aside0 (Below w.heap.size w ((w19.setCell ⟨gb189, 0, none⟩ (.int .i64 ((rd_T25 ((rd_T83 l0 x13_1).f0) x23_2).f0))).setCell ⟨gb189, 1, none⟩ (.int .i64 ((rd_T25 ((rd_T83 l0 x13_1).f0) x23_2).f1)))) := ⟨z.bl HB⟩
               (try clear HO_3)
               (try clear BK187)
               (try clear BK189)
               (try clear HB)
               generalize ((w19.setCell ⟨gb189, 0, none⟩ (.int .i64 ((rd_T25 ((rd_T83 l0 x13_1).f0) x23_2).f0))).setCell ⟨gb189, 1, none⟩ (.int .i64 ((rd_T25 ((rd_T83 l0 x13_1).f0) x23_2).f1))) = w22 at n0_ n1_ n2_ n3_ ⊢
               have HO_3 := n0_
               have BK187 := n1_
               have BK189 := n2_
               have HB := n3_
               clear n0_ n1_ n2_ n3_
               replace HO_3 := Aside0.mk (Kd.R_drew HO_3.out)
               replace BK187 := Aside0.mk (blk_drew BK187.out)
               replace BK189 := Aside0.mk (blk_drew BK189.out)
               replace HB := Aside0.mk (below_drew1 HB.out)
               have p190 : 0 ≤ ((ji11) : Int) := of_decide_eq_true (by first | (with_reducible assumption) | assumption)
               have q190 : (ji11) < (((rd_T83 l0 x13_1).f0).length : Int) := of_decide_eq_true (by first | (with_reducible assumption) | assumption)
               obtain ⟨ad190, e190, hx190_0, hx190_1⟩ := at_T25 HR186_0.out (ji11) p190 q190
               have hw190_1 := hx190_1
               have hw190_0 := hx190_0
               obtain rfl : ad188 = ad190 := (by injection e190)
               replace hx190_0 := (HB.out.cell (World.block_lt_of_cell? w _ hx190_0)).trans hx190_0
               replace hx190_1 := (HB.out.cell (World.block_lt_of_cell? w _ hx190_1)).trans hx190_1
               replace p190 := eq_true p190
               replace q190 := eq_true q190
               refine start_ (n := 10) (S := fun w' => w'.cell? ⟨gb187, 0, none⟩ = some (.slice (some ad188) ((rd_T83 l0 x13_1).f0).length c186_0) ∧ w'.cell? ⟨gb187, 1, none⟩ = some (.bool ((rd_T83 l0 x13_1).f1)) ∧ w'.cell? (ad188.add (((ji11)).toNat * 2)) = some (.int .i64 ((rd_T25 ((rd_T83 l0 x13_1).f0) (ji11)).f0)) ∧ w'.cell? ⟨(ad188.add (((ji11)).toNat * 2)).block, (ad188.add (((ji11)).toNat * 2)).off + 1, none⟩ = some (.int .i64 ((rd_T25 ((rd_T83 l0 x13_1).f0) (ji11)).f1))) (ds := []) #[false, false, false, false, false, false, false, false, false, false] (by kernel_rfl) rfl rfl ⟨(blk_cell BK187.out 0).trans rfl, (blk_cell BK187.out 1).trans rfl, ((HB.out.cell (World.block_lt_of_cell? w _ hw190_0)).trans hw190_0), ((HB.out.cell (World.block_lt_of_cell? w _ hw190_1)).trans hw190_1)⟩ (fun hHeld => ?_); refine with_tabW spec_l11Edges.tab9 spec_l11Edges.bits9 (fun HT_ HW_ => ?_)
               generalize w22.drew = w23 at HO_3 BK187 BK189 HB hx190_0 hx190_1 hHeld ⊢
               refine pure_ (i := 0) (N := some 28) (v := ?_) (a' := ?_) #[true, false, false, false, false, false, false, false, false, false] rfl rfl (any_of HT_.out (by kernel_rfl)) (fun _ _ _ h => h) (Or.inl ⟨by rfl, ?_⟩) ?_ ?_
               rotate_left
               ·intro w'
                go_simp
                with_reducible rfl
               rotate_left
               ·simp only [Act.put, List.setIfInBounds_toArray, List.set_cons_zero, List.set_cons_succ, i64_w, i32_w]
                rfl
               refine pure_ (i := 2) (N := some 30) (v := ?_) (a' := ?_) #[true, false, true, false, false, false, false, false, false, false] rfl rfl (any_of HT_.out (by kernel_rfl)) (fun _ _ _ h => h) (Or.inl ⟨by rfl, ?_⟩) ?_ ?_
               rotate_left
               ·intro w'
                go_simp
                with_reducible rfl
               rotate_left
               ·simp only [Act.put, List.setIfInBounds_toArray, List.set_cons_zero, List.set_cons_succ, i64_w, i32_w]
                rfl
               refine pure_ (i := 3) (N := some 31) (v := ?_) (a' := ?_) #[true, false, true, true, false, false, false, false, false, false] rfl rfl (any_of HT_.out (by kernel_rfl)) (fun _ _ _ h => h) (Or.inl ⟨by rfl, ?_⟩) ?_ ?_
               rotate_left
               ·intro w'
                go_simp
                with_reducible rfl
               rotate_left
               ·simp only [Act.put, List.setIfInBounds_toArray, List.set_cons_zero, List.set_cons_succ, i64_w, i32_w]
                rfl
               refine pure_ (i := 4) (N := some 32) (v := ?_) (a' := ?_) #[true, false, true, true, true, false, false, false, false, false] rfl rfl (any_of HT_.out (by kernel_rfl)) (fun _ _ _ h => h) (Or.inl ⟨by rfl, ?_⟩) ?_ ?_
               rotate_left
               ·intro w'
                go_simp
                with_reducible rfl
               rotate_left
               ·simp only [Act.put, List.setIfInBounds_toArray, List.set_cons_zero, List.set_cons_succ, i64_w, i32_w]
                rfl
               refine pure_ (i := 5) (N := some 33) (v := ?_) (a' := ?_) #[true, false, true, true, true, true, false, false, false, false] rfl rfl (any_of HT_.out (by kernel_rfl)) (fun _ _ _ h => h) (Or.inl ⟨by rfl, ?_⟩) ?_ ?_
               rotate_left
               ·intro w'
                go_simp
                with_reducible rfl
               rotate_left
               ·simp only [Act.put, List.setIfInBounds_toArray, List.set_cons_zero, List.set_cons_succ, i64_w, i32_w]
                rfl
               refine take_ (i := 1) (N := some 29) (v := ?_) (a' := ?_) #[true, true, true, true, true, true, false, false, false, false] rfl rfl (take_ofW HT_.out HW_.out (by kernel_rfl)) (fun _ _ _ h => h) (Or.inl ⟨by rfl, ?_⟩) hHeld ?_ ?_
               rotate_left
               ·rintro w' ⟨s0, s1, s2, s3⟩
                go_simp
                with_reducible rfl
               rotate_left
               ·simp only [Act.put, List.setIfInBounds_toArray, List.set_cons_zero, List.set_cons_succ, i64_w, i32_w]
                rfl
               refine pure_ (i := 6) (N := some 34) (v := ?_) (a' := ?_) #[true, true, true, true, true, true, true, false, false, false] rfl rfl (any_of HT_.out (by kernel_rfl)) (fun _ _ _ h => h) (Or.inl ⟨by rfl, ?_⟩) ?_ ?_
               rotate_left
               ·intro w'
                go_simp
                with_reducible rfl
               rotate_left
               ·simp only [Act.put, List.setIfInBounds_toArray, List.set_cons_zero, List.set_cons_succ, i64_w, i32_w]
                rfl
               refine take_ (i := 7) (N := some 35) (v := ?_) (a' := ?_) #[true, true, true, true, true, true, true, true, false, false] rfl rfl (take_ofW HT_.out HW_.out (by kernel_rfl)) (fun _ _ _ h => h) (Or.inl ⟨by rfl, ?_⟩) hHeld ?_ ?_
               rotate_left
               ·rintro w' ⟨s0, s1, s2, s3⟩
                go_simp
                with_reducible rfl
               rotate_left
               ·simp only [Act.put, List.setIfInBounds_toArray, List.set_cons_zero, List.set_cons_succ, i64_w, i32_w]
                rfl
               refine one_ (i := 8) (N := some 9) #[true, true, true, true, true, true, true, true, true, false] rfl rfl (one_of HT_.out (by kernel_rfl)) (by decide) (fun K hK => ?_)
               refine box_step ?hg (N := 9) ?hd (cs := #[.int .i64 0, .int .i64 0]) (t := 25) ?hr ?_; (case hd => rfl); (case hg => rfl); (case hr => first | (go_simp; done) | (go_simp; rfl))
               intro gb191 hg w24 hbox hb
               replace HO_3 := z.rb HO_3 hb
               have BK191 := Aside0.mk (hbox)
               have GW191 := Aside0.mk ((by rw [hg]; exact (below_size (z.bl HB)) : w.heap.size ≤ gb191))
               have GE191 := Aside0.mk ((by rw [hg]; exact (below_size (z.bl HB)) : w.heap.size ≤ gb191))
               replace HB := Aside0.mk (below_step (z.bl HB) hb)
               have NB187_191 := z.ht BK187 hg
               have NB191_187 := z.hu BK187 hg
               replace BK187 := z.bb BK187 hb
               have NB189_191 := z.ht BK189 hg
               have NB191_189 := z.hu BK189 hg
               replace BK189 := z.bb BK189 hb
               clear hb hbox hg
               refine hK.out _ _ ⟨(blk_cell BK187.out 0).trans rfl, (blk_cell BK187.out 1).trans rfl, ((HB.out.cell (World.block_lt_of_cell? w _ hw190_0)).trans hw190_0), ((HB.out.cell (World.block_lt_of_cell? w _ hw190_1)).trans hw190_1)⟩ (fun hHeld => ?_)
               clear hK K
               refine norm_ (a' := ?_) ?_ ?_
               rotate_left
               ·show Act.put _ (some 9) _ = _
                simp only [Act.put, List.setIfInBounds_toArray, List.set_cons_zero, List.set_cons_succ, i64_w, i32_w]
                rfl
               refine one_ (i := 9) (N := none) #[true, true, true, true, true, true, true, true, true, true] rfl rfl (one_of HT_.out (by kernel_rfl)) (by decide) (fun K hK => ?_)
               have hs25 : w24.cell? ⟨gb191, 0, none⟩ = some (.int .i64 0) := (blk_cell BK191.out 0).trans rfl
               have hfs25 := blk_frozen BK191.out 0
               have hns25_0 := NB187_191.out
               have hns25_1 := NB189_191.out
               have hms25_0 := NB191_187.out
               have hms25_1 := NB191_189.out
               have hs26 : w24.cell? ⟨gb191, 1, none⟩ = some (.int .i64 0) := (blk_cell BK191.out 1).trans rfl
               have hfs26 := blk_frozen BK191.out 1
               have hns26_0 := NB187_191.out
               have hns26_1 := NB189_191.out
               have hms26_0 := NB191_187.out
               have hms26_1 := NB191_189.out
               refine skip_ (w1 := ?_) (by rfl) rfl ?_ ?_
               rotate_left
               ·go_simp
                rfl
               refine hK.out _ _ ⟨((cell_far (p := ⟨gb191, _, none⟩) NB187_191.out _).trans (((cell_far (p := ⟨gb191, _, none⟩) NB187_191.out _).trans (hHeld.1)))), ((cell_far (p := ⟨gb191, _, none⟩) NB187_191.out _).trans (((cell_far (p := ⟨gb191, _, none⟩) NB187_191.out _).trans (hHeld.2.1)))), ((cell_far (p := ⟨gb191, _, none⟩) (by first | exact Nat.ne_of_lt (Nat.lt_of_lt_of_le (by have := World.block_lt_of_cell? _ _ hw190_0; first | rwa [add_block] at this | exact this) GW191.out) | (rw [add_block]; exact Nat.ne_of_lt (Nat.lt_of_lt_of_le (by have := World.block_lt_of_cell? _ _ hw190_0; first | rwa [add_block] at this | exact this) GW191.out)) | (show (Addr.add _ _).block ≠ _; rw [add_block]; exact Nat.ne_of_lt (Nat.lt_of_lt_of_le (by have := World.block_lt_of_cell? _ _ hw190_0; first | rwa [add_block] at this | exact this) GW191.out)) | (dsimp only; exact Nat.ne_of_lt (Nat.lt_of_lt_of_le (by have := World.block_lt_of_cell? _ _ hw190_0; first | rwa [add_block] at this | exact this) GW191.out))) _).trans (((cell_far (p := ⟨gb191, _, none⟩) (by first | exact Nat.ne_of_lt (Nat.lt_of_lt_of_le (by have := World.block_lt_of_cell? _ _ hw190_0; first | rwa [add_block] at this | exact this) GW191.out) | (rw [add_block]; exact Nat.ne_of_lt (Nat.lt_of_lt_of_le (by have := World.block_lt_of_cell? _ _ hw190_0; first | rwa [add_block] at this | exact this) GW191.out)) | (show (Addr.add _ _).block ≠ _; rw [add_block]; exact Nat.ne_of_lt (Nat.lt_of_lt_of_le (by have := World.block_lt_of_cell? _ _ hw190_0; first | rwa [add_block] at this | exact this) GW191.out)) | (dsimp only; exact Nat.ne_of_lt (Nat.lt_of_lt_of_le (by have := World.block_lt_of_cell? _ _ hw190_0; first | rwa [add_block] at this | exact this) GW191.out))) _).trans (hHeld.2.2.1)))), ((cell_far (p := ⟨gb191, _, none⟩) (by first | exact Nat.ne_of_lt (Nat.lt_of_lt_of_le (by have := World.block_lt_of_cell? _ _ hw190_1; first | rwa [add_block] at this | exact this) GW191.out) | (rw [add_block]; exact Nat.ne_of_lt (Nat.lt_of_lt_of_le (by have := World.block_lt_of_cell? _ _ hw190_1; first | rwa [add_block] at this | exact this) GW191.out)) | (show (Addr.add _ _).block ≠ _; rw [add_block]; exact Nat.ne_of_lt (Nat.lt_of_lt_of_le (by have := World.block_lt_of_cell? _ _ hw190_1; first | rwa [add_block] at this | exact this) GW191.out)) | (dsimp only; exact Nat.ne_of_lt (Nat.lt_of_lt_of_le (by have := World.block_lt_of_cell? _ _ hw190_1; first | rwa [add_block] at this | exact this) GW191.out))) _).trans (((cell_far (p := ⟨gb191, _, none⟩) (by first | exact Nat.ne_of_lt (Nat.lt_of_lt_of_le (by have := World.block_lt_of_cell? _ _ hw190_1; first | rwa [add_block] at this | exact this) GW191.out) | (rw [add_block]; exact Nat.ne_of_lt (Nat.lt_of_lt_of_le (by have := World.block_lt_of_cell? _ _ hw190_1; first | rwa [add_block] at this | exact this) GW191.out)) | (show (Addr.add _ _).block ≠ _; rw [add_block]; exact Nat.ne_of_lt (Nat.lt_of_lt_of_le (by have := World.block_lt_of_cell? _ _ hw190_1; first | rwa [add_block] at this | exact this) GW191.out)) | (dsimp only; exact Nat.ne_of_lt (Nat.lt_of_lt_of_le (by have := World.block_lt_of_cell? _ _ hw190_1; first | rwa [add_block] at this | exact this) GW191.out))) _).trans (hHeld.2.2.2))))⟩ (fun hHeld => ?_)
               clear hK K
               refine done_ (done_of HT_.out (by kernel_rfl)) ?_
               try go_wp2
               have n0_ : Aside0 (Kd.R k228 228 ((w24.setCell ⟨gb191, 0, none⟩ (.int .i64 ((rd_T25 ((rd_T83 l0 x13_1).f0) (ji11)).f0))).setCell ⟨gb191, 1, none⟩ (.int .i64 ((rd_T25 ((rd_T83 l0 x13_1).f0) (ji11)).f1))) w.heap.size (fun _ => True) u3 x3_2) := ⟨z.rl (Kd.R_mono (Kd.R_far (p := ⟨gb191, 1, none⟩) (Kd.R_far (p := ⟨gb191, 0, none⟩) (Kd.R_types HO_3.out BK191.out (by decide)) (fun _ hk => hk.2) (.int .i64 ((rd_T25 ((rd_T83 l0 x13_1).f0) (ji11)).f0))) (fun _ hk => hk.2) (.int .i64 ((rd_T25 ((rd_T83 l0 x13_1).f0) (ji11)).f1))) (fun _ hk => trivial))⟩
               have n1_ : Aside0 (((w24.setCell ⟨gb191, 0, none⟩ (.int .i64 ((rd_T25 ((rd_T83 l0 x13_1).f0) (ji11)).f0))).setCell ⟨gb191, 1, none⟩ (.int .i64 ((rd_T25 ((rd_T83 l0 x13_1).f0) (ji11)).f1))).heap[gb187]? = some (.cells #[.slice (some ad188) ((rd_T83 l0 x13_1).f0).length c186_0, .bool ((rd_T83 l0 x13_1).f1)] 83 (0, 0))) := ⟨z.bf BK187⟩
               have n2_ : Aside0 (((w24.setCell ⟨gb191, 0, none⟩ (.int .i64 ((rd_T25 ((rd_T83 l0 x13_1).f0) (ji11)).f0))).setCell ⟨gb191, 1, none⟩ (.int .i64 ((rd_T25 ((rd_T83 l0 x13_1).f0) (ji11)).f1))).heap[gb189]? = some (.cells #[.int .i64 ((rd_T25 ((rd_T83 l0 x13_1).f0) x23_2).f0), .int .i64 ((rd_T25 ((rd_T83 l0 x13_1).f0) x23_2).f1)] 25 (0, 0))) := ⟨z.bf BK189⟩
               have n3_ : Aside0 (((w24.setCell ⟨gb191, 0, none⟩ (.int .i64 ((rd_T25 ((rd_T83 l0 x13_1).f0) (ji11)).f0))).setCell ⟨gb191, 1, none⟩ (.int .i64 ((rd_T25 ((rd_T83 l0 x13_1).f0) (ji11)).f1))).heap[gb191]? = some (.cells #[.int .i64 ((rd_T25 ((rd_T83 l0 x13_1).f0) (ji11)).f0), .int .i64 ((rd_T25 ((rd_T83 l0 x13_1).f0) (ji11)).f1)] 25 (0, 0))) := ⟨by (with_reducible repeat (first | refine blk_drewN ?_ _ | refine blk_drew ?_ | refine blk_alloc ?_ _)); refine blk_put (cs := #[.int .i64 ((rd_T25 ((rd_T83 l0 x13_1).f0) (ji11)).f0), .int .i64 0]) ?_ 1 _ rfl; (with_reducible repeat (first | refine blk_drewN ?_ _ | refine blk_drew ?_ | refine blk_alloc ?_ _)); refine blk_put (cs := #[.int .i64 0, .int .i64 0]) ?_ 0 _ rfl; (with_reducible repeat (first | refine blk_drewN ?_ _ | refine blk_drew ?_ | refine blk_alloc ?_ _)); exact BK191.out⟩
               have n4_ : Aside0 (Below w.heap.size w ((w24.setCell ⟨gb191, 0, none⟩ (.int .i64 ((rd_T25 ((rd_T83 l0 x13_1).f0) (ji11)).f0))).setCell ⟨gb191, 1, none⟩ (.int .i64 ((rd_T25 ((rd_T83 l0 x13_1).f0) (ji11)).f1)))) := ⟨z.bl HB⟩
               (try clear HO_3)
               (try clear BK187)
               (try clear BK189)
               (try clear BK191)
               (try clear HB)
               generalize ((w24.setCell ⟨gb191, 0, none⟩ (.int .i64 ((rd_T25 ((rd_T83 l0 x13_1).f0) (ji11)).f0))).setCell ⟨gb191, 1, none⟩ (.int .i64 ((rd_T25 ((rd_T83 l0 x13_1).f0) (ji11)).f1))) = w27 at n0_ n1_ n2_ n3_ n4_ ⊢
               have HO_3 := n0_
               have BK187 := n1_
               have BK189 := n2_
               have BK191 := n3_
               have HB := n4_
               clear n0_ n1_ n2_ n3_ n4_
               replace HO_3 := Aside0.mk (Kd.R_drew HO_3.out)
               replace BK187 := Aside0.mk (blk_drew BK187.out)
               replace BK189 := Aside0.mk (blk_drew BK189.out)
               replace BK191 := Aside0.mk (blk_drew BK191.out)
               replace HB := Aside0.mk (below_drew1 HB.out)
               refine start_ (n := 15) (S := fun w' => w'.cell? ⟨gb189, 0, none⟩ = some (.int .i64 ((rd_T25 ((rd_T83 l0 x13_1).f0) x23_2).f0)) ∧ w'.cell? ⟨gb189, 1, none⟩ = some (.int .i64 ((rd_T25 ((rd_T83 l0 x13_1).f0) x23_2).f1)) ∧ w'.cell? ⟨gb191, 0, none⟩ = some (.int .i64 ((rd_T25 ((rd_T83 l0 x13_1).f0) (ji11)).f0)) ∧ w'.cell? ⟨gb191, 1, none⟩ = some (.int .i64 ((rd_T25 ((rd_T83 l0 x13_1).f0) (ji11)).f1))) (ds := []) #[false, false, false, false, false, false, false, false, false, false, false, false, false, false, false] (by kernel_rfl) rfl rfl ⟨(blk_cell BK189.out 0).trans rfl, (blk_cell BK189.out 1).trans rfl, (blk_cell BK191.out 0).trans rfl, (blk_cell BK191.out 1).trans rfl⟩ (fun hHeld => ?_); refine with_tabW spec_l11Edges.tab10 spec_l11Edges.bits10 (fun HT_ HW_ => ?_)
               generalize w27.drew = w28 at HO_3 BK187 BK189 BK191 HB hHeld ⊢
               refine pure_ (i := 0) (N := some 36) (v := ?_) (a' := ?_) #[true, false, false, false, false, false, false, false, false, false, false, false, false, false, false] rfl rfl (any_of HT_.out (by kernel_rfl)) (fun _ _ _ h => h) (Or.inl ⟨by rfl, ?_⟩) ?_ ?_
               rotate_left
               ·intro w'
                go_simp
                with_reducible rfl
               rotate_left
               ·simp only [Act.put, List.setIfInBounds_toArray, List.set_cons_zero, List.set_cons_succ, i64_w, i32_w]
                rfl
               refine pure_ (i := 3) (N := some 39) (v := ?_) (a' := ?_) #[true, false, false, true, false, false, false, false, false, false, false, false, false, false, false] rfl rfl (any_of HT_.out (by kernel_rfl)) (fun _ _ _ h => h) (Or.inl ⟨by rfl, ?_⟩) ?_ ?_
               rotate_left
               ·intro w'
                go_simp
                with_reducible rfl
               rotate_left
               ·simp only [Act.put, List.setIfInBounds_toArray, List.set_cons_zero, List.set_cons_succ, i64_w, i32_w]
                rfl
               refine pure_ (i := 6) (N := some 42) (v := ?_) (a' := ?_) #[true, false, false, true, false, false, true, false, false, false, false, false, false, false, false] rfl rfl (any_of HT_.out (by kernel_rfl)) (fun _ _ _ h => h) (Or.inl ⟨by rfl, ?_⟩) ?_ ?_
               rotate_left
               ·intro w'
                go_simp
                with_reducible rfl
               rotate_left
               ·simp only [Act.put, List.setIfInBounds_toArray, List.set_cons_zero, List.set_cons_succ, i64_w, i32_w]
                rfl
               refine pure_ (i := 9) (N := some 45) (v := ?_) (a' := ?_) #[true, false, false, true, false, false, true, false, false, true, false, false, false, false, false] rfl rfl (any_of HT_.out (by kernel_rfl)) (fun _ _ _ h => h) (Or.inl ⟨by rfl, ?_⟩) ?_ ?_
               rotate_left
               ·intro w'
                go_simp
                with_reducible rfl
               rotate_left
               ·simp only [Act.put, List.setIfInBounds_toArray, List.set_cons_zero, List.set_cons_succ, i64_w, i32_w]
                rfl
               refine take_ (i := 1) (N := some 37) (v := ?_) (a' := ?_) #[true, true, false, true, false, false, true, false, false, true, false, false, false, false, false] rfl rfl (take_ofW HT_.out HW_.out (by kernel_rfl)) (fun _ _ _ h => h) (Or.inl ⟨by rfl, ?_⟩) hHeld ?_ ?_
               rotate_left
               ·rintro w' ⟨s0, s1, s2, s3⟩
                go_simp
                with_reducible rfl
               rotate_left
               ·simp only [Act.put, List.setIfInBounds_toArray, List.set_cons_zero, List.set_cons_succ, i64_w, i32_w]
                rfl
               refine take_ (i := 4) (N := some 40) (v := ?_) (a' := ?_) #[true, true, false, true, true, false, true, false, false, true, false, false, false, false, false] rfl rfl (take_ofW HT_.out HW_.out (by kernel_rfl)) (fun _ _ _ h => h) (Or.inl ⟨by rfl, ?_⟩) hHeld ?_ ?_
               rotate_left
               ·rintro w' ⟨s0, s1, s2, s3⟩
                go_simp
                with_reducible rfl
               rotate_left
               ·simp only [Act.put, List.setIfInBounds_toArray, List.set_cons_zero, List.set_cons_succ, i64_w, i32_w]
                rfl
               refine take_ (i := 7) (N := some 43) (v := ?_) (a' := ?_) #[true, true, false, true, true, false, true, true, false, true, false, false, false, false, false] rfl rfl (take_ofW HT_.out HW_.out (by kernel_rfl)) (fun _ _ _ h => h) (Or.inl ⟨by rfl, ?_⟩) hHeld ?_ ?_
               rotate_left
               ·rintro w' ⟨s0, s1, s2, s3⟩
                go_simp
                with_reducible rfl
               rotate_left
               ·simp only [Act.put, List.setIfInBounds_toArray, List.set_cons_zero, List.set_cons_succ, i64_w, i32_w]
                rfl
               refine take_ (i := 10) (N := some 46) (v := ?_) (a' := ?_) #[true, true, false, true, true, false, true, true, false, true, true, false, false, false, false] rfl rfl (take_ofW HT_.out HW_.out (by kernel_rfl)) (fun _ _ _ h => h) (Or.inl ⟨by rfl, ?_⟩) hHeld ?_ ?_
               rotate_left
               ·rintro w' ⟨s0, s1, s2, s3⟩
                go_simp
                with_reducible rfl
               rotate_left
               ·simp only [Act.put, List.setIfInBounds_toArray, List.set_cons_zero, List.set_cons_succ, i64_w, i32_w]
                rfl
               refine join_ (σ := Nat) 1 #[true, true, true, true, true, true, true, true, true, true, true, true, true, true, false] (fun s_ => [(38, .int .i64 t192), (41, .int .i64 t193), (44, .int .i64 t194), (47, .int .i64 t195), (10, .pointer (some ⟨s_, 0, none⟩)), (48, .agg #[.int .i64 t192, .int .i64 t193, .int .i64 t194, .int .i64 t195])]) (fun s_ w' => (w'.cell? ⟨gb189, 0, none⟩ = some (.int .i64 ((rd_T25 ((rd_T83 l0 x13_1).f0) x23_2).f0)) ∧ w'.cell? ⟨gb189, 1, none⟩ = some (.int .i64 ((rd_T25 ((rd_T83 l0 x13_1).f0) x23_2).f1)) ∧ w'.cell? ⟨gb191, 0, none⟩ = some (.int .i64 ((rd_T25 ((rd_T83 l0 x13_1).f0) (ji11)).f0)) ∧ w'.cell? ⟨gb191, 1, none⟩ = some (.int .i64 ((rd_T25 ((rd_T83 l0 x13_1).f0) (ji11)).f1))) ∧ (Kd.R k228 228 w' w.heap.size (fun k_ => k_ ≠ s_) u3 x3_2) ∧ (w'.heap[gb187]? = some (.cells #[.slice (some ad188) ((rd_T83 l0 x13_1).f0).length c186_0, .bool ((rd_T83 l0 x13_1).f1)] 83 (0, 0))) ∧ (w'.heap[gb189]? = some (.cells #[.int .i64 ((rd_T25 ((rd_T83 l0 x13_1).f0) x23_2).f0), .int .i64 ((rd_T25 ((rd_T83 l0 x13_1).f0) x23_2).f1)] 25 (0, 0))) ∧ (w'.heap[gb191]? = some (.cells #[.int .i64 ((rd_T25 ((rd_T83 l0 x13_1).f0) (ji11)).f0), .int .i64 ((rd_T25 ((rd_T83 l0 x13_1).f0) (ji11)).f1)] 25 (0, 0))) ∧ (w'.heap[s_]? = some (.cells #[.int .i64 0, .int .i64 0, .int .i64 0, .int .i64 0] 228 (0, 0))) ∧ (w.heap.size ≤ s_) ∧ (w.heap.size ≤ s_) ∧ (gb187 ≠ s_) ∧ (s_ ≠ gb187) ∧ (gb189 ≠ s_) ∧ (s_ ≠ gb189) ∧ (gb191 ≠ s_) ∧ (s_ ≠ gb191) ∧ (Below w.heap.size w w')) ?_ ?_
               rotate_left
               ·intro hJ2_5_8_11_13
                refine join_ (σ := Unit) 2 #[true, true, true, true, true, true, true, true, true, true, true, true, true, false, false] (fun s_ => [(38, .int .i64 t192), (41, .int .i64 t193), (44, .int .i64 t194), (47, .int .i64 t195), (48, .agg #[.int .i64 t192, .int .i64 t193, .int .i64 t194, .int .i64 t195])]) (fun s_ w' => (w'.cell? ⟨gb189, 0, none⟩ = some (.int .i64 ((rd_T25 ((rd_T83 l0 x13_1).f0) x23_2).f0)) ∧ w'.cell? ⟨gb189, 1, none⟩ = some (.int .i64 ((rd_T25 ((rd_T83 l0 x13_1).f0) x23_2).f1)) ∧ w'.cell? ⟨gb191, 0, none⟩ = some (.int .i64 ((rd_T25 ((rd_T83 l0 x13_1).f0) (ji11)).f0)) ∧ w'.cell? ⟨gb191, 1, none⟩ = some (.int .i64 ((rd_T25 ((rd_T83 l0 x13_1).f0) (ji11)).f1))) ∧ (Kd.R k228 228 w' w.heap.size (fun _ => True) u3 x3_2) ∧ (w'.heap[gb187]? = some (.cells #[.slice (some ad188) ((rd_T83 l0 x13_1).f0).length c186_0, .bool ((rd_T83 l0 x13_1).f1)] 83 (0, 0))) ∧ (w'.heap[gb189]? = some (.cells #[.int .i64 ((rd_T25 ((rd_T83 l0 x13_1).f0) x23_2).f0), .int .i64 ((rd_T25 ((rd_T83 l0 x13_1).f0) x23_2).f1)] 25 (0, 0))) ∧ (w'.heap[gb191]? = some (.cells #[.int .i64 ((rd_T25 ((rd_T83 l0 x13_1).f0) (ji11)).f0), .int .i64 ((rd_T25 ((rd_T83 l0 x13_1).f0) (ji11)).f1)] 25 (0, 0))) ∧ (Below w.heap.size w w')) ?_ ?_
                rotate_left
                ·intro hJ2_5_8_11
                 refine join_ (σ := Nat) 3 #[true, true, true, true, true, true, true, true, true, true, true, false, false, true, false] (fun s_ => [(38, .int .i64 t192), (41, .int .i64 t193), (44, .int .i64 t194), (10, .pointer (some ⟨s_, 0, none⟩))]) (fun s_ w' => (w'.cell? ⟨gb189, 0, none⟩ = some (.int .i64 ((rd_T25 ((rd_T83 l0 x13_1).f0) x23_2).f0)) ∧ w'.cell? ⟨gb189, 1, none⟩ = some (.int .i64 ((rd_T25 ((rd_T83 l0 x13_1).f0) x23_2).f1)) ∧ w'.cell? ⟨gb191, 0, none⟩ = some (.int .i64 ((rd_T25 ((rd_T83 l0 x13_1).f0) (ji11)).f0)) ∧ w'.cell? ⟨gb191, 1, none⟩ = some (.int .i64 ((rd_T25 ((rd_T83 l0 x13_1).f0) (ji11)).f1))) ∧ (Kd.R k228 228 w' w.heap.size (fun k_ => k_ ≠ s_) u3 x3_2) ∧ (w'.heap[gb187]? = some (.cells #[.slice (some ad188) ((rd_T83 l0 x13_1).f0).length c186_0, .bool ((rd_T83 l0 x13_1).f1)] 83 (0, 0))) ∧ (w'.heap[gb189]? = some (.cells #[.int .i64 ((rd_T25 ((rd_T83 l0 x13_1).f0) x23_2).f0), .int .i64 ((rd_T25 ((rd_T83 l0 x13_1).f0) x23_2).f1)] 25 (0, 0))) ∧ (w'.heap[gb191]? = some (.cells #[.int .i64 ((rd_T25 ((rd_T83 l0 x13_1).f0) (ji11)).f0), .int .i64 ((rd_T25 ((rd_T83 l0 x13_1).f0) (ji11)).f1)] 25 (0, 0))) ∧ (w'.heap[s_]? = some (.cells #[.int .i64 0, .int .i64 0, .int .i64 0, .int .i64 0] 228 (0, 0))) ∧ (w.heap.size ≤ s_) ∧ (w.heap.size ≤ s_) ∧ (gb187 ≠ s_) ∧ (s_ ≠ gb187) ∧ (gb189 ≠ s_) ∧ (s_ ≠ gb189) ∧ (gb191 ≠ s_) ∧ (s_ ≠ gb191) ∧ (Below w.heap.size w w')) ?_ ?_
                 rotate_left
                 ·intro hJ2_5_8_13
                  refine join_ (σ := Unit) 4 #[true, true, true, true, true, true, true, true, true, true, true, false, false, false, false] (fun s_ => [(38, .int .i64 t192), (41, .int .i64 t193), (44, .int .i64 t194)]) (fun s_ w' => (w'.cell? ⟨gb189, 0, none⟩ = some (.int .i64 ((rd_T25 ((rd_T83 l0 x13_1).f0) x23_2).f0)) ∧ w'.cell? ⟨gb189, 1, none⟩ = some (.int .i64 ((rd_T25 ((rd_T83 l0 x13_1).f0) x23_2).f1)) ∧ w'.cell? ⟨gb191, 0, none⟩ = some (.int .i64 ((rd_T25 ((rd_T83 l0 x13_1).f0) (ji11)).f0)) ∧ w'.cell? ⟨gb191, 1, none⟩ = some (.int .i64 ((rd_T25 ((rd_T83 l0 x13_1).f0) (ji11)).f1))) ∧ (Kd.R k228 228 w' w.heap.size (fun _ => True) u3 x3_2) ∧ (w'.heap[gb187]? = some (.cells #[.slice (some ad188) ((rd_T83 l0 x13_1).f0).length c186_0, .bool ((rd_T83 l0 x13_1).f1)] 83 (0, 0))) ∧ (w'.heap[gb189]? = some (.cells #[.int .i64 ((rd_T25 ((rd_T83 l0 x13_1).f0) x23_2).f0), .int .i64 ((rd_T25 ((rd_T83 l0 x13_1).f0) x23_2).f1)] 25 (0, 0))) ∧ (w'.heap[gb191]? = some (.cells #[.int .i64 ((rd_T25 ((rd_T83 l0 x13_1).f0) (ji11)).f0), .int .i64 ((rd_T25 ((rd_T83 l0 x13_1).f0) (ji11)).f1)] 25 (0, 0))) ∧ (Below w.heap.size w w')) ?_ ?_
                  rotate_left
                  ·intro hJ2_5_8
                   refine join_ (σ := Nat) 4 #[true, true, true, true, true, true, true, true, false, true, true, false, false, true, false] (fun s_ => [(38, .int .i64 t192), (41, .int .i64 t193), (10, .pointer (some ⟨s_, 0, none⟩))]) (fun s_ w' => (w'.cell? ⟨gb189, 0, none⟩ = some (.int .i64 ((rd_T25 ((rd_T83 l0 x13_1).f0) x23_2).f0)) ∧ w'.cell? ⟨gb189, 1, none⟩ = some (.int .i64 ((rd_T25 ((rd_T83 l0 x13_1).f0) x23_2).f1)) ∧ w'.cell? ⟨gb191, 0, none⟩ = some (.int .i64 ((rd_T25 ((rd_T83 l0 x13_1).f0) (ji11)).f0)) ∧ w'.cell? ⟨gb191, 1, none⟩ = some (.int .i64 ((rd_T25 ((rd_T83 l0 x13_1).f0) (ji11)).f1))) ∧ (Kd.R k228 228 w' w.heap.size (fun k_ => k_ ≠ s_) u3 x3_2) ∧ (w'.heap[gb187]? = some (.cells #[.slice (some ad188) ((rd_T83 l0 x13_1).f0).length c186_0, .bool ((rd_T83 l0 x13_1).f1)] 83 (0, 0))) ∧ (w'.heap[gb189]? = some (.cells #[.int .i64 ((rd_T25 ((rd_T83 l0 x13_1).f0) x23_2).f0), .int .i64 ((rd_T25 ((rd_T83 l0 x13_1).f0) x23_2).f1)] 25 (0, 0))) ∧ (w'.heap[gb191]? = some (.cells #[.int .i64 ((rd_T25 ((rd_T83 l0 x13_1).f0) (ji11)).f0), .int .i64 ((rd_T25 ((rd_T83 l0 x13_1).f0) (ji11)).f1)] 25 (0, 0))) ∧ (w'.heap[s_]? = some (.cells #[.int .i64 0, .int .i64 0, .int .i64 0, .int .i64 0] 228 (0, 0))) ∧ (w.heap.size ≤ s_) ∧ (w.heap.size ≤ s_) ∧ (gb187 ≠ s_) ∧ (s_ ≠ gb187) ∧ (gb189 ≠ s_) ∧ (s_ ≠ gb189) ∧ (gb191 ≠ s_) ∧ (s_ ≠ gb191) ∧ (Below w.heap.size w w')) ?_ ?_
                   rotate_left
                   ·intro hJ2_5_13
                    refine join_ (σ := Unit) 5 #[true, true, true, true, true, true, true, true, false, true, true, false, false, false, false] (fun s_ => [(38, .int .i64 t192), (41, .int .i64 t193)]) (fun s_ w' => (w'.cell? ⟨gb189, 0, none⟩ = some (.int .i64 ((rd_T25 ((rd_T83 l0 x13_1).f0) x23_2).f0)) ∧ w'.cell? ⟨gb189, 1, none⟩ = some (.int .i64 ((rd_T25 ((rd_T83 l0 x13_1).f0) x23_2).f1)) ∧ w'.cell? ⟨gb191, 0, none⟩ = some (.int .i64 ((rd_T25 ((rd_T83 l0 x13_1).f0) (ji11)).f0)) ∧ w'.cell? ⟨gb191, 1, none⟩ = some (.int .i64 ((rd_T25 ((rd_T83 l0 x13_1).f0) (ji11)).f1))) ∧ (Kd.R k228 228 w' w.heap.size (fun _ => True) u3 x3_2) ∧ (w'.heap[gb187]? = some (.cells #[.slice (some ad188) ((rd_T83 l0 x13_1).f0).length c186_0, .bool ((rd_T83 l0 x13_1).f1)] 83 (0, 0))) ∧ (w'.heap[gb189]? = some (.cells #[.int .i64 ((rd_T25 ((rd_T83 l0 x13_1).f0) x23_2).f0), .int .i64 ((rd_T25 ((rd_T83 l0 x13_1).f0) x23_2).f1)] 25 (0, 0))) ∧ (w'.heap[gb191]? = some (.cells #[.int .i64 ((rd_T25 ((rd_T83 l0 x13_1).f0) (ji11)).f0), .int .i64 ((rd_T25 ((rd_T83 l0 x13_1).f0) (ji11)).f1)] 25 (0, 0))) ∧ (Below w.heap.size w w')) ?_ ?_
                    rotate_left
                    ·intro hJ2_5
                     refine join_ (σ := Nat) 5 #[true, true, true, true, true, false, true, true, false, true, true, false, false, true, false] (fun s_ => [(38, .int .i64 t192), (10, .pointer (some ⟨s_, 0, none⟩))]) (fun s_ w' => (w'.cell? ⟨gb189, 0, none⟩ = some (.int .i64 ((rd_T25 ((rd_T83 l0 x13_1).f0) x23_2).f0)) ∧ w'.cell? ⟨gb189, 1, none⟩ = some (.int .i64 ((rd_T25 ((rd_T83 l0 x13_1).f0) x23_2).f1)) ∧ w'.cell? ⟨gb191, 0, none⟩ = some (.int .i64 ((rd_T25 ((rd_T83 l0 x13_1).f0) (ji11)).f0)) ∧ w'.cell? ⟨gb191, 1, none⟩ = some (.int .i64 ((rd_T25 ((rd_T83 l0 x13_1).f0) (ji11)).f1))) ∧ (Kd.R k228 228 w' w.heap.size (fun k_ => k_ ≠ s_) u3 x3_2) ∧ (w'.heap[gb187]? = some (.cells #[.slice (some ad188) ((rd_T83 l0 x13_1).f0).length c186_0, .bool ((rd_T83 l0 x13_1).f1)] 83 (0, 0))) ∧ (w'.heap[gb189]? = some (.cells #[.int .i64 ((rd_T25 ((rd_T83 l0 x13_1).f0) x23_2).f0), .int .i64 ((rd_T25 ((rd_T83 l0 x13_1).f0) x23_2).f1)] 25 (0, 0))) ∧ (w'.heap[gb191]? = some (.cells #[.int .i64 ((rd_T25 ((rd_T83 l0 x13_1).f0) (ji11)).f0), .int .i64 ((rd_T25 ((rd_T83 l0 x13_1).f0) (ji11)).f1)] 25 (0, 0))) ∧ (w'.heap[s_]? = some (.cells #[.int .i64 0, .int .i64 0, .int .i64 0, .int .i64 0] 228 (0, 0))) ∧ (w.heap.size ≤ s_) ∧ (w.heap.size ≤ s_) ∧ (gb187 ≠ s_) ∧ (s_ ≠ gb187) ∧ (gb189 ≠ s_) ∧ (s_ ≠ gb189) ∧ (gb191 ≠ s_) ∧ (s_ ≠ gb191) ∧ (Below w.heap.size w w')) ?_ ?_
                     rotate_left
                     ·intro hJ2_13
                      refine join_ (σ := Unit) 6 #[true, true, true, true, true, false, true, true, false, true, true, false, false, false, false] (fun s_ => [(38, .int .i64 t192)]) (fun s_ w' => (w'.cell? ⟨gb189, 0, none⟩ = some (.int .i64 ((rd_T25 ((rd_T83 l0 x13_1).f0) x23_2).f0)) ∧ w'.cell? ⟨gb189, 1, none⟩ = some (.int .i64 ((rd_T25 ((rd_T83 l0 x13_1).f0) x23_2).f1)) ∧ w'.cell? ⟨gb191, 0, none⟩ = some (.int .i64 ((rd_T25 ((rd_T83 l0 x13_1).f0) (ji11)).f0)) ∧ w'.cell? ⟨gb191, 1, none⟩ = some (.int .i64 ((rd_T25 ((rd_T83 l0 x13_1).f0) (ji11)).f1))) ∧ (Kd.R k228 228 w' w.heap.size (fun _ => True) u3 x3_2) ∧ (w'.heap[gb187]? = some (.cells #[.slice (some ad188) ((rd_T83 l0 x13_1).f0).length c186_0, .bool ((rd_T83 l0 x13_1).f1)] 83 (0, 0))) ∧ (w'.heap[gb189]? = some (.cells #[.int .i64 ((rd_T25 ((rd_T83 l0 x13_1).f0) x23_2).f0), .int .i64 ((rd_T25 ((rd_T83 l0 x13_1).f0) x23_2).f1)] 25 (0, 0))) ∧ (w'.heap[gb191]? = some (.cells #[.int .i64 ((rd_T25 ((rd_T83 l0 x13_1).f0) (ji11)).f0), .int .i64 ((rd_T25 ((rd_T83 l0 x13_1).f0) (ji11)).f1)] 25 (0, 0))) ∧ (Below w.heap.size w w')) ?_ ?_
                      rotate_left
                      ·intro hJ2
                       refine join_ (σ := Nat) 6 #[true, true, false, true, true, false, true, true, false, true, true, false, false, true, false] (fun s_ => [(10, .pointer (some ⟨s_, 0, none⟩))]) (fun s_ w' => (w'.cell? ⟨gb189, 0, none⟩ = some (.int .i64 ((rd_T25 ((rd_T83 l0 x13_1).f0) x23_2).f0)) ∧ w'.cell? ⟨gb189, 1, none⟩ = some (.int .i64 ((rd_T25 ((rd_T83 l0 x13_1).f0) x23_2).f1)) ∧ w'.cell? ⟨gb191, 0, none⟩ = some (.int .i64 ((rd_T25 ((rd_T83 l0 x13_1).f0) (ji11)).f0)) ∧ w'.cell? ⟨gb191, 1, none⟩ = some (.int .i64 ((rd_T25 ((rd_T83 l0 x13_1).f0) (ji11)).f1))) ∧ (Kd.R k228 228 w' w.heap.size (fun k_ => k_ ≠ s_) u3 x3_2) ∧ (w'.heap[gb187]? = some (.cells #[.slice (some ad188) ((rd_T83 l0 x13_1).f0).length c186_0, .bool ((rd_T83 l0 x13_1).f1)] 83 (0, 0))) ∧ (w'.heap[gb189]? = some (.cells #[.int .i64 ((rd_T25 ((rd_T83 l0 x13_1).f0) x23_2).f0), .int .i64 ((rd_T25 ((rd_T83 l0 x13_1).f0) x23_2).f1)] 25 (0, 0))) ∧ (w'.heap[gb191]? = some (.cells #[.int .i64 ((rd_T25 ((rd_T83 l0 x13_1).f0) (ji11)).f0), .int .i64 ((rd_T25 ((rd_T83 l0 x13_1).f0) (ji11)).f1)] 25 (0, 0))) ∧ (w'.heap[s_]? = some (.cells #[.int .i64 0, .int .i64 0, .int .i64 0, .int .i64 0] 228 (0, 0))) ∧ (w.heap.size ≤ s_) ∧ (w.heap.size ≤ s_) ∧ (gb187 ≠ s_) ∧ (s_ ≠ gb187) ∧ (gb189 ≠ s_) ∧ (s_ ≠ gb189) ∧ (gb191 ≠ s_) ∧ (s_ ≠ gb191) ∧ (Below w.heap.size w w')) ?_ ?_
                       rotate_left
                       ·intro hJ13
                        refine two_ (i := 2) (j := 13) (Ni := some 38) (Nj := some 10) #[true, true, true, true, true, false, true, true, false, true, true, false, false, false, false] #[true, true, false, true, true, false, true, true, false, true, true, false, false, true, false] rfl rfl rfl rfl (two_of HT_.out (by kernel_rfl)) (by decide) (by decide) (fun K hK => ?_) (fun K hK => ?_)
                        ·skip
                         refine z.gs Try.func213 (by kernel_rfl) rfl #[.int .i64 ((rd_T25 ((rd_T83 l0 x13_1).f0) x23_2).f0)] (by rfl) rfl rfl ?_
                         with_reducible refine (spec_l11Fine.calls ((rd_T25 ((rd_T83 l0 x13_1).f0) x23_2).f0) t192 _ A14.out).mono ?_
                         rintro e w' ⟨rfl, ⟨nd, rfl⟩⟩
                         refine ⟨_, rfl, ?_⟩
                         refine hK.out _ _ ⟨(blk_cell BK189.out 0).trans rfl, (blk_cell BK189.out 1).trans rfl, (blk_cell BK191.out 0).trans rfl, (blk_cell BK191.out 1).trans rfl⟩ (fun hHeld => ?_)
                         clear hK K
                         refine norm_ (a' := ?_) ?_ ?_
                         rotate_left
                         ·show Act.put _ (some 38) _ = _
                          simp only [Act.put, List.setIfInBounds_toArray, List.set_cons_zero, List.set_cons_succ, i64_w, i32_w]
                          rfl
                         exact norm_ (by first | (simp only [putAll, Act.put, List.setIfInBounds_toArray, List.set_cons_zero, List.set_cons_succ]; done) | (simp only [putAll, Act.put, List.setIfInBounds_toArray, List.set_cons_zero, List.set_cons_succ]; rfl)) (hJ2 () _ ⟨hHeld, (z.rl HO_3.out), (z.bk BK187), (z.bk BK189), (z.bk BK191), (z.bl HB)⟩)
                        ·skip
                         refine box_step ?hg (N := 10) ?hd (cs := #[.int .i64 0, .int .i64 0, .int .i64 0, .int .i64 0]) (t := 228) ?hr ?_; (case hd => rfl); (case hg => rfl); (case hr => first | (go_simp; done) | (go_simp; rfl))
                         intro gb196 hg w29 hbox hb
                         replace HO_3 := Aside0.mk (Kd.R_below (Kd.R_elderB (z.rl HO_3.out) gb196 (Nat.le_of_eq hg.symm)) hb)
                         have BK196 := Aside0.mk (hbox)
                         have GW196 := Aside0.mk ((by rw [hg]; exact (below_size (z.bl HB)) : w.heap.size ≤ gb196))
                         have GE196 := Aside0.mk ((by rw [hg]; exact (below_size (z.bl HB)) : w.heap.size ≤ gb196))
                         replace HB := Aside0.mk (below_step (z.bl HB) hb)
                         have NB187_196 := z.ht BK187 hg
                         have NB196_187 := z.hu BK187 hg
                         replace BK187 := z.bb BK187 hb
                         have NB189_196 := z.ht BK189 hg
                         have NB196_189 := z.hu BK189 hg
                         replace BK189 := z.bb BK189 hb
                         have NB191_196 := z.ht BK191 hg
                         have NB196_191 := z.hu BK191 hg
                         replace BK191 := z.bb BK191 hb
                         clear hb hbox hg
                         refine hK.out _ _ ⟨(blk_cell BK189.out 0).trans rfl, (blk_cell BK189.out 1).trans rfl, (blk_cell BK191.out 0).trans rfl, (blk_cell BK191.out 1).trans rfl⟩ (fun hHeld => ?_)
                         clear hK K
                         refine norm_ (a' := ?_) ?_ ?_
                         rotate_left
                         ·show Act.put _ (some 10) _ = _
                          simp only [Act.put, List.setIfInBounds_toArray, List.set_cons_zero, List.set_cons_succ, i64_w, i32_w]
                          rfl
                         exact norm_ (by first | (simp only [putAll, Act.put, List.setIfInBounds_toArray, List.set_cons_zero, List.set_cons_succ]; done) | (simp only [putAll, Act.put, List.setIfInBounds_toArray, List.set_cons_zero, List.set_cons_succ]; rfl)) (hJ13 (gb196) _ ⟨hHeld, (z.rl (Kd.R_mono HO_3.out (fun _ hk => hk.2))), (z.bk BK187), (z.bk BK189), (z.bk BK191), (z.bk BK196), GW196.out, GE196.out, NB187_196.out, NB196_187.out, NB189_196.out, NB196_189.out, NB191_196.out, NB196_191.out, (z.bl HB)⟩)
                       ·skip
                        rintro gb196 w30 ⟨hS_, h0_, h1_, h2_, h3_, h4_, h5_, h6_, h7_, h8_, h9_, h10_, h11_, h12_, h13_⟩
                        have n0_ : Aside0 (Kd.R k228 228 w30 w.heap.size (fun k_ => k_ ≠ gb196) u3 x3_2) := ⟨h0_⟩
                        have n1_ : Aside0 (w30.heap[gb187]? = some (.cells #[.slice (some ad188) ((rd_T83 l0 x13_1).f0).length c186_0, .bool ((rd_T83 l0 x13_1).f1)] 83 (0, 0))) := ⟨h1_⟩
                        have n2_ : Aside0 (w30.heap[gb189]? = some (.cells #[.int .i64 ((rd_T25 ((rd_T83 l0 x13_1).f0) x23_2).f0), .int .i64 ((rd_T25 ((rd_T83 l0 x13_1).f0) x23_2).f1)] 25 (0, 0))) := ⟨h2_⟩
                        have n3_ : Aside0 (w30.heap[gb191]? = some (.cells #[.int .i64 ((rd_T25 ((rd_T83 l0 x13_1).f0) (ji11)).f0), .int .i64 ((rd_T25 ((rd_T83 l0 x13_1).f0) (ji11)).f1)] 25 (0, 0))) := ⟨h3_⟩
                        have n4_ : Aside0 (w30.heap[gb196]? = some (.cells #[.int .i64 0, .int .i64 0, .int .i64 0, .int .i64 0] 228 (0, 0))) := ⟨h4_⟩
                        have n5_ : Aside0 (w.heap.size ≤ gb196) := ⟨h5_⟩
                        have n6_ : Aside0 (w.heap.size ≤ gb196) := ⟨h6_⟩
                        have n7_ : Aside0 (gb187 ≠ gb196) := ⟨h7_⟩
                        have n8_ : Aside0 (gb196 ≠ gb187) := ⟨h8_⟩
                        have n9_ : Aside0 (gb189 ≠ gb196) := ⟨h9_⟩
                        have n10_ : Aside0 (gb196 ≠ gb189) := ⟨h10_⟩
                        have n11_ : Aside0 (gb191 ≠ gb196) := ⟨h11_⟩
                        have n12_ : Aside0 (gb196 ≠ gb191) := ⟨h12_⟩
                        have n13_ : Aside0 (Below w.heap.size w w30) := ⟨h13_⟩
                        clear HO_3
                        clear BK187
                        clear BK189
                        clear BK191
                        clear HB
                        clear h0_ h1_ h2_ h3_ h4_ h5_ h6_ h7_ h8_ h9_ h10_ h11_ h12_ h13_
                        have HO_3 := n0_
                        have BK187 := n1_
                        have BK189 := n2_
                        have BK191 := n3_
                        have BK196 := n4_
                        have GW196 := n5_
                        have GE196 := n6_
                        have NB187_196 := n7_
                        have NB196_187 := n8_
                        have NB189_196 := n9_
                        have NB196_189 := n10_
                        have NB191_196 := n11_
                        have NB196_191 := n12_
                        have HB := n13_
                        clear n0_ n1_ n2_ n3_ n4_ n5_ n6_ n7_ n8_ n9_ n10_ n11_ n12_ n13_
                        have hHeld : w30.cell? ⟨gb189, 0, none⟩ = some (.int .i64 ((rd_T25 ((rd_T83 l0 x13_1).f0) x23_2).f0)) ∧ w30.cell? ⟨gb189, 1, none⟩ = some (.int .i64 ((rd_T25 ((rd_T83 l0 x13_1).f0) x23_2).f1)) ∧ w30.cell? ⟨gb191, 0, none⟩ = some (.int .i64 ((rd_T25 ((rd_T83 l0 x13_1).f0) (ji11)).f0)) ∧ w30.cell? ⟨gb191, 1, none⟩ = some (.int .i64 ((rd_T25 ((rd_T83 l0 x13_1).f0) (ji11)).f1)) := hS_
                        refine norm_ (a' := ?_) ?_ ?_
                        rotate_left
                        ·simp only [putAll, Act.put, List.setIfInBounds_toArray, List.set_cons_zero, List.set_cons_succ]
                         rfl
                        refine one_ (i := 2) (N := some 38) #[true, true, true, true, true, false, true, true, false, true, true, false, false, true, false] rfl rfl (one_of HT_.out (by kernel_rfl)) (by decide) (fun K hK => ?_)
                        refine z.gs Try.func213 (by kernel_rfl) rfl #[.int .i64 ((rd_T25 ((rd_T83 l0 x13_1).f0) x23_2).f0)] (by rfl) rfl rfl ?_
                        with_reducible refine (spec_l11Fine.calls ((rd_T25 ((rd_T83 l0 x13_1).f0) x23_2).f0) t192 _ A14.out).mono ?_
                        rintro e w' ⟨rfl, ⟨nd, rfl⟩⟩
                        refine ⟨_, rfl, ?_⟩
                        refine hK.out _ _ ⟨(blk_cell BK189.out 0).trans rfl, (blk_cell BK189.out 1).trans rfl, (blk_cell BK191.out 0).trans rfl, (blk_cell BK191.out 1).trans rfl⟩ (fun hHeld => ?_)
                        clear hK K
                        refine norm_ (a' := ?_) ?_ ?_
                        rotate_left
                        ·show Act.put _ (some 38) _ = _
                         simp only [Act.put, List.setIfInBounds_toArray, List.set_cons_zero, List.set_cons_succ, i64_w, i32_w]
                         rfl
                        exact norm_ (by first | (simp only [putAll, Act.put, List.setIfInBounds_toArray, List.set_cons_zero, List.set_cons_succ]; done) | (simp only [putAll, Act.put, List.setIfInBounds_toArray, List.set_cons_zero, List.set_cons_succ]; rfl)) (hJ2_13 (gb196) _ ⟨hHeld, (z.rl HO_3.out), (z.bk BK187), (z.bk BK189), (z.bk BK191), (z.bk BK196), GW196.out, GE196.out, NB187_196.out, NB196_187.out, NB189_196.out, NB196_189.out, NB191_196.out, NB196_191.out, (z.bl HB)⟩)
                      ·skip
                       rintro _ w29 ⟨hS_, h0_, h1_, h2_, h3_, h4_⟩
                       have n0_ : Aside0 (Kd.R k228 228 w29 w.heap.size (fun _ => True) u3 x3_2) := ⟨h0_⟩
                       have n1_ : Aside0 (w29.heap[gb187]? = some (.cells #[.slice (some ad188) ((rd_T83 l0 x13_1).f0).length c186_0, .bool ((rd_T83 l0 x13_1).f1)] 83 (0, 0))) := ⟨h1_⟩
                       have n2_ : Aside0 (w29.heap[gb189]? = some (.cells #[.int .i64 ((rd_T25 ((rd_T83 l0 x13_1).f0) x23_2).f0), .int .i64 ((rd_T25 ((rd_T83 l0 x13_1).f0) x23_2).f1)] 25 (0, 0))) := ⟨h2_⟩
                       have n3_ : Aside0 (w29.heap[gb191]? = some (.cells #[.int .i64 ((rd_T25 ((rd_T83 l0 x13_1).f0) (ji11)).f0), .int .i64 ((rd_T25 ((rd_T83 l0 x13_1).f0) (ji11)).f1)] 25 (0, 0))) := ⟨h3_⟩
                       have n4_ : Aside0 (Below w.heap.size w w29) := ⟨h4_⟩
                       clear HO_3
                       clear BK187
                       clear BK189
                       clear BK191
                       clear HB
                       clear h0_ h1_ h2_ h3_ h4_
                       have HO_3 := n0_
                       have BK187 := n1_
                       have BK189 := n2_
                       have BK191 := n3_
                       have HB := n4_
                       clear n0_ n1_ n2_ n3_ n4_
                       have hHeld : w29.cell? ⟨gb189, 0, none⟩ = some (.int .i64 ((rd_T25 ((rd_T83 l0 x13_1).f0) x23_2).f0)) ∧ w29.cell? ⟨gb189, 1, none⟩ = some (.int .i64 ((rd_T25 ((rd_T83 l0 x13_1).f0) x23_2).f1)) ∧ w29.cell? ⟨gb191, 0, none⟩ = some (.int .i64 ((rd_T25 ((rd_T83 l0 x13_1).f0) (ji11)).f0)) ∧ w29.cell? ⟨gb191, 1, none⟩ = some (.int .i64 ((rd_T25 ((rd_T83 l0 x13_1).f0) (ji11)).f1)) := hS_
                       refine norm_ (a' := ?_) ?_ ?_
                       rotate_left
                       ·simp only [putAll, Act.put, List.setIfInBounds_toArray, List.set_cons_zero, List.set_cons_succ]
                        rfl
                       refine two_ (i := 5) (j := 13) (Ni := some 41) (Nj := some 10) #[true, true, true, true, true, true, true, true, false, true, true, false, false, false, false] #[true, true, true, true, true, false, true, true, false, true, true, false, false, true, false] rfl rfl rfl rfl (two_of HT_.out (by kernel_rfl)) (by decide) (by decide) (fun K hK => ?_) (fun K hK => ?_)
                       ·skip
                        refine z.gs Try.func213 (by kernel_rfl) rfl #[.int .i64 ((rd_T25 ((rd_T83 l0 x13_1).f0) x23_2).f1)] (by rfl) rfl rfl ?_
                        with_reducible refine (spec_l11Fine.calls ((rd_T25 ((rd_T83 l0 x13_1).f0) x23_2).f1) t193 _ A15.out).mono ?_
                        rintro e w' ⟨rfl, ⟨nd, rfl⟩⟩
                        refine ⟨_, rfl, ?_⟩
                        refine hK.out _ _ ⟨(blk_cell BK189.out 0).trans rfl, (blk_cell BK189.out 1).trans rfl, (blk_cell BK191.out 0).trans rfl, (blk_cell BK191.out 1).trans rfl⟩ (fun hHeld => ?_)
                        clear hK K
                        refine norm_ (a' := ?_) ?_ ?_
                        rotate_left
                        ·show Act.put _ (some 41) _ = _
                         simp only [Act.put, List.setIfInBounds_toArray, List.set_cons_zero, List.set_cons_succ, i64_w, i32_w]
                         rfl
                        exact norm_ (by first | (simp only [putAll, Act.put, List.setIfInBounds_toArray, List.set_cons_zero, List.set_cons_succ]; done) | (simp only [putAll, Act.put, List.setIfInBounds_toArray, List.set_cons_zero, List.set_cons_succ]; rfl)) (hJ2_5 () _ ⟨hHeld, (z.rl HO_3.out), (z.bk BK187), (z.bk BK189), (z.bk BK191), (z.bl HB)⟩)
                       ·skip
                        refine box_step ?hg (N := 10) ?hd (cs := #[.int .i64 0, .int .i64 0, .int .i64 0, .int .i64 0]) (t := 228) ?hr ?_; (case hd => rfl); (case hg => rfl); (case hr => first | (go_simp; done) | (go_simp; rfl))
                        intro gb196 hg w30 hbox hb
                        replace HO_3 := Aside0.mk (Kd.R_below (Kd.R_elderB (z.rl HO_3.out) gb196 (Nat.le_of_eq hg.symm)) hb)
                        have BK196 := Aside0.mk (hbox)
                        have GW196 := Aside0.mk ((by rw [hg]; exact (below_size (z.bl HB)) : w.heap.size ≤ gb196))
                        have GE196 := Aside0.mk ((by rw [hg]; exact (below_size (z.bl HB)) : w.heap.size ≤ gb196))
                        replace HB := Aside0.mk (below_step (z.bl HB) hb)
                        have NB187_196 := z.ht BK187 hg
                        have NB196_187 := z.hu BK187 hg
                        replace BK187 := z.bb BK187 hb
                        have NB189_196 := z.ht BK189 hg
                        have NB196_189 := z.hu BK189 hg
                        replace BK189 := z.bb BK189 hb
                        have NB191_196 := z.ht BK191 hg
                        have NB196_191 := z.hu BK191 hg
                        replace BK191 := z.bb BK191 hb
                        clear hb hbox hg
                        refine hK.out _ _ ⟨(blk_cell BK189.out 0).trans rfl, (blk_cell BK189.out 1).trans rfl, (blk_cell BK191.out 0).trans rfl, (blk_cell BK191.out 1).trans rfl⟩ (fun hHeld => ?_)
                        clear hK K
                        refine norm_ (a' := ?_) ?_ ?_
                        rotate_left
                        ·show Act.put _ (some 10) _ = _
                         simp only [Act.put, List.setIfInBounds_toArray, List.set_cons_zero, List.set_cons_succ, i64_w, i32_w]
                         rfl
                        exact norm_ (by first | (simp only [putAll, Act.put, List.setIfInBounds_toArray, List.set_cons_zero, List.set_cons_succ]; done) | (simp only [putAll, Act.put, List.setIfInBounds_toArray, List.set_cons_zero, List.set_cons_succ]; rfl)) (hJ2_13 (gb196) _ ⟨hHeld, (z.rl (Kd.R_mono HO_3.out (fun _ hk => hk.2))), (z.bk BK187), (z.bk BK189), (z.bk BK191), (z.bk BK196), GW196.out, GE196.out, NB187_196.out, NB196_187.out, NB189_196.out, NB196_189.out, NB191_196.out, NB196_191.out, (z.bl HB)⟩)
                     ·skip
                      rintro gb196 w30 ⟨hS_, h0_, h1_, h2_, h3_, h4_, h5_, h6_, h7_, h8_, h9_, h10_, h11_, h12_, h13_⟩
                      have n0_ : Aside0 (Kd.R k228 228 w30 w.heap.size (fun k_ => k_ ≠ gb196) u3 x3_2) := ⟨h0_⟩
                      have n1_ : Aside0 (w30.heap[gb187]? = some (.cells #[.slice (some ad188) ((rd_T83 l0 x13_1).f0).length c186_0, .bool ((rd_T83 l0 x13_1).f1)] 83 (0, 0))) := ⟨h1_⟩
                      have n2_ : Aside0 (w30.heap[gb189]? = some (.cells #[.int .i64 ((rd_T25 ((rd_T83 l0 x13_1).f0) x23_2).f0), .int .i64 ((rd_T25 ((rd_T83 l0 x13_1).f0) x23_2).f1)] 25 (0, 0))) := ⟨h2_⟩
                      have n3_ : Aside0 (w30.heap[gb191]? = some (.cells #[.int .i64 ((rd_T25 ((rd_T83 l0 x13_1).f0) (ji11)).f0), .int .i64 ((rd_T25 ((rd_T83 l0 x13_1).f0) (ji11)).f1)] 25 (0, 0))) := ⟨h3_⟩
                      have n4_ : Aside0 (w30.heap[gb196]? = some (.cells #[.int .i64 0, .int .i64 0, .int .i64 0, .int .i64 0] 228 (0, 0))) := ⟨h4_⟩
                      have n5_ : Aside0 (w.heap.size ≤ gb196) := ⟨h5_⟩
                      have n6_ : Aside0 (w.heap.size ≤ gb196) := ⟨h6_⟩
                      have n7_ : Aside0 (gb187 ≠ gb196) := ⟨h7_⟩
                      have n8_ : Aside0 (gb196 ≠ gb187) := ⟨h8_⟩
                      have n9_ : Aside0 (gb189 ≠ gb196) := ⟨h9_⟩
                      have n10_ : Aside0 (gb196 ≠ gb189) := ⟨h10_⟩
                      have n11_ : Aside0 (gb191 ≠ gb196) := ⟨h11_⟩
                      have n12_ : Aside0 (gb196 ≠ gb191) := ⟨h12_⟩
                      have n13_ : Aside0 (Below w.heap.size w w30) := ⟨h13_⟩
                      clear HO_3
                      clear BK187
                      clear BK189
                      clear BK191
                      clear HB
                      clear h0_ h1_ h2_ h3_ h4_ h5_ h6_ h7_ h8_ h9_ h10_ h11_ h12_ h13_
                      have HO_3 := n0_
                      have BK187 := n1_
                      have BK189 := n2_
                      have BK191 := n3_
                      have BK196 := n4_
                      have GW196 := n5_
                      have GE196 := n6_
                      have NB187_196 := n7_
                      have NB196_187 := n8_
                      have NB189_196 := n9_
                      have NB196_189 := n10_
                      have NB191_196 := n11_
                      have NB196_191 := n12_
                      have HB := n13_
                      clear n0_ n1_ n2_ n3_ n4_ n5_ n6_ n7_ n8_ n9_ n10_ n11_ n12_ n13_
                      have hHeld : w30.cell? ⟨gb189, 0, none⟩ = some (.int .i64 ((rd_T25 ((rd_T83 l0 x13_1).f0) x23_2).f0)) ∧ w30.cell? ⟨gb189, 1, none⟩ = some (.int .i64 ((rd_T25 ((rd_T83 l0 x13_1).f0) x23_2).f1)) ∧ w30.cell? ⟨gb191, 0, none⟩ = some (.int .i64 ((rd_T25 ((rd_T83 l0 x13_1).f0) (ji11)).f0)) ∧ w30.cell? ⟨gb191, 1, none⟩ = some (.int .i64 ((rd_T25 ((rd_T83 l0 x13_1).f0) (ji11)).f1)) := hS_
                      refine norm_ (a' := ?_) ?_ ?_
                      rotate_left
                      ·simp only [putAll, Act.put, List.setIfInBounds_toArray, List.set_cons_zero, List.set_cons_succ]
                       rfl
                      refine one_ (i := 5) (N := some 41) #[true, true, true, true, true, true, true, true, false, true, true, false, false, true, false] rfl rfl (one_of HT_.out (by kernel_rfl)) (by decide) (fun K hK => ?_)
                      refine z.gs Try.func213 (by kernel_rfl) rfl #[.int .i64 ((rd_T25 ((rd_T83 l0 x13_1).f0) x23_2).f1)] (by rfl) rfl rfl ?_
                      with_reducible refine (spec_l11Fine.calls ((rd_T25 ((rd_T83 l0 x13_1).f0) x23_2).f1) t193 _ A15.out).mono ?_
                      rintro e w' ⟨rfl, ⟨nd, rfl⟩⟩
                      refine ⟨_, rfl, ?_⟩
                      refine hK.out _ _ ⟨(blk_cell BK189.out 0).trans rfl, (blk_cell BK189.out 1).trans rfl, (blk_cell BK191.out 0).trans rfl, (blk_cell BK191.out 1).trans rfl⟩ (fun hHeld => ?_)
                      clear hK K
                      refine norm_ (a' := ?_) ?_ ?_
                      rotate_left
                      ·show Act.put _ (some 41) _ = _
                       simp only [Act.put, List.setIfInBounds_toArray, List.set_cons_zero, List.set_cons_succ, i64_w, i32_w]
                       rfl
                      exact norm_ (by first | (simp only [putAll, Act.put, List.setIfInBounds_toArray, List.set_cons_zero, List.set_cons_succ]; done) | (simp only [putAll, Act.put, List.setIfInBounds_toArray, List.set_cons_zero, List.set_cons_succ]; rfl)) (hJ2_5_13 (gb196) _ ⟨hHeld, (z.rl HO_3.out), (z.bk BK187), (z.bk BK189), (z.bk BK191), (z.bk BK196), GW196.out, GE196.out, NB187_196.out, NB196_187.out, NB189_196.out, NB196_189.out, NB191_196.out, NB196_191.out, (z.bl HB)⟩)
                    ·skip
                     rintro _ w29 ⟨hS_, h0_, h1_, h2_, h3_, h4_⟩
                     have n0_ : Aside0 (Kd.R k228 228 w29 w.heap.size (fun _ => True) u3 x3_2) := ⟨h0_⟩
                     have n1_ : Aside0 (w29.heap[gb187]? = some (.cells #[.slice (some ad188) ((rd_T83 l0 x13_1).f0).length c186_0, .bool ((rd_T83 l0 x13_1).f1)] 83 (0, 0))) := ⟨h1_⟩
                     have n2_ : Aside0 (w29.heap[gb189]? = some (.cells #[.int .i64 ((rd_T25 ((rd_T83 l0 x13_1).f0) x23_2).f0), .int .i64 ((rd_T25 ((rd_T83 l0 x13_1).f0) x23_2).f1)] 25 (0, 0))) := ⟨h2_⟩
                     have n3_ : Aside0 (w29.heap[gb191]? = some (.cells #[.int .i64 ((rd_T25 ((rd_T83 l0 x13_1).f0) (ji11)).f0), .int .i64 ((rd_T25 ((rd_T83 l0 x13_1).f0) (ji11)).f1)] 25 (0, 0))) := ⟨h3_⟩
                     have n4_ : Aside0 (Below w.heap.size w w29) := ⟨h4_⟩
                     clear HO_3
                     clear BK187
                     clear BK189
                     clear BK191
                     clear HB
                     clear h0_ h1_ h2_ h3_ h4_
                     have HO_3 := n0_
                     have BK187 := n1_
                     have BK189 := n2_
                     have BK191 := n3_
                     have HB := n4_
                     clear n0_ n1_ n2_ n3_ n4_
                     have hHeld : w29.cell? ⟨gb189, 0, none⟩ = some (.int .i64 ((rd_T25 ((rd_T83 l0 x13_1).f0) x23_2).f0)) ∧ w29.cell? ⟨gb189, 1, none⟩ = some (.int .i64 ((rd_T25 ((rd_T83 l0 x13_1).f0) x23_2).f1)) ∧ w29.cell? ⟨gb191, 0, none⟩ = some (.int .i64 ((rd_T25 ((rd_T83 l0 x13_1).f0) (ji11)).f0)) ∧ w29.cell? ⟨gb191, 1, none⟩ = some (.int .i64 ((rd_T25 ((rd_T83 l0 x13_1).f0) (ji11)).f1)) := hS_
                     refine norm_ (a' := ?_) ?_ ?_
                     rotate_left
                     ·simp only [putAll, Act.put, List.setIfInBounds_toArray, List.set_cons_zero, List.set_cons_succ]
                      rfl
                     refine two_ (i := 8) (j := 13) (Ni := some 44) (Nj := some 10) #[true, true, true, true, true, true, true, true, true, true, true, false, false, false, false] #[true, true, true, true, true, true, true, true, false, true, true, false, false, true, false] rfl rfl rfl rfl (two_of HT_.out (by kernel_rfl)) (by decide) (by decide) (fun K hK => ?_) (fun K hK => ?_)
                     ·skip
                      refine goes_ Try.func213 (by kernel_rfl) rfl #[.int .i64 ((rd_T25 ((rd_T83 l0 x13_1).f0) (ji11)).f0)] (by rfl) rfl rfl (by (try simp only [List.map_toArray, List.map_cons, List.map_nil]); first | done | (simp only [hji11]; rfl) | rfl | (simp only [List.length_drop, List.length_take]; rfl)) ?_
                      with_reducible refine (spec_l11Fine.calls ((rd_T25 ((rd_T83 l0 x13_1).f0) (ji11)).f0) t194 _ A16.out).mono ?_
                      rintro e w' ⟨rfl, ⟨nd, rfl⟩⟩
                      refine ⟨_, rfl, ?_⟩
                      refine hK.out _ _ ⟨(blk_cell BK189.out 0).trans rfl, (blk_cell BK189.out 1).trans rfl, (blk_cell BK191.out 0).trans rfl, (blk_cell BK191.out 1).trans rfl⟩ (fun hHeld => ?_)
                      clear hK K
                      refine norm_ (a' := ?_) ?_ ?_
                      rotate_left
                      ·show Act.put _ (some 44) _ = _
                       simp only [Act.put, List.setIfInBounds_toArray, List.set_cons_zero, List.set_cons_succ, i64_w, i32_w]
                       rfl
                      exact norm_ (by first | (simp only [putAll, Act.put, List.setIfInBounds_toArray, List.set_cons_zero, List.set_cons_succ]; done) | (simp only [putAll, Act.put, List.setIfInBounds_toArray, List.set_cons_zero, List.set_cons_succ]; rfl)) (hJ2_5_8 () _ ⟨hHeld, (z.rl HO_3.out), (z.bk BK187), (z.bk BK189), (z.bk BK191), (z.bl HB)⟩)
                     ·skip
                      refine box_step ?hg (N := 10) ?hd (cs := #[.int .i64 0, .int .i64 0, .int .i64 0, .int .i64 0]) (t := 228) ?hr ?_; (case hd => rfl); (case hg => rfl); (case hr => first | (go_simp; done) | (go_simp; rfl))
                      intro gb196 hg w30 hbox hb
                      replace HO_3 := Aside0.mk (Kd.R_below (Kd.R_elderB (z.rl HO_3.out) gb196 (Nat.le_of_eq hg.symm)) hb)
                      have BK196 := Aside0.mk (hbox)
                      have GW196 := Aside0.mk ((by rw [hg]; exact (below_size (z.bl HB)) : w.heap.size ≤ gb196))
                      have GE196 := Aside0.mk ((by rw [hg]; exact (below_size (z.bl HB)) : w.heap.size ≤ gb196))
                      replace HB := Aside0.mk (below_step (z.bl HB) hb)
                      have NB187_196 := z.ht BK187 hg
                      have NB196_187 := z.hu BK187 hg
                      replace BK187 := z.bb BK187 hb
                      have NB189_196 := z.ht BK189 hg
                      have NB196_189 := z.hu BK189 hg
                      replace BK189 := z.bb BK189 hb
                      have NB191_196 := z.ht BK191 hg
                      have NB196_191 := z.hu BK191 hg
                      replace BK191 := z.bb BK191 hb
                      clear hb hbox hg
                      refine hK.out _ _ ⟨(blk_cell BK189.out 0).trans rfl, (blk_cell BK189.out 1).trans rfl, (blk_cell BK191.out 0).trans rfl, (blk_cell BK191.out 1).trans rfl⟩ (fun hHeld => ?_)
                      clear hK K
                      refine norm_ (a' := ?_) ?_ ?_
                      rotate_left
                      ·show Act.put _ (some 10) _ = _
                       simp only [Act.put, List.setIfInBounds_toArray, List.set_cons_zero, List.set_cons_succ, i64_w, i32_w]
                       rfl
                      exact norm_ (by first | (simp only [putAll, Act.put, List.setIfInBounds_toArray, List.set_cons_zero, List.set_cons_succ]; done) | (simp only [putAll, Act.put, List.setIfInBounds_toArray, List.set_cons_zero, List.set_cons_succ]; rfl)) (hJ2_5_13 (gb196) _ ⟨hHeld, (z.rl (Kd.R_mono HO_3.out (fun _ hk => hk.2))), (z.bk BK187), (z.bk BK189), (z.bk BK191), (z.bk BK196), GW196.out, GE196.out, NB187_196.out, NB196_187.out, NB189_196.out, NB196_189.out, NB191_196.out, NB196_191.out, (z.bl HB)⟩)
                   ·skip
                    rintro gb196 w30 ⟨hS_, h0_, h1_, h2_, h3_, h4_, h5_, h6_, h7_, h8_, h9_, h10_, h11_, h12_, h13_⟩
                    have n0_ : Aside0 (Kd.R k228 228 w30 w.heap.size (fun k_ => k_ ≠ gb196) u3 x3_2) := ⟨h0_⟩
                    have n1_ : Aside0 (w30.heap[gb187]? = some (.cells #[.slice (some ad188) ((rd_T83 l0 x13_1).f0).length c186_0, .bool ((rd_T83 l0 x13_1).f1)] 83 (0, 0))) := ⟨h1_⟩
                    have n2_ : Aside0 (w30.heap[gb189]? = some (.cells #[.int .i64 ((rd_T25 ((rd_T83 l0 x13_1).f0) x23_2).f0), .int .i64 ((rd_T25 ((rd_T83 l0 x13_1).f0) x23_2).f1)] 25 (0, 0))) := ⟨h2_⟩
                    have n3_ : Aside0 (w30.heap[gb191]? = some (.cells #[.int .i64 ((rd_T25 ((rd_T83 l0 x13_1).f0) (ji11)).f0), .int .i64 ((rd_T25 ((rd_T83 l0 x13_1).f0) (ji11)).f1)] 25 (0, 0))) := ⟨h3_⟩
                    have n4_ : Aside0 (w30.heap[gb196]? = some (.cells #[.int .i64 0, .int .i64 0, .int .i64 0, .int .i64 0] 228 (0, 0))) := ⟨h4_⟩
                    have n5_ : Aside0 (w.heap.size ≤ gb196) := ⟨h5_⟩
                    have n6_ : Aside0 (w.heap.size ≤ gb196) := ⟨h6_⟩
                    have n7_ : Aside0 (gb187 ≠ gb196) := ⟨h7_⟩
                    have n8_ : Aside0 (gb196 ≠ gb187) := ⟨h8_⟩
                    have n9_ : Aside0 (gb189 ≠ gb196) := ⟨h9_⟩
                    have n10_ : Aside0 (gb196 ≠ gb189) := ⟨h10_⟩
                    have n11_ : Aside0 (gb191 ≠ gb196) := ⟨h11_⟩
                    have n12_ : Aside0 (gb196 ≠ gb191) := ⟨h12_⟩
                    have n13_ : Aside0 (Below w.heap.size w w30) := ⟨h13_⟩
                    clear HO_3
                    clear BK187
                    clear BK189
                    clear BK191
                    clear HB
                    clear h0_ h1_ h2_ h3_ h4_ h5_ h6_ h7_ h8_ h9_ h10_ h11_ h12_ h13_
                    have HO_3 := n0_
                    have BK187 := n1_
                    have BK189 := n2_
                    have BK191 := n3_
                    have BK196 := n4_
                    have GW196 := n5_
                    have GE196 := n6_
                    have NB187_196 := n7_
                    have NB196_187 := n8_
                    have NB189_196 := n9_
                    have NB196_189 := n10_
                    have NB191_196 := n11_
                    have NB196_191 := n12_
                    have HB := n13_
                    clear n0_ n1_ n2_ n3_ n4_ n5_ n6_ n7_ n8_ n9_ n10_ n11_ n12_ n13_
                    have hHeld : w30.cell? ⟨gb189, 0, none⟩ = some (.int .i64 ((rd_T25 ((rd_T83 l0 x13_1).f0) x23_2).f0)) ∧ w30.cell? ⟨gb189, 1, none⟩ = some (.int .i64 ((rd_T25 ((rd_T83 l0 x13_1).f0) x23_2).f1)) ∧ w30.cell? ⟨gb191, 0, none⟩ = some (.int .i64 ((rd_T25 ((rd_T83 l0 x13_1).f0) (ji11)).f0)) ∧ w30.cell? ⟨gb191, 1, none⟩ = some (.int .i64 ((rd_T25 ((rd_T83 l0 x13_1).f0) (ji11)).f1)) := hS_
                    refine norm_ (a' := ?_) ?_ ?_
                    rotate_left
                    ·simp only [putAll, Act.put, List.setIfInBounds_toArray, List.set_cons_zero, List.set_cons_succ]
                     rfl
                    refine one_ (i := 8) (N := some 44) #[true, true, true, true, true, true, true, true, true, true, true, false, false, true, false] rfl rfl (one_of HT_.out (by kernel_rfl)) (by decide) (fun K hK => ?_)
                    refine goes_ Try.func213 (by kernel_rfl) rfl #[.int .i64 ((rd_T25 ((rd_T83 l0 x13_1).f0) (ji11)).f0)] (by rfl) rfl rfl (by (try simp only [List.map_toArray, List.map_cons, List.map_nil]); first | done | (simp only [hji11]; rfl) | rfl | (simp only [List.length_drop, List.length_take]; rfl)) ?_
                    with_reducible refine (spec_l11Fine.calls ((rd_T25 ((rd_T83 l0 x13_1).f0) (ji11)).f0) t194 _ A16.out).mono ?_
                    rintro e w' ⟨rfl, ⟨nd, rfl⟩⟩
                    refine ⟨_, rfl, ?_⟩
                    refine hK.out _ _ ⟨(blk_cell BK189.out 0).trans rfl, (blk_cell BK189.out 1).trans rfl, (blk_cell BK191.out 0).trans rfl, (blk_cell BK191.out 1).trans rfl⟩ (fun hHeld => ?_)
                    clear hK K
                    refine norm_ (a' := ?_) ?_ ?_
                    rotate_left
                    ·show Act.put _ (some 44) _ = _
                     simp only [Act.put, List.setIfInBounds_toArray, List.set_cons_zero, List.set_cons_succ, i64_w, i32_w]
                     rfl
                    exact norm_ (by first | (simp only [putAll, Act.put, List.setIfInBounds_toArray, List.set_cons_zero, List.set_cons_succ]; done) | (simp only [putAll, Act.put, List.setIfInBounds_toArray, List.set_cons_zero, List.set_cons_succ]; rfl)) (hJ2_5_8_13 (gb196) _ ⟨hHeld, (z.rl HO_3.out), (z.bk BK187), (z.bk BK189), (z.bk BK191), (z.bk BK196), GW196.out, GE196.out, NB187_196.out, NB196_187.out, NB189_196.out, NB196_189.out, NB191_196.out, NB196_191.out, (z.bl HB)⟩)
                  ·skip
                   rintro _ w29 ⟨hS_, h0_, h1_, h2_, h3_, h4_⟩
                   have n0_ : Aside0 (Kd.R k228 228 w29 w.heap.size (fun _ => True) u3 x3_2) := ⟨h0_⟩
                   have n1_ : Aside0 (w29.heap[gb187]? = some (.cells #[.slice (some ad188) ((rd_T83 l0 x13_1).f0).length c186_0, .bool ((rd_T83 l0 x13_1).f1)] 83 (0, 0))) := ⟨h1_⟩
                   have n2_ : Aside0 (w29.heap[gb189]? = some (.cells #[.int .i64 ((rd_T25 ((rd_T83 l0 x13_1).f0) x23_2).f0), .int .i64 ((rd_T25 ((rd_T83 l0 x13_1).f0) x23_2).f1)] 25 (0, 0))) := ⟨h2_⟩
                   have n3_ : Aside0 (w29.heap[gb191]? = some (.cells #[.int .i64 ((rd_T25 ((rd_T83 l0 x13_1).f0) (ji11)).f0), .int .i64 ((rd_T25 ((rd_T83 l0 x13_1).f0) (ji11)).f1)] 25 (0, 0))) := ⟨h3_⟩
                   have n4_ : Aside0 (Below w.heap.size w w29) := ⟨h4_⟩
                   clear HO_3
                   clear BK187
                   clear BK189
                   clear BK191
                   clear HB
                   clear h0_ h1_ h2_ h3_ h4_
                   have HO_3 := n0_
                   have BK187 := n1_
                   have BK189 := n2_
                   have BK191 := n3_
                   have HB := n4_
                   clear n0_ n1_ n2_ n3_ n4_
                   have hHeld : w29.cell? ⟨gb189, 0, none⟩ = some (.int .i64 ((rd_T25 ((rd_T83 l0 x13_1).f0) x23_2).f0)) ∧ w29.cell? ⟨gb189, 1, none⟩ = some (.int .i64 ((rd_T25 ((rd_T83 l0 x13_1).f0) x23_2).f1)) ∧ w29.cell? ⟨gb191, 0, none⟩ = some (.int .i64 ((rd_T25 ((rd_T83 l0 x13_1).f0) (ji11)).f0)) ∧ w29.cell? ⟨gb191, 1, none⟩ = some (.int .i64 ((rd_T25 ((rd_T83 l0 x13_1).f0) (ji11)).f1)) := hS_
                   refine norm_ (a' := ?_) ?_ ?_
                   rotate_left
                   ·simp only [putAll, Act.put, List.setIfInBounds_toArray, List.set_cons_zero, List.set_cons_succ]
                    rfl
                   refine two_ (i := 11) (j := 13) (Ni := some 47) (Nj := some 10) #[true, true, true, true, true, true, true, true, true, true, true, true, false, false, false] #[true, true, true, true, true, true, true, true, true, true, true, false, false, true, false] rfl rfl rfl rfl (two_of HT_.out (by kernel_rfl)) (by decide) (by decide) (fun K hK => ?_) (fun K hK => ?_)
                   ·skip
                    refine goes_ Try.func213 (by kernel_rfl) rfl #[.int .i64 ((rd_T25 ((rd_T83 l0 x13_1).f0) (ji11)).f1)] (by rfl) rfl rfl (by (try simp only [List.map_toArray, List.map_cons, List.map_nil]); first | done | (simp only [hji11]; rfl) | rfl | (simp only [List.length_drop, List.length_take]; rfl)) ?_
                    with_reducible refine (spec_l11Fine.calls ((rd_T25 ((rd_T83 l0 x13_1).f0) (ji11)).f1) t195 _ A17.out).mono ?_
                    rintro e w' ⟨rfl, ⟨nd, rfl⟩⟩
                    refine ⟨_, rfl, ?_⟩
                    refine hK.out _ _ ⟨(blk_cell BK189.out 0).trans rfl, (blk_cell BK189.out 1).trans rfl, (blk_cell BK191.out 0).trans rfl, (blk_cell BK191.out 1).trans rfl⟩ (fun hHeld => ?_)
                    clear hK K
                    refine norm_ (a' := ?_) ?_ ?_
                    rotate_left
                    ·show Act.put _ (some 47) _ = _
                     simp only [Act.put, List.setIfInBounds_toArray, List.set_cons_zero, List.set_cons_succ, i64_w, i32_w]
                     rfl
                    refine pure_ (i := 12) (N := some 48) (v := ?_) (a' := ?_) #[true, true, true, true, true, true, true, true, true, true, true, true, true, false, false] rfl rfl (any_of HT_.out (by kernel_rfl)) (fun _ _ _ h => h) (Or.inl ⟨by rfl, ?_⟩) ?_ ?_
                    rotate_left
                    ·intro w'
                     go_simp
                     with_reducible rfl
                    rotate_left
                    ·simp only [Act.put, List.setIfInBounds_toArray, List.set_cons_zero, List.set_cons_succ, i64_w, i32_w]
                     rfl
                    exact norm_ (by first | (simp only [putAll, Act.put, List.setIfInBounds_toArray, List.set_cons_zero, List.set_cons_succ]; done) | (simp only [putAll, Act.put, List.setIfInBounds_toArray, List.set_cons_zero, List.set_cons_succ]; rfl)) (hJ2_5_8_11 () _ ⟨hHeld, (z.rl HO_3.out), (z.bk BK187), (z.bk BK189), (z.bk BK191), (z.bl HB)⟩)
                   ·skip
                    refine box_step ?hg (N := 10) ?hd (cs := #[.int .i64 0, .int .i64 0, .int .i64 0, .int .i64 0]) (t := 228) ?hr ?_; (case hd => rfl); (case hg => rfl); (case hr => first | (go_simp; done) | (go_simp; rfl))
                    intro gb196 hg w30 hbox hb
                    replace HO_3 := Aside0.mk (Kd.R_below (Kd.R_elderB (z.rl HO_3.out) gb196 (Nat.le_of_eq hg.symm)) hb)
                    have BK196 := Aside0.mk (hbox)
                    have GW196 := Aside0.mk ((by rw [hg]; exact (below_size (z.bl HB)) : w.heap.size ≤ gb196))
                    have GE196 := Aside0.mk ((by rw [hg]; exact (below_size (z.bl HB)) : w.heap.size ≤ gb196))
                    replace HB := Aside0.mk (below_step (z.bl HB) hb)
                    have NB187_196 := z.ht BK187 hg
                    have NB196_187 := z.hu BK187 hg
                    replace BK187 := z.bb BK187 hb
                    have NB189_196 := z.ht BK189 hg
                    have NB196_189 := z.hu BK189 hg
                    replace BK189 := z.bb BK189 hb
                    have NB191_196 := z.ht BK191 hg
                    have NB196_191 := z.hu BK191 hg
                    replace BK191 := z.bb BK191 hb
                    clear hb hbox hg
                    refine hK.out _ _ ⟨(blk_cell BK189.out 0).trans rfl, (blk_cell BK189.out 1).trans rfl, (blk_cell BK191.out 0).trans rfl, (blk_cell BK191.out 1).trans rfl⟩ (fun hHeld => ?_)
                    clear hK K
                    refine norm_ (a' := ?_) ?_ ?_
                    rotate_left
                    ·show Act.put _ (some 10) _ = _
                     simp only [Act.put, List.setIfInBounds_toArray, List.set_cons_zero, List.set_cons_succ, i64_w, i32_w]
                     rfl
                    exact norm_ (by first | (simp only [putAll, Act.put, List.setIfInBounds_toArray, List.set_cons_zero, List.set_cons_succ]; done) | (simp only [putAll, Act.put, List.setIfInBounds_toArray, List.set_cons_zero, List.set_cons_succ]; rfl)) (hJ2_5_8_13 (gb196) _ ⟨hHeld, (z.rl (Kd.R_mono HO_3.out (fun _ hk => hk.2))), (z.bk BK187), (z.bk BK189), (z.bk BK191), (z.bk BK196), GW196.out, GE196.out, NB187_196.out, NB196_187.out, NB189_196.out, NB196_189.out, NB191_196.out, NB196_191.out, (z.bl HB)⟩)
                 ·skip
                  rintro gb196 w30 ⟨hS_, h0_, h1_, h2_, h3_, h4_, h5_, h6_, h7_, h8_, h9_, h10_, h11_, h12_, h13_⟩
                  have n0_ : Aside0 (Kd.R k228 228 w30 w.heap.size (fun k_ => k_ ≠ gb196) u3 x3_2) := ⟨h0_⟩
                  have n1_ : Aside0 (w30.heap[gb187]? = some (.cells #[.slice (some ad188) ((rd_T83 l0 x13_1).f0).length c186_0, .bool ((rd_T83 l0 x13_1).f1)] 83 (0, 0))) := ⟨h1_⟩
                  have n2_ : Aside0 (w30.heap[gb189]? = some (.cells #[.int .i64 ((rd_T25 ((rd_T83 l0 x13_1).f0) x23_2).f0), .int .i64 ((rd_T25 ((rd_T83 l0 x13_1).f0) x23_2).f1)] 25 (0, 0))) := ⟨h2_⟩
                  have n3_ : Aside0 (w30.heap[gb191]? = some (.cells #[.int .i64 ((rd_T25 ((rd_T83 l0 x13_1).f0) (ji11)).f0), .int .i64 ((rd_T25 ((rd_T83 l0 x13_1).f0) (ji11)).f1)] 25 (0, 0))) := ⟨h3_⟩
                  have n4_ : Aside0 (w30.heap[gb196]? = some (.cells #[.int .i64 0, .int .i64 0, .int .i64 0, .int .i64 0] 228 (0, 0))) := ⟨h4_⟩
                  have n5_ : Aside0 (w.heap.size ≤ gb196) := ⟨h5_⟩
                  have n6_ : Aside0 (w.heap.size ≤ gb196) := ⟨h6_⟩
                  have n7_ : Aside0 (gb187 ≠ gb196) := ⟨h7_⟩
                  have n8_ : Aside0 (gb196 ≠ gb187) := ⟨h8_⟩
                  have n9_ : Aside0 (gb189 ≠ gb196) := ⟨h9_⟩
                  have n10_ : Aside0 (gb196 ≠ gb189) := ⟨h10_⟩
                  have n11_ : Aside0 (gb191 ≠ gb196) := ⟨h11_⟩
                  have n12_ : Aside0 (gb196 ≠ gb191) := ⟨h12_⟩
                  have n13_ : Aside0 (Below w.heap.size w w30) := ⟨h13_⟩
                  clear HO_3
                  clear BK187
                  clear BK189
                  clear BK191
                  clear HB
                  clear h0_ h1_ h2_ h3_ h4_ h5_ h6_ h7_ h8_ h9_ h10_ h11_ h12_ h13_
                  have HO_3 := n0_
                  have BK187 := n1_
                  have BK189 := n2_
                  have BK191 := n3_
                  have BK196 := n4_
                  have GW196 := n5_
                  have GE196 := n6_
                  have NB187_196 := n7_
                  have NB196_187 := n8_
                  have NB189_196 := n9_
                  have NB196_189 := n10_
                  have NB191_196 := n11_
                  have NB196_191 := n12_
                  have HB := n13_
                  clear n0_ n1_ n2_ n3_ n4_ n5_ n6_ n7_ n8_ n9_ n10_ n11_ n12_ n13_
                  have hHeld : w30.cell? ⟨gb189, 0, none⟩ = some (.int .i64 ((rd_T25 ((rd_T83 l0 x13_1).f0) x23_2).f0)) ∧ w30.cell? ⟨gb189, 1, none⟩ = some (.int .i64 ((rd_T25 ((rd_T83 l0 x13_1).f0) x23_2).f1)) ∧ w30.cell? ⟨gb191, 0, none⟩ = some (.int .i64 ((rd_T25 ((rd_T83 l0 x13_1).f0) (ji11)).f0)) ∧ w30.cell? ⟨gb191, 1, none⟩ = some (.int .i64 ((rd_T25 ((rd_T83 l0 x13_1).f0) (ji11)).f1)) := hS_
                  refine norm_ (a' := ?_) ?_ ?_
                  rotate_left
                  ·simp only [putAll, Act.put, List.setIfInBounds_toArray, List.set_cons_zero, List.set_cons_succ]
                   rfl
                  refine one_ (i := 11) (N := some 47) #[true, true, true, true, true, true, true, true, true, true, true, true, false, true, false] rfl rfl (one_of HT_.out (by kernel_rfl)) (by decide) (fun K hK => ?_)
                  refine goes_ Try.func213 (by kernel_rfl) rfl #[.int .i64 ((rd_T25 ((rd_T83 l0 x13_1).f0) (ji11)).f1)] (by rfl) rfl rfl (by (try simp only [List.map_toArray, List.map_cons, List.map_nil]); first | done | (simp only [hji11]; rfl) | rfl | (simp only [List.length_drop, List.length_take]; rfl)) ?_
                  with_reducible refine (spec_l11Fine.calls ((rd_T25 ((rd_T83 l0 x13_1).f0) (ji11)).f1) t195 _ A17.out).mono ?_
                  rintro e w' ⟨rfl, ⟨nd, rfl⟩⟩
                  refine ⟨_, rfl, ?_⟩
                  refine hK.out _ _ ⟨(blk_cell BK189.out 0).trans rfl, (blk_cell BK189.out 1).trans rfl, (blk_cell BK191.out 0).trans rfl, (blk_cell BK191.out 1).trans rfl⟩ (fun hHeld => ?_)
                  clear hK K
                  refine norm_ (a' := ?_) ?_ ?_
                  rotate_left
                  ·show Act.put _ (some 47) _ = _
                   simp only [Act.put, List.setIfInBounds_toArray, List.set_cons_zero, List.set_cons_succ, i64_w, i32_w]
                   rfl
                  refine pure_ (i := 12) (N := some 48) (v := ?_) (a' := ?_) #[true, true, true, true, true, true, true, true, true, true, true, true, true, true, false] rfl rfl (any_of HT_.out (by kernel_rfl)) (fun _ _ _ h => h) (Or.inl ⟨by rfl, ?_⟩) ?_ ?_
                  rotate_left
                  ·intro w'
                   go_simp
                   with_reducible rfl
                  rotate_left
                  ·simp only [Act.put, List.setIfInBounds_toArray, List.set_cons_zero, List.set_cons_succ, i64_w, i32_w]
                   rfl
                  exact norm_ (by first | (simp only [putAll, Act.put, List.setIfInBounds_toArray, List.set_cons_zero, List.set_cons_succ]; done) | (simp only [putAll, Act.put, List.setIfInBounds_toArray, List.set_cons_zero, List.set_cons_succ]; rfl)) (hJ2_5_8_11_13 (gb196) _ ⟨hHeld, (z.rl HO_3.out), (z.bk BK187), (z.bk BK189), (z.bk BK191), (z.bk BK196), GW196.out, GE196.out, NB187_196.out, NB196_187.out, NB189_196.out, NB196_189.out, NB191_196.out, NB196_191.out, (z.bl HB)⟩)
                ·skip
                 rintro _ w29 ⟨hS_, h0_, h1_, h2_, h3_, h4_⟩
                 have n0_ : Aside0 (Kd.R k228 228 w29 w.heap.size (fun _ => True) u3 x3_2) := ⟨h0_⟩
                 have n1_ : Aside0 (w29.heap[gb187]? = some (.cells #[.slice (some ad188) ((rd_T83 l0 x13_1).f0).length c186_0, .bool ((rd_T83 l0 x13_1).f1)] 83 (0, 0))) := ⟨h1_⟩
                 have n2_ : Aside0 (w29.heap[gb189]? = some (.cells #[.int .i64 ((rd_T25 ((rd_T83 l0 x13_1).f0) x23_2).f0), .int .i64 ((rd_T25 ((rd_T83 l0 x13_1).f0) x23_2).f1)] 25 (0, 0))) := ⟨h2_⟩
                 have n3_ : Aside0 (w29.heap[gb191]? = some (.cells #[.int .i64 ((rd_T25 ((rd_T83 l0 x13_1).f0) (ji11)).f0), .int .i64 ((rd_T25 ((rd_T83 l0 x13_1).f0) (ji11)).f1)] 25 (0, 0))) := ⟨h3_⟩
                 have n4_ : Aside0 (Below w.heap.size w w29) := ⟨h4_⟩
                 clear HO_3
                 clear BK187
                 clear BK189
                 clear BK191
                 clear HB
                 clear h0_ h1_ h2_ h3_ h4_
                 have HO_3 := n0_
                 have BK187 := n1_
                 have BK189 := n2_
                 have BK191 := n3_
                 have HB := n4_
                 clear n0_ n1_ n2_ n3_ n4_
                 have hHeld : w29.cell? ⟨gb189, 0, none⟩ = some (.int .i64 ((rd_T25 ((rd_T83 l0 x13_1).f0) x23_2).f0)) ∧ w29.cell? ⟨gb189, 1, none⟩ = some (.int .i64 ((rd_T25 ((rd_T83 l0 x13_1).f0) x23_2).f1)) ∧ w29.cell? ⟨gb191, 0, none⟩ = some (.int .i64 ((rd_T25 ((rd_T83 l0 x13_1).f0) (ji11)).f0)) ∧ w29.cell? ⟨gb191, 1, none⟩ = some (.int .i64 ((rd_T25 ((rd_T83 l0 x13_1).f0) (ji11)).f1)) := hS_
                 refine norm_ (a' := ?_) ?_ ?_
                 rotate_left
                 ·simp only [putAll, Act.put, List.setIfInBounds_toArray, List.set_cons_zero, List.set_cons_succ]
                  rfl
                 refine one_ (i := 13) (N := some 10) #[true, true, true, true, true, true, true, true, true, true, true, true, true, true, false] rfl rfl (one_of HT_.out (by kernel_rfl)) (by decide) (fun K hK => ?_)
                 refine box_step ?hg (N := 10) ?hd (cs := #[.int .i64 0, .int .i64 0, .int .i64 0, .int .i64 0]) (t := 228) ?hr ?_; (case hd => rfl); (case hg => rfl); (case hr => first | (go_simp; done) | (go_simp; rfl))
                 intro gb196 hg w30 hbox hb
                 replace HO_3 := Aside0.mk (Kd.R_below (Kd.R_elderB (z.rl HO_3.out) gb196 (Nat.le_of_eq hg.symm)) hb)
                 have BK196 := Aside0.mk (hbox)
                 have GW196 := Aside0.mk ((by rw [hg]; exact (below_size (z.bl HB)) : w.heap.size ≤ gb196))
                 have GE196 := Aside0.mk ((by rw [hg]; exact (below_size (z.bl HB)) : w.heap.size ≤ gb196))
                 replace HB := Aside0.mk (below_step (z.bl HB) hb)
                 have NB187_196 := z.ht BK187 hg
                 have NB196_187 := z.hu BK187 hg
                 replace BK187 := z.bb BK187 hb
                 have NB189_196 := z.ht BK189 hg
                 have NB196_189 := z.hu BK189 hg
                 replace BK189 := z.bb BK189 hb
                 have NB191_196 := z.ht BK191 hg
                 have NB196_191 := z.hu BK191 hg
                 replace BK191 := z.bb BK191 hb
                 clear hb hbox hg
                 refine hK.out _ _ ⟨(blk_cell BK189.out 0).trans rfl, (blk_cell BK189.out 1).trans rfl, (blk_cell BK191.out 0).trans rfl, (blk_cell BK191.out 1).trans rfl⟩ (fun hHeld => ?_)
                 clear hK K
                 refine norm_ (a' := ?_) ?_ ?_
                 rotate_left
                 ·show Act.put _ (some 10) _ = _
                  simp only [Act.put, List.setIfInBounds_toArray, List.set_cons_zero, List.set_cons_succ, i64_w, i32_w]
                  rfl
                 exact norm_ (by first | (simp only [putAll, Act.put, List.setIfInBounds_toArray, List.set_cons_zero, List.set_cons_succ]; done) | (simp only [putAll, Act.put, List.setIfInBounds_toArray, List.set_cons_zero, List.set_cons_succ]; rfl)) (hJ2_5_8_11_13 (gb196) _ ⟨hHeld, (z.rl (Kd.R_mono HO_3.out (fun _ hk => hk.2))), (z.bk BK187), (z.bk BK189), (z.bk BK191), (z.bk BK196), GW196.out, GE196.out, NB187_196.out, NB196_187.out, NB189_196.out, NB196_189.out, NB191_196.out, NB196_191.out, (z.bl HB)⟩)
               rintro gb196 w30 ⟨hS_, h0_, h1_, h2_, h3_, h4_, h5_, h6_, h7_, h8_, h9_, h10_, h11_, h12_, h13_⟩
               have n0_ : Aside0 (Kd.R k228 228 w30 w.heap.size (fun k_ => k_ ≠ gb196) u3 x3_2) := ⟨h0_⟩
               have n1_ : Aside0 (w30.heap[gb187]? = some (.cells #[.slice (some ad188) ((rd_T83 l0 x13_1).f0).length c186_0, .bool ((rd_T83 l0 x13_1).f1)] 83 (0, 0))) := ⟨h1_⟩
               have n2_ : Aside0 (w30.heap[gb189]? = some (.cells #[.int .i64 ((rd_T25 ((rd_T83 l0 x13_1).f0) x23_2).f0), .int .i64 ((rd_T25 ((rd_T83 l0 x13_1).f0) x23_2).f1)] 25 (0, 0))) := ⟨h2_⟩
               have n3_ : Aside0 (w30.heap[gb191]? = some (.cells #[.int .i64 ((rd_T25 ((rd_T83 l0 x13_1).f0) (ji11)).f0), .int .i64 ((rd_T25 ((rd_T83 l0 x13_1).f0) (ji11)).f1)] 25 (0, 0))) := ⟨h3_⟩
               have n4_ : Aside0 (w30.heap[gb196]? = some (.cells #[.int .i64 0, .int .i64 0, .int .i64 0, .int .i64 0] 228 (0, 0))) := ⟨h4_⟩
               have n5_ : Aside0 (w.heap.size ≤ gb196) := ⟨h5_⟩
               have n6_ : Aside0 (w.heap.size ≤ gb196) := ⟨h6_⟩
               have n7_ : Aside0 (gb187 ≠ gb196) := ⟨h7_⟩
               have n8_ : Aside0 (gb196 ≠ gb187) := ⟨h8_⟩
               have n9_ : Aside0 (gb189 ≠ gb196) := ⟨h9_⟩
               have n10_ : Aside0 (gb196 ≠ gb189) := ⟨h10_⟩
               have n11_ : Aside0 (gb191 ≠ gb196) := ⟨h11_⟩
               have n12_ : Aside0 (gb196 ≠ gb191) := ⟨h12_⟩
               have n13_ : Aside0 (Below w.heap.size w w30) := ⟨h13_⟩
               clear HO_3
               clear BK187
               clear BK189
               clear BK191
               clear HB
               clear h0_ h1_ h2_ h3_ h4_ h5_ h6_ h7_ h8_ h9_ h10_ h11_ h12_ h13_
               have HO_3 := n0_
               have BK187 := n1_
               have BK189 := n2_
               have BK191 := n3_
               have BK196 := n4_
               have GW196 := n5_
               have GE196 := n6_
               have NB187_196 := n7_
               have NB196_187 := n8_
               have NB189_196 := n9_
               have NB196_189 := n10_
               have NB191_196 := n11_
               have NB196_191 := n12_
               have HB := n13_
               clear n0_ n1_ n2_ n3_ n4_ n5_ n6_ n7_ n8_ n9_ n10_ n11_ n12_ n13_
               have hHeld : w30.cell? ⟨gb189, 0, none⟩ = some (.int .i64 ((rd_T25 ((rd_T83 l0 x13_1).f0) x23_2).f0)) ∧ w30.cell? ⟨gb189, 1, none⟩ = some (.int .i64 ((rd_T25 ((rd_T83 l0 x13_1).f0) x23_2).f1)) ∧ w30.cell? ⟨gb191, 0, none⟩ = some (.int .i64 ((rd_T25 ((rd_T83 l0 x13_1).f0) (ji11)).f0)) ∧ w30.cell? ⟨gb191, 1, none⟩ = some (.int .i64 ((rd_T25 ((rd_T83 l0 x13_1).f0) (ji11)).f1)) := hS_
               refine norm_ (a' := ?_) ?_ ?_
               rotate_left
               ·simp only [putAll, Act.put, List.setIfInBounds_toArray, List.set_cons_zero, List.set_cons_succ]
                rfl
               refine one_ (i := 14) (N := none) #[true, true, true, true, true, true, true, true, true, true, true, true, true, true, true] rfl rfl (one_of HT_.out (by kernel_rfl)) (by decide) (fun K hK => ?_)
               have hs31 : w30.cell? ⟨gb196, 0, none⟩ = some (.int .i64 0) := (blk_cell BK196.out 0).trans rfl
               have hfs31 := blk_frozen BK196.out 0
               have hns31_0 := NB187_196.out
               have hns31_1 := NB189_196.out
               have hns31_2 := NB191_196.out
               have hms31_0 := NB196_187.out
               have hms31_1 := NB196_189.out
               have hms31_2 := NB196_191.out
               have hs32 : w30.cell? ⟨gb196, 1, none⟩ = some (.int .i64 0) := (blk_cell BK196.out 1).trans rfl
               have hfs32 := blk_frozen BK196.out 1
               have hns32_0 := NB187_196.out
               have hns32_1 := NB189_196.out
               have hns32_2 := NB191_196.out
               have hms32_0 := NB196_187.out
               have hms32_1 := NB196_189.out
               have hms32_2 := NB196_191.out
               have hs33 : w30.cell? ⟨gb196, 2, none⟩ = some (.int .i64 0) := (blk_cell BK196.out 2).trans rfl
               have hfs33 := blk_frozen BK196.out 2
               have hns33_0 := NB187_196.out
               have hns33_1 := NB189_196.out
               have hns33_2 := NB191_196.out
               have hms33_0 := NB196_187.out
               have hms33_1 := NB196_189.out
               have hms33_2 := NB196_191.out
               have hs34 : w30.cell? ⟨gb196, 3, none⟩ = some (.int .i64 0) := (blk_cell BK196.out 3).trans rfl
               have hfs34 := blk_frozen BK196.out 3
               have hns34_0 := NB187_196.out
               have hns34_1 := NB189_196.out
               have hns34_2 := NB191_196.out
               have hms34_0 := NB196_187.out
               have hms34_1 := NB196_189.out
               have hms34_2 := NB196_191.out
               refine skip_ (w1 := ?_) (by rfl) rfl ?_ ?_
               rotate_left
               ·go_simp
                rfl
               refine hK.out _ _ ⟨((cell_far (p := ⟨gb196, _, none⟩) NB189_196.out _).trans (((cell_far (p := ⟨gb196, _, none⟩) NB189_196.out _).trans (((cell_far (p := ⟨gb196, _, none⟩) NB189_196.out _).trans (((cell_far (p := ⟨gb196, _, none⟩) NB189_196.out _).trans (hHeld.1)))))))), ((cell_far (p := ⟨gb196, _, none⟩) NB189_196.out _).trans (((cell_far (p := ⟨gb196, _, none⟩) NB189_196.out _).trans (((cell_far (p := ⟨gb196, _, none⟩) NB189_196.out _).trans (((cell_far (p := ⟨gb196, _, none⟩) NB189_196.out _).trans (hHeld.2.1)))))))), ((cell_far (p := ⟨gb196, _, none⟩) NB191_196.out _).trans (((cell_far (p := ⟨gb196, _, none⟩) NB191_196.out _).trans (((cell_far (p := ⟨gb196, _, none⟩) NB191_196.out _).trans (((cell_far (p := ⟨gb196, _, none⟩) NB191_196.out _).trans (hHeld.2.2.1)))))))), ((cell_far (p := ⟨gb196, _, none⟩) NB191_196.out _).trans (((cell_far (p := ⟨gb196, _, none⟩) NB191_196.out _).trans (((cell_far (p := ⟨gb196, _, none⟩) NB191_196.out _).trans (((cell_far (p := ⟨gb196, _, none⟩) NB191_196.out _).trans (hHeld.2.2.2))))))))⟩ (fun hHeld => ?_)
               clear hK K
               refine done_ (done_of HT_.out (by kernel_rfl)) ?_
               have hnb35 := NB196_187.out
               have hnc35 := NB187_196.out
               have hnb36 := NB196_189.out
               have hnc36 := NB189_196.out
               have hnb37 := NB196_191.out
               have hnc37 := NB191_196.out
               have hcz38_0 : w30.cell? ⟨gb196, 0, none⟩ = some (.int .i64 0) := (blk_cell BK196.out 0).trans rfl
               have hcz38_1 : w30.cell? ⟨gb196, 1, none⟩ = some (.int .i64 0) := (blk_cell BK196.out 1).trans rfl
               have hcz38_2 : w30.cell? ⟨gb196, 2, none⟩ = some (.int .i64 0) := (blk_cell BK196.out 2).trans rfl
               have hcz38_3 : w30.cell? ⟨gb196, 3, none⟩ = some (.int .i64 0) := (blk_cell BK196.out 3).trans rfl
               have hfz38_0 := blk_frozen BK196.out 0
               have hfz38_1 := blk_frozen BK196.out 1
               have hfz38_2 := blk_frozen BK196.out 2
               have hfz38_3 := blk_frozen BK196.out 3
               try go_wp2
               go_roundg k2
               case measure => have := HK1.out; have := HK2.out; omega
               case rel => exact ⟨(x3_2), (wrap64 (x23_2 + 1)), (by first | rfl | (simp; done) | (simp [*]; done)), H', ⟨by have := HK1.out; have := HK2.out; omega⟩, ⟨z.rl (Kd.R_mono (Kd.R_far (p := ⟨gb196, 3, none⟩) (Kd.R_far (p := ⟨gb196, 2, none⟩) (Kd.R_far (p := ⟨gb196, 1, none⟩) (Kd.R_far (p := ⟨gb196, 0, none⟩) (Kd.R_mono HO_3.out (fun k_ hk => (⟨hk, hk⟩ : _ ∧ k_ ≠ gb196))) (fun _ hk => hk.2) (.int .i64 t192)) (fun _ hk => hk.2) (.int .i64 t193)) (fun _ hk => hk.2) (.int .i64 t194)) (fun _ hk => hk.2) (.int .i64 t195)) (fun _ hk => trivial))⟩, ⟨z.bf BK187⟩, ⟨z.bl HB⟩⟩
              ·rw [if_neg c18] at H
               have c18b0 : (t193 == t195) = false := beq_eq_false_iff_ne.mpr c18
               have c18b1 : (t193 != t195) = true := bne_iff_ne.mpr c18
               by_cases c39 : x3_2.length < 4398046511104
               ·rw [if_pos c39] at H
                have LMc39 := Aside0.mk c39
                clear c39
                obtain ⟨y197, hy197⟩ : ∃ y_ : List (S228), y_ = (x3_2 ++ [(⟨t192, t193, t194, t195⟩ : S228)]) := ⟨_, rfl⟩
                replace H : (spec_l11Edges.l1 k2 y197 (((rd_T83 l0 x13_1).f0).length : Int) l0 (l0.length : Int) x13_1 ((rd_T83 l0 x13_1).f0) (((rd_T83 l0 x13_1).f0).length : Int) (wrap64 (x23_2 + 1)) ((rd_T83 l0 x13_1).f0) ((rd_T83 l0 x13_1).f1)) = some r := by first | (rw [hy197]; with_reducible exact H) | (have H2_ := (Option.bind_some _ _).symm.trans H; rw [hy197]; with_reducible exact H2_) | (have H2_ := (Option.bind_some _ _).symm.trans H; with_reducible exact H2_) | with_reducible exact H | (rw [hy197]; exact H) | exact H
                have Ny197 := Aside0.mk hy197
                clear hy197
                have H' := Aside0.mk H
                clear H
                have p188 : 0 ≤ (x23_2 : Int) := of_decide_eq_true (by first | (with_reducible assumption) | assumption)
                have q188 : x23_2 < (((rd_T83 l0 x13_1).f0).length : Int) := of_decide_eq_true (by first | (with_reducible assumption) | assumption)
                obtain ⟨ad188, e188, hx188_0, hx188_1⟩ := at_T25 HR186_0.out x23_2 p188 q188
                cases e188
                replace hx188_0 := (HB.out.cell (World.block_lt_of_cell? w _ hx188_0)).trans hx188_0
                replace hx188_1 := (HB.out.cell (World.block_lt_of_cell? w _ hx188_1)).trans hx188_1
                replace p188 := eq_true p188
                replace q188 := eq_true q188
                try go_wp2_with (first | ((with_reducible refine gate_dst (N := 8) rfl ?_); refine box_event ?hg (N := 8) ?hd (cs := #[.int .i64 0, .int .i64 0]) (t := 25) ?hr ?_; (case hd => rfl); (case hg => rfl); (case hr => first | (go_simp; done) | (go_simp; rfl)); intro gb189 hg w40 hbox hb; replace HO_3 := z.rb HO_3 hb; have BK189 := Aside0.mk (hbox); have GW189 := Aside0.mk ((by rw [hg]; exact (below_size (z.bl HB)) : w.heap.size ≤ gb189)); have GE189 := Aside0.mk ((by rw [hg]; exact (below_size (z.bl HB)) : w.heap.size ≤ gb189)); replace HB := Aside0.mk (below_step (z.bl HB) hb); have NB187_189 := z.ht BK187 hg; have NB189_187 := z.hu BK187 hg; replace BK187 := z.bb BK187 hb; clear hb hbox hg; have hnb41 := NB189_187.out; have hnc41 := NB187_189.out; have hcz42_0 : w40.cell? ⟨gb189, 0, none⟩ = some (.int .i64 0) := (blk_cell BK189.out 0).trans rfl; have hcz42_1 : w40.cell? ⟨gb189, 1, none⟩ = some (.int .i64 0) := (blk_cell BK189.out 1).trans rfl; have hfz42_0 := blk_frozen BK189.out 0; have hfz42_1 := blk_frozen BK189.out 1))
                have n0_ : Aside0 (Kd.R k228 228 ((w40.setCell ⟨gb189, 0, none⟩ (.int .i64 ((rd_T25 ((rd_T83 l0 x13_1).f0) x23_2).f0))).setCell ⟨gb189, 1, none⟩ (.int .i64 ((rd_T25 ((rd_T83 l0 x13_1).f0) x23_2).f1))) w.heap.size (fun _ => True) u3 x3_2) := ⟨z.rl (Kd.R_mono (Kd.R_far (p := ⟨gb189, 1, none⟩) (Kd.R_far (p := ⟨gb189, 0, none⟩) (Kd.R_types HO_3.out BK189.out (by decide)) (fun _ hk => hk.2) (.int .i64 ((rd_T25 ((rd_T83 l0 x13_1).f0) x23_2).f0))) (fun _ hk => hk.2) (.int .i64 ((rd_T25 ((rd_T83 l0 x13_1).f0) x23_2).f1))) (fun _ hk => trivial))⟩
                have n1_ : Aside0 (((w40.setCell ⟨gb189, 0, none⟩ (.int .i64 ((rd_T25 ((rd_T83 l0 x13_1).f0) x23_2).f0))).setCell ⟨gb189, 1, none⟩ (.int .i64 ((rd_T25 ((rd_T83 l0 x13_1).f0) x23_2).f1))).heap[gb187]? = some (.cells #[.slice (some ad188) ((rd_T83 l0 x13_1).f0).length c186_0, .bool ((rd_T83 l0 x13_1).f1)] 83 (0, 0))) := ⟨z.bf BK187⟩
                have n2_ : Aside0 (((w40.setCell ⟨gb189, 0, none⟩ (.int .i64 ((rd_T25 ((rd_T83 l0 x13_1).f0) x23_2).f0))).setCell ⟨gb189, 1, none⟩ (.int .i64 ((rd_T25 ((rd_T83 l0 x13_1).f0) x23_2).f1))).heap[gb189]? = some (.cells #[.int .i64 ((rd_T25 ((rd_T83 l0 x13_1).f0) x23_2).f0), .int .i64 ((rd_T25 ((rd_T83 l0 x13_1).f0) x23_2).f1)] 25 (0, 0))) := ⟨by (with_reducible repeat (first | refine blk_drewN ?_ _ | refine blk_drew ?_ | refine blk_alloc ?_ _)); refine blk_put (cs := #[.int .i64 ((rd_T25 ((rd_T83 l0 x13_1).f0) x23_2).f0), .int .i64 0]) ?_ 1 _ rfl; (with_reducible repeat (first | refine blk_drewN ?_ _ | refine blk_drew ?_ | refine blk_alloc ?_ _)); refine blk_put (cs := #[.int .i64 0, .int .i64 0]) ?_ 0 _ rfl; (with_reducible repeat (first | refine blk_drewN ?_ _ | refine blk_drew ?_ | refine blk_alloc ?_ _)); exact BK189.out⟩
                have n3_ : Aside0 (Below w.heap.size w ((w40.setCell ⟨gb189, 0, none⟩ (.int .i64 ((rd_T25 ((rd_T83 l0 x13_1).f0) x23_2).f0))).setCell ⟨gb189, 1, none⟩ (.int .i64 ((rd_T25 ((rd_T83 l0 x13_1).f0) x23_2).f1)))) := ⟨z.bl HB⟩
                (try clear HO_3)
                (try clear BK187)
                (try clear BK189)
                (try clear HB)
                generalize ((w40.setCell ⟨gb189, 0, none⟩ (.int .i64 ((rd_T25 ((rd_T83 l0 x13_1).f0) x23_2).f0))).setCell ⟨gb189, 1, none⟩ (.int .i64 ((rd_T25 ((rd_T83 l0 x13_1).f0) x23_2).f1))) = w43 at n0_ n1_ n2_ n3_ ⊢
                have HO_3 := n0_
                have BK187 := n1_
                have BK189 := n2_
                have HB := n3_
                clear n0_ n1_ n2_ n3_
                replace HO_3 := Aside0.mk (Kd.R_drew HO_3.out)
                replace BK187 := Aside0.mk (blk_drew BK187.out)
                replace BK189 := Aside0.mk (blk_drew BK189.out)
                replace HB := Aside0.mk (below_drew1 HB.out)
                have p190 : 0 ≤ ((ji11) : Int) := of_decide_eq_true (by first | (with_reducible assumption) | assumption)
                have q190 : (ji11) < (((rd_T83 l0 x13_1).f0).length : Int) := of_decide_eq_true (by first | (with_reducible assumption) | assumption)
                obtain ⟨ad190, e190, hx190_0, hx190_1⟩ := at_T25 HR186_0.out (ji11) p190 q190
                have hw190_1 := hx190_1
                have hw190_0 := hx190_0
                obtain rfl : ad188 = ad190 := (by injection e190)
                replace hx190_0 := (HB.out.cell (World.block_lt_of_cell? w _ hx190_0)).trans hx190_0
                replace hx190_1 := (HB.out.cell (World.block_lt_of_cell? w _ hx190_1)).trans hx190_1
                replace p190 := eq_true p190
                replace q190 := eq_true q190
                refine start_ (n := 10) (S := fun w' => w'.cell? ⟨gb187, 0, none⟩ = some (.slice (some ad188) ((rd_T83 l0 x13_1).f0).length c186_0) ∧ w'.cell? ⟨gb187, 1, none⟩ = some (.bool ((rd_T83 l0 x13_1).f1)) ∧ w'.cell? (ad188.add (((ji11)).toNat * 2)) = some (.int .i64 ((rd_T25 ((rd_T83 l0 x13_1).f0) (ji11)).f0)) ∧ w'.cell? ⟨(ad188.add (((ji11)).toNat * 2)).block, (ad188.add (((ji11)).toNat * 2)).off + 1, none⟩ = some (.int .i64 ((rd_T25 ((rd_T83 l0 x13_1).f0) (ji11)).f1))) (ds := []) #[false, false, false, false, false, false, false, false, false, false] (by kernel_rfl) rfl rfl ⟨(blk_cell BK187.out 0).trans rfl, (blk_cell BK187.out 1).trans rfl, ((HB.out.cell (World.block_lt_of_cell? w _ hw190_0)).trans hw190_0), ((HB.out.cell (World.block_lt_of_cell? w _ hw190_1)).trans hw190_1)⟩ (fun hHeld => ?_); refine with_tabW spec_l11Edges.tab9 spec_l11Edges.bits9 (fun HT_ HW_ => ?_)
                generalize w43.drew = w44 at HO_3 BK187 BK189 HB hx190_0 hx190_1 hHeld ⊢
                refine pure_ (i := 0) (N := some 28) (v := ?_) (a' := ?_) #[true, false, false, false, false, false, false, false, false, false] rfl rfl (any_of HT_.out (by kernel_rfl)) (fun _ _ _ h => h) (Or.inl ⟨by rfl, ?_⟩) ?_ ?_
                rotate_left
                ·intro w'
                 go_simp
                 with_reducible rfl
                rotate_left
                ·simp only [Act.put, List.setIfInBounds_toArray, List.set_cons_zero, List.set_cons_succ, i64_w, i32_w]
                 rfl
                refine pure_ (i := 2) (N := some 30) (v := ?_) (a' := ?_) #[true, false, true, false, false, false, false, false, false, false] rfl rfl (any_of HT_.out (by kernel_rfl)) (fun _ _ _ h => h) (Or.inl ⟨by rfl, ?_⟩) ?_ ?_
                rotate_left
                ·intro w'
                 go_simp
                 with_reducible rfl
                rotate_left
                ·simp only [Act.put, List.setIfInBounds_toArray, List.set_cons_zero, List.set_cons_succ, i64_w, i32_w]
                 rfl
                refine pure_ (i := 3) (N := some 31) (v := ?_) (a' := ?_) #[true, false, true, true, false, false, false, false, false, false] rfl rfl (any_of HT_.out (by kernel_rfl)) (fun _ _ _ h => h) (Or.inl ⟨by rfl, ?_⟩) ?_ ?_
                rotate_left
                ·intro w'
                 go_simp
                 with_reducible rfl
                rotate_left
                ·simp only [Act.put, List.setIfInBounds_toArray, List.set_cons_zero, List.set_cons_succ, i64_w, i32_w]
                 rfl
                refine pure_ (i := 4) (N := some 32) (v := ?_) (a' := ?_) #[true, false, true, true, true, false, false, false, false, false] rfl rfl (any_of HT_.out (by kernel_rfl)) (fun _ _ _ h => h) (Or.inl ⟨by rfl, ?_⟩) ?_ ?_
                rotate_left
                ·intro w'
                 go_simp
                 with_reducible rfl
                rotate_left
                ·simp only [Act.put, List.setIfInBounds_toArray, List.set_cons_zero, List.set_cons_succ, i64_w, i32_w]
                 rfl
                refine pure_ (i := 5) (N := some 33) (v := ?_) (a' := ?_) #[true, false, true, true, true, true, false, false, false, false] rfl rfl (any_of HT_.out (by kernel_rfl)) (fun _ _ _ h => h) (Or.inl ⟨by rfl, ?_⟩) ?_ ?_
                rotate_left
                ·intro w'
                 go_simp
                 with_reducible rfl
                rotate_left
                ·simp only [Act.put, List.setIfInBounds_toArray, List.set_cons_zero, List.set_cons_succ, i64_w, i32_w]
                 rfl
                refine take_ (i := 1) (N := some 29) (v := ?_) (a' := ?_) #[true, true, true, true, true, true, false, false, false, false] rfl rfl (take_ofW HT_.out HW_.out (by kernel_rfl)) (fun _ _ _ h => h) (Or.inl ⟨by rfl, ?_⟩) hHeld ?_ ?_
                rotate_left
                ·rintro w' ⟨s0, s1, s2, s3⟩
                 go_simp
                 with_reducible rfl
                rotate_left
                ·simp only [Act.put, List.setIfInBounds_toArray, List.set_cons_zero, List.set_cons_succ, i64_w, i32_w]
                 rfl
                refine pure_ (i := 6) (N := some 34) (v := ?_) (a' := ?_) #[true, true, true, true, true, true, true, false, false, false] rfl rfl (any_of HT_.out (by kernel_rfl)) (fun _ _ _ h => h) (Or.inl ⟨by rfl, ?_⟩) ?_ ?_
                rotate_left
                ·intro w'
                 go_simp
                 with_reducible rfl
                rotate_left
                ·simp only [Act.put, List.setIfInBounds_toArray, List.set_cons_zero, List.set_cons_succ, i64_w, i32_w]
                 rfl
                refine take_ (i := 7) (N := some 35) (v := ?_) (a' := ?_) #[true, true, true, true, true, true, true, true, false, false] rfl rfl (take_ofW HT_.out HW_.out (by kernel_rfl)) (fun _ _ _ h => h) (Or.inl ⟨by rfl, ?_⟩) hHeld ?_ ?_
                rotate_left
                ·rintro w' ⟨s0, s1, s2, s3⟩
                 go_simp
                 with_reducible rfl
                rotate_left
                ·simp only [Act.put, List.setIfInBounds_toArray, List.set_cons_zero, List.set_cons_succ, i64_w, i32_w]
                 rfl
                refine one_ (i := 8) (N := some 9) #[true, true, true, true, true, true, true, true, true, false] rfl rfl (one_of HT_.out (by kernel_rfl)) (by decide) (fun K hK => ?_)
                refine box_step ?hg (N := 9) ?hd (cs := #[.int .i64 0, .int .i64 0]) (t := 25) ?hr ?_; (case hd => rfl); (case hg => rfl); (case hr => first | (go_simp; done) | (go_simp; rfl))
                intro gb191 hg w45 hbox hb
                replace HO_3 := z.rb HO_3 hb
                have BK191 := Aside0.mk (hbox)
                have GW191 := Aside0.mk ((by rw [hg]; exact (below_size (z.bl HB)) : w.heap.size ≤ gb191))
                have GE191 := Aside0.mk ((by rw [hg]; exact (below_size (z.bl HB)) : w.heap.size ≤ gb191))
                replace HB := Aside0.mk (below_step (z.bl HB) hb)
                have NB187_191 := z.ht BK187 hg
                have NB191_187 := z.hu BK187 hg
                replace BK187 := z.bb BK187 hb
                have NB189_191 := z.ht BK189 hg
                have NB191_189 := z.hu BK189 hg
                replace BK189 := z.bb BK189 hb
                clear hb hbox hg
                refine hK.out _ _ ⟨(blk_cell BK187.out 0).trans rfl, (blk_cell BK187.out 1).trans rfl, ((HB.out.cell (World.block_lt_of_cell? w _ hw190_0)).trans hw190_0), ((HB.out.cell (World.block_lt_of_cell? w _ hw190_1)).trans hw190_1)⟩ (fun hHeld => ?_)
                clear hK K
                refine norm_ (a' := ?_) ?_ ?_
                rotate_left
                ·show Act.put _ (some 9) _ = _
                 simp only [Act.put, List.setIfInBounds_toArray, List.set_cons_zero, List.set_cons_succ, i64_w, i32_w]
                 rfl
                refine one_ (i := 9) (N := none) #[true, true, true, true, true, true, true, true, true, true] rfl rfl (one_of HT_.out (by kernel_rfl)) (by decide) (fun K hK => ?_)
                have hs46 : w45.cell? ⟨gb191, 0, none⟩ = some (.int .i64 0) := (blk_cell BK191.out 0).trans rfl
                have hfs46 := blk_frozen BK191.out 0
                have hns46_0 := NB187_191.out
                have hns46_1 := NB189_191.out
                have hms46_0 := NB191_187.out
                have hms46_1 := NB191_189.out
                have hs47 : w45.cell? ⟨gb191, 1, none⟩ = some (.int .i64 0) := (blk_cell BK191.out 1).trans rfl
                have hfs47 := blk_frozen BK191.out 1
                have hns47_0 := NB187_191.out
                have hns47_1 := NB189_191.out
                have hms47_0 := NB191_187.out
                have hms47_1 := NB191_189.out
                refine skip_ (w1 := ?_) (by rfl) rfl ?_ ?_
                rotate_left
                ·go_simp
                 rfl
                refine hK.out _ _ ⟨((cell_far (p := ⟨gb191, _, none⟩) NB187_191.out _).trans (((cell_far (p := ⟨gb191, _, none⟩) NB187_191.out _).trans (hHeld.1)))), ((cell_far (p := ⟨gb191, _, none⟩) NB187_191.out _).trans (((cell_far (p := ⟨gb191, _, none⟩) NB187_191.out _).trans (hHeld.2.1)))), ((cell_far (p := ⟨gb191, _, none⟩) (by first | exact Nat.ne_of_lt (Nat.lt_of_lt_of_le (by have := World.block_lt_of_cell? _ _ hw190_0; first | rwa [add_block] at this | exact this) GW191.out) | (rw [add_block]; exact Nat.ne_of_lt (Nat.lt_of_lt_of_le (by have := World.block_lt_of_cell? _ _ hw190_0; first | rwa [add_block] at this | exact this) GW191.out)) | (show (Addr.add _ _).block ≠ _; rw [add_block]; exact Nat.ne_of_lt (Nat.lt_of_lt_of_le (by have := World.block_lt_of_cell? _ _ hw190_0; first | rwa [add_block] at this | exact this) GW191.out)) | (dsimp only; exact Nat.ne_of_lt (Nat.lt_of_lt_of_le (by have := World.block_lt_of_cell? _ _ hw190_0; first | rwa [add_block] at this | exact this) GW191.out))) _).trans (((cell_far (p := ⟨gb191, _, none⟩) (by first | exact Nat.ne_of_lt (Nat.lt_of_lt_of_le (by have := World.block_lt_of_cell? _ _ hw190_0; first | rwa [add_block] at this | exact this) GW191.out) | (rw [add_block]; exact Nat.ne_of_lt (Nat.lt_of_lt_of_le (by have := World.block_lt_of_cell? _ _ hw190_0; first | rwa [add_block] at this | exact this) GW191.out)) | (show (Addr.add _ _).block ≠ _; rw [add_block]; exact Nat.ne_of_lt (Nat.lt_of_lt_of_le (by have := World.block_lt_of_cell? _ _ hw190_0; first | rwa [add_block] at this | exact this) GW191.out)) | (dsimp only; exact Nat.ne_of_lt (Nat.lt_of_lt_of_le (by have := World.block_lt_of_cell? _ _ hw190_0; first | rwa [add_block] at this | exact this) GW191.out))) _).trans (hHeld.2.2.1)))), ((cell_far (p := ⟨gb191, _, none⟩) (by first | exact Nat.ne_of_lt (Nat.lt_of_lt_of_le (by have := World.block_lt_of_cell? _ _ hw190_1; first | rwa [add_block] at this | exact this) GW191.out) | (rw [add_block]; exact Nat.ne_of_lt (Nat.lt_of_lt_of_le (by have := World.block_lt_of_cell? _ _ hw190_1; first | rwa [add_block] at this | exact this) GW191.out)) | (show (Addr.add _ _).block ≠ _; rw [add_block]; exact Nat.ne_of_lt (Nat.lt_of_lt_of_le (by have := World.block_lt_of_cell? _ _ hw190_1; first | rwa [add_block] at this | exact this) GW191.out)) | (dsimp only; exact Nat.ne_of_lt (Nat.lt_of_lt_of_le (by have := World.block_lt_of_cell? _ _ hw190_1; first | rwa [add_block] at this | exact this) GW191.out))) _).trans (((cell_far (p := ⟨gb191, _, none⟩) (by first | exact Nat.ne_of_lt (Nat.lt_of_lt_of_le (by have := World.block_lt_of_cell? _ _ hw190_1; first | rwa [add_block] at this | exact this) GW191.out) | (rw [add_block]; exact Nat.ne_of_lt (Nat.lt_of_lt_of_le (by have := World.block_lt_of_cell? _ _ hw190_1; first | rwa [add_block] at this | exact this) GW191.out)) | (show (Addr.add _ _).block ≠ _; rw [add_block]; exact Nat.ne_of_lt (Nat.lt_of_lt_of_le (by have := World.block_lt_of_cell? _ _ hw190_1; first | rwa [add_block] at this | exact this) GW191.out)) | (dsimp only; exact Nat.ne_of_lt (Nat.lt_of_lt_of_le (by have := World.block_lt_of_cell? _ _ hw190_1; first | rwa [add_block] at this | exact this) GW191.out))) _).trans (hHeld.2.2.2))))⟩ (fun hHeld => ?_)
                clear hK K
                refine done_ (done_of HT_.out (by kernel_rfl)) ?_
                try go_wp2
                have n0_ : Aside0 (Kd.R k228 228 ((w45.setCell ⟨gb191, 0, none⟩ (.int .i64 ((rd_T25 ((rd_T83 l0 x13_1).f0) (ji11)).f0))).setCell ⟨gb191, 1, none⟩ (.int .i64 ((rd_T25 ((rd_T83 l0 x13_1).f0) (ji11)).f1))) w.heap.size (fun _ => True) u3 x3_2) := ⟨z.rl (Kd.R_mono (Kd.R_far (p := ⟨gb191, 1, none⟩) (Kd.R_far (p := ⟨gb191, 0, none⟩) (Kd.R_types HO_3.out BK191.out (by decide)) (fun _ hk => hk.2) (.int .i64 ((rd_T25 ((rd_T83 l0 x13_1).f0) (ji11)).f0))) (fun _ hk => hk.2) (.int .i64 ((rd_T25 ((rd_T83 l0 x13_1).f0) (ji11)).f1))) (fun _ hk => trivial))⟩
                have n1_ : Aside0 (((w45.setCell ⟨gb191, 0, none⟩ (.int .i64 ((rd_T25 ((rd_T83 l0 x13_1).f0) (ji11)).f0))).setCell ⟨gb191, 1, none⟩ (.int .i64 ((rd_T25 ((rd_T83 l0 x13_1).f0) (ji11)).f1))).heap[gb187]? = some (.cells #[.slice (some ad188) ((rd_T83 l0 x13_1).f0).length c186_0, .bool ((rd_T83 l0 x13_1).f1)] 83 (0, 0))) := ⟨z.bf BK187⟩
                have n2_ : Aside0 (((w45.setCell ⟨gb191, 0, none⟩ (.int .i64 ((rd_T25 ((rd_T83 l0 x13_1).f0) (ji11)).f0))).setCell ⟨gb191, 1, none⟩ (.int .i64 ((rd_T25 ((rd_T83 l0 x13_1).f0) (ji11)).f1))).heap[gb189]? = some (.cells #[.int .i64 ((rd_T25 ((rd_T83 l0 x13_1).f0) x23_2).f0), .int .i64 ((rd_T25 ((rd_T83 l0 x13_1).f0) x23_2).f1)] 25 (0, 0))) := ⟨z.bf BK189⟩
                have n3_ : Aside0 (((w45.setCell ⟨gb191, 0, none⟩ (.int .i64 ((rd_T25 ((rd_T83 l0 x13_1).f0) (ji11)).f0))).setCell ⟨gb191, 1, none⟩ (.int .i64 ((rd_T25 ((rd_T83 l0 x13_1).f0) (ji11)).f1))).heap[gb191]? = some (.cells #[.int .i64 ((rd_T25 ((rd_T83 l0 x13_1).f0) (ji11)).f0), .int .i64 ((rd_T25 ((rd_T83 l0 x13_1).f0) (ji11)).f1)] 25 (0, 0))) := ⟨by (with_reducible repeat (first | refine blk_drewN ?_ _ | refine blk_drew ?_ | refine blk_alloc ?_ _)); refine blk_put (cs := #[.int .i64 ((rd_T25 ((rd_T83 l0 x13_1).f0) (ji11)).f0), .int .i64 0]) ?_ 1 _ rfl; (with_reducible repeat (first | refine blk_drewN ?_ _ | refine blk_drew ?_ | refine blk_alloc ?_ _)); refine blk_put (cs := #[.int .i64 0, .int .i64 0]) ?_ 0 _ rfl; (with_reducible repeat (first | refine blk_drewN ?_ _ | refine blk_drew ?_ | refine blk_alloc ?_ _)); exact BK191.out⟩
                have n4_ : Aside0 (Below w.heap.size w ((w45.setCell ⟨gb191, 0, none⟩ (.int .i64 ((rd_T25 ((rd_T83 l0 x13_1).f0) (ji11)).f0))).setCell ⟨gb191, 1, none⟩ (.int .i64 ((rd_T25 ((rd_T83 l0 x13_1).f0) (ji11)).f1)))) := ⟨z.bl HB⟩
                (try clear HO_3)
                (try clear BK187)
                (try clear BK189)
                (try clear BK191)
                (try clear HB)
                generalize ((w45.setCell ⟨gb191, 0, none⟩ (.int .i64 ((rd_T25 ((rd_T83 l0 x13_1).f0) (ji11)).f0))).setCell ⟨gb191, 1, none⟩ (.int .i64 ((rd_T25 ((rd_T83 l0 x13_1).f0) (ji11)).f1))) = w48 at n0_ n1_ n2_ n3_ n4_ ⊢
                have HO_3 := n0_
                have BK187 := n1_
                have BK189 := n2_
                have BK191 := n3_
                have HB := n4_
                clear n0_ n1_ n2_ n3_ n4_
                replace HO_3 := Aside0.mk (Kd.R_drew HO_3.out)
                replace BK187 := Aside0.mk (blk_drew BK187.out)
                replace BK189 := Aside0.mk (blk_drew BK189.out)
                replace BK191 := Aside0.mk (blk_drew BK191.out)
                replace HB := Aside0.mk (below_drew1 HB.out)
                refine start_ (n := 15) (S := fun w' => w'.cell? ⟨gb189, 0, none⟩ = some (.int .i64 ((rd_T25 ((rd_T83 l0 x13_1).f0) x23_2).f0)) ∧ w'.cell? ⟨gb189, 1, none⟩ = some (.int .i64 ((rd_T25 ((rd_T83 l0 x13_1).f0) x23_2).f1)) ∧ w'.cell? ⟨gb191, 0, none⟩ = some (.int .i64 ((rd_T25 ((rd_T83 l0 x13_1).f0) (ji11)).f0)) ∧ w'.cell? ⟨gb191, 1, none⟩ = some (.int .i64 ((rd_T25 ((rd_T83 l0 x13_1).f0) (ji11)).f1))) (ds := []) #[false, false, false, false, false, false, false, false, false, false, false, false, false, false, false] (by kernel_rfl) rfl rfl ⟨(blk_cell BK189.out 0).trans rfl, (blk_cell BK189.out 1).trans rfl, (blk_cell BK191.out 0).trans rfl, (blk_cell BK191.out 1).trans rfl⟩ (fun hHeld => ?_); refine with_tabW spec_l11Edges.tab10 spec_l11Edges.bits10 (fun HT_ HW_ => ?_)
                generalize w48.drew = w49 at HO_3 BK187 BK189 BK191 HB hHeld ⊢
                refine pure_ (i := 0) (N := some 36) (v := ?_) (a' := ?_) #[true, false, false, false, false, false, false, false, false, false, false, false, false, false, false] rfl rfl (any_of HT_.out (by kernel_rfl)) (fun _ _ _ h => h) (Or.inl ⟨by rfl, ?_⟩) ?_ ?_
                rotate_left
                ·intro w'
                 go_simp
                 with_reducible rfl
                rotate_left
                ·simp only [Act.put, List.setIfInBounds_toArray, List.set_cons_zero, List.set_cons_succ, i64_w, i32_w]
                 rfl
                refine pure_ (i := 3) (N := some 39) (v := ?_) (a' := ?_) #[true, false, false, true, false, false, false, false, false, false, false, false, false, false, false] rfl rfl (any_of HT_.out (by kernel_rfl)) (fun _ _ _ h => h) (Or.inl ⟨by rfl, ?_⟩) ?_ ?_
                rotate_left
                ·intro w'
                 go_simp
                 with_reducible rfl
                rotate_left
                ·simp only [Act.put, List.setIfInBounds_toArray, List.set_cons_zero, List.set_cons_succ, i64_w, i32_w]
                 rfl
                refine pure_ (i := 6) (N := some 42) (v := ?_) (a' := ?_) #[true, false, false, true, false, false, true, false, false, false, false, false, false, false, false] rfl rfl (any_of HT_.out (by kernel_rfl)) (fun _ _ _ h => h) (Or.inl ⟨by rfl, ?_⟩) ?_ ?_
                rotate_left
                ·intro w'
                 go_simp
                 with_reducible rfl
                rotate_left
                ·simp only [Act.put, List.setIfInBounds_toArray, List.set_cons_zero, List.set_cons_succ, i64_w, i32_w]
                 rfl
                refine pure_ (i := 9) (N := some 45) (v := ?_) (a' := ?_) #[true, false, false, true, false, false, true, false, false, true, false, false, false, false, false] rfl rfl (any_of HT_.out (by kernel_rfl)) (fun _ _ _ h => h) (Or.inl ⟨by rfl, ?_⟩) ?_ ?_
                rotate_left
                ·intro w'
                 go_simp
                 with_reducible rfl
                rotate_left
                ·simp only [Act.put, List.setIfInBounds_toArray, List.set_cons_zero, List.set_cons_succ, i64_w, i32_w]
                 rfl
                refine take_ (i := 1) (N := some 37) (v := ?_) (a' := ?_) #[true, true, false, true, false, false, true, false, false, true, false, false, false, false, false] rfl rfl (take_ofW HT_.out HW_.out (by kernel_rfl)) (fun _ _ _ h => h) (Or.inl ⟨by rfl, ?_⟩) hHeld ?_ ?_
                rotate_left
                ·rintro w' ⟨s0, s1, s2, s3⟩
                 go_simp
                 with_reducible rfl
                rotate_left
                ·simp only [Act.put, List.setIfInBounds_toArray, List.set_cons_zero, List.set_cons_succ, i64_w, i32_w]
                 rfl
                refine take_ (i := 4) (N := some 40) (v := ?_) (a' := ?_) #[true, true, false, true, true, false, true, false, false, true, false, false, false, false, false] rfl rfl (take_ofW HT_.out HW_.out (by kernel_rfl)) (fun _ _ _ h => h) (Or.inl ⟨by rfl, ?_⟩) hHeld ?_ ?_
                rotate_left
                ·rintro w' ⟨s0, s1, s2, s3⟩
                 go_simp
                 with_reducible rfl
                rotate_left
                ·simp only [Act.put, List.setIfInBounds_toArray, List.set_cons_zero, List.set_cons_succ, i64_w, i32_w]
                 rfl
                refine take_ (i := 7) (N := some 43) (v := ?_) (a' := ?_) #[true, true, false, true, true, false, true, true, false, true, false, false, false, false, false] rfl rfl (take_ofW HT_.out HW_.out (by kernel_rfl)) (fun _ _ _ h => h) (Or.inl ⟨by rfl, ?_⟩) hHeld ?_ ?_
                rotate_left
                ·rintro w' ⟨s0, s1, s2, s3⟩
                 go_simp
                 with_reducible rfl
                rotate_left
                ·simp only [Act.put, List.setIfInBounds_toArray, List.set_cons_zero, List.set_cons_succ, i64_w, i32_w]
                 rfl
                refine take_ (i := 10) (N := some 46) (v := ?_) (a' := ?_) #[true, true, false, true, true, false, true, true, false, true, true, false, false, false, false] rfl rfl (take_ofW HT_.out HW_.out (by kernel_rfl)) (fun _ _ _ h => h) (Or.inl ⟨by rfl, ?_⟩) hHeld ?_ ?_
                rotate_left
                ·rintro w' ⟨s0, s1, s2, s3⟩
                 go_simp
                 with_reducible rfl
                rotate_left
                ·simp only [Act.put, List.setIfInBounds_toArray, List.set_cons_zero, List.set_cons_succ, i64_w, i32_w]
                 rfl
                refine join_ (σ := Nat) 1 #[true, true, true, true, true, true, true, true, true, true, true, true, true, true, false] (fun s_ => [(38, .int .i64 t192), (41, .int .i64 t193), (44, .int .i64 t194), (47, .int .i64 t195), (10, .pointer (some ⟨s_, 0, none⟩)), (48, .agg #[.int .i64 t192, .int .i64 t193, .int .i64 t194, .int .i64 t195])]) (fun s_ w' => (w'.cell? ⟨gb189, 0, none⟩ = some (.int .i64 ((rd_T25 ((rd_T83 l0 x13_1).f0) x23_2).f0)) ∧ w'.cell? ⟨gb189, 1, none⟩ = some (.int .i64 ((rd_T25 ((rd_T83 l0 x13_1).f0) x23_2).f1)) ∧ w'.cell? ⟨gb191, 0, none⟩ = some (.int .i64 ((rd_T25 ((rd_T83 l0 x13_1).f0) (ji11)).f0)) ∧ w'.cell? ⟨gb191, 1, none⟩ = some (.int .i64 ((rd_T25 ((rd_T83 l0 x13_1).f0) (ji11)).f1))) ∧ (Kd.R k228 228 w' w.heap.size (fun k_ => k_ ≠ s_) u3 x3_2) ∧ (w'.heap[gb187]? = some (.cells #[.slice (some ad188) ((rd_T83 l0 x13_1).f0).length c186_0, .bool ((rd_T83 l0 x13_1).f1)] 83 (0, 0))) ∧ (w'.heap[gb189]? = some (.cells #[.int .i64 ((rd_T25 ((rd_T83 l0 x13_1).f0) x23_2).f0), .int .i64 ((rd_T25 ((rd_T83 l0 x13_1).f0) x23_2).f1)] 25 (0, 0))) ∧ (w'.heap[gb191]? = some (.cells #[.int .i64 ((rd_T25 ((rd_T83 l0 x13_1).f0) (ji11)).f0), .int .i64 ((rd_T25 ((rd_T83 l0 x13_1).f0) (ji11)).f1)] 25 (0, 0))) ∧ (w'.heap[s_]? = some (.cells #[.int .i64 0, .int .i64 0, .int .i64 0, .int .i64 0] 228 (0, 0))) ∧ (w.heap.size ≤ s_) ∧ (w.heap.size ≤ s_) ∧ (gb187 ≠ s_) ∧ (s_ ≠ gb187) ∧ (gb189 ≠ s_) ∧ (s_ ≠ gb189) ∧ (gb191 ≠ s_) ∧ (s_ ≠ gb191) ∧ (Below w.heap.size w w')) ?_ ?_
                rotate_left
                ·intro hJ2_5_8_11_13
                 refine join_ (σ := Unit) 2 #[true, true, true, true, true, true, true, true, true, true, true, true, true, false, false] (fun s_ => [(38, .int .i64 t192), (41, .int .i64 t193), (44, .int .i64 t194), (47, .int .i64 t195), (48, .agg #[.int .i64 t192, .int .i64 t193, .int .i64 t194, .int .i64 t195])]) (fun s_ w' => (w'.cell? ⟨gb189, 0, none⟩ = some (.int .i64 ((rd_T25 ((rd_T83 l0 x13_1).f0) x23_2).f0)) ∧ w'.cell? ⟨gb189, 1, none⟩ = some (.int .i64 ((rd_T25 ((rd_T83 l0 x13_1).f0) x23_2).f1)) ∧ w'.cell? ⟨gb191, 0, none⟩ = some (.int .i64 ((rd_T25 ((rd_T83 l0 x13_1).f0) (ji11)).f0)) ∧ w'.cell? ⟨gb191, 1, none⟩ = some (.int .i64 ((rd_T25 ((rd_T83 l0 x13_1).f0) (ji11)).f1))) ∧ (Kd.R k228 228 w' w.heap.size (fun _ => True) u3 x3_2) ∧ (w'.heap[gb187]? = some (.cells #[.slice (some ad188) ((rd_T83 l0 x13_1).f0).length c186_0, .bool ((rd_T83 l0 x13_1).f1)] 83 (0, 0))) ∧ (w'.heap[gb189]? = some (.cells #[.int .i64 ((rd_T25 ((rd_T83 l0 x13_1).f0) x23_2).f0), .int .i64 ((rd_T25 ((rd_T83 l0 x13_1).f0) x23_2).f1)] 25 (0, 0))) ∧ (w'.heap[gb191]? = some (.cells #[.int .i64 ((rd_T25 ((rd_T83 l0 x13_1).f0) (ji11)).f0), .int .i64 ((rd_T25 ((rd_T83 l0 x13_1).f0) (ji11)).f1)] 25 (0, 0))) ∧ (Below w.heap.size w w')) ?_ ?_
                 rotate_left
                 ·intro hJ2_5_8_11
                  refine join_ (σ := Nat) 3 #[true, true, true, true, true, true, true, true, true, true, true, false, false, true, false] (fun s_ => [(38, .int .i64 t192), (41, .int .i64 t193), (44, .int .i64 t194), (10, .pointer (some ⟨s_, 0, none⟩))]) (fun s_ w' => (w'.cell? ⟨gb189, 0, none⟩ = some (.int .i64 ((rd_T25 ((rd_T83 l0 x13_1).f0) x23_2).f0)) ∧ w'.cell? ⟨gb189, 1, none⟩ = some (.int .i64 ((rd_T25 ((rd_T83 l0 x13_1).f0) x23_2).f1)) ∧ w'.cell? ⟨gb191, 0, none⟩ = some (.int .i64 ((rd_T25 ((rd_T83 l0 x13_1).f0) (ji11)).f0)) ∧ w'.cell? ⟨gb191, 1, none⟩ = some (.int .i64 ((rd_T25 ((rd_T83 l0 x13_1).f0) (ji11)).f1))) ∧ (Kd.R k228 228 w' w.heap.size (fun k_ => k_ ≠ s_) u3 x3_2) ∧ (w'.heap[gb187]? = some (.cells #[.slice (some ad188) ((rd_T83 l0 x13_1).f0).length c186_0, .bool ((rd_T83 l0 x13_1).f1)] 83 (0, 0))) ∧ (w'.heap[gb189]? = some (.cells #[.int .i64 ((rd_T25 ((rd_T83 l0 x13_1).f0) x23_2).f0), .int .i64 ((rd_T25 ((rd_T83 l0 x13_1).f0) x23_2).f1)] 25 (0, 0))) ∧ (w'.heap[gb191]? = some (.cells #[.int .i64 ((rd_T25 ((rd_T83 l0 x13_1).f0) (ji11)).f0), .int .i64 ((rd_T25 ((rd_T83 l0 x13_1).f0) (ji11)).f1)] 25 (0, 0))) ∧ (w'.heap[s_]? = some (.cells #[.int .i64 0, .int .i64 0, .int .i64 0, .int .i64 0] 228 (0, 0))) ∧ (w.heap.size ≤ s_) ∧ (w.heap.size ≤ s_) ∧ (gb187 ≠ s_) ∧ (s_ ≠ gb187) ∧ (gb189 ≠ s_) ∧ (s_ ≠ gb189) ∧ (gb191 ≠ s_) ∧ (s_ ≠ gb191) ∧ (Below w.heap.size w w')) ?_ ?_
                  rotate_left
                  ·intro hJ2_5_8_13
                   refine join_ (σ := Unit) 4 #[true, true, true, true, true, true, true, true, true, true, true, false, false, false, false] (fun s_ => [(38, .int .i64 t192), (41, .int .i64 t193), (44, .int .i64 t194)]) (fun s_ w' => (w'.cell? ⟨gb189, 0, none⟩ = some (.int .i64 ((rd_T25 ((rd_T83 l0 x13_1).f0) x23_2).f0)) ∧ w'.cell? ⟨gb189, 1, none⟩ = some (.int .i64 ((rd_T25 ((rd_T83 l0 x13_1).f0) x23_2).f1)) ∧ w'.cell? ⟨gb191, 0, none⟩ = some (.int .i64 ((rd_T25 ((rd_T83 l0 x13_1).f0) (ji11)).f0)) ∧ w'.cell? ⟨gb191, 1, none⟩ = some (.int .i64 ((rd_T25 ((rd_T83 l0 x13_1).f0) (ji11)).f1))) ∧ (Kd.R k228 228 w' w.heap.size (fun _ => True) u3 x3_2) ∧ (w'.heap[gb187]? = some (.cells #[.slice (some ad188) ((rd_T83 l0 x13_1).f0).length c186_0, .bool ((rd_T83 l0 x13_1).f1)] 83 (0, 0))) ∧ (w'.heap[gb189]? = some (.cells #[.int .i64 ((rd_T25 ((rd_T83 l0 x13_1).f0) x23_2).f0), .int .i64 ((rd_T25 ((rd_T83 l0 x13_1).f0) x23_2).f1)] 25 (0, 0))) ∧ (w'.heap[gb191]? = some (.cells #[.int .i64 ((rd_T25 ((rd_T83 l0 x13_1).f0) (ji11)).f0), .int .i64 ((rd_T25 ((rd_T83 l0 x13_1).f0) (ji11)).f1)] 25 (0, 0))) ∧ (Below w.heap.size w w')) ?_ ?_
                   rotate_left
                   ·intro hJ2_5_8
                    refine join_ (σ := Nat) 4 #[true, true, true, true, true, true, true, true, false, true, true, false, false, true, false] (fun s_ => [(38, .int .i64 t192), (41, .int .i64 t193), (10, .pointer (some ⟨s_, 0, none⟩))]) (fun s_ w' => (w'.cell? ⟨gb189, 0, none⟩ = some (.int .i64 ((rd_T25 ((rd_T83 l0 x13_1).f0) x23_2).f0)) ∧ w'.cell? ⟨gb189, 1, none⟩ = some (.int .i64 ((rd_T25 ((rd_T83 l0 x13_1).f0) x23_2).f1)) ∧ w'.cell? ⟨gb191, 0, none⟩ = some (.int .i64 ((rd_T25 ((rd_T83 l0 x13_1).f0) (ji11)).f0)) ∧ w'.cell? ⟨gb191, 1, none⟩ = some (.int .i64 ((rd_T25 ((rd_T83 l0 x13_1).f0) (ji11)).f1))) ∧ (Kd.R k228 228 w' w.heap.size (fun k_ => k_ ≠ s_) u3 x3_2) ∧ (w'.heap[gb187]? = some (.cells #[.slice (some ad188) ((rd_T83 l0 x13_1).f0).length c186_0, .bool ((rd_T83 l0 x13_1).f1)] 83 (0, 0))) ∧ (w'.heap[gb189]? = some (.cells #[.int .i64 ((rd_T25 ((rd_T83 l0 x13_1).f0) x23_2).f0), .int .i64 ((rd_T25 ((rd_T83 l0 x13_1).f0) x23_2).f1)] 25 (0, 0))) ∧ (w'.heap[gb191]? = some (.cells #[.int .i64 ((rd_T25 ((rd_T83 l0 x13_1).f0) (ji11)).f0), .int .i64 ((rd_T25 ((rd_T83 l0 x13_1).f0) (ji11)).f1)] 25 (0, 0))) ∧ (w'.heap[s_]? = some (.cells #[.int .i64 0, .int .i64 0, .int .i64 0, .int .i64 0] 228 (0, 0))) ∧ (w.heap.size ≤ s_) ∧ (w.heap.size ≤ s_) ∧ (gb187 ≠ s_) ∧ (s_ ≠ gb187) ∧ (gb189 ≠ s_) ∧ (s_ ≠ gb189) ∧ (gb191 ≠ s_) ∧ (s_ ≠ gb191) ∧ (Below w.heap.size w w')) ?_ ?_
                    rotate_left
                    ·intro hJ2_5_13
                     refine join_ (σ := Unit) 5 #[true, true, true, true, true, true, true, true, false, true, true, false, false, false, false] (fun s_ => [(38, .int .i64 t192), (41, .int .i64 t193)]) (fun s_ w' => (w'.cell? ⟨gb189, 0, none⟩ = some (.int .i64 ((rd_T25 ((rd_T83 l0 x13_1).f0) x23_2).f0)) ∧ w'.cell? ⟨gb189, 1, none⟩ = some (.int .i64 ((rd_T25 ((rd_T83 l0 x13_1).f0) x23_2).f1)) ∧ w'.cell? ⟨gb191, 0, none⟩ = some (.int .i64 ((rd_T25 ((rd_T83 l0 x13_1).f0) (ji11)).f0)) ∧ w'.cell? ⟨gb191, 1, none⟩ = some (.int .i64 ((rd_T25 ((rd_T83 l0 x13_1).f0) (ji11)).f1))) ∧ (Kd.R k228 228 w' w.heap.size (fun _ => True) u3 x3_2) ∧ (w'.heap[gb187]? = some (.cells #[.slice (some ad188) ((rd_T83 l0 x13_1).f0).length c186_0, .bool ((rd_T83 l0 x13_1).f1)] 83 (0, 0))) ∧ (w'.heap[gb189]? = some (.cells #[.int .i64 ((rd_T25 ((rd_T83 l0 x13_1).f0) x23_2).f0), .int .i64 ((rd_T25 ((rd_T83 l0 x13_1).f0) x23_2).f1)] 25 (0, 0))) ∧ (w'.heap[gb191]? = some (.cells #[.int .i64 ((rd_T25 ((rd_T83 l0 x13_1).f0) (ji11)).f0), .int .i64 ((rd_T25 ((rd_T83 l0 x13_1).f0) (ji11)).f1)] 25 (0, 0))) ∧ (Below w.heap.size w w')) ?_ ?_
                     rotate_left
                     ·intro hJ2_5
                      refine join_ (σ := Nat) 5 #[true, true, true, true, true, false, true, true, false, true, true, false, false, true, false] (fun s_ => [(38, .int .i64 t192), (10, .pointer (some ⟨s_, 0, none⟩))]) (fun s_ w' => (w'.cell? ⟨gb189, 0, none⟩ = some (.int .i64 ((rd_T25 ((rd_T83 l0 x13_1).f0) x23_2).f0)) ∧ w'.cell? ⟨gb189, 1, none⟩ = some (.int .i64 ((rd_T25 ((rd_T83 l0 x13_1).f0) x23_2).f1)) ∧ w'.cell? ⟨gb191, 0, none⟩ = some (.int .i64 ((rd_T25 ((rd_T83 l0 x13_1).f0) (ji11)).f0)) ∧ w'.cell? ⟨gb191, 1, none⟩ = some (.int .i64 ((rd_T25 ((rd_T83 l0 x13_1).f0) (ji11)).f1))) ∧ (Kd.R k228 228 w' w.heap.size (fun k_ => k_ ≠ s_) u3 x3_2) ∧ (w'.heap[gb187]? = some (.cells #[.slice (some ad188) ((rd_T83 l0 x13_1).f0).length c186_0, .bool ((rd_T83 l0 x13_1).f1)] 83 (0, 0))) ∧ (w'.heap[gb189]? = some (.cells #[.int .i64 ((rd_T25 ((rd_T83 l0 x13_1).f0) x23_2).f0), .int .i64 ((rd_T25 ((rd_T83 l0 x13_1).f0) x23_2).f1)] 25 (0, 0))) ∧ (w'.heap[gb191]? = some (.cells #[.int .i64 ((rd_T25 ((rd_T83 l0 x13_1).f0) (ji11)).f0), .int .i64 ((rd_T25 ((rd_T83 l0 x13_1).f0) (ji11)).f1)] 25 (0, 0))) ∧ (w'.heap[s_]? = some (.cells #[.int .i64 0, .int .i64 0, .int .i64 0, .int .i64 0] 228 (0, 0))) ∧ (w.heap.size ≤ s_) ∧ (w.heap.size ≤ s_) ∧ (gb187 ≠ s_) ∧ (s_ ≠ gb187) ∧ (gb189 ≠ s_) ∧ (s_ ≠ gb189) ∧ (gb191 ≠ s_) ∧ (s_ ≠ gb191) ∧ (Below w.heap.size w w')) ?_ ?_
                      rotate_left
                      ·intro hJ2_13
                       refine join_ (σ := Unit) 6 #[true, true, true, true, true, false, true, true, false, true, true, false, false, false, false] (fun s_ => [(38, .int .i64 t192)]) (fun s_ w' => (w'.cell? ⟨gb189, 0, none⟩ = some (.int .i64 ((rd_T25 ((rd_T83 l0 x13_1).f0) x23_2).f0)) ∧ w'.cell? ⟨gb189, 1, none⟩ = some (.int .i64 ((rd_T25 ((rd_T83 l0 x13_1).f0) x23_2).f1)) ∧ w'.cell? ⟨gb191, 0, none⟩ = some (.int .i64 ((rd_T25 ((rd_T83 l0 x13_1).f0) (ji11)).f0)) ∧ w'.cell? ⟨gb191, 1, none⟩ = some (.int .i64 ((rd_T25 ((rd_T83 l0 x13_1).f0) (ji11)).f1))) ∧ (Kd.R k228 228 w' w.heap.size (fun _ => True) u3 x3_2) ∧ (w'.heap[gb187]? = some (.cells #[.slice (some ad188) ((rd_T83 l0 x13_1).f0).length c186_0, .bool ((rd_T83 l0 x13_1).f1)] 83 (0, 0))) ∧ (w'.heap[gb189]? = some (.cells #[.int .i64 ((rd_T25 ((rd_T83 l0 x13_1).f0) x23_2).f0), .int .i64 ((rd_T25 ((rd_T83 l0 x13_1).f0) x23_2).f1)] 25 (0, 0))) ∧ (w'.heap[gb191]? = some (.cells #[.int .i64 ((rd_T25 ((rd_T83 l0 x13_1).f0) (ji11)).f0), .int .i64 ((rd_T25 ((rd_T83 l0 x13_1).f0) (ji11)).f1)] 25 (0, 0))) ∧ (Below w.heap.size w w')) ?_ ?_
                       rotate_left
                       ·intro hJ2
                        refine join_ (σ := Nat) 6 #[true, true, false, true, true, false, true, true, false, true, true, false, false, true, false] (fun s_ => [(10, .pointer (some ⟨s_, 0, none⟩))]) (fun s_ w' => (w'.cell? ⟨gb189, 0, none⟩ = some (.int .i64 ((rd_T25 ((rd_T83 l0 x13_1).f0) x23_2).f0)) ∧ w'.cell? ⟨gb189, 1, none⟩ = some (.int .i64 ((rd_T25 ((rd_T83 l0 x13_1).f0) x23_2).f1)) ∧ w'.cell? ⟨gb191, 0, none⟩ = some (.int .i64 ((rd_T25 ((rd_T83 l0 x13_1).f0) (ji11)).f0)) ∧ w'.cell? ⟨gb191, 1, none⟩ = some (.int .i64 ((rd_T25 ((rd_T83 l0 x13_1).f0) (ji11)).f1))) ∧ (Kd.R k228 228 w' w.heap.size (fun k_ => k_ ≠ s_) u3 x3_2) ∧ (w'.heap[gb187]? = some (.cells #[.slice (some ad188) ((rd_T83 l0 x13_1).f0).length c186_0, .bool ((rd_T83 l0 x13_1).f1)] 83 (0, 0))) ∧ (w'.heap[gb189]? = some (.cells #[.int .i64 ((rd_T25 ((rd_T83 l0 x13_1).f0) x23_2).f0), .int .i64 ((rd_T25 ((rd_T83 l0 x13_1).f0) x23_2).f1)] 25 (0, 0))) ∧ (w'.heap[gb191]? = some (.cells #[.int .i64 ((rd_T25 ((rd_T83 l0 x13_1).f0) (ji11)).f0), .int .i64 ((rd_T25 ((rd_T83 l0 x13_1).f0) (ji11)).f1)] 25 (0, 0))) ∧ (w'.heap[s_]? = some (.cells #[.int .i64 0, .int .i64 0, .int .i64 0, .int .i64 0] 228 (0, 0))) ∧ (w.heap.size ≤ s_) ∧ (w.heap.size ≤ s_) ∧ (gb187 ≠ s_) ∧ (s_ ≠ gb187) ∧ (gb189 ≠ s_) ∧ (s_ ≠ gb189) ∧ (gb191 ≠ s_) ∧ (s_ ≠ gb191) ∧ (Below w.heap.size w w')) ?_ ?_
                        rotate_left
                        ·intro hJ13
                         refine two_ (i := 2) (j := 13) (Ni := some 38) (Nj := some 10) #[true, true, true, true, true, false, true, true, false, true, true, false, false, false, false] #[true, true, false, true, true, false, true, true, false, true, true, false, false, true, false] rfl rfl rfl rfl (two_of HT_.out (by kernel_rfl)) (by decide) (by decide) (fun K hK => ?_) (fun K hK => ?_)
                         ·skip
                          refine z.gs Try.func213 (by kernel_rfl) rfl #[.int .i64 ((rd_T25 ((rd_T83 l0 x13_1).f0) x23_2).f0)] (by rfl) rfl rfl ?_
                          with_reducible refine (spec_l11Fine.calls ((rd_T25 ((rd_T83 l0 x13_1).f0) x23_2).f0) t192 _ A14.out).mono ?_
                          rintro e w' ⟨rfl, ⟨nd, rfl⟩⟩
                          refine ⟨_, rfl, ?_⟩
                          refine hK.out _ _ ⟨(blk_cell BK189.out 0).trans rfl, (blk_cell BK189.out 1).trans rfl, (blk_cell BK191.out 0).trans rfl, (blk_cell BK191.out 1).trans rfl⟩ (fun hHeld => ?_)
                          clear hK K
                          refine norm_ (a' := ?_) ?_ ?_
                          rotate_left
                          ·show Act.put _ (some 38) _ = _
                           simp only [Act.put, List.setIfInBounds_toArray, List.set_cons_zero, List.set_cons_succ, i64_w, i32_w]
                           rfl
                          exact norm_ (by first | (simp only [putAll, Act.put, List.setIfInBounds_toArray, List.set_cons_zero, List.set_cons_succ]; done) | (simp only [putAll, Act.put, List.setIfInBounds_toArray, List.set_cons_zero, List.set_cons_succ]; rfl)) (hJ2 () _ ⟨hHeld, (z.rl HO_3.out), (z.bk BK187), (z.bk BK189), (z.bk BK191), (z.bl HB)⟩)
                         ·skip
                          refine box_step ?hg (N := 10) ?hd (cs := #[.int .i64 0, .int .i64 0, .int .i64 0, .int .i64 0]) (t := 228) ?hr ?_; (case hd => rfl); (case hg => rfl); (case hr => first | (go_simp; done) | (go_simp; rfl))
                          intro gb196 hg w50 hbox hb
                          replace HO_3 := Aside0.mk (Kd.R_below (Kd.R_elderB (z.rl HO_3.out) gb196 (Nat.le_of_eq hg.symm)) hb)
                          have BK196 := Aside0.mk (hbox)
                          have GW196 := Aside0.mk ((by rw [hg]; exact (below_size (z.bl HB)) : w.heap.size ≤ gb196))
                          have GE196 := Aside0.mk ((by rw [hg]; exact (below_size (z.bl HB)) : w.heap.size ≤ gb196))
                          replace HB := Aside0.mk (below_step (z.bl HB) hb)
                          have NB187_196 := z.ht BK187 hg
                          have NB196_187 := z.hu BK187 hg
                          replace BK187 := z.bb BK187 hb
                          have NB189_196 := z.ht BK189 hg
                          have NB196_189 := z.hu BK189 hg
                          replace BK189 := z.bb BK189 hb
                          have NB191_196 := z.ht BK191 hg
                          have NB196_191 := z.hu BK191 hg
                          replace BK191 := z.bb BK191 hb
                          clear hb hbox hg
                          refine hK.out _ _ ⟨(blk_cell BK189.out 0).trans rfl, (blk_cell BK189.out 1).trans rfl, (blk_cell BK191.out 0).trans rfl, (blk_cell BK191.out 1).trans rfl⟩ (fun hHeld => ?_)
                          clear hK K
                          refine norm_ (a' := ?_) ?_ ?_
                          rotate_left
                          ·show Act.put _ (some 10) _ = _
                           simp only [Act.put, List.setIfInBounds_toArray, List.set_cons_zero, List.set_cons_succ, i64_w, i32_w]
                           rfl
                          exact norm_ (by first | (simp only [putAll, Act.put, List.setIfInBounds_toArray, List.set_cons_zero, List.set_cons_succ]; done) | (simp only [putAll, Act.put, List.setIfInBounds_toArray, List.set_cons_zero, List.set_cons_succ]; rfl)) (hJ13 (gb196) _ ⟨hHeld, (z.rl (Kd.R_mono HO_3.out (fun _ hk => hk.2))), (z.bk BK187), (z.bk BK189), (z.bk BK191), (z.bk BK196), GW196.out, GE196.out, NB187_196.out, NB196_187.out, NB189_196.out, NB196_189.out, NB191_196.out, NB196_191.out, (z.bl HB)⟩)
                        ·skip
                         rintro gb196 w51 ⟨hS_, h0_, h1_, h2_, h3_, h4_, h5_, h6_, h7_, h8_, h9_, h10_, h11_, h12_, h13_⟩
                         have n0_ : Aside0 (Kd.R k228 228 w51 w.heap.size (fun k_ => k_ ≠ gb196) u3 x3_2) := ⟨h0_⟩
                         have n1_ : Aside0 (w51.heap[gb187]? = some (.cells #[.slice (some ad188) ((rd_T83 l0 x13_1).f0).length c186_0, .bool ((rd_T83 l0 x13_1).f1)] 83 (0, 0))) := ⟨h1_⟩
                         have n2_ : Aside0 (w51.heap[gb189]? = some (.cells #[.int .i64 ((rd_T25 ((rd_T83 l0 x13_1).f0) x23_2).f0), .int .i64 ((rd_T25 ((rd_T83 l0 x13_1).f0) x23_2).f1)] 25 (0, 0))) := ⟨h2_⟩
                         have n3_ : Aside0 (w51.heap[gb191]? = some (.cells #[.int .i64 ((rd_T25 ((rd_T83 l0 x13_1).f0) (ji11)).f0), .int .i64 ((rd_T25 ((rd_T83 l0 x13_1).f0) (ji11)).f1)] 25 (0, 0))) := ⟨h3_⟩
                         have n4_ : Aside0 (w51.heap[gb196]? = some (.cells #[.int .i64 0, .int .i64 0, .int .i64 0, .int .i64 0] 228 (0, 0))) := ⟨h4_⟩
                         have n5_ : Aside0 (w.heap.size ≤ gb196) := ⟨h5_⟩
                         have n6_ : Aside0 (w.heap.size ≤ gb196) := ⟨h6_⟩
                         have n7_ : Aside0 (gb187 ≠ gb196) := ⟨h7_⟩
                         have n8_ : Aside0 (gb196 ≠ gb187) := ⟨h8_⟩
                         have n9_ : Aside0 (gb189 ≠ gb196) := ⟨h9_⟩
                         have n10_ : Aside0 (gb196 ≠ gb189) := ⟨h10_⟩
                         have n11_ : Aside0 (gb191 ≠ gb196) := ⟨h11_⟩
                         have n12_ : Aside0 (gb196 ≠ gb191) := ⟨h12_⟩
                         have n13_ : Aside0 (Below w.heap.size w w51) := ⟨h13_⟩
                         clear HO_3
                         clear BK187
                         clear BK189
                         clear BK191
                         clear HB
                         clear h0_ h1_ h2_ h3_ h4_ h5_ h6_ h7_ h8_ h9_ h10_ h11_ h12_ h13_
                         have HO_3 := n0_
                         have BK187 := n1_
                         have BK189 := n2_
                         have BK191 := n3_
                         have BK196 := n4_
                         have GW196 := n5_
                         have GE196 := n6_
                         have NB187_196 := n7_
                         have NB196_187 := n8_
                         have NB189_196 := n9_
                         have NB196_189 := n10_
                         have NB191_196 := n11_
                         have NB196_191 := n12_
                         have HB := n13_
                         clear n0_ n1_ n2_ n3_ n4_ n5_ n6_ n7_ n8_ n9_ n10_ n11_ n12_ n13_
                         have hHeld : w51.cell? ⟨gb189, 0, none⟩ = some (.int .i64 ((rd_T25 ((rd_T83 l0 x13_1).f0) x23_2).f0)) ∧ w51.cell? ⟨gb189, 1, none⟩ = some (.int .i64 ((rd_T25 ((rd_T83 l0 x13_1).f0) x23_2).f1)) ∧ w51.cell? ⟨gb191, 0, none⟩ = some (.int .i64 ((rd_T25 ((rd_T83 l0 x13_1).f0) (ji11)).f0)) ∧ w51.cell? ⟨gb191, 1, none⟩ = some (.int .i64 ((rd_T25 ((rd_T83 l0 x13_1).f0) (ji11)).f1)) := hS_
                         refine norm_ (a' := ?_) ?_ ?_
                         rotate_left
                         ·simp only [putAll, Act.put, List.setIfInBounds_toArray, List.set_cons_zero, List.set_cons_succ]
                          rfl
                         refine one_ (i := 2) (N := some 38) #[true, true, true, true, true, false, true, true, false, true, true, false, false, true, false] rfl rfl (one_of HT_.out (by kernel_rfl)) (by decide) (fun K hK => ?_)
                         refine z.gs Try.func213 (by kernel_rfl) rfl #[.int .i64 ((rd_T25 ((rd_T83 l0 x13_1).f0) x23_2).f0)] (by rfl) rfl rfl ?_
                         with_reducible refine (spec_l11Fine.calls ((rd_T25 ((rd_T83 l0 x13_1).f0) x23_2).f0) t192 _ A14.out).mono ?_
                         rintro e w' ⟨rfl, ⟨nd, rfl⟩⟩
                         refine ⟨_, rfl, ?_⟩
                         refine hK.out _ _ ⟨(blk_cell BK189.out 0).trans rfl, (blk_cell BK189.out 1).trans rfl, (blk_cell BK191.out 0).trans rfl, (blk_cell BK191.out 1).trans rfl⟩ (fun hHeld => ?_)
                         clear hK K
                         refine norm_ (a' := ?_) ?_ ?_
                         rotate_left
                         ·show Act.put _ (some 38) _ = _
                          simp only [Act.put, List.setIfInBounds_toArray, List.set_cons_zero, List.set_cons_succ, i64_w, i32_w]
                          rfl
                         exact norm_ (by first | (simp only [putAll, Act.put, List.setIfInBounds_toArray, List.set_cons_zero, List.set_cons_succ]; done) | (simp only [putAll, Act.put, List.setIfInBounds_toArray, List.set_cons_zero, List.set_cons_succ]; rfl)) (hJ2_13 (gb196) _ ⟨hHeld, (z.rl HO_3.out), (z.bk BK187), (z.bk BK189), (z.bk BK191), (z.bk BK196), GW196.out, GE196.out, NB187_196.out, NB196_187.out, NB189_196.out, NB196_189.out, NB191_196.out, NB196_191.out, (z.bl HB)⟩)
                       ·skip
                        rintro _ w50 ⟨hS_, h0_, h1_, h2_, h3_, h4_⟩
                        have n0_ : Aside0 (Kd.R k228 228 w50 w.heap.size (fun _ => True) u3 x3_2) := ⟨h0_⟩
                        have n1_ : Aside0 (w50.heap[gb187]? = some (.cells #[.slice (some ad188) ((rd_T83 l0 x13_1).f0).length c186_0, .bool ((rd_T83 l0 x13_1).f1)] 83 (0, 0))) := ⟨h1_⟩
                        have n2_ : Aside0 (w50.heap[gb189]? = some (.cells #[.int .i64 ((rd_T25 ((rd_T83 l0 x13_1).f0) x23_2).f0), .int .i64 ((rd_T25 ((rd_T83 l0 x13_1).f0) x23_2).f1)] 25 (0, 0))) := ⟨h2_⟩
                        have n3_ : Aside0 (w50.heap[gb191]? = some (.cells #[.int .i64 ((rd_T25 ((rd_T83 l0 x13_1).f0) (ji11)).f0), .int .i64 ((rd_T25 ((rd_T83 l0 x13_1).f0) (ji11)).f1)] 25 (0, 0))) := ⟨h3_⟩
                        have n4_ : Aside0 (Below w.heap.size w w50) := ⟨h4_⟩
                        clear HO_3
                        clear BK187
                        clear BK189
                        clear BK191
                        clear HB
                        clear h0_ h1_ h2_ h3_ h4_
                        have HO_3 := n0_
                        have BK187 := n1_
                        have BK189 := n2_
                        have BK191 := n3_
                        have HB := n4_
                        clear n0_ n1_ n2_ n3_ n4_
                        have hHeld : w50.cell? ⟨gb189, 0, none⟩ = some (.int .i64 ((rd_T25 ((rd_T83 l0 x13_1).f0) x23_2).f0)) ∧ w50.cell? ⟨gb189, 1, none⟩ = some (.int .i64 ((rd_T25 ((rd_T83 l0 x13_1).f0) x23_2).f1)) ∧ w50.cell? ⟨gb191, 0, none⟩ = some (.int .i64 ((rd_T25 ((rd_T83 l0 x13_1).f0) (ji11)).f0)) ∧ w50.cell? ⟨gb191, 1, none⟩ = some (.int .i64 ((rd_T25 ((rd_T83 l0 x13_1).f0) (ji11)).f1)) := hS_
                        refine norm_ (a' := ?_) ?_ ?_
                        rotate_left
                        ·simp only [putAll, Act.put, List.setIfInBounds_toArray, List.set_cons_zero, List.set_cons_succ]
                         rfl
                        refine two_ (i := 5) (j := 13) (Ni := some 41) (Nj := some 10) #[true, true, true, true, true, true, true, true, false, true, true, false, false, false, false] #[true, true, true, true, true, false, true, true, false, true, true, false, false, true, false] rfl rfl rfl rfl (two_of HT_.out (by kernel_rfl)) (by decide) (by decide) (fun K hK => ?_) (fun K hK => ?_)
                        ·skip
                         refine z.gs Try.func213 (by kernel_rfl) rfl #[.int .i64 ((rd_T25 ((rd_T83 l0 x13_1).f0) x23_2).f1)] (by rfl) rfl rfl ?_
                         with_reducible refine (spec_l11Fine.calls ((rd_T25 ((rd_T83 l0 x13_1).f0) x23_2).f1) t193 _ A15.out).mono ?_
                         rintro e w' ⟨rfl, ⟨nd, rfl⟩⟩
                         refine ⟨_, rfl, ?_⟩
                         refine hK.out _ _ ⟨(blk_cell BK189.out 0).trans rfl, (blk_cell BK189.out 1).trans rfl, (blk_cell BK191.out 0).trans rfl, (blk_cell BK191.out 1).trans rfl⟩ (fun hHeld => ?_)
                         clear hK K
                         refine norm_ (a' := ?_) ?_ ?_
                         rotate_left
                         ·show Act.put _ (some 41) _ = _
                          simp only [Act.put, List.setIfInBounds_toArray, List.set_cons_zero, List.set_cons_succ, i64_w, i32_w]
                          rfl
                         exact norm_ (by first | (simp only [putAll, Act.put, List.setIfInBounds_toArray, List.set_cons_zero, List.set_cons_succ]; done) | (simp only [putAll, Act.put, List.setIfInBounds_toArray, List.set_cons_zero, List.set_cons_succ]; rfl)) (hJ2_5 () _ ⟨hHeld, (z.rl HO_3.out), (z.bk BK187), (z.bk BK189), (z.bk BK191), (z.bl HB)⟩)
                        ·skip
                         refine box_step ?hg (N := 10) ?hd (cs := #[.int .i64 0, .int .i64 0, .int .i64 0, .int .i64 0]) (t := 228) ?hr ?_; (case hd => rfl); (case hg => rfl); (case hr => first | (go_simp; done) | (go_simp; rfl))
                         intro gb196 hg w51 hbox hb
                         replace HO_3 := Aside0.mk (Kd.R_below (Kd.R_elderB (z.rl HO_3.out) gb196 (Nat.le_of_eq hg.symm)) hb)
                         have BK196 := Aside0.mk (hbox)
                         have GW196 := Aside0.mk ((by rw [hg]; exact (below_size (z.bl HB)) : w.heap.size ≤ gb196))
                         have GE196 := Aside0.mk ((by rw [hg]; exact (below_size (z.bl HB)) : w.heap.size ≤ gb196))
                         replace HB := Aside0.mk (below_step (z.bl HB) hb)
                         have NB187_196 := z.ht BK187 hg
                         have NB196_187 := z.hu BK187 hg
                         replace BK187 := z.bb BK187 hb
                         have NB189_196 := z.ht BK189 hg
                         have NB196_189 := z.hu BK189 hg
                         replace BK189 := z.bb BK189 hb
                         have NB191_196 := z.ht BK191 hg
                         have NB196_191 := z.hu BK191 hg
                         replace BK191 := z.bb BK191 hb
                         clear hb hbox hg
                         refine hK.out _ _ ⟨(blk_cell BK189.out 0).trans rfl, (blk_cell BK189.out 1).trans rfl, (blk_cell BK191.out 0).trans rfl, (blk_cell BK191.out 1).trans rfl⟩ (fun hHeld => ?_)
                         clear hK K
                         refine norm_ (a' := ?_) ?_ ?_
                         rotate_left
                         ·show Act.put _ (some 10) _ = _
                          simp only [Act.put, List.setIfInBounds_toArray, List.set_cons_zero, List.set_cons_succ, i64_w, i32_w]
                          rfl
                         exact norm_ (by first | (simp only [putAll, Act.put, List.setIfInBounds_toArray, List.set_cons_zero, List.set_cons_succ]; done) | (simp only [putAll, Act.put, List.setIfInBounds_toArray, List.set_cons_zero, List.set_cons_succ]; rfl)) (hJ2_13 (gb196) _ ⟨hHeld, (z.rl (Kd.R_mono HO_3.out (fun _ hk => hk.2))), (z.bk BK187), (z.bk BK189), (z.bk BK191), (z.bk BK196), GW196.out, GE196.out, NB187_196.out, NB196_187.out, NB189_196.out, NB196_189.out, NB191_196.out, NB196_191.out, (z.bl HB)⟩)
                      ·skip
                       rintro gb196 w51 ⟨hS_, h0_, h1_, h2_, h3_, h4_, h5_, h6_, h7_, h8_, h9_, h10_, h11_, h12_, h13_⟩
                       have n0_ : Aside0 (Kd.R k228 228 w51 w.heap.size (fun k_ => k_ ≠ gb196) u3 x3_2) := ⟨h0_⟩
                       have n1_ : Aside0 (w51.heap[gb187]? = some (.cells #[.slice (some ad188) ((rd_T83 l0 x13_1).f0).length c186_0, .bool ((rd_T83 l0 x13_1).f1)] 83 (0, 0))) := ⟨h1_⟩
                       have n2_ : Aside0 (w51.heap[gb189]? = some (.cells #[.int .i64 ((rd_T25 ((rd_T83 l0 x13_1).f0) x23_2).f0), .int .i64 ((rd_T25 ((rd_T83 l0 x13_1).f0) x23_2).f1)] 25 (0, 0))) := ⟨h2_⟩
                       have n3_ : Aside0 (w51.heap[gb191]? = some (.cells #[.int .i64 ((rd_T25 ((rd_T83 l0 x13_1).f0) (ji11)).f0), .int .i64 ((rd_T25 ((rd_T83 l0 x13_1).f0) (ji11)).f1)] 25 (0, 0))) := ⟨h3_⟩
                       have n4_ : Aside0 (w51.heap[gb196]? = some (.cells #[.int .i64 0, .int .i64 0, .int .i64 0, .int .i64 0] 228 (0, 0))) := ⟨h4_⟩
                       have n5_ : Aside0 (w.heap.size ≤ gb196) := ⟨h5_⟩
                       have n6_ : Aside0 (w.heap.size ≤ gb196) := ⟨h6_⟩
                       have n7_ : Aside0 (gb187 ≠ gb196) := ⟨h7_⟩
                       have n8_ : Aside0 (gb196 ≠ gb187) := ⟨h8_⟩
                       have n9_ : Aside0 (gb189 ≠ gb196) := ⟨h9_⟩
                       have n10_ : Aside0 (gb196 ≠ gb189) := ⟨h10_⟩
                       have n11_ : Aside0 (gb191 ≠ gb196) := ⟨h11_⟩
                       have n12_ : Aside0 (gb196 ≠ gb191) := ⟨h12_⟩
                       have n13_ : Aside0 (Below w.heap.size w w51) := ⟨h13_⟩
                       clear HO_3
                       clear BK187
                       clear BK189
                       clear BK191
                       clear HB
                       clear h0_ h1_ h2_ h3_ h4_ h5_ h6_ h7_ h8_ h9_ h10_ h11_ h12_ h13_
                       have HO_3 := n0_
                       have BK187 := n1_
                       have BK189 := n2_
                       have BK191 := n3_
                       have BK196 := n4_
                       have GW196 := n5_
                       have GE196 := n6_
                       have NB187_196 := n7_
                       have NB196_187 := n8_
                       have NB189_196 := n9_
                       have NB196_189 := n10_
                       have NB191_196 := n11_
                       have NB196_191 := n12_
                       have HB := n13_
                       clear n0_ n1_ n2_ n3_ n4_ n5_ n6_ n7_ n8_ n9_ n10_ n11_ n12_ n13_
                       have hHeld : w51.cell? ⟨gb189, 0, none⟩ = some (.int .i64 ((rd_T25 ((rd_T83 l0 x13_1).f0) x23_2).f0)) ∧ w51.cell? ⟨gb189, 1, none⟩ = some (.int .i64 ((rd_T25 ((rd_T83 l0 x13_1).f0) x23_2).f1)) ∧ w51.cell? ⟨gb191, 0, none⟩ = some (.int .i64 ((rd_T25 ((rd_T83 l0 x13_1).f0) (ji11)).f0)) ∧ w51.cell? ⟨gb191, 1, none⟩ = some (.int .i64 ((rd_T25 ((rd_T83 l0 x13_1).f0) (ji11)).f1)) := hS_
                       refine norm_ (a' := ?_) ?_ ?_
                       rotate_left
                       ·simp only [putAll, Act.put, List.setIfInBounds_toArray, List.set_cons_zero, List.set_cons_succ]
                        rfl
                       refine one_ (i := 5) (N := some 41) #[true, true, true, true, true, true, true, true, false, true, true, false, false, true, false] rfl rfl (one_of HT_.out (by kernel_rfl)) (by decide) (fun K hK => ?_)
                       refine z.gs Try.func213 (by kernel_rfl) rfl #[.int .i64 ((rd_T25 ((rd_T83 l0 x13_1).f0) x23_2).f1)] (by rfl) rfl rfl ?_
                       with_reducible refine (spec_l11Fine.calls ((rd_T25 ((rd_T83 l0 x13_1).f0) x23_2).f1) t193 _ A15.out).mono ?_
                       rintro e w' ⟨rfl, ⟨nd, rfl⟩⟩
                       refine ⟨_, rfl, ?_⟩
                       refine hK.out _ _ ⟨(blk_cell BK189.out 0).trans rfl, (blk_cell BK189.out 1).trans rfl, (blk_cell BK191.out 0).trans rfl, (blk_cell BK191.out 1).trans rfl⟩ (fun hHeld => ?_)
                       clear hK K
                       refine norm_ (a' := ?_) ?_ ?_
                       rotate_left
                       ·show Act.put _ (some 41) _ = _
                        simp only [Act.put, List.setIfInBounds_toArray, List.set_cons_zero, List.set_cons_succ, i64_w, i32_w]
                        rfl
                       exact norm_ (by first | (simp only [putAll, Act.put, List.setIfInBounds_toArray, List.set_cons_zero, List.set_cons_succ]; done) | (simp only [putAll, Act.put, List.setIfInBounds_toArray, List.set_cons_zero, List.set_cons_succ]; rfl)) (hJ2_5_13 (gb196) _ ⟨hHeld, (z.rl HO_3.out), (z.bk BK187), (z.bk BK189), (z.bk BK191), (z.bk BK196), GW196.out, GE196.out, NB187_196.out, NB196_187.out, NB189_196.out, NB196_189.out, NB191_196.out, NB196_191.out, (z.bl HB)⟩)
                     ·skip
                      rintro _ w50 ⟨hS_, h0_, h1_, h2_, h3_, h4_⟩
                      have n0_ : Aside0 (Kd.R k228 228 w50 w.heap.size (fun _ => True) u3 x3_2) := ⟨h0_⟩
                      have n1_ : Aside0 (w50.heap[gb187]? = some (.cells #[.slice (some ad188) ((rd_T83 l0 x13_1).f0).length c186_0, .bool ((rd_T83 l0 x13_1).f1)] 83 (0, 0))) := ⟨h1_⟩
                      have n2_ : Aside0 (w50.heap[gb189]? = some (.cells #[.int .i64 ((rd_T25 ((rd_T83 l0 x13_1).f0) x23_2).f0), .int .i64 ((rd_T25 ((rd_T83 l0 x13_1).f0) x23_2).f1)] 25 (0, 0))) := ⟨h2_⟩
                      have n3_ : Aside0 (w50.heap[gb191]? = some (.cells #[.int .i64 ((rd_T25 ((rd_T83 l0 x13_1).f0) (ji11)).f0), .int .i64 ((rd_T25 ((rd_T83 l0 x13_1).f0) (ji11)).f1)] 25 (0, 0))) := ⟨h3_⟩
                      have n4_ : Aside0 (Below w.heap.size w w50) := ⟨h4_⟩
                      clear HO_3
                      clear BK187
                      clear BK189
                      clear BK191
                      clear HB
                      clear h0_ h1_ h2_ h3_ h4_
                      have HO_3 := n0_
                      have BK187 := n1_
                      have BK189 := n2_
                      have BK191 := n3_
                      have HB := n4_
                      clear n0_ n1_ n2_ n3_ n4_
                      have hHeld : w50.cell? ⟨gb189, 0, none⟩ = some (.int .i64 ((rd_T25 ((rd_T83 l0 x13_1).f0) x23_2).f0)) ∧ w50.cell? ⟨gb189, 1, none⟩ = some (.int .i64 ((rd_T25 ((rd_T83 l0 x13_1).f0) x23_2).f1)) ∧ w50.cell? ⟨gb191, 0, none⟩ = some (.int .i64 ((rd_T25 ((rd_T83 l0 x13_1).f0) (ji11)).f0)) ∧ w50.cell? ⟨gb191, 1, none⟩ = some (.int .i64 ((rd_T25 ((rd_T83 l0 x13_1).f0) (ji11)).f1)) := hS_
                      refine norm_ (a' := ?_) ?_ ?_
                      rotate_left
                      ·simp only [putAll, Act.put, List.setIfInBounds_toArray, List.set_cons_zero, List.set_cons_succ]
                       rfl
                      refine two_ (i := 8) (j := 13) (Ni := some 44) (Nj := some 10) #[true, true, true, true, true, true, true, true, true, true, true, false, false, false, false] #[true, true, true, true, true, true, true, true, false, true, true, false, false, true, false] rfl rfl rfl rfl (two_of HT_.out (by kernel_rfl)) (by decide) (by decide) (fun K hK => ?_) (fun K hK => ?_)
                      ·skip
                       refine goes_ Try.func213 (by kernel_rfl) rfl #[.int .i64 ((rd_T25 ((rd_T83 l0 x13_1).f0) (ji11)).f0)] (by rfl) rfl rfl (by (try simp only [List.map_toArray, List.map_cons, List.map_nil]); first | done | (simp only [hji11]; rfl) | rfl | (simp only [List.length_drop, List.length_take]; rfl)) ?_
                       with_reducible refine (spec_l11Fine.calls ((rd_T25 ((rd_T83 l0 x13_1).f0) (ji11)).f0) t194 _ A16.out).mono ?_
                       rintro e w' ⟨rfl, ⟨nd, rfl⟩⟩
                       refine ⟨_, rfl, ?_⟩
                       refine hK.out _ _ ⟨(blk_cell BK189.out 0).trans rfl, (blk_cell BK189.out 1).trans rfl, (blk_cell BK191.out 0).trans rfl, (blk_cell BK191.out 1).trans rfl⟩ (fun hHeld => ?_)
                       clear hK K
                       refine norm_ (a' := ?_) ?_ ?_
                       rotate_left
                       ·show Act.put _ (some 44) _ = _
                        simp only [Act.put, List.setIfInBounds_toArray, List.set_cons_zero, List.set_cons_succ, i64_w, i32_w]
                        rfl
                       exact norm_ (by first | (simp only [putAll, Act.put, List.setIfInBounds_toArray, List.set_cons_zero, List.set_cons_succ]; done) | (simp only [putAll, Act.put, List.setIfInBounds_toArray, List.set_cons_zero, List.set_cons_succ]; rfl)) (hJ2_5_8 () _ ⟨hHeld, (z.rl HO_3.out), (z.bk BK187), (z.bk BK189), (z.bk BK191), (z.bl HB)⟩)
                      ·skip
                       refine box_step ?hg (N := 10) ?hd (cs := #[.int .i64 0, .int .i64 0, .int .i64 0, .int .i64 0]) (t := 228) ?hr ?_; (case hd => rfl); (case hg => rfl); (case hr => first | (go_simp; done) | (go_simp; rfl))
                       intro gb196 hg w51 hbox hb
                       replace HO_3 := Aside0.mk (Kd.R_below (Kd.R_elderB (z.rl HO_3.out) gb196 (Nat.le_of_eq hg.symm)) hb)
                       have BK196 := Aside0.mk (hbox)
                       have GW196 := Aside0.mk ((by rw [hg]; exact (below_size (z.bl HB)) : w.heap.size ≤ gb196))
                       have GE196 := Aside0.mk ((by rw [hg]; exact (below_size (z.bl HB)) : w.heap.size ≤ gb196))
                       replace HB := Aside0.mk (below_step (z.bl HB) hb)
                       have NB187_196 := z.ht BK187 hg
                       have NB196_187 := z.hu BK187 hg
                       replace BK187 := z.bb BK187 hb
                       have NB189_196 := z.ht BK189 hg
                       have NB196_189 := z.hu BK189 hg
                       replace BK189 := z.bb BK189 hb
                       have NB191_196 := z.ht BK191 hg
                       have NB196_191 := z.hu BK191 hg
                       replace BK191 := z.bb BK191 hb
                       clear hb hbox hg
                       refine hK.out _ _ ⟨(blk_cell BK189.out 0).trans rfl, (blk_cell BK189.out 1).trans rfl, (blk_cell BK191.out 0).trans rfl, (blk_cell BK191.out 1).trans rfl⟩ (fun hHeld => ?_)
                       clear hK K
                       refine norm_ (a' := ?_) ?_ ?_
                       rotate_left
                       ·show Act.put _ (some 10) _ = _
                        simp only [Act.put, List.setIfInBounds_toArray, List.set_cons_zero, List.set_cons_succ, i64_w, i32_w]
                        rfl
                       exact norm_ (by first | (simp only [putAll, Act.put, List.setIfInBounds_toArray, List.set_cons_zero, List.set_cons_succ]; done) | (simp only [putAll, Act.put, List.setIfInBounds_toArray, List.set_cons_zero, List.set_cons_succ]; rfl)) (hJ2_5_13 (gb196) _ ⟨hHeld, (z.rl (Kd.R_mono HO_3.out (fun _ hk => hk.2))), (z.bk BK187), (z.bk BK189), (z.bk BK191), (z.bk BK196), GW196.out, GE196.out, NB187_196.out, NB196_187.out, NB189_196.out, NB196_189.out, NB191_196.out, NB196_191.out, (z.bl HB)⟩)
                    ·skip
                     rintro gb196 w51 ⟨hS_, h0_, h1_, h2_, h3_, h4_, h5_, h6_, h7_, h8_, h9_, h10_, h11_, h12_, h13_⟩
                     have n0_ : Aside0 (Kd.R k228 228 w51 w.heap.size (fun k_ => k_ ≠ gb196) u3 x3_2) := ⟨h0_⟩
                     have n1_ : Aside0 (w51.heap[gb187]? = some (.cells #[.slice (some ad188) ((rd_T83 l0 x13_1).f0).length c186_0, .bool ((rd_T83 l0 x13_1).f1)] 83 (0, 0))) := ⟨h1_⟩
                     have n2_ : Aside0 (w51.heap[gb189]? = some (.cells #[.int .i64 ((rd_T25 ((rd_T83 l0 x13_1).f0) x23_2).f0), .int .i64 ((rd_T25 ((rd_T83 l0 x13_1).f0) x23_2).f1)] 25 (0, 0))) := ⟨h2_⟩
                     have n3_ : Aside0 (w51.heap[gb191]? = some (.cells #[.int .i64 ((rd_T25 ((rd_T83 l0 x13_1).f0) (ji11)).f0), .int .i64 ((rd_T25 ((rd_T83 l0 x13_1).f0) (ji11)).f1)] 25 (0, 0))) := ⟨h3_⟩
                     have n4_ : Aside0 (w51.heap[gb196]? = some (.cells #[.int .i64 0, .int .i64 0, .int .i64 0, .int .i64 0] 228 (0, 0))) := ⟨h4_⟩
                     have n5_ : Aside0 (w.heap.size ≤ gb196) := ⟨h5_⟩
                     have n6_ : Aside0 (w.heap.size ≤ gb196) := ⟨h6_⟩
                     have n7_ : Aside0 (gb187 ≠ gb196) := ⟨h7_⟩
                     have n8_ : Aside0 (gb196 ≠ gb187) := ⟨h8_⟩
                     have n9_ : Aside0 (gb189 ≠ gb196) := ⟨h9_⟩
                     have n10_ : Aside0 (gb196 ≠ gb189) := ⟨h10_⟩
                     have n11_ : Aside0 (gb191 ≠ gb196) := ⟨h11_⟩
                     have n12_ : Aside0 (gb196 ≠ gb191) := ⟨h12_⟩
                     have n13_ : Aside0 (Below w.heap.size w w51) := ⟨h13_⟩
                     clear HO_3
                     clear BK187
                     clear BK189
                     clear BK191
                     clear HB
                     clear h0_ h1_ h2_ h3_ h4_ h5_ h6_ h7_ h8_ h9_ h10_ h11_ h12_ h13_
                     have HO_3 := n0_
                     have BK187 := n1_
                     have BK189 := n2_
                     have BK191 := n3_
                     have BK196 := n4_
                     have GW196 := n5_
                     have GE196 := n6_
                     have NB187_196 := n7_
                     have NB196_187 := n8_
                     have NB189_196 := n9_
                     have NB196_189 := n10_
                     have NB191_196 := n11_
                     have NB196_191 := n12_
                     have HB := n13_
                     clear n0_ n1_ n2_ n3_ n4_ n5_ n6_ n7_ n8_ n9_ n10_ n11_ n12_ n13_
                     have hHeld : w51.cell? ⟨gb189, 0, none⟩ = some (.int .i64 ((rd_T25 ((rd_T83 l0 x13_1).f0) x23_2).f0)) ∧ w51.cell? ⟨gb189, 1, none⟩ = some (.int .i64 ((rd_T25 ((rd_T83 l0 x13_1).f0) x23_2).f1)) ∧ w51.cell? ⟨gb191, 0, none⟩ = some (.int .i64 ((rd_T25 ((rd_T83 l0 x13_1).f0) (ji11)).f0)) ∧ w51.cell? ⟨gb191, 1, none⟩ = some (.int .i64 ((rd_T25 ((rd_T83 l0 x13_1).f0) (ji11)).f1)) := hS_
                     refine norm_ (a' := ?_) ?_ ?_
                     rotate_left
                     ·simp only [putAll, Act.put, List.setIfInBounds_toArray, List.set_cons_zero, List.set_cons_succ]
                      rfl
                     refine one_ (i := 8) (N := some 44) #[true, true, true, true, true, true, true, true, true, true, true, false, false, true, false] rfl rfl (one_of HT_.out (by kernel_rfl)) (by decide) (fun K hK => ?_)
                     refine goes_ Try.func213 (by kernel_rfl) rfl #[.int .i64 ((rd_T25 ((rd_T83 l0 x13_1).f0) (ji11)).f0)] (by rfl) rfl rfl (by (try simp only [List.map_toArray, List.map_cons, List.map_nil]); first | done | (simp only [hji11]; rfl) | rfl | (simp only [List.length_drop, List.length_take]; rfl)) ?_
                     with_reducible refine (spec_l11Fine.calls ((rd_T25 ((rd_T83 l0 x13_1).f0) (ji11)).f0) t194 _ A16.out).mono ?_
                     rintro e w' ⟨rfl, ⟨nd, rfl⟩⟩
                     refine ⟨_, rfl, ?_⟩
                     refine hK.out _ _ ⟨(blk_cell BK189.out 0).trans rfl, (blk_cell BK189.out 1).trans rfl, (blk_cell BK191.out 0).trans rfl, (blk_cell BK191.out 1).trans rfl⟩ (fun hHeld => ?_)
                     clear hK K
                     refine norm_ (a' := ?_) ?_ ?_
                     rotate_left
                     ·show Act.put _ (some 44) _ = _
                      simp only [Act.put, List.setIfInBounds_toArray, List.set_cons_zero, List.set_cons_succ, i64_w, i32_w]
                      rfl
                     exact norm_ (by first | (simp only [putAll, Act.put, List.setIfInBounds_toArray, List.set_cons_zero, List.set_cons_succ]; done) | (simp only [putAll, Act.put, List.setIfInBounds_toArray, List.set_cons_zero, List.set_cons_succ]; rfl)) (hJ2_5_8_13 (gb196) _ ⟨hHeld, (z.rl HO_3.out), (z.bk BK187), (z.bk BK189), (z.bk BK191), (z.bk BK196), GW196.out, GE196.out, NB187_196.out, NB196_187.out, NB189_196.out, NB196_189.out, NB191_196.out, NB196_191.out, (z.bl HB)⟩)
                   ·skip
                    rintro _ w50 ⟨hS_, h0_, h1_, h2_, h3_, h4_⟩
                    have n0_ : Aside0 (Kd.R k228 228 w50 w.heap.size (fun _ => True) u3 x3_2) := ⟨h0_⟩
                    have n1_ : Aside0 (w50.heap[gb187]? = some (.cells #[.slice (some ad188) ((rd_T83 l0 x13_1).f0).length c186_0, .bool ((rd_T83 l0 x13_1).f1)] 83 (0, 0))) := ⟨h1_⟩
                    have n2_ : Aside0 (w50.heap[gb189]? = some (.cells #[.int .i64 ((rd_T25 ((rd_T83 l0 x13_1).f0) x23_2).f0), .int .i64 ((rd_T25 ((rd_T83 l0 x13_1).f0) x23_2).f1)] 25 (0, 0))) := ⟨h2_⟩
                    have n3_ : Aside0 (w50.heap[gb191]? = some (.cells #[.int .i64 ((rd_T25 ((rd_T83 l0 x13_1).f0) (ji11)).f0), .int .i64 ((rd_T25 ((rd_T83 l0 x13_1).f0) (ji11)).f1)] 25 (0, 0))) := ⟨h3_⟩
                    have n4_ : Aside0 (Below w.heap.size w w50) := ⟨h4_⟩
                    clear HO_3
                    clear BK187
                    clear BK189
                    clear BK191
                    clear HB
                    clear h0_ h1_ h2_ h3_ h4_
                    have HO_3 := n0_
                    have BK187 := n1_
                    have BK189 := n2_
                    have BK191 := n3_
                    have HB := n4_
                    clear n0_ n1_ n2_ n3_ n4_
                    have hHeld : w50.cell? ⟨gb189, 0, none⟩ = some (.int .i64 ((rd_T25 ((rd_T83 l0 x13_1).f0) x23_2).f0)) ∧ w50.cell? ⟨gb189, 1, none⟩ = some (.int .i64 ((rd_T25 ((rd_T83 l0 x13_1).f0) x23_2).f1)) ∧ w50.cell? ⟨gb191, 0, none⟩ = some (.int .i64 ((rd_T25 ((rd_T83 l0 x13_1).f0) (ji11)).f0)) ∧ w50.cell? ⟨gb191, 1, none⟩ = some (.int .i64 ((rd_T25 ((rd_T83 l0 x13_1).f0) (ji11)).f1)) := hS_
                    refine norm_ (a' := ?_) ?_ ?_
                    rotate_left
                    ·simp only [putAll, Act.put, List.setIfInBounds_toArray, List.set_cons_zero, List.set_cons_succ]
                     rfl
                    refine two_ (i := 11) (j := 13) (Ni := some 47) (Nj := some 10) #[true, true, true, true, true, true, true, true, true, true, true, true, false, false, false] #[true, true, true, true, true, true, true, true, true, true, true, false, false, true, false] rfl rfl rfl rfl (two_of HT_.out (by kernel_rfl)) (by decide) (by decide) (fun K hK => ?_) (fun K hK => ?_)
                    ·skip
                     refine goes_ Try.func213 (by kernel_rfl) rfl #[.int .i64 ((rd_T25 ((rd_T83 l0 x13_1).f0) (ji11)).f1)] (by rfl) rfl rfl (by (try simp only [List.map_toArray, List.map_cons, List.map_nil]); first | done | (simp only [hji11]; rfl) | rfl | (simp only [List.length_drop, List.length_take]; rfl)) ?_
                     with_reducible refine (spec_l11Fine.calls ((rd_T25 ((rd_T83 l0 x13_1).f0) (ji11)).f1) t195 _ A17.out).mono ?_
                     rintro e w' ⟨rfl, ⟨nd, rfl⟩⟩
                     refine ⟨_, rfl, ?_⟩
                     refine hK.out _ _ ⟨(blk_cell BK189.out 0).trans rfl, (blk_cell BK189.out 1).trans rfl, (blk_cell BK191.out 0).trans rfl, (blk_cell BK191.out 1).trans rfl⟩ (fun hHeld => ?_)
                     clear hK K
                     refine norm_ (a' := ?_) ?_ ?_
                     rotate_left
                     ·show Act.put _ (some 47) _ = _
                      simp only [Act.put, List.setIfInBounds_toArray, List.set_cons_zero, List.set_cons_succ, i64_w, i32_w]
                      rfl
                     refine pure_ (i := 12) (N := some 48) (v := ?_) (a' := ?_) #[true, true, true, true, true, true, true, true, true, true, true, true, true, false, false] rfl rfl (any_of HT_.out (by kernel_rfl)) (fun _ _ _ h => h) (Or.inl ⟨by rfl, ?_⟩) ?_ ?_
                     rotate_left
                     ·intro w'
                      go_simp
                      with_reducible rfl
                     rotate_left
                     ·simp only [Act.put, List.setIfInBounds_toArray, List.set_cons_zero, List.set_cons_succ, i64_w, i32_w]
                      rfl
                     exact norm_ (by first | (simp only [putAll, Act.put, List.setIfInBounds_toArray, List.set_cons_zero, List.set_cons_succ]; done) | (simp only [putAll, Act.put, List.setIfInBounds_toArray, List.set_cons_zero, List.set_cons_succ]; rfl)) (hJ2_5_8_11 () _ ⟨hHeld, (z.rl HO_3.out), (z.bk BK187), (z.bk BK189), (z.bk BK191), (z.bl HB)⟩)
                    ·skip
                     refine box_step ?hg (N := 10) ?hd (cs := #[.int .i64 0, .int .i64 0, .int .i64 0, .int .i64 0]) (t := 228) ?hr ?_; (case hd => rfl); (case hg => rfl); (case hr => first | (go_simp; done) | (go_simp; rfl))
                     intro gb196 hg w51 hbox hb
                     replace HO_3 := Aside0.mk (Kd.R_below (Kd.R_elderB (z.rl HO_3.out) gb196 (Nat.le_of_eq hg.symm)) hb)
                     have BK196 := Aside0.mk (hbox)
                     have GW196 := Aside0.mk ((by rw [hg]; exact (below_size (z.bl HB)) : w.heap.size ≤ gb196))
                     have GE196 := Aside0.mk ((by rw [hg]; exact (below_size (z.bl HB)) : w.heap.size ≤ gb196))
                     replace HB := Aside0.mk (below_step (z.bl HB) hb)
                     have NB187_196 := z.ht BK187 hg
                     have NB196_187 := z.hu BK187 hg
                     replace BK187 := z.bb BK187 hb
                     have NB189_196 := z.ht BK189 hg
                     have NB196_189 := z.hu BK189 hg
                     replace BK189 := z.bb BK189 hb
                     have NB191_196 := z.ht BK191 hg
                     have NB196_191 := z.hu BK191 hg
                     replace BK191 := z.bb BK191 hb
                     clear hb hbox hg
                     refine hK.out _ _ ⟨(blk_cell BK189.out 0).trans rfl, (blk_cell BK189.out 1).trans rfl, (blk_cell BK191.out 0).trans rfl, (blk_cell BK191.out 1).trans rfl⟩ (fun hHeld => ?_)
                     clear hK K
                     refine norm_ (a' := ?_) ?_ ?_
                     rotate_left
                     ·show Act.put _ (some 10) _ = _
                      simp only [Act.put, List.setIfInBounds_toArray, List.set_cons_zero, List.set_cons_succ, i64_w, i32_w]
                      rfl
                     exact norm_ (by first | (simp only [putAll, Act.put, List.setIfInBounds_toArray, List.set_cons_zero, List.set_cons_succ]; done) | (simp only [putAll, Act.put, List.setIfInBounds_toArray, List.set_cons_zero, List.set_cons_succ]; rfl)) (hJ2_5_8_13 (gb196) _ ⟨hHeld, (z.rl (Kd.R_mono HO_3.out (fun _ hk => hk.2))), (z.bk BK187), (z.bk BK189), (z.bk BK191), (z.bk BK196), GW196.out, GE196.out, NB187_196.out, NB196_187.out, NB189_196.out, NB196_189.out, NB191_196.out, NB196_191.out, (z.bl HB)⟩)
                  ·skip
                   rintro gb196 w51 ⟨hS_, h0_, h1_, h2_, h3_, h4_, h5_, h6_, h7_, h8_, h9_, h10_, h11_, h12_, h13_⟩
                   have n0_ : Aside0 (Kd.R k228 228 w51 w.heap.size (fun k_ => k_ ≠ gb196) u3 x3_2) := ⟨h0_⟩
                   have n1_ : Aside0 (w51.heap[gb187]? = some (.cells #[.slice (some ad188) ((rd_T83 l0 x13_1).f0).length c186_0, .bool ((rd_T83 l0 x13_1).f1)] 83 (0, 0))) := ⟨h1_⟩
                   have n2_ : Aside0 (w51.heap[gb189]? = some (.cells #[.int .i64 ((rd_T25 ((rd_T83 l0 x13_1).f0) x23_2).f0), .int .i64 ((rd_T25 ((rd_T83 l0 x13_1).f0) x23_2).f1)] 25 (0, 0))) := ⟨h2_⟩
                   have n3_ : Aside0 (w51.heap[gb191]? = some (.cells #[.int .i64 ((rd_T25 ((rd_T83 l0 x13_1).f0) (ji11)).f0), .int .i64 ((rd_T25 ((rd_T83 l0 x13_1).f0) (ji11)).f1)] 25 (0, 0))) := ⟨h3_⟩
                   have n4_ : Aside0 (w51.heap[gb196]? = some (.cells #[.int .i64 0, .int .i64 0, .int .i64 0, .int .i64 0] 228 (0, 0))) := ⟨h4_⟩
                   have n5_ : Aside0 (w.heap.size ≤ gb196) := ⟨h5_⟩
                   have n6_ : Aside0 (w.heap.size ≤ gb196) := ⟨h6_⟩
                   have n7_ : Aside0 (gb187 ≠ gb196) := ⟨h7_⟩
                   have n8_ : Aside0 (gb196 ≠ gb187) := ⟨h8_⟩
                   have n9_ : Aside0 (gb189 ≠ gb196) := ⟨h9_⟩
                   have n10_ : Aside0 (gb196 ≠ gb189) := ⟨h10_⟩
                   have n11_ : Aside0 (gb191 ≠ gb196) := ⟨h11_⟩
                   have n12_ : Aside0 (gb196 ≠ gb191) := ⟨h12_⟩
                   have n13_ : Aside0 (Below w.heap.size w w51) := ⟨h13_⟩
                   clear HO_3
                   clear BK187
                   clear BK189
                   clear BK191
                   clear HB
                   clear h0_ h1_ h2_ h3_ h4_ h5_ h6_ h7_ h8_ h9_ h10_ h11_ h12_ h13_
                   have HO_3 := n0_
                   have BK187 := n1_
                   have BK189 := n2_
                   have BK191 := n3_
                   have BK196 := n4_
                   have GW196 := n5_
                   have GE196 := n6_
                   have NB187_196 := n7_
                   have NB196_187 := n8_
                   have NB189_196 := n9_
                   have NB196_189 := n10_
                   have NB191_196 := n11_
                   have NB196_191 := n12_
                   have HB := n13_
                   clear n0_ n1_ n2_ n3_ n4_ n5_ n6_ n7_ n8_ n9_ n10_ n11_ n12_ n13_
                   have hHeld : w51.cell? ⟨gb189, 0, none⟩ = some (.int .i64 ((rd_T25 ((rd_T83 l0 x13_1).f0) x23_2).f0)) ∧ w51.cell? ⟨gb189, 1, none⟩ = some (.int .i64 ((rd_T25 ((rd_T83 l0 x13_1).f0) x23_2).f1)) ∧ w51.cell? ⟨gb191, 0, none⟩ = some (.int .i64 ((rd_T25 ((rd_T83 l0 x13_1).f0) (ji11)).f0)) ∧ w51.cell? ⟨gb191, 1, none⟩ = some (.int .i64 ((rd_T25 ((rd_T83 l0 x13_1).f0) (ji11)).f1)) := hS_
                   refine norm_ (a' := ?_) ?_ ?_
                   rotate_left
                   ·simp only [putAll, Act.put, List.setIfInBounds_toArray, List.set_cons_zero, List.set_cons_succ]
                    rfl
                   refine one_ (i := 11) (N := some 47) #[true, true, true, true, true, true, true, true, true, true, true, true, false, true, false] rfl rfl (one_of HT_.out (by kernel_rfl)) (by decide) (fun K hK => ?_)
                   refine goes_ Try.func213 (by kernel_rfl) rfl #[.int .i64 ((rd_T25 ((rd_T83 l0 x13_1).f0) (ji11)).f1)] (by rfl) rfl rfl (by (try simp only [List.map_toArray, List.map_cons, List.map_nil]); first | done | (simp only [hji11]; rfl) | rfl | (simp only [List.length_drop, List.length_take]; rfl)) ?_
                   with_reducible refine (spec_l11Fine.calls ((rd_T25 ((rd_T83 l0 x13_1).f0) (ji11)).f1) t195 _ A17.out).mono ?_
                   rintro e w' ⟨rfl, ⟨nd, rfl⟩⟩
                   refine ⟨_, rfl, ?_⟩
                   refine hK.out _ _ ⟨(blk_cell BK189.out 0).trans rfl, (blk_cell BK189.out 1).trans rfl, (blk_cell BK191.out 0).trans rfl, (blk_cell BK191.out 1).trans rfl⟩ (fun hHeld => ?_)
                   clear hK K
                   refine norm_ (a' := ?_) ?_ ?_
                   rotate_left
                   ·show Act.put _ (some 47) _ = _
                    simp only [Act.put, List.setIfInBounds_toArray, List.set_cons_zero, List.set_cons_succ, i64_w, i32_w]
                    rfl
                   refine pure_ (i := 12) (N := some 48) (v := ?_) (a' := ?_) #[true, true, true, true, true, true, true, true, true, true, true, true, true, true, false] rfl rfl (any_of HT_.out (by kernel_rfl)) (fun _ _ _ h => h) (Or.inl ⟨by rfl, ?_⟩) ?_ ?_
                   rotate_left
                   ·intro w'
                    go_simp
                    with_reducible rfl
                   rotate_left
                   ·simp only [Act.put, List.setIfInBounds_toArray, List.set_cons_zero, List.set_cons_succ, i64_w, i32_w]
                    rfl
                   exact norm_ (by first | (simp only [putAll, Act.put, List.setIfInBounds_toArray, List.set_cons_zero, List.set_cons_succ]; done) | (simp only [putAll, Act.put, List.setIfInBounds_toArray, List.set_cons_zero, List.set_cons_succ]; rfl)) (hJ2_5_8_11_13 (gb196) _ ⟨hHeld, (z.rl HO_3.out), (z.bk BK187), (z.bk BK189), (z.bk BK191), (z.bk BK196), GW196.out, GE196.out, NB187_196.out, NB196_187.out, NB189_196.out, NB196_189.out, NB191_196.out, NB196_191.out, (z.bl HB)⟩)
                 ·skip
                  rintro _ w50 ⟨hS_, h0_, h1_, h2_, h3_, h4_⟩
                  have n0_ : Aside0 (Kd.R k228 228 w50 w.heap.size (fun _ => True) u3 x3_2) := ⟨h0_⟩
                  have n1_ : Aside0 (w50.heap[gb187]? = some (.cells #[.slice (some ad188) ((rd_T83 l0 x13_1).f0).length c186_0, .bool ((rd_T83 l0 x13_1).f1)] 83 (0, 0))) := ⟨h1_⟩
                  have n2_ : Aside0 (w50.heap[gb189]? = some (.cells #[.int .i64 ((rd_T25 ((rd_T83 l0 x13_1).f0) x23_2).f0), .int .i64 ((rd_T25 ((rd_T83 l0 x13_1).f0) x23_2).f1)] 25 (0, 0))) := ⟨h2_⟩
                  have n3_ : Aside0 (w50.heap[gb191]? = some (.cells #[.int .i64 ((rd_T25 ((rd_T83 l0 x13_1).f0) (ji11)).f0), .int .i64 ((rd_T25 ((rd_T83 l0 x13_1).f0) (ji11)).f1)] 25 (0, 0))) := ⟨h3_⟩
                  have n4_ : Aside0 (Below w.heap.size w w50) := ⟨h4_⟩
                  clear HO_3
                  clear BK187
                  clear BK189
                  clear BK191
                  clear HB
                  clear h0_ h1_ h2_ h3_ h4_
                  have HO_3 := n0_
                  have BK187 := n1_
                  have BK189 := n2_
                  have BK191 := n3_
                  have HB := n4_
                  clear n0_ n1_ n2_ n3_ n4_
                  have hHeld : w50.cell? ⟨gb189, 0, none⟩ = some (.int .i64 ((rd_T25 ((rd_T83 l0 x13_1).f0) x23_2).f0)) ∧ w50.cell? ⟨gb189, 1, none⟩ = some (.int .i64 ((rd_T25 ((rd_T83 l0 x13_1).f0) x23_2).f1)) ∧ w50.cell? ⟨gb191, 0, none⟩ = some (.int .i64 ((rd_T25 ((rd_T83 l0 x13_1).f0) (ji11)).f0)) ∧ w50.cell? ⟨gb191, 1, none⟩ = some (.int .i64 ((rd_T25 ((rd_T83 l0 x13_1).f0) (ji11)).f1)) := hS_
                  refine norm_ (a' := ?_) ?_ ?_
                  rotate_left
                  ·simp only [putAll, Act.put, List.setIfInBounds_toArray, List.set_cons_zero, List.set_cons_succ]
                   rfl
                  refine one_ (i := 13) (N := some 10) #[true, true, true, true, true, true, true, true, true, true, true, true, true, true, false] rfl rfl (one_of HT_.out (by kernel_rfl)) (by decide) (fun K hK => ?_)
                  refine box_step ?hg (N := 10) ?hd (cs := #[.int .i64 0, .int .i64 0, .int .i64 0, .int .i64 0]) (t := 228) ?hr ?_; (case hd => rfl); (case hg => rfl); (case hr => first | (go_simp; done) | (go_simp; rfl))
                  intro gb196 hg w51 hbox hb
                  replace HO_3 := Aside0.mk (Kd.R_below (Kd.R_elderB (z.rl HO_3.out) gb196 (Nat.le_of_eq hg.symm)) hb)
                  have BK196 := Aside0.mk (hbox)
                  have GW196 := Aside0.mk ((by rw [hg]; exact (below_size (z.bl HB)) : w.heap.size ≤ gb196))
                  have GE196 := Aside0.mk ((by rw [hg]; exact (below_size (z.bl HB)) : w.heap.size ≤ gb196))
                  replace HB := Aside0.mk (below_step (z.bl HB) hb)
                  have NB187_196 := z.ht BK187 hg
                  have NB196_187 := z.hu BK187 hg
                  replace BK187 := z.bb BK187 hb
                  have NB189_196 := z.ht BK189 hg
                  have NB196_189 := z.hu BK189 hg
                  replace BK189 := z.bb BK189 hb
                  have NB191_196 := z.ht BK191 hg
                  have NB196_191 := z.hu BK191 hg
                  replace BK191 := z.bb BK191 hb
                  clear hb hbox hg
                  refine hK.out _ _ ⟨(blk_cell BK189.out 0).trans rfl, (blk_cell BK189.out 1).trans rfl, (blk_cell BK191.out 0).trans rfl, (blk_cell BK191.out 1).trans rfl⟩ (fun hHeld => ?_)
                  clear hK K
                  refine norm_ (a' := ?_) ?_ ?_
                  rotate_left
                  ·show Act.put _ (some 10) _ = _
                   simp only [Act.put, List.setIfInBounds_toArray, List.set_cons_zero, List.set_cons_succ, i64_w, i32_w]
                   rfl
                  exact norm_ (by first | (simp only [putAll, Act.put, List.setIfInBounds_toArray, List.set_cons_zero, List.set_cons_succ]; done) | (simp only [putAll, Act.put, List.setIfInBounds_toArray, List.set_cons_zero, List.set_cons_succ]; rfl)) (hJ2_5_8_11_13 (gb196) _ ⟨hHeld, (z.rl (Kd.R_mono HO_3.out (fun _ hk => hk.2))), (z.bk BK187), (z.bk BK189), (z.bk BK191), (z.bk BK196), GW196.out, GE196.out, NB187_196.out, NB196_187.out, NB189_196.out, NB196_189.out, NB191_196.out, NB196_191.out, (z.bl HB)⟩)
                rintro gb196 w51 ⟨hS_, h0_, h1_, h2_, h3_, h4_, h5_, h6_, h7_, h8_, h9_, h10_, h11_, h12_, h13_⟩
                have n0_ : Aside0 (Kd.R k228 228 w51 w.heap.size (fun k_ => k_ ≠ gb196) u3 x3_2) := ⟨h0_⟩
                have n1_ : Aside0 (w51.heap[gb187]? = some (.cells #[.slice (some ad188) ((rd_T83 l0 x13_1).f0).length c186_0, .bool ((rd_T83 l0 x13_1).f1)] 83 (0, 0))) := ⟨h1_⟩
                have n2_ : Aside0 (w51.heap[gb189]? = some (.cells #[.int .i64 ((rd_T25 ((rd_T83 l0 x13_1).f0) x23_2).f0), .int .i64 ((rd_T25 ((rd_T83 l0 x13_1).f0) x23_2).f1)] 25 (0, 0))) := ⟨h2_⟩
                have n3_ : Aside0 (w51.heap[gb191]? = some (.cells #[.int .i64 ((rd_T25 ((rd_T83 l0 x13_1).f0) (ji11)).f0), .int .i64 ((rd_T25 ((rd_T83 l0 x13_1).f0) (ji11)).f1)] 25 (0, 0))) := ⟨h3_⟩
                have n4_ : Aside0 (w51.heap[gb196]? = some (.cells #[.int .i64 0, .int .i64 0, .int .i64 0, .int .i64 0] 228 (0, 0))) := ⟨h4_⟩
                have n5_ : Aside0 (w.heap.size ≤ gb196) := ⟨h5_⟩
                have n6_ : Aside0 (w.heap.size ≤ gb196) := ⟨h6_⟩
                have n7_ : Aside0 (gb187 ≠ gb196) := ⟨h7_⟩
                have n8_ : Aside0 (gb196 ≠ gb187) := ⟨h8_⟩
                have n9_ : Aside0 (gb189 ≠ gb196) := ⟨h9_⟩
                have n10_ : Aside0 (gb196 ≠ gb189) := ⟨h10_⟩
                have n11_ : Aside0 (gb191 ≠ gb196) := ⟨h11_⟩
                have n12_ : Aside0 (gb196 ≠ gb191) := ⟨h12_⟩
                have n13_ : Aside0 (Below w.heap.size w w51) := ⟨h13_⟩
                clear HO_3
                clear BK187
                clear BK189
                clear BK191
                clear HB
                clear h0_ h1_ h2_ h3_ h4_ h5_ h6_ h7_ h8_ h9_ h10_ h11_ h12_ h13_
                have HO_3 := n0_
                have BK187 := n1_
                have BK189 := n2_
                have BK191 := n3_
                have BK196 := n4_
                have GW196 := n5_
                have GE196 := n6_
                have NB187_196 := n7_
                have NB196_187 := n8_
                have NB189_196 := n9_
                have NB196_189 := n10_
                have NB191_196 := n11_
                have NB196_191 := n12_
                have HB := n13_
                clear n0_ n1_ n2_ n3_ n4_ n5_ n6_ n7_ n8_ n9_ n10_ n11_ n12_ n13_
                have hHeld : w51.cell? ⟨gb189, 0, none⟩ = some (.int .i64 ((rd_T25 ((rd_T83 l0 x13_1).f0) x23_2).f0)) ∧ w51.cell? ⟨gb189, 1, none⟩ = some (.int .i64 ((rd_T25 ((rd_T83 l0 x13_1).f0) x23_2).f1)) ∧ w51.cell? ⟨gb191, 0, none⟩ = some (.int .i64 ((rd_T25 ((rd_T83 l0 x13_1).f0) (ji11)).f0)) ∧ w51.cell? ⟨gb191, 1, none⟩ = some (.int .i64 ((rd_T25 ((rd_T83 l0 x13_1).f0) (ji11)).f1)) := hS_
                refine norm_ (a' := ?_) ?_ ?_
                rotate_left
                ·simp only [putAll, Act.put, List.setIfInBounds_toArray, List.set_cons_zero, List.set_cons_succ]
                 rfl
                refine one_ (i := 14) (N := none) #[true, true, true, true, true, true, true, true, true, true, true, true, true, true, true] rfl rfl (one_of HT_.out (by kernel_rfl)) (by decide) (fun K hK => ?_)
                have hs52 : w51.cell? ⟨gb196, 0, none⟩ = some (.int .i64 0) := (blk_cell BK196.out 0).trans rfl
                have hfs52 := blk_frozen BK196.out 0
                have hns52_0 := NB187_196.out
                have hns52_1 := NB189_196.out
                have hns52_2 := NB191_196.out
                have hms52_0 := NB196_187.out
                have hms52_1 := NB196_189.out
                have hms52_2 := NB196_191.out
                have hs53 : w51.cell? ⟨gb196, 1, none⟩ = some (.int .i64 0) := (blk_cell BK196.out 1).trans rfl
                have hfs53 := blk_frozen BK196.out 1
                have hns53_0 := NB187_196.out
                have hns53_1 := NB189_196.out
                have hns53_2 := NB191_196.out
                have hms53_0 := NB196_187.out
                have hms53_1 := NB196_189.out
                have hms53_2 := NB196_191.out
                have hs54 : w51.cell? ⟨gb196, 2, none⟩ = some (.int .i64 0) := (blk_cell BK196.out 2).trans rfl
                have hfs54 := blk_frozen BK196.out 2
                have hns54_0 := NB187_196.out
                have hns54_1 := NB189_196.out
                have hns54_2 := NB191_196.out
                have hms54_0 := NB196_187.out
                have hms54_1 := NB196_189.out
                have hms54_2 := NB196_191.out
                have hs55 : w51.cell? ⟨gb196, 3, none⟩ = some (.int .i64 0) := (blk_cell BK196.out 3).trans rfl
                have hfs55 := blk_frozen BK196.out 3
                have hns55_0 := NB187_196.out
                have hns55_1 := NB189_196.out
                have hns55_2 := NB191_196.out
                have hms55_0 := NB196_187.out
                have hms55_1 := NB196_189.out
                have hms55_2 := NB196_191.out
                refine skip_ (w1 := ?_) (by rfl) rfl ?_ ?_
                rotate_left
                ·go_simp
                 rfl
                refine hK.out _ _ ⟨((cell_far (p := ⟨gb196, _, none⟩) NB189_196.out _).trans (((cell_far (p := ⟨gb196, _, none⟩) NB189_196.out _).trans (((cell_far (p := ⟨gb196, _, none⟩) NB189_196.out _).trans (((cell_far (p := ⟨gb196, _, none⟩) NB189_196.out _).trans (hHeld.1)))))))), ((cell_far (p := ⟨gb196, _, none⟩) NB189_196.out _).trans (((cell_far (p := ⟨gb196, _, none⟩) NB189_196.out _).trans (((cell_far (p := ⟨gb196, _, none⟩) NB189_196.out _).trans (((cell_far (p := ⟨gb196, _, none⟩) NB189_196.out _).trans (hHeld.2.1)))))))), ((cell_far (p := ⟨gb196, _, none⟩) NB191_196.out _).trans (((cell_far (p := ⟨gb196, _, none⟩) NB191_196.out _).trans (((cell_far (p := ⟨gb196, _, none⟩) NB191_196.out _).trans (((cell_far (p := ⟨gb196, _, none⟩) NB191_196.out _).trans (hHeld.2.2.1)))))))), ((cell_far (p := ⟨gb196, _, none⟩) NB191_196.out _).trans (((cell_far (p := ⟨gb196, _, none⟩) NB191_196.out _).trans (((cell_far (p := ⟨gb196, _, none⟩) NB191_196.out _).trans (((cell_far (p := ⟨gb196, _, none⟩) NB191_196.out _).trans (hHeld.2.2.2))))))))⟩ (fun hHeld => ?_)
                clear hK K
                refine done_ (done_of HT_.out (by kernel_rfl)) ?_
                have hnb56 := NB196_187.out
                have hnc56 := NB187_196.out
                have hnb57 := NB196_189.out
                have hnc57 := NB189_196.out
                have hnb58 := NB196_191.out
                have hnc58 := NB191_196.out
                have hcz59_0 : w51.cell? ⟨gb196, 0, none⟩ = some (.int .i64 0) := (blk_cell BK196.out 0).trans rfl
                have hcz59_1 : w51.cell? ⟨gb196, 1, none⟩ = some (.int .i64 0) := (blk_cell BK196.out 1).trans rfl
                have hcz59_2 : w51.cell? ⟨gb196, 2, none⟩ = some (.int .i64 0) := (blk_cell BK196.out 2).trans rfl
                have hcz59_3 : w51.cell? ⟨gb196, 3, none⟩ = some (.int .i64 0) := (blk_cell BK196.out 3).trans rfl
                have hfz59_0 := blk_frozen BK196.out 0
                have hfz59_1 := blk_frozen BK196.out 1
                have hfz59_2 := blk_frozen BK196.out 2
                have hfz59_3 := blk_frozen BK196.out 3
                try go_wp2_with (first | ((with_reducible refine gate_builtin (b := .append) (xs := #[.tmp 54, .tmp 56]) rfl ?_); at_builtin; refine Kd.R_append k228 (w0 := w) w.heap.size rfl (.tmp 54) (.tmp 56) 225 228 (.agg #[(.int .i64 0), (.int .i64 0), (.int .i64 0), (.int .i64 0)]) 32 rfl Try.underlying225 info228 rfl (by decide) (by omega) u3 x3_2 (⟨t192, t193, t194, t195⟩ : S228) [.int .i64 t192, .int .i64 t193, .int .i64 t194, .int .i64 t195] (fun k_ => k_ ≠ gb196) (fun _ => False) rfl (by first | (go_simp; done) | (go_simp; rfl)) ?aP (fun _ hk => hk.elim) ?aF ?aO ?aB ?aS ?aL ?_; (case aP => exact k228_mkM _ _ _ (⟨t192, t193, t194, t195⟩ : S228)); (case aB => exact (z.bl HB)); (case aF => exact (fun k_ hk => Kd.freshB (g := gb196) (o := .cells #[.int .i64 t192, .int .i64 t193, .int .i64 t194, .int .i64 t195] 228 (0, 0)) (by (with_reducible repeat (first | refine blk_drewN ?_ _ | refine blk_drew ?_ | refine blk_alloc ?_ _)); refine blk_put (cs := #[.int .i64 t192, .int .i64 t193, .int .i64 t194, .int .i64 0]) ?_ 3 _ rfl; (with_reducible repeat (first | refine blk_drewN ?_ _ | refine blk_drew ?_ | refine blk_alloc ?_ _)); refine blk_put (cs := #[.int .i64 t192, .int .i64 t193, .int .i64 0, .int .i64 0]) ?_ 2 _ rfl; (with_reducible repeat (first | refine blk_drewN ?_ _ | refine blk_drew ?_ | refine blk_alloc ?_ _)); refine blk_put (cs := #[.int .i64 t192, .int .i64 0, .int .i64 0, .int .i64 0]) ?_ 1 _ rfl; (with_reducible repeat (first | refine blk_drewN ?_ _ | refine blk_drew ?_ | refine blk_alloc ?_ _)); refine blk_put (cs := #[.int .i64 0, .int .i64 0, .int .i64 0, .int .i64 0]) ?_ 0 _ rfl; (with_reducible repeat (first | refine blk_drewN ?_ _ | refine blk_drew ?_ | refine blk_alloc ?_ _)); exact BK196.out) k_ hk)); (case aO => exact (z.rl (Kd.R_mono (Kd.R_far (p := ⟨gb196, 3, none⟩) (Kd.R_far (p := ⟨gb196, 2, none⟩) (Kd.R_far (p := ⟨gb196, 1, none⟩) (Kd.R_far (p := ⟨gb196, 0, none⟩) (Kd.R_mono HO_3.out (fun k_ hk => (⟨hk, hk⟩ : _ ∧ k_ ≠ gb196))) (fun _ hk => hk.2) (.int .i64 t192)) (fun _ hk => hk.2) (.int .i64 t193)) (fun _ hk => hk.2) (.int .i64 t194)) (fun _ hk => hk.2) (.int .i64 t195)) (fun _ hk => hk.1)))); (case aS => exact (below_size (z.bl HB))); (case aL => have := LMc39.out; omega); intro v198 w60 ho hb hg hat; rw [← Ny197.out] at ho; replace BK187 := Aside0.mk (blk_grown (g := gb187) (o := .cells #[.slice (some ad188) ((rd_T83 l0 x13_1).f0).length c186_0, .bool ((rd_T83 l0 x13_1).f1)] 83 (0, 0)) (z.bf BK187) hg (Kd.R_ne HO_3.out BK187.out (by decide))); replace BK189 := Aside0.mk (blk_grown (g := gb189) (o := .cells #[.int .i64 ((rd_T25 ((rd_T83 l0 x13_1).f0) x23_2).f0), .int .i64 ((rd_T25 ((rd_T83 l0 x13_1).f0) x23_2).f1)] 25 (0, 0)) (z.bf BK189) hg (Kd.R_ne HO_3.out BK189.out (by decide))); replace BK191 := Aside0.mk (blk_grown (g := gb191) (o := .cells #[.int .i64 ((rd_T25 ((rd_T83 l0 x13_1).f0) (ji11)).f0), .int .i64 ((rd_T25 ((rd_T83 l0 x13_1).f0) (ji11)).f1)] 25 (0, 0)) (z.bf BK191) hg (Kd.R_ne HO_3.out BK191.out (by decide))); replace BK196 := Aside0.mk (blk_grown (g := gb196) (o := .cells #[.int .i64 t192, .int .i64 t193, .int .i64 t194, .int .i64 t195] 228 (0, 0)) (by (with_reducible repeat (first | refine blk_drewN ?_ _ | refine blk_drew ?_ | refine blk_alloc ?_ _)); refine blk_put (cs := #[.int .i64 t192, .int .i64 t193, .int .i64 t194, .int .i64 0]) ?_ 3 _ rfl; (with_reducible repeat (first | refine blk_drewN ?_ _ | refine blk_drew ?_ | refine blk_alloc ?_ _)); refine blk_put (cs := #[.int .i64 t192, .int .i64 t193, .int .i64 0, .int .i64 0]) ?_ 2 _ rfl; (with_reducible repeat (first | refine blk_drewN ?_ _ | refine blk_drew ?_ | refine blk_alloc ?_ _)); refine blk_put (cs := #[.int .i64 t192, .int .i64 0, .int .i64 0, .int .i64 0]) ?_ 1 _ rfl; (with_reducible repeat (first | refine blk_drewN ?_ _ | refine blk_drew ?_ | refine blk_alloc ?_ _)); refine blk_put (cs := #[.int .i64 0, .int .i64 0, .int .i64 0, .int .i64 0]) ?_ 0 _ rfl; (with_reducible repeat (first | refine blk_drewN ?_ _ | refine blk_drew ?_ | refine blk_alloc ?_ _)); exact BK196.out) hg (Kd.R_away HO_3.out (fun _ hk => hk))); replace HB := Aside0.mk (hb); have HO199 := Aside0.mk (ho); clear HO_3; clear ho hb hg hat))
                go_roundg k2
                case measure => have := HK1.out; have := HK2.out; omega
                case rel => exact ⟨(y197), (wrap64 (x23_2 + 1)), (by first | rfl | (simp; done) | (simp [*]; done)), H', ⟨by have := HK1.out; have := HK2.out; omega⟩, ⟨z.rl (Kd.R_mono HO199.out (fun _ hk => trivial))⟩, ⟨z.bk BK187⟩, ⟨z.bl HB⟩⟩
               ·rw [if_neg c39] at H
                exact absurd H (by simp)
             ·rw [if_neg c13] at H
              exact absurd H (by simp)
            ·rw [if_neg c12] at H
             exact absurd H (by simp)
          ·rw [if_neg c9] at H
           exact absurd H (by simp)
         ·rw [if_neg c8] at H
          exact absurd H (by simp)
        ·rw [if_neg c7] at H
         have c7b0 : decide (x23_2 < (((rd_T83 l0 x13_1).f0).length : Int)) = false := decide_eq_false c7
         clear c7
         have H' := Aside0.mk H
         clear H
         go_wp2
         go_roundg k2
         case measure => have := HK1.out; have := HK2.out; omega
         case rel => exact ⟨(x3_2), (wrap64 (x13_1 + 1)), (by first | rfl | (simp; done) | (simp [*]; done)), H', ⟨by have := HK1.out; have := HK2.out; omega⟩, ⟨z.rl HO_3.out⟩, ⟨z.bl HB⟩⟩
     ·rw [if_neg c4] at H
      exact absurd H (by simp)
    ·rw [if_neg c3] at H
     exact absurd H (by simp)
   ·rw [if_neg c2] at H
    have c2b0 : decide (x13_1 < (l0.length : Int)) = false := decide_eq_false c2
    clear c2
    obtain rfl := Option.some.inj H
    go_wp2
    go_ret
    exact ⟨_, by first | rfl | (simp [errW_none, errW_some] <;> rfl) | (simp [*, errW_none, errW_some] <;> rfl), z.rl HO_3.out, z.bl HB⟩
end Go.Proofs.Ytdbgnoolokfafaa.HFnExactCoverOf
