-- Printed by a program of this session over the kit's print; functions that the print does not take stand here by hand.
import Derived.Test.YtdbgnoolokfafaaZShort
import Derived.Test.YtdbgnoolokfafaaZHFnCoverx0
import Derived.Test.YtdbgnoolokfafaaZHFnCoverx7
namespace Go.Proofs.Ytdbgnoolokfafaa.HFnCover
open Go.RowKit Go.Proofs.YtdbgnoolokfafaaW.PrintWords Go.Proofs.YtdbgnoolokfafaaW.PrintLast Go.Proofs.YtdbgnoolokfafaaW.PrintMore
attribute [local go_sem] max2_int min2_int max_two min_two max_three min_three max_four min_four   -- for this text's walks alone
set_option linter.unusedVariables false
set_option linter.unusedSimpArgs false
/-! ### impl_areNear: function 155 -/
mutual
def impl_areNear.l0 : Nat → List (S83) → Int → Int → Option (Bool)
  | 0, _, _, _ => none
  | k + 1, x7, x8, x9 => if x9 < x8 then (if 0 ≤ x9 then (if x9 < (x7.length : Int) then (impl_areNear.l1 k x7 x8 x9 ((rd_T83 x7 x9).f0) (((rd_T83 x7 x9).f0).length : Int) 0) else (none)) else (none)) else (some true)
def impl_areNear.l1 : Nat → List (S83) → Int → Int → List (S25) → Int → Int → Option (Bool)
  | 0, _, _, _, _, _, _ => none
  | k + 1, x7, x8, x9, x14, x15, x16 => if x16 < x15 then (if 0 ≤ x16 then (if x16 < (x14.length : Int) then ((impl_isNear.f ((rd_T25 x14 x16).f0) ((rd_T25 x14 x16).f1)).bind fun t231 => (if t231 = true then (impl_areNear.l1 k x7 x8 x9 x14 x15 (wrap64 (x16 + 1))) else (some false))) else (none)) else (none)) else (impl_areNear.l0 k x7 x8 (wrap64 (x9 + 1)))
end
def impl_areNear.f (k : Nat) (l0 : List (S83)) : Option (Bool) := impl_areNear.l0 k l0 (l0.length : Int) 0
theorem impl_areNear.mono_l : ∀ k, (∀ y0 y1 y2, LeO (impl_areNear.l0 k y0 y1 y2) (impl_areNear.l0 (k + 1) y0 y1 y2)) ∧ (∀ y0 y1 y2 y3 y4 y5, LeO (impl_areNear.l1 k y0 y1 y2 y3 y4 y5) (impl_areNear.l1 (k + 1) y0 y1 y2 y3 y4 y5))
  | 0 => ⟨fun _ _ _ r h => by simp [impl_areNear.l0] at h, fun _ _ _ _ _ _ r h => by simp [impl_areNear.l1] at h⟩
  | k + 1 => by
    obtain ⟨ih0, ih1⟩ := impl_areNear.mono_l k
    refine ⟨?_, ?_⟩
    · intro y0 y1 y2
      unfold impl_areNear.l0
      repeat' first
    | with_reducible exact ih0 _ _ _
    | with_reducible exact ih1 _ _ _ _ _ _
    | with_reducible exact LeO.refl _
    | with_reducible exact LeO.none _
    | with_reducible refine LeO.ite ?_ ?_
    | with_reducible refine LeO.bind ?_ (fun _ => ?_)
    | exact ih0 _ _ _
    | exact ih1 _ _ _ _ _ _
    | exact LeO.none _
    | refine LeO.ite ?_ ?_
    | refine LeO.bind ?_ (fun _ => ?_)
    · intro y0 y1 y2 y3 y4 y5
      unfold impl_areNear.l1
      repeat' first
    | with_reducible exact ih0 _ _ _
    | with_reducible exact ih1 _ _ _ _ _ _
    | with_reducible exact LeO.refl _
    | with_reducible exact LeO.none _
    | with_reducible refine LeO.ite ?_ ?_
    | with_reducible refine LeO.bind ?_ (fun _ => ?_)
    | exact ih0 _ _ _
    | exact ih1 _ _ _ _ _ _
    | exact LeO.none _
    | refine LeO.ite ?_ ?_
    | refine LeO.bind ?_ (fun _ => ?_)
theorem impl_areNear.mono : ∀ a0 k, LeO (impl_areNear.f k a0) (impl_areNear.f (k + 1) a0) := by
  intro a0 k
  obtain ⟨ih0, ih1⟩ := impl_areNear.mono_l k
  unfold impl_areNear.f
  repeat' first
    | with_reducible exact ih0 _ _ _
    | with_reducible exact ih1 _ _ _ _ _ _
    | with_reducible exact LeO.refl _
    | with_reducible exact LeO.none _
    | with_reducible refine LeO.ite ?_ ?_
    | with_reducible refine LeO.bind ?_ (fun _ => ?_)
    | exact ih0 _ _ _
    | exact ih1 _ _ _ _ _ _
    | exact LeO.none _
    | refine LeO.ite ?_ ?_
    | refine LeO.bind ?_ (fun _ => ?_)
set_option maxHeartbeats 8000000 in
set_option maxRecDepth 100000 in
theorem impl_areNear.calls (k : Nat) (A0 : Option Addr) (c0 : Nat) (l0 : List (S83)) (r : Bool) (w : World) (hr0 : Kd.C k83 w A0 l0.length l0) (hc0 : l0.length ≤ c0) (h : impl_areNear.f k l0 = some r) :
    Calls Try.prog 155 #[.slice A0 l0.length c0] w fun e w' => e = .returned (.bool r) ∧ Below w.heap.size w w' := by
 have hu83 := Try.underlying83
 have hu25 := Try.underlying25
 have HR0 := Aside0.mk hr0
 have HC0 := Aside0.mk hc0
 clear hr0 hc0
 have HB := Aside0.mk (Below.refl w.heap.size w)
 have H : (impl_areNear.l0 k l0 (l0.length : Int) 0) = some r := h
 clear h
 have H' := Aside0.mk H
 clear H
 go_enter Try.func155, Try.ntmps155
 go_wp2
 go_loopg [9] k (fun kq v9 w' => ∃ (x9_1 : Int), v9 = .int .i64 x9_1 ∧ Aside0 (impl_areNear.l0 kq l0 (l0.length : Int) x9_1 = some r) ∧ Aside0 (kq ≤ k) ∧ Aside0 (Below w.heap.size w w'))
 case atStart => exact ⟨(0), (by first | rfl | (simp; done) | (simp [*]; done)), H', ⟨Nat.le_refl _⟩, ⟨z.bl HB⟩⟩
 case round =>
  clear H'
  try clear c1
  obtain ⟨x9_1, rfl, HA, HK1, HB⟩ := hrel
  cases gk with
  | zero => exact absurd HA.out (by simp [impl_areNear.l0])
  | succ k1 =>
   have H := HA.out
   clear HA
   simp only [impl_areNear.l0] at H
   by_cases c2 : x9_1 < (l0.length : Int)
   ·rw [if_pos c2] at H
    have c2b0 : decide (x9_1 < (l0.length : Int)) = true := decide_eq_true c2
    clear c2
    by_cases c3 : 0 ≤ x9_1
    ·rw [if_pos c3] at H
     have c3b0 : decide (0 ≤ x9_1) = true := decide_eq_true c3
     clear c3
     by_cases c4 : x9_1 < (l0.length : Int)
     ·rw [if_pos c4] at H
      have c4b0 : decide (x9_1 < (l0.length : Int)) = true := decide_eq_true c4
      clear c4
      have H' := Aside0.mk H
      clear H
      have p227 : 0 ≤ (x9_1 : Int) := of_decide_eq_true (by first | (with_reducible assumption) | assumption)
      have q227 : x9_1 < (l0.length : Int) := of_decide_eq_true (by first | (with_reducible assumption) | assumption)
      obtain ⟨ad227, A227_0, c227_0, e227, hx227_0, hx227_1, hl227_0, hi227_0⟩ := at_T83 HR0.out x9_1 p227 q227
      cases e227
      replace hx227_0 := (HB.out.cell (World.block_lt_of_cell? w _ hx227_0)).trans hx227_0
      replace hx227_1 := (HB.out.cell (World.block_lt_of_cell? w _ hx227_1)).trans hx227_1
      have HR227_0 := Aside0.mk hi227_0
      have HC227_0 := Aside0.mk hl227_0
      clear hi227_0 hl227_0
      replace p227 := eq_true p227
      replace q227 := eq_true q227
      go_wp2_with (first | ((with_reducible refine gate_dst (N := 4) rfl ?_); refine box_event ?hg (N := 4) ?hd (cs := #[.slice none 0 0, .bool false]) (t := 83) ?hr ?_; (case hd => rfl); (case hg => rfl); (case hr => first | (go_simp; done) | (go_simp; rfl)); intro gb228 hg w5 hbox hb; have BK228 := Aside0.mk (hbox); have GW228 := Aside0.mk ((by rw [hg]; exact (below_size (z.bl HB)) : w.heap.size ≤ gb228)); have GE228 := Aside0.mk ((by rw [hg]; exact (below_size (z.bl HB)) : w.heap.size ≤ gb228)); replace HB := Aside0.mk (below_step (z.bl HB) hb); clear hb hbox hg; have hcz6_0 : w5.cell? ⟨gb228, 0, none⟩ = some (.slice none 0 0) := (blk_cell BK228.out 0).trans rfl; have hcz6_1 : w5.cell? ⟨gb228, 1, none⟩ = some (.bool false) := (blk_cell BK228.out 1).trans rfl; have hfz6_0 := blk_frozen BK228.out 0; have hfz6_1 := blk_frozen BK228.out 1))
      go_loopg [16] k1 (fun kq v16 w' => ∃ (x16_2 : Int), v16 = .int .i64 x16_2 ∧ Aside0 (impl_areNear.l1 kq l0 (l0.length : Int) x9_1 ((rd_T83 l0 x9_1).f0) (((rd_T83 l0 x9_1).f0).length : Int) x16_2 = some r) ∧ Aside0 (kq ≤ k1) ∧ Aside0 (w'.heap[gb228]? = some (.cells #[(.slice A227_0 ((rd_T83 l0 x9_1).f0).length c227_0), .bool ((rd_T83 l0 x9_1).f1)] 83 (0, 0))) ∧ Aside0 (Below w.heap.size w w'))
      case atStart => exact ⟨(0), (by first | rfl | (simp; done) | (simp [*]; done)), H', ⟨Nat.le_refl _⟩, ⟨by (with_reducible repeat (first | refine blk_drewN ?_ _ | refine blk_drew ?_ | refine blk_alloc ?_ _)); refine blk_put (cs := #[.slice A227_0 ((rd_T83 l0 x9_1).f0).length c227_0, .bool false]) ?_ 1 _ rfl; (with_reducible repeat (first | refine blk_drewN ?_ _ | refine blk_drew ?_ | refine blk_alloc ?_ _)); refine blk_put (cs := #[.slice none 0 0, .bool false]) ?_ 0 _ rfl; (with_reducible repeat (first | refine blk_drewN ?_ _ | refine blk_drew ?_ | refine blk_alloc ?_ _)); exact BK228.out⟩, ⟨z.bl HB⟩⟩
      case round =>
       clear H'
       try clear c1
       try clear c2
       try clear c2b0
       try clear p2
       try clear q2
       try clear hx2
       try clear c3
       try clear c3b0
       try clear c4
       try clear c4b0
       try clear hcz6_0
       try clear hcz6_1
       try clear hfz6_0
       try clear hfz6_1
       try clear hx227_0
       try clear hx227_1
       try clear p227
       try clear q227
       obtain ⟨x16_2, rfl, HA, HK2, BK228, HB⟩ := hrel
       cases gk with
       | zero => exact absurd HA.out (by simp [impl_areNear.l1])
       | succ k2 =>
        have H := HA.out
        clear HA
        simp only [impl_areNear.l1] at H
        by_cases c7 : x16_2 < (((rd_T83 l0 x9_1).f0).length : Int)
        ·rw [if_pos c7] at H
         have c7b0 : decide (x16_2 < (((rd_T83 l0 x9_1).f0).length : Int)) = true := decide_eq_true c7
         clear c7
         by_cases c8 : 0 ≤ x16_2
         ·rw [if_pos c8] at H
          have c8b0 : decide (0 ≤ x16_2) = true := decide_eq_true c8
          clear c8
          by_cases c9 : x16_2 < (((rd_T83 l0 x9_1).f0).length : Int)
          ·rw [if_pos c9] at H
           have c9b0 : decide (x16_2 < (((rd_T83 l0 x9_1).f0).length : Int)) = true := decide_eq_true c9
           clear c9
           replace H := Option.bind_eq_some_iff.mp H
           obtain ⟨t231, A100, H⟩ := H
           replace H : (if t231 = true then (impl_areNear.l1 k2 l0 (l0.length : Int) x9_1 ((rd_T83 l0 x9_1).f0) (((rd_T83 l0 x9_1).f0).length : Int) (wrap64 (x16_2 + 1))) else (some false)) = some r := H
           have A10 := Aside0.mk A100
           clear A100
           by_cases c11 : t231 = true
           ·subst c11
            have H1 : (impl_areNear.l1 k2 l0 (l0.length : Int) x9_1 ((rd_T83 l0 x9_1).f0) (((rd_T83 l0 x9_1).f0).length : Int) (wrap64 (x16_2 + 1))) = some r := by rw [if_pos rfl] at H; exact H
            clear H
            have H := H1
            clear H1
            have H' := Aside0.mk H
            clear H
            have p229 : 0 ≤ (x16_2 : Int) := of_decide_eq_true (by first | (with_reducible assumption) | assumption)
            have q229 : x16_2 < (((rd_T83 l0 x9_1).f0).length : Int) := of_decide_eq_true (by first | (with_reducible assumption) | assumption)
            obtain ⟨ad229, e229, hx229_0, hx229_1⟩ := at_T25 HR227_0.out x16_2 p229 q229
            cases e229
            replace hx229_0 := (HB.out.cell (World.block_lt_of_cell? w _ hx229_0)).trans hx229_0
            replace hx229_1 := (HB.out.cell (World.block_lt_of_cell? w _ hx229_1)).trans hx229_1
            replace p229 := eq_true p229
            replace q229 := eq_true q229
            go_wp2_with (first | ((with_reducible refine gate_dst (N := 6) rfl ?_); refine box_event ?hg (N := 6) ?hd (cs := #[.int .i64 0, .int .i64 0]) (t := 25) ?hr ?_; (case hd => rfl); (case hg => rfl); (case hr => first | (go_simp; done) | (go_simp; rfl)); intro gb230 hg w12 hbox hb; have BK230 := Aside0.mk (hbox); have GW230 := Aside0.mk ((by rw [hg]; exact (below_size (z.bl HB)) : w.heap.size ≤ gb230)); have GE230 := Aside0.mk ((by rw [hg]; exact (below_size (z.bl HB)) : w.heap.size ≤ gb230)); replace HB := Aside0.mk (below_step (z.bl HB) hb); have NB228_230 := z.ht BK228 hg; have NB230_228 := z.hu BK228 hg; replace BK228 := z.bb BK228 hb; clear hb hbox hg; have hnb13 := NB230_228.out; have hnc13 := NB228_230.out; have hcz14_0 : w12.cell? ⟨gb230, 0, none⟩ = some (.int .i64 0) := (blk_cell BK230.out 0).trans rfl; have hcz14_1 : w12.cell? ⟨gb230, 1, none⟩ = some (.int .i64 0) := (blk_cell BK230.out 1).trans rfl; have hfz14_0 := blk_frozen BK230.out 0; have hfz14_1 := blk_frozen BK230.out 1) | ((with_reducible refine gate_callee (f := 197) rfl ?_); refine z.gl (some 21) rfl rfl Try.func197 (by kernel_rfl) rfl #[.agg #[.int .i64 ((rd_T25 ((rd_T83 l0 x9_1).f0) x16_2).f0), .int .i64 ((rd_T25 ((rd_T83 l0 x9_1).f0) x16_2).f1)]] rfl ?_; (with_reducible refine (impl_isNear.calls ((rd_T25 ((rd_T83 l0 x9_1).f0) x16_2).f0) ((rd_T25 ((rd_T83 l0 x9_1).f0) x16_2).f1) true _ A10.out).mono ?_); rintro e w15 ⟨rfl, hb⟩; refine ⟨_, rfl, ?_⟩; replace BK228 := Aside0.mk (blk_below (g := gb228) (o := .cells #[.slice (some ad229) ((rd_T83 l0 x9_1).f0).length c227_0, .bool ((rd_T83 l0 x9_1).f1)] 83 (0, 0)) (z.bf BK228) hb); replace BK230 := Aside0.mk (blk_below (g := gb230) (o := .cells #[.int .i64 ((rd_T25 ((rd_T83 l0 x9_1).f0) x16_2).f0), .int .i64 ((rd_T25 ((rd_T83 l0 x9_1).f0) x16_2).f1)] 25 (0, 0)) (by (with_reducible repeat (first | refine blk_drewN ?_ _ | refine blk_drew ?_ | refine blk_alloc ?_ _)); refine blk_put (cs := #[.int .i64 ((rd_T25 ((rd_T83 l0 x9_1).f0) x16_2).f0), .int .i64 0]) ?_ 1 _ rfl; (with_reducible repeat (first | refine blk_drewN ?_ _ | refine blk_drew ?_ | refine blk_alloc ?_ _)); refine blk_put (cs := #[.int .i64 0, .int .i64 0]) ?_ 0 _ rfl; (with_reducible repeat (first | refine blk_drewN ?_ _ | refine blk_drew ?_ | refine blk_alloc ?_ _)); exact BK230.out) hb); replace HB := Aside0.mk (below_step (z.bl HB) hb); (try clear hb); (try clear hb2); (try clear hk); (try clear hi)))
            go_roundg k2
            case measure => have := HK1.out; have := HK2.out; omega
            case rel => exact ⟨(wrap64 (x16_2 + 1)), (by first | rfl | (simp; done) | (simp [*]; done)), H', ⟨by have := HK1.out; have := HK2.out; omega⟩, ⟨z.bk BK228⟩, ⟨z.bl HB⟩⟩
           ·replace c11 := Bool.eq_false_iff.mpr c11
            subst c11
            have H1 : (some false) = some r := by rw [if_neg (show ¬ (false = true) by decide)] at H; exact H
            clear H
            have H := H1
            clear H1
            obtain rfl := Option.some.inj H
            have p229 : 0 ≤ (x16_2 : Int) := of_decide_eq_true (by first | (with_reducible assumption) | assumption)
            have q229 : x16_2 < (((rd_T83 l0 x9_1).f0).length : Int) := of_decide_eq_true (by first | (with_reducible assumption) | assumption)
            obtain ⟨ad229, e229, hx229_0, hx229_1⟩ := at_T25 HR227_0.out x16_2 p229 q229
            cases e229
            replace hx229_0 := (HB.out.cell (World.block_lt_of_cell? w _ hx229_0)).trans hx229_0
            replace hx229_1 := (HB.out.cell (World.block_lt_of_cell? w _ hx229_1)).trans hx229_1
            replace p229 := eq_true p229
            replace q229 := eq_true q229
            go_wp2_with (first | ((with_reducible refine gate_dst (N := 6) rfl ?_); refine box_event ?hg (N := 6) ?hd (cs := #[.int .i64 0, .int .i64 0]) (t := 25) ?hr ?_; (case hd => rfl); (case hg => rfl); (case hr => first | (go_simp; done) | (go_simp; rfl)); intro gb230 hg w16 hbox hb; have BK230 := Aside0.mk (hbox); have GW230 := Aside0.mk ((by rw [hg]; exact (below_size (z.bl HB)) : w.heap.size ≤ gb230)); have GE230 := Aside0.mk ((by rw [hg]; exact (below_size (z.bl HB)) : w.heap.size ≤ gb230)); replace HB := Aside0.mk (below_step (z.bl HB) hb); have NB228_230 := z.ht BK228 hg; have NB230_228 := z.hu BK228 hg; replace BK228 := z.bb BK228 hb; clear hb hbox hg; have hnb17 := NB230_228.out; have hnc17 := NB228_230.out; have hcz18_0 : w16.cell? ⟨gb230, 0, none⟩ = some (.int .i64 0) := (blk_cell BK230.out 0).trans rfl; have hcz18_1 : w16.cell? ⟨gb230, 1, none⟩ = some (.int .i64 0) := (blk_cell BK230.out 1).trans rfl; have hfz18_0 := blk_frozen BK230.out 0; have hfz18_1 := blk_frozen BK230.out 1) | ((with_reducible refine gate_callee (f := 197) rfl ?_); refine z.gl (some 21) rfl rfl Try.func197 (by kernel_rfl) rfl #[.agg #[.int .i64 ((rd_T25 ((rd_T83 l0 x9_1).f0) x16_2).f0), .int .i64 ((rd_T25 ((rd_T83 l0 x9_1).f0) x16_2).f1)]] rfl ?_; (with_reducible refine (impl_isNear.calls ((rd_T25 ((rd_T83 l0 x9_1).f0) x16_2).f0) ((rd_T25 ((rd_T83 l0 x9_1).f0) x16_2).f1) false _ A10.out).mono ?_); rintro e w19 ⟨rfl, hb⟩; refine ⟨_, rfl, ?_⟩; replace BK228 := Aside0.mk (blk_below (g := gb228) (o := .cells #[.slice (some ad229) ((rd_T83 l0 x9_1).f0).length c227_0, .bool ((rd_T83 l0 x9_1).f1)] 83 (0, 0)) (z.bf BK228) hb); replace BK230 := Aside0.mk (blk_below (g := gb230) (o := .cells #[.int .i64 ((rd_T25 ((rd_T83 l0 x9_1).f0) x16_2).f0), .int .i64 ((rd_T25 ((rd_T83 l0 x9_1).f0) x16_2).f1)] 25 (0, 0)) (by (with_reducible repeat (first | refine blk_drewN ?_ _ | refine blk_drew ?_ | refine blk_alloc ?_ _)); refine blk_put (cs := #[.int .i64 ((rd_T25 ((rd_T83 l0 x9_1).f0) x16_2).f0), .int .i64 0]) ?_ 1 _ rfl; (with_reducible repeat (first | refine blk_drewN ?_ _ | refine blk_drew ?_ | refine blk_alloc ?_ _)); refine blk_put (cs := #[.int .i64 0, .int .i64 0]) ?_ 0 _ rfl; (with_reducible repeat (first | refine blk_drewN ?_ _ | refine blk_drew ?_ | refine blk_alloc ?_ _)); exact BK230.out) hb); replace HB := Aside0.mk (below_step (z.bl HB) hb); (try clear hb); (try clear hb2); (try clear hk); (try clear hi)))
            go_ret
            exact ⟨by first | rfl | (simp [errW_none, errW_some] <;> rfl) | (simp [*, errW_none, errW_some] <;> rfl), z.bl HB⟩
          ·rw [if_neg c9] at H
           exact absurd H (by simp)
         ·rw [if_neg c8] at H
          exact absurd H (by simp)
        ·rw [if_neg c7] at H
         have c7b0 : decide (x16_2 < (((rd_T83 l0 x9_1).f0).length : Int)) = false := decide_eq_false c7
         clear c7
         have H' := Aside0.mk H
         clear H
         go_wp2
         go_roundg k2
         case measure => have := HK1.out; have := HK2.out; omega
         case rel => exact ⟨(wrap64 (x9_1 + 1)), (by first | rfl | (simp; done) | (simp [*]; done)), H', ⟨by have := HK1.out; have := HK2.out; omega⟩, ⟨z.bl HB⟩⟩
     ·rw [if_neg c4] at H
      exact absurd H (by simp)
    ·rw [if_neg c3] at H
     exact absurd H (by simp)
   ·rw [if_neg c2] at H
    have c2b0 : decide (x9_1 < (l0.length : Int)) = false := decide_eq_false c2
    clear c2
    obtain rfl := Option.some.inj H
    go_wp2
    go_ret
    exact ⟨by first | rfl | (simp [errW_none, errW_some] <;> rfl) | (simp [*, errW_none, errW_some] <;> rfl), z.bl HB⟩
end Go.Proofs.Ytdbgnoolokfafaa.HFnCover
