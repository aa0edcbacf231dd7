-- Printed by a program of this session over the kit's print; functions that the print does not take stand here by hand.
import Derived.Test.YtdbgnoolokfafaaHFnExactRectOfx0
import Derived.Test.YtdbgnoolokfafaaHFnExactRectOfx13
import Derived.Test.YtdbgnoolokfafaaHFnExactRectOfx15
import Derived.Test.YtdbgnoolokfafaaHFnExactRectOfx16
namespace Go.Proofs.Ytdbgnoolokfafaa.HFnExactRectOf
open Go.RowKit Go.Proofs.YtdbgnoolokfafaaW.PrintWords Go.Proofs.YtdbgnoolokfafaaW.PrintLast Go.Proofs.YtdbgnoolokfafaaW.PrintMore
attribute [local go_sem] max2_int min2_int max_two min_two max_three min_three max_four min_four   -- for this text's walks alone
set_option linter.unusedVariables false
set_option linter.unusedSimpArgs false

/-! ### impl_RectOf: function 57 -/
mutual
def impl_RectOf.j0 : Nat → Int → Int → Int → Int → Int → Bool → Option ((List (S25)) × Bool × Bool)
  | 0, _, _, _, _, _, _ => none
  | k + 1, x0, x1, x2, x3, x4, x35 => if x35 = true then (some (([] : List (S25)), false, false)) else (if (mn (mn x4 (wrap64 (Int.tdiv x2 2))) (wrap64 (Int.tdiv x3 2))) = 0 then ((impl_closedOf.f k (([(⟨x0, x1⟩ : S25), (⟨wrap64 (x0 + x2), x1⟩ : S25), (⟨wrap64 (x0 + x2), wrap64 (x1 + x3)⟩ : S25), (⟨x0, wrap64 (x1 + x3)⟩ : S25)] : List (S25)))).bind fun bt245 => (some (bt245.1, bt245.2.1, bt245.2.2))) else ((some (([(⟨wrap64 ((wrap64 (x0 + x2)) - (mn (mn x4 (wrap64 (Int.tdiv x2 2))) (wrap64 (Int.tdiv x3 2)))), wrap64 ((wrap64 (x1 + x3)) - (mn (mn x4 (wrap64 (Int.tdiv x2 2))) (wrap64 (Int.tdiv x3 2))))⟩ : S25), (⟨wrap64 (x0 + (mn (mn x4 (wrap64 (Int.tdiv x2 2))) (wrap64 (Int.tdiv x3 2)))), wrap64 ((wrap64 (x1 + x3)) - (mn (mn x4 (wrap64 (Int.tdiv x2 2))) (wrap64 (Int.tdiv x3 2))))⟩ : S25), (⟨wrap64 (x0 + (mn (mn x4 (wrap64 (Int.tdiv x2 2))) (wrap64 (Int.tdiv x3 2)))), wrap64 (x1 + (mn (mn x4 (wrap64 (Int.tdiv x2 2))) (wrap64 (Int.tdiv x3 2))))⟩ : S25), (⟨wrap64 ((wrap64 (x0 + x2)) - (mn (mn x4 (wrap64 (Int.tdiv x2 2))) (wrap64 (Int.tdiv x3 2)))), wrap64 (x1 + (mn (mn x4 (wrap64 (Int.tdiv x2 2))) (wrap64 (Int.tdiv x3 2))))⟩ : S25)] : List (S25)) : List (S25))).bind fun y253 => (impl_RectOf.l0 k (mn (mn x4 (wrap64 (Int.tdiv x2 2))) (wrap64 (Int.tdiv x3 2))) (([] : List (S25))) y253 (y253.length : Int) 0)))
def impl_RectOf.l0 : Nat → Int → List (S25) → List (S25) → Int → Int → Option ((List (S25)) × Bool × Bool)
  | 0, _, _, _, _, _ => none
  | k + 1, x4, x12, x106, x107, x108 => if x108 < x107 then (if 0 ≤ x108 then (if x108 < (x106.length : Int) then (impl_RectOf.l1 k x4 x12 x108 (wrap64 (8 * x108)) x106 x107 x108 ((rd_T25 x106 x108).f0) ((rd_T25 x106 x108).f1)) else (none)) else (none)) else ((impl_closedOf.f k x12).bind fun bt256 => (some (bt256.1, bt256.2.1, bt256.2.2)))
def impl_RectOf.l1 : Nat → Int → List (S25) → Int → Int → List (S25) → Int → Int → Int → Int → Option ((List (S25)) × Bool × Bool)
  | 0, _, _, _, _, _, _, _, _, _ => none
  | k + 1, x4, x12, x13, x15, x106, x107, x108, x263000, x263001 => if x15 ≤ (wrap64 ((wrap64 (8 * x13)) + 8)) then ((impl_onCircle.f k x263000 x263001 x4 x4 x15).bind fun bt263 => (if x12.length < 8796093022208 then (impl_RectOf.l1 k x4 (x12 ++ [(⟨bt263.1, bt263.2⟩ : S25)]) x13 (wrap64 (x15 + 1)) x106 x107 x108 x263000 x263001) else (none))) else (impl_RectOf.l0 k x4 x12 x106 x107 (wrap64 (x108 + 1)))
end
def impl_RectOf.f (k : Nat) (a0 : Int) (a1 : Int) (a2 : Int) (a3 : Int) (a4 : Int) : Option ((List (S25)) × Bool × Bool) := (impl_areFixed.f k (([a0, a1, a2, a3, a4] : List Int))).bind fun t241 => (if t241 = true then (if a2 < 0 then (impl_RectOf.j0 k a0 a1 a2 a3 a4 true) else (if a3 < 0 then (impl_RectOf.j0 k a0 a1 a2 a3 a4 true) else (impl_RectOf.j0 k a0 a1 a2 a3 a4 (decide (a4 < 0))))) else (impl_RectOf.j0 k a0 a1 a2 a3 a4 true))
theorem impl_RectOf.mono_l : ∀ k, (∀ y0 y1 y2 y3 y4 y5, LeO (impl_RectOf.j0 k y0 y1 y2 y3 y4 y5) (impl_RectOf.j0 (k + 1) y0 y1 y2 y3 y4 y5)) ∧ (∀ y0 y1 y2 y3 y4, LeO (impl_RectOf.l0 k y0 y1 y2 y3 y4) (impl_RectOf.l0 (k + 1) y0 y1 y2 y3 y4)) ∧ (∀ y0 y1 y2 y3 y4 y5 y6 y7 y8, LeO (impl_RectOf.l1 k y0 y1 y2 y3 y4 y5 y6 y7 y8) (impl_RectOf.l1 (k + 1) y0 y1 y2 y3 y4 y5 y6 y7 y8))
  | 0 => ⟨fun _ _ _ _ _ _ r h => by simp [impl_RectOf.j0] at h, fun _ _ _ _ _ r h => by simp [impl_RectOf.l0] at h, fun _ _ _ _ _ _ _ _ _ r h => by simp [impl_RectOf.l1] at h⟩
  | k + 1 => by
    obtain ⟨ih0, ih1, ih2⟩ := impl_RectOf.mono_l k
    refine ⟨?_, ?_, ?_⟩
    · intro y0 y1 y2 y3 y4 y5
      unfold impl_RectOf.j0
      repeat' first
      | (with_reducible exact ih0 _ _ _ _ _ _)
      | (with_reducible exact ih1 _ _ _ _ _)
      | (with_reducible exact ih2 _ _ _ _ _ _ _ _ _)
      | (with_reducible exact impl_areFixed.mono _ _)
      | (with_reducible exact impl_closedOf.mono _ _)
      | (with_reducible exact impl_onCircle.mono _ _ _ _ _ _)
      | (with_reducible exact LeO.refl _)
      | (with_reducible exact LeO.none _)
      | (with_reducible refine LeO.ite ?_ ?_)
      | (with_reducible refine LeO.bind ?_ (fun _ => ?_))
      | exact ih0 _ _ _ _ _ _
      | exact ih1 _ _ _ _ _
      | exact ih2 _ _ _ _ _ _ _ _ _
      | exact impl_areFixed.mono _ _
      | exact impl_closedOf.mono _ _
      | exact impl_onCircle.mono _ _ _ _ _ _
      | exact LeO.none _
      | refine LeO.ite ?_ ?_
      | refine LeO.bind ?_ (fun _ => ?_)
    · intro y0 y1 y2 y3 y4
      unfold impl_RectOf.l0
      repeat' first
      | (with_reducible exact ih0 _ _ _ _ _ _)
      | (with_reducible exact ih1 _ _ _ _ _)
      | (with_reducible exact ih2 _ _ _ _ _ _ _ _ _)
      | (with_reducible exact impl_areFixed.mono _ _)
      | (with_reducible exact impl_closedOf.mono _ _)
      | (with_reducible exact impl_onCircle.mono _ _ _ _ _ _)
      | (with_reducible exact LeO.refl _)
      | (with_reducible exact LeO.none _)
      | (with_reducible refine LeO.ite ?_ ?_)
      | (with_reducible refine LeO.bind ?_ (fun _ => ?_))
      | exact ih0 _ _ _ _ _ _
      | exact ih1 _ _ _ _ _
      | exact ih2 _ _ _ _ _ _ _ _ _
      | exact impl_areFixed.mono _ _
      | exact impl_closedOf.mono _ _
      | exact impl_onCircle.mono _ _ _ _ _ _
      | exact LeO.none _
      | refine LeO.ite ?_ ?_
      | refine LeO.bind ?_ (fun _ => ?_)
    · intro y0 y1 y2 y3 y4 y5 y6 y7 y8
      unfold impl_RectOf.l1
      repeat' first
      | (with_reducible exact ih0 _ _ _ _ _ _)
      | (with_reducible exact ih1 _ _ _ _ _)
      | (with_reducible exact ih2 _ _ _ _ _ _ _ _ _)
      | (with_reducible exact impl_areFixed.mono _ _)
      | (with_reducible exact impl_closedOf.mono _ _)
      | (with_reducible exact impl_onCircle.mono _ _ _ _ _ _)
      | (with_reducible exact LeO.refl _)
      | (with_reducible exact LeO.none _)
      | (with_reducible refine LeO.ite ?_ ?_)
      | (with_reducible refine LeO.bind ?_ (fun _ => ?_))
      | exact ih0 _ _ _ _ _ _
      | exact ih1 _ _ _ _ _
      | exact ih2 _ _ _ _ _ _ _ _ _
      | exact impl_areFixed.mono _ _
      | exact impl_closedOf.mono _ _
      | exact impl_onCircle.mono _ _ _ _ _ _
      | exact LeO.none _
      | refine LeO.ite ?_ ?_
      | refine LeO.bind ?_ (fun _ => ?_)
theorem impl_RectOf.mono : ∀ a0 a1 a2 a3 a4 k, LeO (impl_RectOf.f k a0 a1 a2 a3 a4) (impl_RectOf.f (k + 1) a0 a1 a2 a3 a4) := by
  intro a0 a1 a2 a3 a4 k
  obtain ⟨ih0, ih1, ih2⟩ := impl_RectOf.mono_l k
  unfold impl_RectOf.f
  repeat' first
      | (with_reducible exact ih0 _ _ _ _ _ _)
      | (with_reducible exact ih1 _ _ _ _ _)
      | (with_reducible exact ih2 _ _ _ _ _ _ _ _ _)
      | (with_reducible exact impl_areFixed.mono _ _)
      | (with_reducible exact impl_closedOf.mono _ _)
      | (with_reducible exact impl_onCircle.mono _ _ _ _ _ _)
      | (with_reducible exact LeO.refl _)
      | (with_reducible exact LeO.none _)
      | (with_reducible refine LeO.ite ?_ ?_)
      | (with_reducible refine LeO.bind ?_ (fun _ => ?_))
      | exact ih0 _ _ _ _ _ _
      | exact ih1 _ _ _ _ _
      | exact ih2 _ _ _ _ _ _ _ _ _
      | exact impl_areFixed.mono _ _
      | exact impl_closedOf.mono _ _
      | exact impl_onCircle.mono _ _ _ _ _ _
      | exact LeO.none _
      | refine LeO.ite ?_ ?_
      | refine LeO.bind ?_ (fun _ => ?_)
set_option maxHeartbeats 8000000 in
set_option maxRecDepth 100000 in
theorem impl_RectOf.calls (k : Nat) (a0 : Int) (a1 : Int) (a2 : Int) (a3 : Int) (a4 : Int) (r1 : List (S25)) (r2 : Bool) (r3 : Bool) (w : World) (h : impl_RectOf.f k a0 a1 a2 a3 a4 = some (r1, r2, r3)) :
    Calls Try.prog 57 #[.int .i64 a0, .int .i64 a1, .int .i64 a2, .int .i64 a3, .int .i64 a4] w fun e w' => ∃ v0_ : Value, e = .returned (.tuple #[.agg #[v0_, .bool r2], .bool r3]) ∧ Kd.R k25 25 w' w.heap.size (fun _ => True) v0_ r1 ∧ Below w.heap.size w w' := by
  have hu83 := Try.underlying83
  have hu25 := Try.underlying25
  have HB := Aside0.mk (Below.refl w.heap.size w)
  have H : ((impl_areFixed.f k (([a0, a1, a2, a3, a4] : List Int))).bind fun t241 => (if t241 = true then (if a2 < 0 then (impl_RectOf.j0 k a0 a1 a2 a3 a4 true) else (if a3 < 0 then (impl_RectOf.j0 k a0 a1 a2 a3 a4 true) else (impl_RectOf.j0 k a0 a1 a2 a3 a4 (decide (a4 < 0))))) else (impl_RectOf.j0 k a0 a1 a2 a3 a4 true))) = some (r1, r2, r3) := h
  clear h
  have HC6 := Aside0.mk H
  clear H
  go_enter Try.func57, Try.ntmps57
  go_upto_region 1 with (first | ((with_reducible refine gate_dst (N := 10) rfl ?_); refine box_event ?hg (N := 10) ?hd (cs := #[.slice none 0 0, .bool false]) (t := 83) ?hr ?_; (case hd => rfl); (case hg => rfl); (case hr => first | (go_simp; done) | (go_simp; rfl)); intro gb237 hg w7 hbox hb; have n0_ := Aside0.mk (below_step (by repeat (first | (with_reducible first | exact HB.out | apply below_alloc | apply pw_below_drewN | apply below_drew1) | exact HB.out)) hb); have n1_ := Aside0.mk (hbox); have n2_ := Aside0.mk ((by rw [hg]; exact (below_size (by repeat (first | (with_reducible first | exact HB.out | apply below_alloc | apply pw_below_drewN | apply below_drew1) | exact HB.out))) : w.heap.size ≤ gb237)); have n3_ := Aside0.mk ((by rw [hg]; exact (below_size (by repeat (first | (with_reducible first | exact HB.out | apply below_alloc | apply pw_below_drewN | apply below_drew1) | exact HB.out))) : w.heap.size ≤ gb237)); clear HB; have HB := n0_; have BK237 := n1_; have GW237 := n2_; have GE237 := n3_; clear n0_ n1_ n2_ n3_; clear hb hbox hg))
  (try simp only [Act.put, List.setIfInBounds_toArray, List.set_cons_zero, List.set_cons_succ])
  go_cut [35] (fun v35 wc => ∃ (kq : Nat) (x35_5 : Bool), v35 = .bool x35_5 ∧ Aside0 (impl_RectOf.j0 kq a0 a1 a2 a3 a4 x35_5 = some (r1, r2, r3)) ∧ Aside0 (kq ≤ k) ∧ Aside0 (wc.heap[gb237]? = some (.cells #[(.slice none 0 0), .bool false] 83 (0, 0))) ∧ Aside0 (Below w.heap.size w wc))
  case first =>
    have H := HC6.out
    clear HC6
    obtain ⟨y238, hy238⟩ : ∃ y_ : List Int, y_ = (([a0, a1, a2, a3, a4] : List Int)) := ⟨_, rfl⟩
    replace H : ((impl_areFixed.f k y238).bind fun t241 => (if t241 = true then (if a2 < 0 then (impl_RectOf.j0 k a0 a1 a2 a3 a4 true) else (if a3 < 0 then (impl_RectOf.j0 k a0 a1 a2 a3 a4 true) else (impl_RectOf.j0 k a0 a1 a2 a3 a4 (decide (a4 < 0))))) else (impl_RectOf.j0 k a0 a1 a2 a3 a4 true))) = some (r1, r2, r3) := by first | (rw [hy238]; with_reducible exact H) | (have H2_ := (Option.bind_some _ _).symm.trans H; rw [hy238]; with_reducible exact H2_) | (have H2_ := (Option.bind_some _ _).symm.trans H; with_reducible exact H2_) | with_reducible exact H | (rw [hy238]; exact H) | exact H
    have Ny238 := Aside0.mk hy238
    clear hy238
    replace H := Option.bind_eq_some_iff.mp H
    obtain ⟨t241, A80, H⟩ := H
    replace H : (if t241 = true then (if a2 < 0 then (impl_RectOf.j0 k a0 a1 a2 a3 a4 true) else (if a3 < 0 then (impl_RectOf.j0 k a0 a1 a2 a3 a4 true) else (impl_RectOf.j0 k a0 a1 a2 a3 a4 (decide (a4 < 0))))) else (impl_RectOf.j0 k a0 a1 a2 a3 a4 true)) = some (r1, r2, r3) := H
    have A8 := Aside0.mk A80
    clear A80
    by_cases c9 : t241 = true
    · subst c9
      have H1 : (if a2 < 0 then (impl_RectOf.j0 k a0 a1 a2 a3 a4 true) else (if a3 < 0 then (impl_RectOf.j0 k a0 a1 a2 a3 a4 true) else (impl_RectOf.j0 k a0 a1 a2 a3 a4 (decide (a4 < 0))))) = some (r1, r2, r3) := by rw [if_pos rfl] at H; exact H
      clear H
      have H := H1
      clear H1
      by_cases c10 : a2 < 0
      · rw [if_pos c10] at H
        have c10b0 : decide (a2 < 0) = true := decide_eq_true c10
        clear c10
        (first | rw [c10b0] | (simp only [i64_w, i32_w]; rw [c10b0]) | skip)
        have H' := Aside0.mk H
        clear H
        go_wp2_with (first | ((with_reducible refine gate_dst (N := 21) rfl ?_); refine Kd.R_lit (Kd.int .i64) _ 3 ?hg (N := 21) ?hd (xs := ([a0, a1, a2, a3, a4] : List Int)) (inner := [.int .i64 a0, .int .i64 a1, .int .i64 a2, .int .i64 a3, .int .i64 a4]) (ok := fun _ => True) (okp := fun _ => True) ?hr ?hp (fun _ hk => hk) trivial (Below.refl _ _) (Nat.le_refl _) (by simp) ?_; (case hd => rfl); (case hg => rfl); (case hr => first | (go_simp; done) | (go_simp; rfl)); (case hp => exact (Reps.one (show Kd.M (Kd.int .i64) _ _ _ a0 [.int .i64 a0] from rfl) (Reps.one (show Kd.M (Kd.int .i64) _ _ _ a1 [.int .i64 a1] from rfl) (Reps.one (show Kd.M (Kd.int .i64) _ _ _ a2 [.int .i64 a2] from rfl) (Reps.one (show Kd.M (Kd.int .i64) _ _ _ a3 [.int .i64 a3] from rfl) (Reps.one (show Kd.M (Kd.int .i64) _ _ _ a4 [.int .i64 a4] from rfl) (Reps.none _ _))))))); intro v239 w11 ho12 hb hg_ hnew_; clear hg_ hnew_; (first | rw [← Ny238.out] at ho12 | (simp only [Int.reduceToNat] at ho12; rw [← Ny238.out] at ho12)); have n0_ := Aside0.mk (Kd.R_lower ho12 (below_size (by repeat (first | (with_reducible first | exact HB.out | apply below_alloc | apply pw_below_drewN | apply below_drew1 | refine below_set ?_ GE237.out) | exact HB.out)))); have n1_ := Aside0.mk (blk_below (g := gb237) (o := .cells #[.slice none 0 0, .bool false] 83 (0, 0)) (by (with_reducible repeat (first | refine blk_drewN ?_ _ | refine blk_drew ?_ | refine blk_alloc ?_ _)); exact BK237.out) hb); have n2_ := Aside0.mk (below_step (by repeat (first | (with_reducible first | exact HB.out | apply below_alloc | apply pw_below_drewN | apply below_drew1 | refine below_set ?_ GE237.out) | exact HB.out)) hb); clear BK237; clear HB; have HO240 := n0_; have BK237 := n1_; have HB := n2_; clear n0_ n1_ n2_; clear hb ho12; obtain ⟨Ao13, co13, eo13⟩ := Kd.R_slice HO240.out; subst eo13) | ((with_reducible refine gate_callee (f := 94) rfl ?_); refine goesL_ (some 22) rfl rfl Try.func94 (by kernel_rfl) rfl #[.slice Ao13 y238.length co13] rfl (by (try simp only [List.map_toArray, List.map_cons, List.map_nil]); first | done | rfl | (simp only [List.length_drop, List.length_take]; rfl)) ?_; (with_reducible refine (impl_areFixed.calls k _ _ y238 true _ ?side1 ?side2 A8.out).mono ?_); (case side1 => repeat (first | exact (Kd.R_reads' HO240.out).2.2 | (with_reducible refine Kd.C_alloc ?_ _) | (with_reducible refine Kd.C_drewN ?_ _) | (with_reducible refine Kd.C_drew ?_))); (case side2 => exact (Kd.R_reads' HO240.out).2.1); rintro e w' ⟨rfl, ⟨nd, rfl⟩⟩; refine ⟨_, rfl, ?_⟩))
        go_meet
        case rel => exact ⟨_, (true), (by first | rfl | (simp; done) | (simp [*]; done)), H', ⟨by first | omega | exact Nat.le_refl _⟩, ⟨by (with_reducible repeat (first | refine blk_drewN ?_ _ | refine blk_drew ?_ | refine blk_alloc ?_ _)); exact BK237.out⟩, ⟨by repeat (first | (with_reducible first | exact HB.out | apply below_alloc | apply pw_below_drewN | apply below_drew1 | refine below_set ?_ GE237.out) | exact HB.out)⟩⟩
      · rw [if_neg c10] at H
        have c10b0 : decide (a2 < 0) = false := decide_eq_false c10
        clear c10
        (first | rw [c10b0] | (simp only [i64_w, i32_w]; rw [c10b0]) | skip)
        by_cases c14 : a3 < 0
        · rw [if_pos c14] at H
          have c14b0 : decide (a3 < 0) = true := decide_eq_true c14
          clear c14
          have H' := Aside0.mk H
          clear H
          go_wp2_with (first | ((with_reducible refine gate_dst (N := 21) rfl ?_); refine Kd.R_lit (Kd.int .i64) _ 3 ?hg (N := 21) ?hd (xs := ([a0, a1, a2, a3, a4] : List Int)) (inner := [.int .i64 a0, .int .i64 a1, .int .i64 a2, .int .i64 a3, .int .i64 a4]) (ok := fun _ => True) (okp := fun _ => True) ?hr ?hp (fun _ hk => hk) trivial (Below.refl _ _) (Nat.le_refl _) (by simp) ?_; (case hd => rfl); (case hg => rfl); (case hr => first | (go_simp; done) | (go_simp; rfl)); (case hp => exact (Reps.one (show Kd.M (Kd.int .i64) _ _ _ a0 [.int .i64 a0] from rfl) (Reps.one (show Kd.M (Kd.int .i64) _ _ _ a1 [.int .i64 a1] from rfl) (Reps.one (show Kd.M (Kd.int .i64) _ _ _ a2 [.int .i64 a2] from rfl) (Reps.one (show Kd.M (Kd.int .i64) _ _ _ a3 [.int .i64 a3] from rfl) (Reps.one (show Kd.M (Kd.int .i64) _ _ _ a4 [.int .i64 a4] from rfl) (Reps.none _ _))))))); intro v239 w15 ho16 hb hg_ hnew_; clear hg_ hnew_; (first | rw [← Ny238.out] at ho16 | (simp only [Int.reduceToNat] at ho16; rw [← Ny238.out] at ho16)); have n0_ := Aside0.mk (Kd.R_lower ho16 (below_size (by repeat (first | (with_reducible first | exact HB.out | apply below_alloc | apply pw_below_drewN | apply below_drew1 | refine below_set ?_ GE237.out) | exact HB.out)))); have n1_ := Aside0.mk (blk_below (g := gb237) (o := .cells #[.slice none 0 0, .bool false] 83 (0, 0)) (by (with_reducible repeat (first | refine blk_drewN ?_ _ | refine blk_drew ?_ | refine blk_alloc ?_ _)); exact BK237.out) hb); have n2_ := Aside0.mk (below_step (by repeat (first | (with_reducible first | exact HB.out | apply below_alloc | apply pw_below_drewN | apply below_drew1 | refine below_set ?_ GE237.out) | exact HB.out)) hb); clear BK237; clear HB; have HO240 := n0_; have BK237 := n1_; have HB := n2_; clear n0_ n1_ n2_; clear hb ho16; obtain ⟨Ao17, co17, eo17⟩ := Kd.R_slice HO240.out; subst eo17) | ((with_reducible refine gate_callee (f := 94) rfl ?_); refine goesL_ (some 22) rfl rfl Try.func94 (by kernel_rfl) rfl #[.slice Ao17 y238.length co17] rfl (by (try simp only [List.map_toArray, List.map_cons, List.map_nil]); first | done | rfl | (simp only [List.length_drop, List.length_take]; rfl)) ?_; (with_reducible refine (impl_areFixed.calls k _ _ y238 true _ ?side1 ?side2 A8.out).mono ?_); (case side1 => repeat (first | exact (Kd.R_reads' HO240.out).2.2 | (with_reducible refine Kd.C_alloc ?_ _) | (with_reducible refine Kd.C_drewN ?_ _) | (with_reducible refine Kd.C_drew ?_))); (case side2 => exact (Kd.R_reads' HO240.out).2.1); rintro e w' ⟨rfl, ⟨nd, rfl⟩⟩; refine ⟨_, rfl, ?_⟩))
          go_meet
          case rel => exact ⟨_, (true), (by first | rfl | (simp; done) | (simp [*]; done)), H', ⟨by first | omega | exact Nat.le_refl _⟩, ⟨by (with_reducible repeat (first | refine blk_drewN ?_ _ | refine blk_drew ?_ | refine blk_alloc ?_ _)); exact BK237.out⟩, ⟨by repeat (first | (with_reducible first | exact HB.out | apply below_alloc | apply pw_below_drewN | apply below_drew1 | refine below_set ?_ GE237.out) | exact HB.out)⟩⟩
        · rw [if_neg c14] at H
          have c14b0 : decide (a3 < 0) = false := decide_eq_false c14
          clear c14
          have H' := Aside0.mk H
          clear H
          go_wp2_with (first | ((with_reducible refine gate_dst (N := 21) rfl ?_); refine Kd.R_lit (Kd.int .i64) _ 3 ?hg (N := 21) ?hd (xs := ([a0, a1, a2, a3, a4] : List Int)) (inner := [.int .i64 a0, .int .i64 a1, .int .i64 a2, .int .i64 a3, .int .i64 a4]) (ok := fun _ => True) (okp := fun _ => True) ?hr ?hp (fun _ hk => hk) trivial (Below.refl _ _) (Nat.le_refl _) (by simp) ?_; (case hd => rfl); (case hg => rfl); (case hr => first | (go_simp; done) | (go_simp; rfl)); (case hp => exact (Reps.one (show Kd.M (Kd.int .i64) _ _ _ a0 [.int .i64 a0] from rfl) (Reps.one (show Kd.M (Kd.int .i64) _ _ _ a1 [.int .i64 a1] from rfl) (Reps.one (show Kd.M (Kd.int .i64) _ _ _ a2 [.int .i64 a2] from rfl) (Reps.one (show Kd.M (Kd.int .i64) _ _ _ a3 [.int .i64 a3] from rfl) (Reps.one (show Kd.M (Kd.int .i64) _ _ _ a4 [.int .i64 a4] from rfl) (Reps.none _ _))))))); intro v239 w18 ho19 hb hg_ hnew_; clear hg_ hnew_; (first | rw [← Ny238.out] at ho19 | (simp only [Int.reduceToNat] at ho19; rw [← Ny238.out] at ho19)); have n0_ := Aside0.mk (Kd.R_lower ho19 (below_size (by repeat (first | (with_reducible first | exact HB.out | apply below_alloc | apply pw_below_drewN | apply below_drew1 | refine below_set ?_ GE237.out) | exact HB.out)))); have n1_ := Aside0.mk (blk_below (g := gb237) (o := .cells #[.slice none 0 0, .bool false] 83 (0, 0)) (by (with_reducible repeat (first | refine blk_drewN ?_ _ | refine blk_drew ?_ | refine blk_alloc ?_ _)); exact BK237.out) hb); have n2_ := Aside0.mk (below_step (by repeat (first | (with_reducible first | exact HB.out | apply below_alloc | apply pw_below_drewN | apply below_drew1 | refine below_set ?_ GE237.out) | exact HB.out)) hb); clear BK237; clear HB; have HO240 := n0_; have BK237 := n1_; have HB := n2_; clear n0_ n1_ n2_; clear hb ho19; obtain ⟨Ao20, co20, eo20⟩ := Kd.R_slice HO240.out; subst eo20) | ((with_reducible refine gate_callee (f := 94) rfl ?_); refine goesL_ (some 22) rfl rfl Try.func94 (by kernel_rfl) rfl #[.slice Ao20 y238.length co20] rfl (by (try simp only [List.map_toArray, List.map_cons, List.map_nil]); first | done | rfl | (simp only [List.length_drop, List.length_take]; rfl)) ?_; (with_reducible refine (impl_areFixed.calls k _ _ y238 true _ ?side1 ?side2 A8.out).mono ?_); (case side1 => repeat (first | exact (Kd.R_reads' HO240.out).2.2 | (with_reducible refine Kd.C_alloc ?_ _) | (with_reducible refine Kd.C_drewN ?_ _) | (with_reducible refine Kd.C_drew ?_))); (case side2 => exact (Kd.R_reads' HO240.out).2.1); rintro e w' ⟨rfl, ⟨nd, rfl⟩⟩; refine ⟨_, rfl, ?_⟩))
          go_meet
          case rel => exact ⟨_, (decide (a4 < 0)), (by first | rfl | (simp; done) | (simp [*]; done)), H', ⟨by first | omega | exact Nat.le_refl _⟩, ⟨by (with_reducible repeat (first | refine blk_drewN ?_ _ | refine blk_drew ?_ | refine blk_alloc ?_ _)); exact BK237.out⟩, ⟨by repeat (first | (with_reducible first | exact HB.out | apply below_alloc | apply pw_below_drewN | apply below_drew1 | refine below_set ?_ GE237.out) | exact HB.out)⟩⟩
    · replace c9 := Bool.eq_false_iff.mpr c9
      subst c9
      have H1 : (impl_RectOf.j0 k a0 a1 a2 a3 a4 true) = some (r1, r2, r3) := by rw [if_neg (show ¬ (false = true) by decide)] at H; exact H
      clear H
      have H := H1
      clear H1
      have H' := Aside0.mk H
      clear H
      go_wp2_with (first | ((with_reducible refine gate_dst (N := 21) rfl ?_); refine Kd.R_lit (Kd.int .i64) _ 3 ?hg (N := 21) ?hd (xs := ([a0, a1, a2, a3, a4] : List Int)) (inner := [.int .i64 a0, .int .i64 a1, .int .i64 a2, .int .i64 a3, .int .i64 a4]) (ok := fun _ => True) (okp := fun _ => True) ?hr ?hp (fun _ hk => hk) trivial (Below.refl _ _) (Nat.le_refl _) (by simp) ?_; (case hd => rfl); (case hg => rfl); (case hr => first | (go_simp; done) | (go_simp; rfl)); (case hp => exact (Reps.one (show Kd.M (Kd.int .i64) _ _ _ a0 [.int .i64 a0] from rfl) (Reps.one (show Kd.M (Kd.int .i64) _ _ _ a1 [.int .i64 a1] from rfl) (Reps.one (show Kd.M (Kd.int .i64) _ _ _ a2 [.int .i64 a2] from rfl) (Reps.one (show Kd.M (Kd.int .i64) _ _ _ a3 [.int .i64 a3] from rfl) (Reps.one (show Kd.M (Kd.int .i64) _ _ _ a4 [.int .i64 a4] from rfl) (Reps.none _ _))))))); intro v239 w21 ho22 hb hg_ hnew_; clear hg_ hnew_; (first | rw [← Ny238.out] at ho22 | (simp only [Int.reduceToNat] at ho22; rw [← Ny238.out] at ho22)); have n0_ := Aside0.mk (Kd.R_lower ho22 (below_size (by repeat (first | (with_reducible first | exact HB.out | apply below_alloc | apply pw_below_drewN | apply below_drew1 | refine below_set ?_ GE237.out) | exact HB.out)))); have n1_ := Aside0.mk (blk_below (g := gb237) (o := .cells #[.slice none 0 0, .bool false] 83 (0, 0)) (by (with_reducible repeat (first | refine blk_drewN ?_ _ | refine blk_drew ?_ | refine blk_alloc ?_ _)); exact BK237.out) hb); have n2_ := Aside0.mk (below_step (by repeat (first | (with_reducible first | exact HB.out | apply below_alloc | apply pw_below_drewN | apply below_drew1 | refine below_set ?_ GE237.out) | exact HB.out)) hb); clear BK237; clear HB; have HO240 := n0_; have BK237 := n1_; have HB := n2_; clear n0_ n1_ n2_; clear hb ho22; obtain ⟨Ao23, co23, eo23⟩ := Kd.R_slice HO240.out; subst eo23) | ((with_reducible refine gate_callee (f := 94) rfl ?_); refine goesL_ (some 22) rfl rfl Try.func94 (by kernel_rfl) rfl #[.slice Ao23 y238.length co23] rfl (by (try simp only [List.map_toArray, List.map_cons, List.map_nil]); first | done | rfl | (simp only [List.length_drop, List.length_take]; rfl)) ?_; (with_reducible refine (impl_areFixed.calls k _ _ y238 false _ ?side1 ?side2 A8.out).mono ?_); (case side1 => repeat (first | exact (Kd.R_reads' HO240.out).2.2 | (with_reducible refine Kd.C_alloc ?_ _) | (with_reducible refine Kd.C_drewN ?_ _) | (with_reducible refine Kd.C_drew ?_))); (case side2 => exact (Kd.R_reads' HO240.out).2.1); rintro e w' ⟨rfl, ⟨nd, rfl⟩⟩; refine ⟨_, rfl, ?_⟩))
      go_meet
      case rel => exact ⟨_, (true), (by first | rfl | (simp; done) | (simp [*]; done)), H', ⟨by first | omega | exact Nat.le_refl _⟩, ⟨by (with_reducible repeat (first | refine blk_drewN ?_ _ | refine blk_drew ?_ | refine blk_alloc ?_ _)); exact BK237.out⟩, ⟨by repeat (first | (with_reducible first | exact HB.out | apply below_alloc | apply pw_below_drewN | apply below_drew1 | refine below_set ?_ GE237.out) | exact HB.out)⟩⟩
  case rest =>
    clear HC6
    try clear c1
    try clear p2
    try clear c5
    try clear c9
    try clear c10
    try clear c10b0
    try clear c14
    try clear c14b0
    obtain ⟨kq, x35_5, rfl, HA, HJ5, BK237, HB⟩ := hcut
    cases kq with
    | zero => exact absurd HA.out (by simp [impl_RectOf.j0])
    | succ kj5 =>
      have H := HA.out
      clear HA
      simp only [impl_RectOf.j0] at H
      by_cases c24 : x35_5 = true
      · subst c24
        have H1 : (some (([] : List (S25)), false, false)) = some (r1, r2, r3) := by rw [if_pos rfl] at H; exact H
        clear H
        have H := H1
        clear H1
        simp only [Option.some.injEq, Prod.mk.injEq] at H
        obtain ⟨rfl, rfl, rfl⟩ := H
        have hcz25_0 : wc.cell? ⟨gb237, 0, none⟩ = some (.slice none 0 0) := (blk_cell BK237.out 0).trans rfl
        have hcz25_1 : wc.cell? ⟨gb237, 1, none⟩ = some (.bool false) := (blk_cell BK237.out 1).trans rfl
        have hfz25_0 := blk_frozen BK237.out 0
        have hfz25_1 := blk_frozen BK237.out 1
        go_wp2
        refine bodyPost_ret (results_ct rfl _ _ gb237 83 #[.slice none 0 0, .bool false] (0, 0) _ rfl (by (with_reducible repeat (first | refine blk_drewN ?_ _ | refine blk_drew ?_ | refine blk_alloc ?_ _)); refine blk_put (cs := #[.slice none 0 0, .bool false]) ?_ 1 _ rfl; (with_reducible repeat (first | refine blk_drewN ?_ _ | refine blk_drew ?_ | refine blk_alloc ?_ _)); refine blk_put (cs := #[.slice none 0 0, .bool false]) ?_ 0 _ rfl; (with_reducible repeat (first | refine blk_drewN ?_ _ | refine blk_drew ?_ | refine blk_alloc ?_ _)); exact BK237.out) Try.underlying83 rfl (by kernel_rfl)) rfl ?_
        exact ⟨_, by first | rfl | (simp [errW_none, errW_some] <;> rfl) | (simp [*, errW_none, errW_some] <;> rfl), by first | exact Kd.R_nil _ _ _ _ _ | exact Kd.N_nil _ _ _ _ _ | exact Kd.V_nil _ _ _ _ _ | exact Kd.Q_nil _ _ _ _ _ | exact Kd.S_nil _ _ _ _ _, by repeat (first | (with_reducible first | exact HB.out | apply below_alloc | apply pw_below_drewN | apply below_drew1 | refine below_set ?_ GE237.out) | exact HB.out)⟩
      · replace c24 := Bool.eq_false_iff.mpr c24
        subst c24
        have H1 : (if (mn (mn a4 (wrap64 (Int.tdiv a2 2))) (wrap64 (Int.tdiv a3 2))) = 0 then ((impl_closedOf.f kj5 (([(⟨a0, a1⟩ : S25), (⟨wrap64 (a0 + a2), a1⟩ : S25), (⟨wrap64 (a0 + a2), wrap64 (a1 + a3)⟩ : S25), (⟨a0, wrap64 (a1 + a3)⟩ : S25)] : List (S25)))).bind fun bt245 => (some (bt245.1, bt245.2.1, bt245.2.2))) else ((some (([(⟨wrap64 ((wrap64 (a0 + a2)) - (mn (mn a4 (wrap64 (Int.tdiv a2 2))) (wrap64 (Int.tdiv a3 2)))), wrap64 ((wrap64 (a1 + a3)) - (mn (mn a4 (wrap64 (Int.tdiv a2 2))) (wrap64 (Int.tdiv a3 2))))⟩ : S25), (⟨wrap64 (a0 + (mn (mn a4 (wrap64 (Int.tdiv a2 2))) (wrap64 (Int.tdiv a3 2)))), wrap64 ((wrap64 (a1 + a3)) - (mn (mn a4 (wrap64 (Int.tdiv a2 2))) (wrap64 (Int.tdiv a3 2))))⟩ : S25), (⟨wrap64 (a0 + (mn (mn a4 (wrap64 (Int.tdiv a2 2))) (wrap64 (Int.tdiv a3 2)))), wrap64 (a1 + (mn (mn a4 (wrap64 (Int.tdiv a2 2))) (wrap64 (Int.tdiv a3 2))))⟩ : S25), (⟨wrap64 ((wrap64 (a0 + a2)) - (mn (mn a4 (wrap64 (Int.tdiv a2 2))) (wrap64 (Int.tdiv a3 2)))), wrap64 (a1 + (mn (mn a4 (wrap64 (Int.tdiv a2 2))) (wrap64 (Int.tdiv a3 2))))⟩ : S25)] : List (S25)) : List (S25))).bind fun y253 => (impl_RectOf.l0 kj5 (mn (mn a4 (wrap64 (Int.tdiv a2 2))) (wrap64 (Int.tdiv a3 2))) (([] : List (S25))) y253 (y253.length : Int) 0))) = some (r1, r2, r3) := by rw [if_neg (show ¬ (false = true) by decide)] at H; exact H
        clear H
        have H := H1
        clear H1
        obtain ⟨ji26, hji26⟩ : ∃ j_ : Int, (mn a4 (wrap64 (Int.tdiv a2 2))) = j_ := ⟨_, rfl⟩
        replace H : (if (mn (ji26) (wrap64 (Int.tdiv a3 2))) = 0 then ((impl_closedOf.f kj5 (([(⟨a0, a1⟩ : S25), (⟨wrap64 (a0 + a2), a1⟩ : S25), (⟨wrap64 (a0 + a2), wrap64 (a1 + a3)⟩ : S25), (⟨a0, wrap64 (a1 + a3)⟩ : S25)] : List (S25)))).bind fun bt245 => (some (bt245.1, bt245.2.1, bt245.2.2))) else ((some (([(⟨wrap64 ((wrap64 (a0 + a2)) - (mn (ji26) (wrap64 (Int.tdiv a3 2)))), wrap64 ((wrap64 (a1 + a3)) - (mn (ji26) (wrap64 (Int.tdiv a3 2))))⟩ : S25), (⟨wrap64 (a0 + (mn (ji26) (wrap64 (Int.tdiv a3 2)))), wrap64 ((wrap64 (a1 + a3)) - (mn (ji26) (wrap64 (Int.tdiv a3 2))))⟩ : S25), (⟨wrap64 (a0 + (mn (ji26) (wrap64 (Int.tdiv a3 2)))), wrap64 (a1 + (mn (ji26) (wrap64 (Int.tdiv a3 2))))⟩ : S25), (⟨wrap64 ((wrap64 (a0 + a2)) - (mn (ji26) (wrap64 (Int.tdiv a3 2)))), wrap64 (a1 + (mn (ji26) (wrap64 (Int.tdiv a3 2))))⟩ : S25)] : List (S25)) : List (S25))).bind fun y253 => (impl_RectOf.l0 kj5 (mn (ji26) (wrap64 (Int.tdiv a3 2))) (([] : List (S25))) y253 (y253.length : Int) 0))) = some (r1, r2, r3) := by first | (rw [hji26] at H; exact H) | (simp only [hji26] at H ⊢; exact H)
        have hji26_ : (if (wrap64 (Int.tdiv a2 2)) < a4 then (wrap64 (Int.tdiv a2 2)) else a4) = ji26 := hji26
        obtain ⟨ji27, hji27⟩ : ∃ j_ : Int, (mn (ji26) (wrap64 (Int.tdiv a3 2))) = j_ := ⟨_, rfl⟩
        replace H : (if (ji27) = 0 then ((impl_closedOf.f kj5 (([(⟨a0, a1⟩ : S25), (⟨wrap64 (a0 + a2), a1⟩ : S25), (⟨wrap64 (a0 + a2), wrap64 (a1 + a3)⟩ : S25), (⟨a0, wrap64 (a1 + a3)⟩ : S25)] : List (S25)))).bind fun bt245 => (some (bt245.1, bt245.2.1, bt245.2.2))) else ((some (([(⟨wrap64 ((wrap64 (a0 + a2)) - (ji27)), wrap64 ((wrap64 (a1 + a3)) - (ji27))⟩ : S25), (⟨wrap64 (a0 + (ji27)), wrap64 ((wrap64 (a1 + a3)) - (ji27))⟩ : S25), (⟨wrap64 (a0 + (ji27)), wrap64 (a1 + (ji27))⟩ : S25), (⟨wrap64 ((wrap64 (a0 + a2)) - (ji27)), wrap64 (a1 + (ji27))⟩ : S25)] : List (S25)) : List (S25))).bind fun y253 => (impl_RectOf.l0 kj5 ji27 (([] : List (S25))) y253 (y253.length : Int) 0))) = some (r1, r2, r3) := by first | (rw [hji27] at H; exact H) | (simp only [hji27] at H ⊢; exact H)
        have hji27_ : (if (wrap64 (Int.tdiv a3 2)) < (ji26) then (wrap64 (Int.tdiv a3 2)) else (ji26)) = ji27 := hji27
        by_cases c28 : (ji27) = 0
        · rw [if_pos c28] at H
          have c28b0 : ((ji27) == 0) = true := beq_iff_eq.mpr c28
          have c28b1 : ((ji27) != 0) = false := bne_eq_false_iff_eq.mpr c28
          clear c28
          obtain ⟨y242, hy242⟩ : ∃ y_ : List (S25), y_ = (([(⟨a0, a1⟩ : S25), (⟨wrap64 (a0 + a2), a1⟩ : S25), (⟨wrap64 (a0 + a2), wrap64 (a1 + a3)⟩ : S25), (⟨a0, wrap64 (a1 + a3)⟩ : S25)] : List (S25))) := ⟨_, rfl⟩
          replace H : ((impl_closedOf.f kj5 y242).bind fun bt245 => (some (bt245.1, bt245.2.1, bt245.2.2))) = some (r1, r2, r3) := by first | (rw [hy242]; with_reducible exact H) | (have H2_ := (Option.bind_some _ _).symm.trans H; rw [hy242]; with_reducible exact H2_) | (have H2_ := (Option.bind_some _ _).symm.trans H; with_reducible exact H2_) | with_reducible exact H | (rw [hy242]; exact H) | exact H
          have Ny242 := Aside0.mk hy242
          clear hy242
          replace H := Option.bind_eq_some_iff.mp H
          obtain ⟨⟨t245, t248, t249⟩, A290, H⟩ := H
          replace H : (some (t245, t248, t249)) = some (r1, r2, r3) := H
          have A29 := Aside0.mk A290
          clear A290
          simp only [Option.some.injEq, Prod.mk.injEq] at H
          obtain ⟨rfl, rfl, rfl⟩ := H
          go_wp2_with (first | ((with_reducible refine gate_dst (N := 65) rfl ?_); refine Kd.R_lit k25 _ 25 ?hg (N := 65) ?hd (xs := ([(⟨a0, a1⟩ : S25), (⟨wrap64 (a0 + a2), a1⟩ : S25), (⟨wrap64 (a0 + a2), wrap64 (a1 + a3)⟩ : S25), (⟨a0, wrap64 (a1 + a3)⟩ : S25)] : List (S25))) (inner := [.int .i64 a0, .int .i64 a1, .int .i64 (wrap64 (a0 + a2)), .int .i64 a1, .int .i64 (wrap64 (a0 + a2)), .int .i64 (wrap64 (a1 + a3)), .int .i64 a0, .int .i64 (wrap64 (a1 + a3))]) (ok := fun _ => True) (okp := fun _ => True) ?hr ?hp (fun _ hk => hk) trivial (Below.refl _ _) (Nat.le_refl _) (by simp) ?_; (case hd => rfl); (case hg => rfl); (case hr => first | (go_simp; done) | (go_simp; rfl)); (case hp => exact (Reps.c2 (show Kd.M k25 _ _ _ (⟨a0, a1⟩ : S25) [.int .i64 a0, .int .i64 a1] from (k25_mkM _ _ _ (⟨a0, a1⟩ : S25) )) (Reps.c2 (show Kd.M k25 _ _ _ (⟨wrap64 (a0 + a2), a1⟩ : S25) [.int .i64 (wrap64 (a0 + a2)), .int .i64 a1] from (k25_mkM _ _ _ (⟨wrap64 (a0 + a2), a1⟩ : S25) )) (Reps.c2 (show Kd.M k25 _ _ _ (⟨wrap64 (a0 + a2), wrap64 (a1 + a3)⟩ : S25) [.int .i64 (wrap64 (a0 + a2)), .int .i64 (wrap64 (a1 + a3))] from (k25_mkM _ _ _ (⟨wrap64 (a0 + a2), wrap64 (a1 + a3)⟩ : S25) )) (Reps.c2 (show Kd.M k25 _ _ _ (⟨a0, wrap64 (a1 + a3)⟩ : S25) [.int .i64 a0, .int .i64 (wrap64 (a1 + a3))] from (k25_mkM _ _ _ (⟨a0, wrap64 (a1 + a3)⟩ : S25) )) (Reps.none _ _)))))); intro v243 w30 ho31 hb hg_ hnew_; clear hg_ hnew_; (first | rw [← Ny242.out] at ho31 | (simp only [Int.reduceToNat] at ho31; rw [← Ny242.out] at ho31)); have n0_ := Aside0.mk (Kd.R_lower ho31 (below_size (by repeat (first | (with_reducible first | exact HB.out | apply below_alloc | apply pw_below_drewN | apply below_drew1 | refine below_set ?_ GE237.out) | exact HB.out)))); have n1_ := Aside0.mk (blk_below (g := gb237) (o := .cells #[.slice none 0 0, .bool false] 83 (0, 0)) (by (with_reducible repeat (first | refine blk_drewN ?_ _ | refine blk_drew ?_ | refine blk_alloc ?_ _)); exact BK237.out) hb); have n2_ := Aside0.mk (below_step (by repeat (first | (with_reducible first | exact HB.out | apply below_alloc | apply pw_below_drewN | apply below_drew1 | refine below_set ?_ GE237.out) | exact HB.out)) hb); clear BK237; clear HB; have HO244 := n0_; have BK237 := n1_; have HB := n2_; clear n0_ n1_ n2_; clear hb ho31; obtain ⟨Ao32, co32, eo32⟩ := Kd.R_slice HO244.out; subst eo32) | ((with_reducible refine gate_callee (f := 137) rfl ?_); refine goesL_ (some 66) rfl rfl Try.func137 (by kernel_rfl) rfl #[.slice Ao32 y242.length co32] rfl (by (try simp only [List.map_toArray, List.map_cons, List.map_nil]); first | done | rfl | (simp only [List.length_drop, List.length_take]; rfl)) ?_; (with_reducible refine (impl_closedOf.calls kj5 (fun k_ => some k_ = (.slice Ao32 y242.length co32 : Value).ownBlock) (.slice Ao32 y242.length co32) y242 t245 t248 t249 w _ ?side1 ?side2 A29.out).mono ?_); (case side1 => repeat (first | (with_reducible first | exact HB.out | apply below_alloc | apply pw_below_drewN | apply below_drew1 | refine below_set ?_ GE237.out) | exact HB.out)); (case side2 => exact Kd.R_tight rfl HO244.out); rintro e w33 ⟨v246, rfl, ho0, hb, hkp⟩; refine ⟨_, rfl, ?_⟩; have n0_ := Aside0.mk (blk_kept (by (with_reducible repeat (first | refine blk_drewN ?_ _ | refine blk_drew ?_ | refine blk_alloc ?_ _)); exact BK237.out) hkp (fun hs_ => (fun e_ => (Kd.R_ne HO244.out BK237.out (by decide)) e_) hs_)); have n1_ := Aside0.mk (Kd.R_mono (ok' := fun k_ => True) ho0 (fun k_ hk_ => trivial)); have n2_ := Aside0.mk (hb); clear BK237; clear HB; clear HO244; have BK237 := n0_; have HO247 := n1_; have HB := n2_; clear n0_ n1_ n2_; (try clear hb); (try clear hkp); (try clear ho0); obtain ⟨Ao34, co34, eo34⟩ := Kd.R_slice HO247.out; subst eo34; have hcz35_0 : w33.cell? ⟨gb237, 0, none⟩ = some (.slice none 0 0) := (blk_cell BK237.out 0).trans rfl; have hcz35_1 : w33.cell? ⟨gb237, 1, none⟩ = some (.bool false) := (blk_cell BK237.out 1).trans rfl; have hfz35_0 := blk_frozen BK237.out 0; have hfz35_1 := blk_frozen BK237.out 1))
          refine bodyPost_ret (results_ct rfl _ _ gb237 83 #[.slice Ao34 t245.length co34, .bool t248] (0, 0) _ rfl (by (with_reducible repeat (first | refine blk_drewN ?_ _ | refine blk_drew ?_ | refine blk_alloc ?_ _)); refine blk_put (cs := #[.slice Ao34 t245.length co34, .bool false]) ?_ 1 _ rfl; (with_reducible repeat (first | refine blk_drewN ?_ _ | refine blk_drew ?_ | refine blk_alloc ?_ _)); refine blk_put (cs := #[.slice none 0 0, .bool false]) ?_ 0 _ rfl; (with_reducible repeat (first | refine blk_drewN ?_ _ | refine blk_drew ?_ | refine blk_alloc ?_ _)); exact BK237.out) Try.underlying83 rfl (by kernel_rfl)) rfl ?_
          exact ⟨_, by first | rfl | (simp [errW_none, errW_some] <;> rfl) | (simp only [← hji26, ← hji27]; first | rfl | (simp [errW_none, errW_some] <;> rfl)) | (simp [*, errW_none, errW_some] <;> rfl), by (with_reducible repeat (first | apply Kd.R_alloc | apply Kd.R_drewN | apply Kd.R_drew)); exact Kd.R_mono (Kd.R_far (p := ⟨gb237, 1, none⟩) (Kd.R_far (p := ⟨gb237, 0, none⟩) (Kd.R_types HO247.out BK237.out (by decide)) (fun _ hk => hk.2) (.slice Ao34 t245.length co34)) (fun _ hk => hk.2) (.bool t248)) (fun _ hk => trivial), by repeat (first | (with_reducible first | exact HB.out | apply below_alloc | apply pw_below_drewN | apply below_drew1 | refine below_set ?_ GE237.out) | exact HB.out)⟩
        · rw [if_neg c28] at H
          have c28b0 : ((ji27) == 0) = false := beq_eq_false_iff_ne.mpr c28
          have c28b1 : ((ji27) != 0) = true := bne_iff_ne.mpr c28
          obtain ⟨y250, hy250⟩ : ∃ y_ : List (S25), y_ = (([] : List (S25))) := ⟨_, rfl⟩
          replace H : ((some (([(⟨wrap64 ((wrap64 (a0 + a2)) - (ji27)), wrap64 ((wrap64 (a1 + a3)) - (ji27))⟩ : S25), (⟨wrap64 (a0 + (ji27)), wrap64 ((wrap64 (a1 + a3)) - (ji27))⟩ : S25), (⟨wrap64 (a0 + (ji27)), wrap64 (a1 + (ji27))⟩ : S25), (⟨wrap64 ((wrap64 (a0 + a2)) - (ji27)), wrap64 (a1 + (ji27))⟩ : S25)] : List (S25)) : List (S25))).bind fun y253 => (impl_RectOf.l0 kj5 ji27 y250 y253 (y253.length : Int) 0)) = some (r1, r2, r3) := by first | (rw [hy250]; with_reducible exact H) | (have H2_ := (Option.bind_some _ _).symm.trans H; rw [hy250]; with_reducible exact H2_) | (have H2_ := (Option.bind_some _ _).symm.trans H; with_reducible exact H2_) | with_reducible exact H | (rw [hy250]; exact H) | exact H
          have Ny250 := Aside0.mk hy250
          clear hy250
          obtain ⟨y253, hy253⟩ : ∃ y_ : List (S25), y_ = (([(⟨wrap64 ((wrap64 (a0 + a2)) - (ji27)), wrap64 ((wrap64 (a1 + a3)) - (ji27))⟩ : S25), (⟨wrap64 (a0 + (ji27)), wrap64 ((wrap64 (a1 + a3)) - (ji27))⟩ : S25), (⟨wrap64 (a0 + (ji27)), wrap64 (a1 + (ji27))⟩ : S25), (⟨wrap64 ((wrap64 (a0 + a2)) - (ji27)), wrap64 (a1 + (ji27))⟩ : S25)] : List (S25))) := ⟨_, rfl⟩
          replace H : (impl_RectOf.l0 kj5 ji27 y250 y253 (y253.length : Int) 0) = some (r1, r2, r3) := by first | (rw [hy253]; with_reducible exact H) | (have H2_ := (Option.bind_some _ _).symm.trans H; rw [hy253]; with_reducible exact H2_) | (have H2_ := (Option.bind_some _ _).symm.trans H; with_reducible exact H2_) | with_reducible exact H | (rw [hy253]; exact H) | exact H
          have Ny253 := Aside0.mk hy253
          clear hy253
          have H' := Aside0.mk H
          clear H
          go_wp2_with (first | ((with_reducible refine gate_dst (N := 69) rfl ?_); refine Kd.R_lit k25 _ 25 ?hg (N := 69) ?hd (xs := ([] : List (S25))) (inner := []) (ok := fun _ => True) (okp := fun _ => True) ?hr ?hp (fun _ hk => hk) trivial (Below.refl _ _) (Nat.le_refl _) (by simp) ?_; (case hd => rfl); (case hg => rfl); (case hr => first | (go_simp; done) | (go_simp; rfl)); (case hp => exact (Reps.none _ _)); intro v251 w36 ho37 hb hg_ hnew_; clear hg_ hnew_; (first | rw [← Ny250.out] at ho37 | (simp only [Int.reduceToNat] at ho37; rw [← Ny250.out] at ho37)); have n0_ := Aside0.mk (Kd.R_lower ho37 (below_size (by repeat (first | (with_reducible first | exact HB.out | apply below_alloc | apply pw_below_drewN | apply below_drew1 | refine below_set ?_ GE237.out) | exact HB.out)))); have n1_ := Aside0.mk (blk_below (g := gb237) (o := .cells #[.slice none 0 0, .bool false] 83 (0, 0)) (by (with_reducible repeat (first | refine blk_drewN ?_ _ | refine blk_drew ?_ | refine blk_alloc ?_ _)); exact BK237.out) hb); have n2_ := Aside0.mk (below_step (by repeat (first | (with_reducible first | exact HB.out | apply below_alloc | apply pw_below_drewN | apply below_drew1 | refine below_set ?_ GE237.out) | exact HB.out)) hb); clear BK237; clear HB; have HO252 := n0_; have BK237 := n1_; have HB := n2_; clear n0_ n1_ n2_; clear hb ho37) | ((with_reducible refine gate_dst (N := 106) rfl ?_); refine Kd.R_lit k25 _ 25 ?hg (N := 106) ?hd (xs := ([(⟨wrap64 ((wrap64 (a0 + a2)) - (ji27)), wrap64 ((wrap64 (a1 + a3)) - (ji27))⟩ : S25), (⟨wrap64 (a0 + (ji27)), wrap64 ((wrap64 (a1 + a3)) - (ji27))⟩ : S25), (⟨wrap64 (a0 + (ji27)), wrap64 (a1 + (ji27))⟩ : S25), (⟨wrap64 ((wrap64 (a0 + a2)) - (ji27)), wrap64 (a1 + (ji27))⟩ : S25)] : List (S25))) (inner := [.int .i64 (wrap64 ((wrap64 (a0 + a2)) - (ji27))), .int .i64 (wrap64 ((wrap64 (a1 + a3)) - (ji27))), .int .i64 (wrap64 (a0 + (ji27))), .int .i64 (wrap64 ((wrap64 (a1 + a3)) - (ji27))), .int .i64 (wrap64 (a0 + (ji27))), .int .i64 (wrap64 (a1 + (ji27))), .int .i64 (wrap64 ((wrap64 (a0 + a2)) - (ji27))), .int .i64 (wrap64 (a1 + (ji27)))]) (ok := fun _ => True) (okp := fun _ => True) ?hr ?hp (fun _ hk => hk) trivial (Below.refl _ _) (Nat.le_refl _) (by simp) ?_; (case hd => rfl); (case hg => rfl); (case hr => first | (go_simp; done) | (go_simp; rfl)); (case hp => exact (Reps.c2 (show Kd.M k25 _ _ _ (⟨wrap64 ((wrap64 (a0 + a2)) - (ji27)), wrap64 ((wrap64 (a1 + a3)) - (ji27))⟩ : S25) [.int .i64 (wrap64 ((wrap64 (a0 + a2)) - (ji27))), .int .i64 (wrap64 ((wrap64 (a1 + a3)) - (ji27)))] from (k25_mkM _ _ _ (⟨wrap64 ((wrap64 (a0 + a2)) - (ji27)), wrap64 ((wrap64 (a1 + a3)) - (ji27))⟩ : S25) )) (Reps.c2 (show Kd.M k25 _ _ _ (⟨wrap64 (a0 + (ji27)), wrap64 ((wrap64 (a1 + a3)) - (ji27))⟩ : S25) [.int .i64 (wrap64 (a0 + (ji27))), .int .i64 (wrap64 ((wrap64 (a1 + a3)) - (ji27)))] from (k25_mkM _ _ _ (⟨wrap64 (a0 + (ji27)), wrap64 ((wrap64 (a1 + a3)) - (ji27))⟩ : S25) )) (Reps.c2 (show Kd.M k25 _ _ _ (⟨wrap64 (a0 + (ji27)), wrap64 (a1 + (ji27))⟩ : S25) [.int .i64 (wrap64 (a0 + (ji27))), .int .i64 (wrap64 (a1 + (ji27)))] from (k25_mkM _ _ _ (⟨wrap64 (a0 + (ji27)), wrap64 (a1 + (ji27))⟩ : S25) )) (Reps.c2 (show Kd.M k25 _ _ _ (⟨wrap64 ((wrap64 (a0 + a2)) - (ji27)), wrap64 (a1 + (ji27))⟩ : S25) [.int .i64 (wrap64 ((wrap64 (a0 + a2)) - (ji27))), .int .i64 (wrap64 (a1 + (ji27)))] from (k25_mkM _ _ _ (⟨wrap64 ((wrap64 (a0 + a2)) - (ji27)), wrap64 (a1 + (ji27))⟩ : S25) )) (Reps.none _ _)))))); intro v254 w38 ho39 hb hg_ hnew_; clear hg_ hnew_; (first | rw [← Ny253.out] at ho39 | (simp only [Int.reduceToNat] at ho39; rw [← Ny253.out] at ho39)); have n0_ := Aside0.mk (Kd.R_elder' (by (with_reducible repeat (first | apply Kd.R_alloc | apply Kd.R_drewN | apply Kd.R_drew)); exact HO252.out) (Kd.R_base ho39) hb); have n1_ := Aside0.mk (Kd.R_lower (Kd.R_new' ho39 (Kd.R_lt (by (with_reducible repeat (first | apply Kd.R_alloc | apply Kd.R_drewN | apply Kd.R_drew)); exact HO252.out))) (below_size (by repeat (first | (with_reducible first | exact HB.out | apply below_alloc | apply pw_below_drewN | apply below_drew1 | refine below_set ?_ GE237.out) | exact HB.out)))); have n2_ := Aside0.mk (blk_below (g := gb237) (o := .cells #[.slice none 0 0, .bool false] 83 (0, 0)) (by (with_reducible repeat (first | refine blk_drewN ?_ _ | refine blk_drew ?_ | refine blk_alloc ?_ _)); exact BK237.out) hb); have n3_ := Aside0.mk (below_step (by repeat (first | (with_reducible first | exact HB.out | apply below_alloc | apply pw_below_drewN | apply below_drew1 | refine below_set ?_ GE237.out) | exact HB.out)) hb); clear HO252; clear BK237; clear HB; have HO252 := n0_; have HO255 := n1_; have BK237 := n2_; have HB := n3_; clear n0_ n1_ n2_ n3_; clear hb ho39; obtain ⟨Ao40, co40, eo40⟩ := Kd.R_slice HO255.out; subst eo40))
          go_loopg [12, 108] kj5 (fun kq v12 v108 w' => ∃ (x12_2 : List (S25)) (x108_2 : Int), v108 = .int .i64 x108_2 ∧ Aside0 (impl_RectOf.l0 kq ji27 x12_2 y253 (y253.length : Int) x108_2 = some (r1, r2, r3)) ∧ Aside0 (kq ≤ kj5) ∧ Aside0 (Kd.R k25 25 w' w.heap.size (fun k_ => some k_ ≠ ((.slice Ao40 y253.length co40) : Value).ownBlock) v12 x12_2) ∧ Aside0 (Kd.R k25 25 w' w.heap.size (fun k_ => some k_ ≠ (v12 : Value).ownBlock) (.slice Ao40 y253.length co40) y253) ∧ Aside0 (w'.heap[gb237]? = some (.cells #[(.slice none 0 0), .bool false] 83 (0, 0))) ∧ Aside0 (Below w.heap.size w w'))
          case atStart => exact ⟨(y250), (0), (by first | rfl | (simp; done) | (simp [*]; done)), H', ⟨Nat.le_refl _⟩, ⟨by (with_reducible repeat (first | apply Kd.R_alloc | apply Kd.R_drewN | apply Kd.R_drew)); exact Kd.R_mono HO252.out (fun _ hk => hk.2)⟩, ⟨by (with_reducible repeat (first | apply Kd.R_alloc | apply Kd.R_drewN | apply Kd.R_drew)); exact Kd.R_mono HO255.out (fun _ hk => hk.2)⟩, ⟨by (with_reducible repeat (first | refine blk_drewN ?_ _ | refine blk_drew ?_ | refine blk_alloc ?_ _)); exact BK237.out⟩, ⟨by repeat (first | (with_reducible first | exact HB.out | apply below_alloc | apply pw_below_drewN | apply below_drew1 | refine below_set ?_ GE237.out) | exact HB.out)⟩⟩
          case round =>
            clear H'
            try clear c1
            try clear c2
            try clear p2
            try clear c5
            try clear p6
            try clear c9
            try clear c10
            try clear c10b0
            try clear c13
            try clear c14
            try clear c14b0
            try clear c24
            try clear c28
            try clear c28b0
            try clear c28b1
            try clear hcz25_0
            try clear hcz25_1
            try clear hcz35_0
            try clear hcz35_1
            try clear hfz25_0
            try clear hfz25_1
            try clear hfz35_0
            try clear hfz35_1
            try clear p2
            obtain ⟨x12_2, x108_2, rfl, HA, HK2, HO_12, HO_106, BK237, HB⟩ := hrel
            cases gk with
            | zero => exact absurd HA.out (by simp [impl_RectOf.l0])
            | succ k2 =>
              have H := HA.out
              clear HA
              simp only [impl_RectOf.l0] at H
              by_cases c41 : x108_2 < (y253.length : Int)
              · rw [if_pos c41] at H
                have c41b0 : decide (x108_2 < (y253.length : Int)) = true := decide_eq_true c41
                clear c41
                by_cases c42 : 0 ≤ x108_2
                · rw [if_pos c42] at H
                  have c42b0 : decide (0 ≤ x108_2) = true := decide_eq_true c42
                  clear c42
                  by_cases c43 : x108_2 < (y253.length : Int)
                  · rw [if_pos c43] at H
                    have c43b0 : decide (x108_2 < (y253.length : Int)) = true := decide_eq_true c43
                    clear c43
                    have H' := Aside0.mk H
                    clear H
                    have p261 : 0 ≤ (x108_2 : Int) := of_decide_eq_true (by first | (with_reducible assumption) | assumption)
                    have q261 : x108_2 < (y253.length : Int) := of_decide_eq_true (by first | (with_reducible assumption) | assumption)
                    obtain ⟨ad261, e261, hx261_0, hx261_1⟩ := at_T25 (Kd.R_reads' HO_106.out).2.2 x108_2 p261 q261
                    cases e261
                    replace p261 := eq_true p261
                    replace q261 := eq_true q261
                    go_wp2_with (first | ((with_reducible refine gate_dst (N := 14) rfl ?_); refine box_event ?hg (N := 14) ?hd (cs := #[.int .i64 0, .int .i64 0]) (t := 25) ?hr ?_; (case hd => rfl); (case hg => rfl); (case hr => first | (go_simp; done) | (go_simp; rfl)); intro gb262 hg w44 hbox hb; have n0_ := Aside0.mk (Kd.R_below (Kd.R_elderB (by (with_reducible repeat (first | apply Kd.R_alloc | apply Kd.R_drewN | apply Kd.R_drew)); exact HO_12.out) gb262 (Nat.le_of_eq hg.symm)) hb); have n1_ := Aside0.mk (Kd.R_below (Kd.R_elderB (by (with_reducible repeat (first | apply Kd.R_alloc | apply Kd.R_drewN | apply Kd.R_drew)); exact HO_106.out) gb262 (Nat.le_of_eq hg.symm)) hb); have n2_ := Aside0.mk (blk_below (g := gb237) (o := .cells #[.slice none 0 0, .bool false] 83 (0, 0)) (by (with_reducible repeat (first | refine blk_drewN ?_ _ | refine blk_drew ?_ | refine blk_alloc ?_ _)); exact BK237.out) hb); have n3_ := Aside0.mk (below_step (by repeat (first | (with_reducible first | exact HB.out | apply below_alloc | apply pw_below_drewN | apply below_drew1 | refine below_set ?_ GE237.out) | exact HB.out)) hb); have n4_ := Aside0.mk (hbox); have n5_ := Aside0.mk ((by rw [hg]; exact (below_size (by repeat (first | (with_reducible first | exact HB.out | apply below_alloc | apply pw_below_drewN | apply below_drew1 | refine below_set ?_ GE237.out) | exact HB.out))) : w.heap.size ≤ gb262)); have n6_ := Aside0.mk ((by rw [hg]; exact (below_size (by repeat (first | (with_reducible first | exact HB.out | apply below_alloc | apply pw_below_drewN | apply below_drew1 | refine below_set ?_ GE237.out) | exact HB.out))) : w.heap.size ≤ gb262)); have n7_ := Aside0.mk ((by rw [hg]; exact Nat.ne_of_lt (blk_lt (g := gb237) (o := .cells #[.slice none 0 0, .bool false] 83 (0, 0)) (by (with_reducible repeat (first | refine blk_drewN ?_ _ | refine blk_drew ?_ | refine blk_alloc ?_ _)); exact BK237.out)) : gb237 ≠ gb262)); have n8_ := Aside0.mk ((by rw [hg]; exact Nat.ne_of_gt (blk_lt (g := gb237) (o := .cells #[.slice none 0 0, .bool false] 83 (0, 0)) (by (with_reducible repeat (first | refine blk_drewN ?_ _ | refine blk_drew ?_ | refine blk_alloc ?_ _)); exact BK237.out)) : gb262 ≠ gb237)); clear HO_12; clear HO_106; clear BK237; clear HB; have HO_12 := n0_; have HO_106 := n1_; have BK237 := n2_; have HB := n3_; have BK262 := n4_; have GW262 := n5_; have GE262 := n6_; have NB237_262 := n7_; have NB262_237 := n8_; clear n0_ n1_ n2_ n3_ n4_ n5_ n6_ n7_ n8_; clear hb hbox hg; have hnb45 := NB262_237.out; have hnc45 := NB237_262.out; have hcz46_0 : w44.cell? ⟨gb262, 0, none⟩ = some (.int .i64 0) := (blk_cell BK262.out 0).trans rfl; have hcz46_1 : w44.cell? ⟨gb262, 1, none⟩ = some (.int .i64 0) := (blk_cell BK262.out 1).trans rfl; have hfz46_0 := blk_frozen BK262.out 0; have hfz46_1 := blk_frozen BK262.out 1))
                    go_loopg [12, 15] k2 (fun kq v12 v15 w' => ∃ (x12_3 : List (S25)) (x15_3 : Int), v15 = .int .i64 x15_3 ∧ Aside0 (impl_RectOf.l1 kq ji27 x12_3 x108_2 x15_3 y253 (y253.length : Int) x108_2 ((rd_T25 y253 x108_2).f0) ((rd_T25 y253 x108_2).f1) = some (r1, r2, r3)) ∧ Aside0 (kq ≤ k2) ∧ Aside0 (Kd.R k25 25 w' w.heap.size (fun k_ => some k_ ≠ ((.slice (some ad261) y253.length co40) : Value).ownBlock ∧ k_ ≠ gb262) v12 x12_3) ∧ Aside0 (Kd.R k25 25 w' w.heap.size (fun k_ => some k_ ≠ (v12 : Value).ownBlock ∧ k_ ≠ gb262) (.slice (some ad261) y253.length co40) y253) ∧ Aside0 (w'.heap[gb237]? = some (.cells #[(.slice none 0 0), .bool false] 83 (0, 0))) ∧ Aside0 (w'.heap[gb262]? = some (.cells #[.int .i64 ((rd_T25 y253 x108_2).f0), .int .i64 ((rd_T25 y253 x108_2).f1)] 25 (0, 0))) ∧ Aside0 (Below w.heap.size w w'))
                    case atStart => exact ⟨(x12_2), (wrap64 (8 * x108_2)), (by first | rfl | (simp; done) | (simp [*]; done)), H', ⟨Nat.le_refl _⟩, ⟨by (with_reducible repeat (first | apply Kd.R_alloc | apply Kd.R_drewN | apply Kd.R_drew)); exact Kd.R_mono (Kd.R_far (p := ⟨gb262, 1, none⟩) (Kd.R_far (p := ⟨gb262, 0, none⟩) (Kd.R_mono HO_12.out (fun k_ hk => (⟨hk, hk.2⟩ : _ ∧ k_ ≠ gb262))) (fun _ hk => hk.2) (.int .i64 ((rd_T25 y253 x108_2).f0))) (fun _ hk => hk.2) (.int .i64 ((rd_T25 y253 x108_2).f1))) (fun _ hk => ⟨hk.1.1, hk.1.2⟩)⟩, ⟨by (with_reducible repeat (first | apply Kd.R_alloc | apply Kd.R_drewN | apply Kd.R_drew)); exact Kd.R_mono (Kd.R_far (p := ⟨gb262, 1, none⟩) (Kd.R_far (p := ⟨gb262, 0, none⟩) (Kd.R_mono HO_106.out (fun k_ hk => (⟨hk, hk.2⟩ : _ ∧ k_ ≠ gb262))) (fun _ hk => hk.2) (.int .i64 ((rd_T25 y253 x108_2).f0))) (fun _ hk => hk.2) (.int .i64 ((rd_T25 y253 x108_2).f1))) (fun _ hk => ⟨hk.1.1, hk.1.2⟩)⟩, ⟨by (with_reducible repeat (first | refine blk_drewN ?_ _ | refine blk_drew ?_ | refine blk_alloc ?_ _)); refine blk_far ?_ NB237_262.out _; (with_reducible repeat (first | refine blk_drewN ?_ _ | refine blk_drew ?_ | refine blk_alloc ?_ _)); refine blk_far ?_ NB237_262.out _; (with_reducible repeat (first | refine blk_drewN ?_ _ | refine blk_drew ?_ | refine blk_alloc ?_ _)); exact BK237.out⟩, ⟨by (with_reducible repeat (first | refine blk_drewN ?_ _ | refine blk_drew ?_ | refine blk_alloc ?_ _)); refine blk_put (cs := #[.int .i64 ((rd_T25 y253 x108_2).f0), .int .i64 0]) ?_ 1 _ rfl; (with_reducible repeat (first | refine blk_drewN ?_ _ | refine blk_drew ?_ | refine blk_alloc ?_ _)); refine blk_put (cs := #[.int .i64 0, .int .i64 0]) ?_ 0 _ rfl; (with_reducible repeat (first | refine blk_drewN ?_ _ | refine blk_drew ?_ | refine blk_alloc ?_ _)); exact BK262.out⟩, ⟨by repeat (first | (with_reducible first | exact HB.out | apply below_alloc | apply pw_below_drewN | apply below_drew1 | refine below_set ?_ GE237.out | refine below_set ?_ GE262.out) | exact HB.out)⟩⟩
                    case round =>
                      clear H'
                      try clear c1
                      try clear c2
                      try clear p2
                      try clear q2
                      try clear hx2
                      try clear c4
                      try clear c5
                      try clear p6
                      try clear c9
                      try clear c10
                      try clear c10b0
                      try clear c13
                      try clear c14
                      try clear c14b0
                      try clear c24
                      try clear p26
                      try clear q26
                      try clear hx26
                      try clear c28
                      try clear c28b0
                      try clear c28b1
                      try clear c41
                      try clear c41b0
                      try clear c42
                      try clear c42b0
                      try clear c43
                      try clear c43b0
                      try clear c45
                      try clear hcz25_0
                      try clear hcz25_1
                      try clear hcz35_0
                      try clear hcz35_1
                      try clear hcz46_0
                      try clear hcz46_1
                      try clear hfz25_0
                      try clear hfz25_1
                      try clear hfz35_0
                      try clear hfz35_1
                      try clear hfz46_0
                      try clear hfz46_1
                      try clear hx261_0
                      try clear hx261_1
                      try clear p2
                      try clear p261
                      try clear p6
                      try clear q261
                      obtain ⟨x12_3, x15_3, rfl, HA, HK3, HO_12, HO_106, BK237, BK262, HB⟩ := hrel
                      cases gk with
                      | zero => exact absurd HA.out (by simp [impl_RectOf.l1])
                      | succ k3 =>
                        have H := HA.out
                        clear HA
                        simp only [impl_RectOf.l1] at H
                        by_cases c47 : x15_3 ≤ (wrap64 ((wrap64 (8 * x108_2)) + 8))
                        · rw [if_pos c47] at H
                          have c47b0 : decide (x15_3 ≤ (wrap64 ((wrap64 (8 * x108_2)) + 8))) = true := decide_eq_true c47
                          clear c47
                          replace H := Option.bind_eq_some_iff.mp H
                          obtain ⟨⟨t263, t264⟩, A480, H⟩ := H
                          replace H : (if x12_3.length < 8796093022208 then (impl_RectOf.l1 k3 ji27 (x12_3 ++ [(⟨t263, t264⟩ : S25)]) x108_2 (wrap64 (x15_3 + 1)) y253 (y253.length : Int) x108_2 ((rd_T25 y253 x108_2).f0) ((rd_T25 y253 x108_2).f1)) else (none)) = some (r1, r2, r3) := H
                          have A48 := Aside0.mk A480
                          clear A480
                          by_cases c49 : x12_3.length < 8796093022208
                          · rw [if_pos c49] at H
                            have LMc49 := Aside0.mk c49
                            clear c49
                            obtain ⟨y265, hy265⟩ : ∃ y_ : List (S25), y_ = (x12_3 ++ [(⟨t263, t264⟩ : S25)]) := ⟨_, rfl⟩
                            replace H : (impl_RectOf.l1 k3 ji27 y265 x108_2 (wrap64 (x15_3 + 1)) y253 (y253.length : Int) x108_2 ((rd_T25 y253 x108_2).f0) ((rd_T25 y253 x108_2).f1)) = some (r1, r2, r3) := by first | (rw [hy265]; with_reducible exact H) | (have H2_ := (Option.bind_some _ _).symm.trans H; rw [hy265]; with_reducible exact H2_) | (have H2_ := (Option.bind_some _ _).symm.trans H; with_reducible exact H2_) | with_reducible exact H | (rw [hy265]; exact H) | exact H
                            have Ny265 := Aside0.mk hy265
                            clear hy265
                            have H' := Aside0.mk H
                            clear H
                            have hnb50 := NB262_237.out
                            have hnc50 := NB237_262.out
                            have hcz51_0 : wr.cell? ⟨gb262, 0, none⟩ = some (.int .i64 ((rd_T25 y253 x108_2).f0)) := (blk_cell BK262.out 0).trans rfl
                            have hcz51_1 : wr.cell? ⟨gb262, 1, none⟩ = some (.int .i64 ((rd_T25 y253 x108_2).f1)) := (blk_cell BK262.out 1).trans rfl
                            have hfz51_0 := blk_frozen BK262.out 0
                            have hfz51_1 := blk_frozen BK262.out 1
                            go_wp2_with (first | ((with_reducible refine gate_callee (f := 136) rfl ?_); refine goesL_ (some 130) rfl rfl Try.func136 (by kernel_rfl) rfl #[.int .i64 ((rd_T25 y253 x108_2).f0), .int .i64 ((rd_T25 y253 x108_2).f1), .int .i64 ji27, .int .i64 ji27, .int .i64 x15_3] rfl (by (try simp only [List.map_toArray, List.map_cons, List.map_nil]); first | done | (simp only [hji27]; rfl) | rfl | (simp only [List.length_drop, List.length_take]; rfl)) ?_; (with_reducible refine (impl_onCircle.calls k3 ((rd_T25 y253 x108_2).f0) ((rd_T25 y253 x108_2).f1) ji27 ji27 x15_3 t263 t264 _ A48.out).mono ?_); rintro e w52 ⟨rfl, hb⟩; refine ⟨_, rfl, ?_⟩; have n0_ := Aside0.mk (Kd.R_below (by (with_reducible repeat (first | apply Kd.R_alloc | apply Kd.R_drewN | apply Kd.R_drew)); exact HO_12.out) hb); have n1_ := Aside0.mk (Kd.R_below (by (with_reducible repeat (first | apply Kd.R_alloc | apply Kd.R_drewN | apply Kd.R_drew)); exact HO_106.out) hb); have n2_ := Aside0.mk (blk_below (g := gb237) (o := .cells #[.slice none 0 0, .bool false] 83 (0, 0)) (by (with_reducible repeat (first | refine blk_drewN ?_ _ | refine blk_drew ?_ | refine blk_alloc ?_ _)); exact BK237.out) hb); have n3_ := Aside0.mk (blk_below (g := gb262) (o := .cells #[.int .i64 ((rd_T25 y253 x108_2).f0), .int .i64 ((rd_T25 y253 x108_2).f1)] 25 (0, 0)) (by (with_reducible repeat (first | refine blk_drewN ?_ _ | refine blk_drew ?_ | refine blk_alloc ?_ _)); exact BK262.out) hb); have n4_ := Aside0.mk (below_step (by repeat (first | (with_reducible first | exact HB.out | apply below_alloc | apply pw_below_drewN | apply below_drew1 | refine below_set ?_ GE237.out | refine below_set ?_ GE262.out) | exact HB.out)) hb); clear HO_12; clear HO_106; clear BK237; clear BK262; clear HB; have HO_12 := n0_; have HO_106 := n1_; have BK237 := n2_; have BK262 := n3_; have HB := n4_; clear n0_ n1_ n2_ n3_ n4_; (try clear hb); (try clear hb2); (try clear hk); (try clear hi)) | ((with_reducible refine gate_builtin (b := .append) (xs := #[.tmp 122, .tmp 131]) rfl ?_); at_builtin; refine Kd.R_append k25 (w0 := w) w.heap.size rfl (.tmp 122) (.tmp 131) 28 25 (.agg #[(.int .i64 0), (.int .i64 0)]) 16 rfl Try.underlying28 info25 rfl (by decide) (by omega) u12 x12_3 (⟨t263, t264⟩ : S25) [.int .i64 t263, .int .i64 t264] (fun k_ => some k_ ≠ (.slice (some ad261) y253.length co40 : Value).ownBlock ∧ k_ ≠ gb262) (fun _ => False) rfl rfl ?aP (fun _ hk => hk.elim) ?aF ?aO ?aB ?aS ?aL ?_; (case aP => exact k25_mkM _ _ _ (⟨t263, t264⟩ : S25)); (case aB => exact (by repeat (first | (with_reducible first | exact HB.out | apply below_alloc | apply pw_below_drewN | apply below_drew1 | refine below_set ?_ GE237.out | refine below_set ?_ GE262.out) | exact HB.out))); (case aF => exact (fun k_ hk => ⟨Kd.fresh' (Kd.R_lt (by (with_reducible repeat (first | apply Kd.R_alloc | apply Kd.R_drewN | apply Kd.R_drew)); exact HO_106.out)) k_ hk, Kd.freshB (g := gb262) (o := .cells #[.int .i64 ((rd_T25 y253 x108_2).f0), .int .i64 ((rd_T25 y253 x108_2).f1)] 25 (0, 0)) (by (with_reducible repeat (first | refine blk_drewN ?_ _ | refine blk_drew ?_ | refine blk_alloc ?_ _)); exact BK262.out) k_ hk⟩)); (case aO => exact (by (with_reducible repeat (first | apply Kd.R_alloc | apply Kd.R_drewN | apply Kd.R_drew)); exact HO_12.out)); (case aS => exact (below_size (by repeat (first | (with_reducible first | exact HB.out | apply below_alloc | apply pw_below_drewN | apply below_drew1 | refine below_set ?_ GE237.out | refine below_set ?_ GE262.out) | exact HB.out)))); (case aL => have := LMc49.out; omega); intro v266 w53 ho hb hg hat; rw [← Ny265.out] at ho; have n0_ := Aside0.mk (Kd.R_after (ok := (fun k_ => k_ ≠ gb262)) (by (with_reducible repeat (first | apply Kd.R_alloc | apply Kd.R_drewN | apply Kd.R_drew)); exact Kd.R_mono HO_106.out (fun _ hk => ⟨hk.2, hk.1⟩)) hg hat); have n1_ := Aside0.mk (blk_grown (g := gb237) (o := .cells #[.slice none 0 0, .bool false] 83 (0, 0)) (by (with_reducible repeat (first | refine blk_drewN ?_ _ | refine blk_drew ?_ | refine blk_alloc ?_ _)); exact BK237.out) hg (Kd.R_ne HO_12.out BK237.out (by decide))); have n2_ := Aside0.mk (blk_grown (g := gb262) (o := .cells #[.int .i64 ((rd_T25 y253 x108_2).f0), .int .i64 ((rd_T25 y253 x108_2).f1)] 25 (0, 0)) (by (with_reducible repeat (first | refine blk_drewN ?_ _ | refine blk_drew ?_ | refine blk_alloc ?_ _)); exact BK262.out) hg (Kd.R_away HO_12.out (fun _ hk => hk.2))); have n3_ := Aside0.mk (hb); have n4_ := Aside0.mk (ho); clear HO_106; clear BK237; clear BK262; clear HB; clear HO_12; have HO_106 := n0_; have BK237 := n1_; have BK262 := n2_; have HB := n3_; have HO267 := n4_; clear n0_ n1_ n2_ n3_ n4_; clear ho hb hg hat))
                            go_roundg k3
                            case measure => have := HJ5.out; have := HK2.out; have := HK3.out; omega
                            case rel => exact ⟨(y265), (wrap64 (x15_3 + 1)), (by first | rfl | (simp; done) | (simp [*]; done)), H', ⟨by have := HJ5.out; have := HK2.out; have := HK3.out; omega⟩, ⟨by (with_reducible repeat (first | apply Kd.R_alloc | apply Kd.R_drewN | apply Kd.R_drew)); exact HO267.out⟩, ⟨by (with_reducible repeat (first | apply Kd.R_alloc | apply Kd.R_drewN | apply Kd.R_drew)); exact Kd.R_mono HO_106.out (fun _ hk => ⟨hk.2, hk.1⟩)⟩, ⟨by (with_reducible repeat (first | refine blk_drewN ?_ _ | refine blk_drew ?_ | refine blk_alloc ?_ _)); exact BK237.out⟩, ⟨by (with_reducible repeat (first | refine blk_drewN ?_ _ | refine blk_drew ?_ | refine blk_alloc ?_ _)); exact BK262.out⟩, ⟨by repeat (first | (with_reducible first | exact HB.out | apply below_alloc | apply pw_below_drewN | apply below_drew1 | refine below_set ?_ GE237.out | refine below_set ?_ GE262.out) | exact HB.out)⟩⟩
                          · rw [if_neg c49] at H
                            exact absurd H (by simp)
                        · rw [if_neg c47] at H
                          have c47b0 : decide (x15_3 ≤ (wrap64 ((wrap64 (8 * x108_2)) + 8))) = false := decide_eq_false c47
                          clear c47
                          have H' := Aside0.mk H
                          clear H
                          go_wp2
                          go_roundg k3
                          case measure => have := HJ5.out; have := HK2.out; have := HK3.out; omega
                          case rel => exact ⟨(x12_3), (wrap64 (x108_2 + 1)), (by first | rfl | (simp; done) | (simp [*]; done)), H', ⟨by have := HJ5.out; have := HK2.out; have := HK3.out; omega⟩, ⟨by (with_reducible repeat (first | apply Kd.R_alloc | apply Kd.R_drewN | apply Kd.R_drew)); exact Kd.R_mono HO_12.out (fun _ hk => hk.1)⟩, ⟨by (with_reducible repeat (first | apply Kd.R_alloc | apply Kd.R_drewN | apply Kd.R_drew)); exact Kd.R_mono HO_106.out (fun _ hk => hk.1)⟩, ⟨by (with_reducible repeat (first | refine blk_drewN ?_ _ | refine blk_drew ?_ | refine blk_alloc ?_ _)); exact BK237.out⟩, ⟨by repeat (first | (with_reducible first | exact HB.out | apply below_alloc | apply pw_below_drewN | apply below_drew1 | refine below_set ?_ GE237.out | refine below_set ?_ GE262.out) | exact HB.out)⟩⟩
                  · rw [if_neg c43] at H
                    exact absurd H (by simp)
                · rw [if_neg c42] at H
                  exact absurd H (by simp)
              · rw [if_neg c41] at H
                have c41b0 : decide (x108_2 < (y253.length : Int)) = false := decide_eq_false c41
                clear c41
                replace H := Option.bind_eq_some_iff.mp H
                obtain ⟨⟨t256, t259, t260⟩, A540, H⟩ := H
                replace H : (some (t256, t259, t260)) = some (r1, r2, r3) := H
                have A54 := Aside0.mk A540
                clear A540
                simp only [Option.some.injEq, Prod.mk.injEq] at H
                obtain ⟨rfl, rfl, rfl⟩ := H
                obtain ⟨Ao55, co55, eo55⟩ := Kd.R_slice HO_12.out
                subst eo55
                go_wp2_with (first | ((with_reducible refine gate_callee (f := 137) rfl ?_); refine goesL_ (some 135) rfl rfl Try.func137 (by kernel_rfl) rfl #[.slice Ao55 x12_2.length co55] rfl (by (try simp only [List.map_toArray, List.map_cons, List.map_nil]); first | done | rfl | (simp only [List.length_drop, List.length_take]; rfl)) ?_; (with_reducible refine (impl_closedOf.calls k2 (fun k_ => some k_ = (.slice Ao55 x12_2.length co55 : Value).ownBlock) (.slice Ao55 x12_2.length co55) x12_2 t256 t259 t260 w _ ?side1 ?side2 A54.out).mono ?_); (case side1 => repeat (first | (with_reducible first | exact HB.out | apply below_alloc | apply pw_below_drewN | apply below_drew1 | refine below_set ?_ GE237.out) | exact HB.out)); (case side2 => exact Kd.R_tight rfl HO_12.out); rintro e w56 ⟨v257, rfl, ho0, hb, hkp⟩; refine ⟨_, rfl, ?_⟩; have n0_ := Aside0.mk (Kd.R_mono (ok' := fun k_ => some k_ ≠ (v257 : Value).ownBlock) (Kd.R_keptB (HO_106.out) hkp (fun k_ hk_ hs_ => (hk_) hs_)) (fun k_ hk_ => fun e_ => Or.elim (ho0.1 k_ e_.symm) (fun hs_ => hk_.2.1 hs_) (fun hn_ => Nat.not_le.2 hk_.2.2 hn_))); have n1_ := Aside0.mk (blk_kept (by (with_reducible repeat (first | refine blk_drewN ?_ _ | refine blk_drew ?_ | refine blk_alloc ?_ _)); exact BK237.out) hkp (fun hs_ => (fun e_ => (Kd.R_ne HO_12.out BK237.out (by decide)) e_) hs_)); have n2_ := Aside0.mk (Kd.R_mono (ok' := fun k_ => some k_ ≠ (.slice Ao40 y253.length co40 : Value).ownBlock) ho0 (fun k_ hk_ => Or.elim hk_ (fun hs_ => fun e_ => (((HO_106.out).1 k_ e_.symm)) hs_) (fun hn_ => (Kd.fresh' (Kd.R_lt (by (with_reducible repeat (first | apply Kd.R_alloc | apply Kd.R_drewN | apply Kd.R_drew)); exact HO_106.out)) k_ hn_)))); have n3_ := Aside0.mk (hb); clear HO_106; clear BK237; clear HB; clear HO_12; have HO_106 := n0_; have BK237 := n1_; have HO258 := n2_; have HB := n3_; clear n0_ n1_ n2_ n3_; (try clear hb); (try clear hkp); (try clear ho0); obtain ⟨Ao57, co57, eo57⟩ := Kd.R_slice HO258.out; subst eo57; have hcz58_0 : w56.cell? ⟨gb237, 0, none⟩ = some (.slice none 0 0) := (blk_cell BK237.out 0).trans rfl; have hcz58_1 : w56.cell? ⟨gb237, 1, none⟩ = some (.bool false) := (blk_cell BK237.out 1).trans rfl; have hfz58_0 := blk_frozen BK237.out 0; have hfz58_1 := blk_frozen BK237.out 1))
                refine bodyPost_ret (results_ct rfl _ _ gb237 83 #[.slice Ao57 t256.length co57, .bool t259] (0, 0) _ rfl (by (with_reducible repeat (first | refine blk_drewN ?_ _ | refine blk_drew ?_ | refine blk_alloc ?_ _)); refine blk_put (cs := #[.slice Ao57 t256.length co57, .bool false]) ?_ 1 _ rfl; (with_reducible repeat (first | refine blk_drewN ?_ _ | refine blk_drew ?_ | refine blk_alloc ?_ _)); refine blk_put (cs := #[.slice none 0 0, .bool false]) ?_ 0 _ rfl; (with_reducible repeat (first | refine blk_drewN ?_ _ | refine blk_drew ?_ | refine blk_alloc ?_ _)); exact BK237.out) Try.underlying83 rfl (by kernel_rfl)) rfl ?_
                exact ⟨_, by first | rfl | (simp [errW_none, errW_some] <;> rfl) | (simp only [← hji26, ← hji27]; first | rfl | (simp [errW_none, errW_some] <;> rfl)) | (simp [*, errW_none, errW_some] <;> rfl), by (with_reducible repeat (first | apply Kd.R_alloc | apply Kd.R_drewN | apply Kd.R_drew)); exact Kd.R_mono (Kd.R_far (p := ⟨gb237, 1, none⟩) (Kd.R_far (p := ⟨gb237, 0, none⟩) (Kd.R_types HO258.out BK237.out (by decide)) (fun _ hk => hk.2) (.slice Ao57 t256.length co57)) (fun _ hk => hk.2) (.bool t259)) (fun _ hk => trivial), by repeat (first | (with_reducible first | exact HB.out | apply below_alloc | apply pw_below_drewN | apply below_drew1 | refine below_set ?_ GE237.out) | exact HB.out)⟩

end Go.Proofs.Ytdbgnoolokfafaa.HFnExactRectOf
