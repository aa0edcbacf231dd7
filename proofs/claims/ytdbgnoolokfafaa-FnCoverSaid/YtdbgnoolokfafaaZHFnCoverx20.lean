-- Printed by a program of this session over the kit's print; functions that the print does not take stand here by hand.
import Derived.Test.YtdbgnoolokfafaaZShort
import Derived.Test.YtdbgnoolokfafaaZHFnCoverx0
import Derived.Test.YtdbgnoolokfafaaZHFnCoverx15
import Derived.Test.YtdbgnoolokfafaaZHFnCoverx16
import Derived.Test.YtdbgnoolokfafaaZHFnCoverx19
namespace Go.Proofs.Ytdbgnoolokfafaa.HFnCover
open Go.RowKit Go.Proofs.YtdbgnoolokfafaaW.PrintWords Go.Proofs.YtdbgnoolokfafaaW.PrintLast Go.Proofs.YtdbgnoolokfafaaW.PrintMore
attribute [local go_sem] max2_int min2_int max_two min_two max_three min_three max_four min_four   -- for this text's walks alone
set_option linter.unusedVariables false
set_option linter.unusedSimpArgs false
/-! ### spec_CoverOf: function 46 -/
def spec_CoverOf.f (k : Nat) (l0 : List (S83)) (a1 : Int) (a2 : Int) (a3 : Bool) : Option (Int × Int × List Int × Bool) := (spec_l11Lines.f k l0).bind fun t339 => (if t339 = true then ((spec_l3Side.f a1).bind fun t340 => (if t340 = true then ((spec_l3Side.f a2).bind fun t341 => (if t341 = true then ((spec_l11Cover.f k l0 a1 a2 a3).bind fun bt342 => (some (bt342.1, bt342.2.1, bt342.2.2, true))) else (some (0, 0, ([] : List Int), false)))) else (some (0, 0, ([] : List Int), false)))) else (some (0, 0, ([] : List Int), false)))
theorem spec_CoverOf.mono : ∀ a0 a1 a2 a3 k, LeO (spec_CoverOf.f k a0 a1 a2 a3) (spec_CoverOf.f (k + 1) a0 a1 a2 a3) := by
  intro a0 a1 a2 a3 k
  unfold spec_CoverOf.f
  repeat' first
    | with_reducible exact spec_l11Cover.mono ..
    | with_reducible exact spec_l11Lines.mono ..
    | with_reducible exact LeO.refl _
    | with_reducible exact LeO.none _
    | with_reducible refine LeO.ite ?_ ?_
    | with_reducible refine LeO.bind ?_ (fun _ => ?_)
    | exact LeO.none _
    | refine LeO.ite ?_ ?_
    | refine LeO.bind ?_ (fun _ => ?_)
set_option maxHeartbeats 8000000 in
set_option maxRecDepth 100000 in
theorem spec_CoverOf.calls (k : Nat) (A0 : Option Addr) (c0 : Nat) (l0 : List (S83)) (a1 : Int) (a2 : Int) (a3 : Bool) (r1 : Int) (r2 : Int) (r3 : List Int) (r4 : Bool) (w : World) (hr0 : Kd.C k83 w A0 l0.length l0) (hc0 : l0.length ≤ c0) (h : spec_CoverOf.f k l0 a1 a2 a3 = some (r1, r2, r3, r4)) :
    Calls Try.prog 46 #[.slice A0 l0.length c0, .int .i64 a1, .int .i64 a2, .bool a3] w fun e w' => ∃ v2_ : Value, e = .returned (.tuple #[.agg #[.int .i64 r1, .int .i64 r2, v2_], .bool r4]) ∧ Kd.R (Kd.int .i64) 3 w' w.heap.size (fun _ => True) v2_ r3 ∧ Below w.heap.size w w' := by
 have hu67 := Try.underlying67
 have HR0 := Aside0.mk hr0
 have HC0 := Aside0.mk hc0
 clear hr0 hc0
 have HB := Aside0.mk (Below.refl w.heap.size w)
 have H : ((spec_l11Lines.f k l0).bind fun t339 => (if t339 = true then ((spec_l3Side.f a1).bind fun t340 => (if t340 = true then ((spec_l3Side.f a2).bind fun t341 => (if t341 = true then ((spec_l11Cover.f k l0 a1 a2 a3).bind fun bt342 => (some (bt342.1, bt342.2.1, bt342.2.2, true))) else (some (0, 0, ([] : List Int), false)))) else (some (0, 0, ([] : List Int), false)))) else (some (0, 0, ([] : List Int), false)))) = some (r1, r2, r3, r4) := h
 clear h
 replace H := Option.bind_eq_some_iff.mp H
 obtain ⟨t339, A50, H⟩ := H
 replace H : (if t339 = true then ((spec_l3Side.f a1).bind fun t340 => (if t340 = true then ((spec_l3Side.f a2).bind fun t341 => (if t341 = true then ((spec_l11Cover.f k l0 a1 a2 a3).bind fun bt342 => (some (bt342.1, bt342.2.1, bt342.2.2, true))) else (some (0, 0, ([] : List Int), false)))) else (some (0, 0, ([] : List Int), false)))) else (some (0, 0, ([] : List Int), false))) = some (r1, r2, r3, r4) := H
 have A5 := Aside0.mk A50
 clear A50
 by_cases c6 : t339 = true
 ·subst c6
  have H1 : ((spec_l3Side.f a1).bind fun t340 => (if t340 = true then ((spec_l3Side.f a2).bind fun t341 => (if t341 = true then ((spec_l11Cover.f k l0 a1 a2 a3).bind fun bt342 => (some (bt342.1, bt342.2.1, bt342.2.2, true))) else (some (0, 0, ([] : List Int), false)))) else (some (0, 0, ([] : List Int), false)))) = some (r1, r2, r3, r4) := by rw [if_pos rfl] at H; exact H
  clear H
  have H := H1
  clear H1
  replace H := Option.bind_eq_some_iff.mp H
  obtain ⟨t340, A70, H⟩ := H
  replace H : (if t340 = true then ((spec_l3Side.f a2).bind fun t341 => (if t341 = true then ((spec_l11Cover.f k l0 a1 a2 a3).bind fun bt342 => (some (bt342.1, bt342.2.1, bt342.2.2, true))) else (some (0, 0, ([] : List Int), false)))) else (some (0, 0, ([] : List Int), false))) = some (r1, r2, r3, r4) := H
  have A7 := Aside0.mk A70
  clear A70
  by_cases c8 : t340 = true
  ·subst c8
   have H1 : ((spec_l3Side.f a2).bind fun t341 => (if t341 = true then ((spec_l11Cover.f k l0 a1 a2 a3).bind fun bt342 => (some (bt342.1, bt342.2.1, bt342.2.2, true))) else (some (0, 0, ([] : List Int), false)))) = some (r1, r2, r3, r4) := by rw [if_pos rfl] at H; exact H
   clear H
   have H := H1
   clear H1
   replace H := Option.bind_eq_some_iff.mp H
   obtain ⟨t341, A90, H⟩ := H
   replace H : (if t341 = true then ((spec_l11Cover.f k l0 a1 a2 a3).bind fun bt342 => (some (bt342.1, bt342.2.1, bt342.2.2, true))) else (some (0, 0, ([] : List Int), false))) = some (r1, r2, r3, r4) := H
   have A9 := Aside0.mk A90
   clear A90
   by_cases c10 : t341 = true
   ·subst c10
    have H1 : ((spec_l11Cover.f k l0 a1 a2 a3).bind fun bt342 => (some (bt342.1, bt342.2.1, bt342.2.2, true))) = some (r1, r2, r3, r4) := by rw [if_pos rfl] at H; exact H
    clear H
    have H := H1
    clear H1
    replace H := Option.bind_eq_some_iff.mp H
    obtain ⟨⟨t342, t343, t344⟩, A110, H⟩ := H
    replace H : (some (t342, t343, t344, true)) = some (r1, r2, r3, r4) := H
    have A11 := Aside0.mk A110
    clear A110
    simp only [Option.some.injEq, Prod.mk.injEq] at H
    obtain ⟨rfl, rfl, rfl, rfl⟩ := H
    go_enter Try.func46, Try.ntmps46
    go_wp2_with (first | ((with_reducible refine gate_dst (N := 8) rfl ?_); refine box_event ?hg (N := 8) ?hd (cs := #[.int .i64 0, .int .i64 0, .slice none 0 0]) (t := 67) ?hr ?_; (case hd => rfl); (case hg => rfl); (case hr => first | (go_simp; done) | (go_simp; rfl)); intro gb338 hg w12 hbox hb; have BK338 := Aside0.mk (hbox); have GW338 := Aside0.mk ((by rw [hg]; exact (below_size (z.bl HB)) : w.heap.size ≤ gb338)); have GE338 := Aside0.mk ((by rw [hg]; exact (below_size (z.bl HB)) : w.heap.size ≤ gb338)); replace HB := Aside0.mk (below_step (z.bl HB) hb); clear hb hbox hg) | ((with_reducible refine gate_callee (f := 131) rfl ?_); refine z.gl (some 11) rfl rfl Try.func131 (by kernel_rfl) rfl #[.slice A0 l0.length c0] rfl ?_; (with_reducible refine (spec_l11Lines.calls k _ _ l0 true _ ?side1 ?side2 A5.out).mono ?_); (case side1 => repeat (first | exact (Kd.C_below HR0.out HB.out) | (with_reducible refine Kd.C_alloc ?_ _) | (with_reducible refine Kd.C_drewN ?_ _) | (with_reducible refine Kd.C_drew ?_))); (case side2 => exact HC0.out); rintro e w13 ⟨rfl, hb⟩; refine ⟨_, rfl, ?_⟩; replace BK338 := z.bb BK338 hb; replace HB := Aside0.mk (below_step (z.bl HB) hb); (try clear hb); (try clear hb2); (try clear hk); (try clear hi)) | (go_at_call 132; (with_reducible refine (spec_l3Side.calls a1 true _ A7.out).mono ?_); rintro e w' ⟨rfl, ⟨nd, rfl⟩⟩; (try (rw [drewN_self w13]; generalize hq_ : World.drewN w13 _ = w13; have n0_ : Aside0 (w13.heap[gb338]? = some (.cells #[.int .i64 0, .int .i64 0, .slice none 0 0] 67 (0, 0))) := ⟨by rw [← hq_]; exact (z.bk BK338)⟩; have n1_ : Aside0 (Below w.heap.size w w13) := ⟨by rw [← hq_]; exact (z.bl HB)⟩; clear BK338 HB hq_; have BK338 := n0_; have HB := n1_; clear n0_ n1_))) | (go_at_call 132; (with_reducible refine (spec_l3Side.calls a2 true _ A9.out).mono ?_); rintro e w' ⟨rfl, ⟨nd, rfl⟩⟩; (try (rw [drewN_self w13]; generalize hq_ : World.drewN w13 _ = w13; have n0_ : Aside0 (w13.heap[gb338]? = some (.cells #[.int .i64 0, .int .i64 0, .slice none 0 0] 67 (0, 0))) := ⟨by rw [← hq_]; exact (z.bk BK338)⟩; have n1_ : Aside0 (Below w.heap.size w w13) := ⟨by rw [← hq_]; exact (z.bl HB)⟩; clear BK338 HB hq_; have BK338 := n0_; have HB := n1_; clear n0_ n1_))) | ((with_reducible refine gate_callee (f := 133) rfl ?_); refine z.gl (some 28) rfl rfl Try.func133 (by kernel_rfl) rfl #[.slice A0 l0.length c0, .int .i64 a1, .int .i64 a2, .bool a3] rfl ?_; (with_reducible refine (spec_l11Cover.calls k _ _ l0 a1 a2 a3 t342 t343 t344 _ ?side1 ?side2 A11.out).mono ?_); (case side1 => repeat (first | exact (Kd.C_below HR0.out HB.out) | (with_reducible refine Kd.C_alloc ?_ _) | (with_reducible refine Kd.C_drewN ?_ _) | (with_reducible refine Kd.C_drew ?_))); (case side2 => exact HC0.out); rintro e w14 ⟨v345, rfl, ho0, hb⟩; refine ⟨_, rfl, ?_⟩; have HO346 := Aside0.mk (Kd.R_lower ho0 (below_size (z.bl HB))); replace BK338 := z.bb BK338 hb; replace HB := Aside0.mk (below_step (z.bl HB) hb); (try clear hb); (try clear hb2); (try clear hk); (try clear hi); (try clear ho0); have hcz15_0 : w14.cell? ⟨gb338, 0, none⟩ = some (.int .i64 0) := (blk_cell BK338.out 0).trans rfl; have hcz15_1 : w14.cell? ⟨gb338, 1, none⟩ = some (.int .i64 0) := (blk_cell BK338.out 1).trans rfl; have hcz15_2 : w14.cell? ⟨gb338, 2, none⟩ = some (.slice none 0 0) := (blk_cell BK338.out 2).trans rfl; have hfz15_0 := blk_frozen BK338.out 0; have hfz15_1 := blk_frozen BK338.out 1; have hfz15_2 := blk_frozen BK338.out 2; obtain ⟨Ao16, co16, eo16⟩ := Kd.R_slice HO346.out; subst eo16))
    refine bodyPost_ret (results_ct rfl _ _ gb338 67 #[.int .i64 t342, .int .i64 t343, .slice Ao16 t344.length co16] (0, 0) _ rfl (by (with_reducible repeat (first | refine blk_drewN ?_ _ | refine blk_drew ?_ | refine blk_alloc ?_ _)); refine blk_put (cs := #[.int .i64 t342, .int .i64 t343, .slice none 0 0]) ?_ 2 _ rfl; (with_reducible repeat (first | refine blk_drewN ?_ _ | refine blk_drew ?_ | refine blk_alloc ?_ _)); refine blk_put (cs := #[.int .i64 t342, .int .i64 0, .slice none 0 0]) ?_ 1 _ rfl; (with_reducible repeat (first | refine blk_drewN ?_ _ | refine blk_drew ?_ | refine blk_alloc ?_ _)); refine blk_put (cs := #[.int .i64 0, .int .i64 0, .slice none 0 0]) ?_ 0 _ rfl; (with_reducible repeat (first | refine blk_drewN ?_ _ | refine blk_drew ?_ | refine blk_alloc ?_ _)); exact BK338.out) Try.underlying67 rfl (by kernel_rfl)) rfl ?_
    exact ⟨_, by first | rfl | (simp [errW_none, errW_some] <;> rfl) | (simp [*, errW_none, errW_some] <;> rfl), z.rl (Kd.R_mono (Kd.R_far (p := ⟨gb338, 2, none⟩) (Kd.R_far (p := ⟨gb338, 1, none⟩) (Kd.R_far (p := ⟨gb338, 0, none⟩) (Kd.R_types HO346.out BK338.out (by decide)) (fun _ hk => hk.2) (.int .i64 t342)) (fun _ hk => hk.2) (.int .i64 t343)) (fun _ hk => hk.2) (.slice Ao16 t344.length co16)) (fun _ hk => trivial)), z.bl HB⟩
   ·replace c10 := Bool.eq_false_iff.mpr c10
    subst c10
    have H1 : (some (0, 0, ([] : List Int), false)) = some (r1, r2, r3, r4) := by rw [if_neg (show ¬ (false = true) by decide)] at H; exact H
    clear H
    have H := H1
    clear H1
    simp only [Option.some.injEq, Prod.mk.injEq] at H
    obtain ⟨rfl, rfl, rfl, rfl⟩ := H
    go_enter Try.func46, Try.ntmps46
    go_wp2_with (first | ((with_reducible refine gate_dst (N := 8) rfl ?_); refine box_event ?hg (N := 8) ?hd (cs := #[.int .i64 0, .int .i64 0, .slice none 0 0]) (t := 67) ?hr ?_; (case hd => rfl); (case hg => rfl); (case hr => first | (go_simp; done) | (go_simp; rfl)); intro gb338 hg w17 hbox hb; have BK338 := Aside0.mk (hbox); have GW338 := Aside0.mk ((by rw [hg]; exact (below_size (z.bl HB)) : w.heap.size ≤ gb338)); have GE338 := Aside0.mk ((by rw [hg]; exact (below_size (z.bl HB)) : w.heap.size ≤ gb338)); replace HB := Aside0.mk (below_step (z.bl HB) hb); clear hb hbox hg) | ((with_reducible refine gate_callee (f := 131) rfl ?_); refine z.gl (some 11) rfl rfl Try.func131 (by kernel_rfl) rfl #[.slice A0 l0.length c0] rfl ?_; (with_reducible refine (spec_l11Lines.calls k _ _ l0 true _ ?side1 ?side2 A5.out).mono ?_); (case side1 => repeat (first | exact (Kd.C_below HR0.out HB.out) | (with_reducible refine Kd.C_alloc ?_ _) | (with_reducible refine Kd.C_drewN ?_ _) | (with_reducible refine Kd.C_drew ?_))); (case side2 => exact HC0.out); rintro e w18 ⟨rfl, hb⟩; refine ⟨_, rfl, ?_⟩; replace BK338 := z.bb BK338 hb; replace HB := Aside0.mk (below_step (z.bl HB) hb); (try clear hb); (try clear hb2); (try clear hk); (try clear hi)) | (go_at_call 132; (with_reducible refine (spec_l3Side.calls a1 true _ A7.out).mono ?_); rintro e w' ⟨rfl, ⟨nd, rfl⟩⟩; (try (rw [drewN_self w18]; generalize hq_ : World.drewN w18 _ = w18; have n0_ : Aside0 (w18.heap[gb338]? = some (.cells #[.int .i64 0, .int .i64 0, .slice none 0 0] 67 (0, 0))) := ⟨by rw [← hq_]; exact (z.bk BK338)⟩; have n1_ : Aside0 (Below w.heap.size w w18) := ⟨by rw [← hq_]; exact (z.bl HB)⟩; clear BK338 HB hq_; have BK338 := n0_; have HB := n1_; clear n0_ n1_))) | (go_at_call 132; (with_reducible refine (spec_l3Side.calls a2 false _ A9.out).mono ?_); rintro e w' ⟨rfl, ⟨nd, rfl⟩⟩; (try (rw [drewN_self w18]; generalize hq_ : World.drewN w18 _ = w18; have n0_ : Aside0 (w18.heap[gb338]? = some (.cells #[.int .i64 0, .int .i64 0, .slice none 0 0] 67 (0, 0))) := ⟨by rw [← hq_]; exact (z.bk BK338)⟩; have n1_ : Aside0 (Below w.heap.size w w18) := ⟨by rw [← hq_]; exact (z.bl HB)⟩; clear BK338 HB hq_; have BK338 := n0_; have HB := n1_; clear n0_ n1_)); have hcz19_0 : w18.cell? ⟨gb338, 0, none⟩ = some (.int .i64 0) := (blk_cell BK338.out 0).trans rfl; have hcz19_1 : w18.cell? ⟨gb338, 1, none⟩ = some (.int .i64 0) := (blk_cell BK338.out 1).trans rfl; have hcz19_2 : w18.cell? ⟨gb338, 2, none⟩ = some (.slice none 0 0) := (blk_cell BK338.out 2).trans rfl; have hfz19_0 := blk_frozen BK338.out 0; have hfz19_1 := blk_frozen BK338.out 1; have hfz19_2 := blk_frozen BK338.out 2))
    refine bodyPost_ret (results_ct rfl _ _ gb338 67 #[.int .i64 0, .int .i64 0, .slice none 0 0] (0, 0) _ rfl (by (with_reducible repeat (first | refine blk_drewN ?_ _ | refine blk_drew ?_ | refine blk_alloc ?_ _)); refine blk_put (cs := #[.int .i64 0, .int .i64 0, .slice none 0 0]) ?_ 2 _ rfl; (with_reducible repeat (first | refine blk_drewN ?_ _ | refine blk_drew ?_ | refine blk_alloc ?_ _)); refine blk_put (cs := #[.int .i64 0, .int .i64 0, .slice none 0 0]) ?_ 1 _ rfl; (with_reducible repeat (first | refine blk_drewN ?_ _ | refine blk_drew ?_ | refine blk_alloc ?_ _)); refine blk_put (cs := #[.int .i64 0, .int .i64 0, .slice none 0 0]) ?_ 0 _ rfl; (with_reducible repeat (first | refine blk_drewN ?_ _ | refine blk_drew ?_ | refine blk_alloc ?_ _)); exact BK338.out) Try.underlying67 rfl (by kernel_rfl)) rfl ?_
    exact ⟨_, by first | rfl | (simp [errW_none, errW_some] <;> rfl) | (simp [*, errW_none, errW_some] <;> rfl), by first | exact Kd.R_nil _ _ _ _ _ | exact Kd.N_nil _ _ _ _ _ | exact Kd.V_nil _ _ _ _ _ | exact Kd.Q_nil _ _ _ _ _ | exact Kd.S_nil _ _ _ _ _, z.bl HB⟩
  ·replace c8 := Bool.eq_false_iff.mpr c8
   subst c8
   have H1 : (some (0, 0, ([] : List Int), false)) = some (r1, r2, r3, r4) := by rw [if_neg (show ¬ (false = true) by decide)] at H; exact H
   clear H
   have H := H1
   clear H1
   simp only [Option.some.injEq, Prod.mk.injEq] at H
   obtain ⟨rfl, rfl, rfl, rfl⟩ := H
   go_enter Try.func46, Try.ntmps46
   go_wp2_with (first | ((with_reducible refine gate_dst (N := 8) rfl ?_); refine box_event ?hg (N := 8) ?hd (cs := #[.int .i64 0, .int .i64 0, .slice none 0 0]) (t := 67) ?hr ?_; (case hd => rfl); (case hg => rfl); (case hr => first | (go_simp; done) | (go_simp; rfl)); intro gb338 hg w20 hbox hb; have BK338 := Aside0.mk (hbox); have GW338 := Aside0.mk ((by rw [hg]; exact (below_size (z.bl HB)) : w.heap.size ≤ gb338)); have GE338 := Aside0.mk ((by rw [hg]; exact (below_size (z.bl HB)) : w.heap.size ≤ gb338)); replace HB := Aside0.mk (below_step (z.bl HB) hb); clear hb hbox hg) | ((with_reducible refine gate_callee (f := 131) rfl ?_); refine z.gl (some 11) rfl rfl Try.func131 (by kernel_rfl) rfl #[.slice A0 l0.length c0] rfl ?_; (with_reducible refine (spec_l11Lines.calls k _ _ l0 true _ ?side1 ?side2 A5.out).mono ?_); (case side1 => repeat (first | exact (Kd.C_below HR0.out HB.out) | (with_reducible refine Kd.C_alloc ?_ _) | (with_reducible refine Kd.C_drewN ?_ _) | (with_reducible refine Kd.C_drew ?_))); (case side2 => exact HC0.out); rintro e w21 ⟨rfl, hb⟩; refine ⟨_, rfl, ?_⟩; replace BK338 := z.bb BK338 hb; replace HB := Aside0.mk (below_step (z.bl HB) hb); (try clear hb); (try clear hb2); (try clear hk); (try clear hi)) | (go_at_call 132; (with_reducible refine (spec_l3Side.calls a1 false _ A7.out).mono ?_); rintro e w' ⟨rfl, ⟨nd, rfl⟩⟩; (try (rw [drewN_self w21]; generalize hq_ : World.drewN w21 _ = w21; have n0_ : Aside0 (w21.heap[gb338]? = some (.cells #[.int .i64 0, .int .i64 0, .slice none 0 0] 67 (0, 0))) := ⟨by rw [← hq_]; exact (z.bk BK338)⟩; have n1_ : Aside0 (Below w.heap.size w w21) := ⟨by rw [← hq_]; exact (z.bl HB)⟩; clear BK338 HB hq_; have BK338 := n0_; have HB := n1_; clear n0_ n1_)); have hcz22_0 : w21.cell? ⟨gb338, 0, none⟩ = some (.int .i64 0) := (blk_cell BK338.out 0).trans rfl; have hcz22_1 : w21.cell? ⟨gb338, 1, none⟩ = some (.int .i64 0) := (blk_cell BK338.out 1).trans rfl; have hcz22_2 : w21.cell? ⟨gb338, 2, none⟩ = some (.slice none 0 0) := (blk_cell BK338.out 2).trans rfl; have hfz22_0 := blk_frozen BK338.out 0; have hfz22_1 := blk_frozen BK338.out 1; have hfz22_2 := blk_frozen BK338.out 2))
   refine bodyPost_ret (results_ct rfl _ _ gb338 67 #[.int .i64 0, .int .i64 0, .slice none 0 0] (0, 0) _ rfl (by (with_reducible repeat (first | refine blk_drewN ?_ _ | refine blk_drew ?_ | refine blk_alloc ?_ _)); refine blk_put (cs := #[.int .i64 0, .int .i64 0, .slice none 0 0]) ?_ 2 _ rfl; (with_reducible repeat (first | refine blk_drewN ?_ _ | refine blk_drew ?_ | refine blk_alloc ?_ _)); refine blk_put (cs := #[.int .i64 0, .int .i64 0, .slice none 0 0]) ?_ 1 _ rfl; (with_reducible repeat (first | refine blk_drewN ?_ _ | refine blk_drew ?_ | refine blk_alloc ?_ _)); refine blk_put (cs := #[.int .i64 0, .int .i64 0, .slice none 0 0]) ?_ 0 _ rfl; (with_reducible repeat (first | refine blk_drewN ?_ _ | refine blk_drew ?_ | refine blk_alloc ?_ _)); exact BK338.out) Try.underlying67 rfl (by kernel_rfl)) rfl ?_
   exact ⟨_, by first | rfl | (simp [errW_none, errW_some] <;> rfl) | (simp [*, errW_none, errW_some] <;> rfl), by first | exact Kd.R_nil _ _ _ _ _ | exact Kd.N_nil _ _ _ _ _ | exact Kd.V_nil _ _ _ _ _ | exact Kd.Q_nil _ _ _ _ _ | exact Kd.S_nil _ _ _ _ _, z.bl HB⟩
 ·replace c6 := Bool.eq_false_iff.mpr c6
  subst c6
  have H1 : (some (0, 0, ([] : List Int), false)) = some (r1, r2, r3, r4) := by rw [if_neg (show ¬ (false = true) by decide)] at H; exact H
  clear H
  have H := H1
  clear H1
  simp only [Option.some.injEq, Prod.mk.injEq] at H
  obtain ⟨rfl, rfl, rfl, rfl⟩ := H
  go_enter Try.func46, Try.ntmps46
  go_wp2_with (first | ((with_reducible refine gate_dst (N := 8) rfl ?_); refine box_event ?hg (N := 8) ?hd (cs := #[.int .i64 0, .int .i64 0, .slice none 0 0]) (t := 67) ?hr ?_; (case hd => rfl); (case hg => rfl); (case hr => first | (go_simp; done) | (go_simp; rfl)); intro gb338 hg w23 hbox hb; have BK338 := Aside0.mk (hbox); have GW338 := Aside0.mk ((by rw [hg]; exact (below_size (z.bl HB)) : w.heap.size ≤ gb338)); have GE338 := Aside0.mk ((by rw [hg]; exact (below_size (z.bl HB)) : w.heap.size ≤ gb338)); replace HB := Aside0.mk (below_step (z.bl HB) hb); clear hb hbox hg) | ((with_reducible refine gate_callee (f := 131) rfl ?_); refine z.gl (some 11) rfl rfl Try.func131 (by kernel_rfl) rfl #[.slice A0 l0.length c0] rfl ?_; (with_reducible refine (spec_l11Lines.calls k _ _ l0 false _ ?side1 ?side2 A5.out).mono ?_); (case side1 => repeat (first | exact (Kd.C_below HR0.out HB.out) | (with_reducible refine Kd.C_alloc ?_ _) | (with_reducible refine Kd.C_drewN ?_ _) | (with_reducible refine Kd.C_drew ?_))); (case side2 => exact HC0.out); rintro e w24 ⟨rfl, hb⟩; refine ⟨_, rfl, ?_⟩; replace BK338 := z.bb BK338 hb; replace HB := Aside0.mk (below_step (z.bl HB) hb); (try clear hb); (try clear hb2); (try clear hk); (try clear hi); have hcz25_0 : w24.cell? ⟨gb338, 0, none⟩ = some (.int .i64 0) := (blk_cell BK338.out 0).trans rfl; have hcz25_1 : w24.cell? ⟨gb338, 1, none⟩ = some (.int .i64 0) := (blk_cell BK338.out 1).trans rfl; have hcz25_2 : w24.cell? ⟨gb338, 2, none⟩ = some (.slice none 0 0) := (blk_cell BK338.out 2).trans rfl; have hfz25_0 := blk_frozen BK338.out 0; have hfz25_1 := blk_frozen BK338.out 1; have hfz25_2 := blk_frozen BK338.out 2))
  refine bodyPost_ret (results_ct rfl _ _ gb338 67 #[.int .i64 0, .int .i64 0, .slice none 0 0] (0, 0) _ rfl (by (with_reducible repeat (first | refine blk_drewN ?_ _ | refine blk_drew ?_ | refine blk_alloc ?_ _)); refine blk_put (cs := #[.int .i64 0, .int .i64 0, .slice none 0 0]) ?_ 2 _ rfl; (with_reducible repeat (first | refine blk_drewN ?_ _ | refine blk_drew ?_ | refine blk_alloc ?_ _)); refine blk_put (cs := #[.int .i64 0, .int .i64 0, .slice none 0 0]) ?_ 1 _ rfl; (with_reducible repeat (first | refine blk_drewN ?_ _ | refine blk_drew ?_ | refine blk_alloc ?_ _)); refine blk_put (cs := #[.int .i64 0, .int .i64 0, .slice none 0 0]) ?_ 0 _ rfl; (with_reducible repeat (first | refine blk_drewN ?_ _ | refine blk_drew ?_ | refine blk_alloc ?_ _)); exact BK338.out) Try.underlying67 rfl (by kernel_rfl)) rfl ?_
  exact ⟨_, by first | rfl | (simp [errW_none, errW_some] <;> rfl) | (simp [*, errW_none, errW_some] <;> rfl), by first | exact Kd.R_nil _ _ _ _ _ | exact Kd.N_nil _ _ _ _ _ | exact Kd.V_nil _ _ _ _ _ | exact Kd.Q_nil _ _ _ _ _ | exact Kd.S_nil _ _ _ _ _, z.bl HB⟩
end Go.Proofs.Ytdbgnoolokfafaa.HFnCover
