-- Printed by a program of this session over the kit's print; functions that the print does not take stand here by hand.
import Derived.Test.YtiadieifofaobaaYShort
import Derived.Test.YtiadieifofaobaaYHFnTintsx0
import Derived.Test.YtiadieifofaobaaYHFnTintsx1
import Derived.Test.YtiadieifofaobaaYHFnTintsx6
import Derived.Test.YtiadieifofaobaaYHFnTintsx7
import Derived.Test.YtiadieifofaobaaYHFnTintsx10
import Derived.Test.YtiadieifofaobaaYHFnTintsx13
import Derived.Test.YtiadieifofaobaaYHFnTintsx14
import Derived.Test.YtiadieifofaobaaYHFnTintsx15
import Derived.Test.YtiadieifofaobaaYHFnTintsx18
namespace Go.Proofs.Ytiadieifofaobaa.HFnTints
open Go.RowKit Go.Proofs.YtiadieifofaobaaW.PrintWords Go.Proofs.YtiadieifofaobaaW.PrintLast Go.Proofs.YtiadieifofaobaaW.PrintMore
attribute [local go_sem] max2_int min2_int max_two min_two max_three min_three max_four min_four   -- for this text's walks alone
set_option linter.unusedVariables false
set_option linter.unusedSimpArgs false
attribute [local go_sem high] eqA25
/-! ### laws_FnTints: function 4 -/
mutual
def laws_FnTints.j0 : Nat → List Int → Bool → Bool → Int → Int → Int → Int → Int → Int → Int → Int → Int → Int → Int → Int → Option (Bool)
  | 0, _, _, _, _, _, _, _, _, _, _, _, _, _, _, _ => none
  | k + 1, x1, x8, x48, x336000, x336001, x336002, x336003, x337000, x337001, x337002, x337003, x343000, x343001, x343002, x343003 => if x48 = true then (some false) else (if x8 = true then ((impl_GoodTint.f x343000 x343001 x343002 x343003).bind fun t349 => (if t349 = true then (if x336003 = 255 then (if (!(x343000 == x336000) || (!(x343001 == x336001) || (!(x343002 == x336002) || (!(x343003 == x336003))))) = true then (laws_FnTints.j1 k x1 true) else (if x336003 = 0 then (laws_FnTints.j1 k x1 (!(x343000 == x337000) || (!(x343001 == x337001) || (!(x343002 == x337002) || (!(x343003 == x337003)))))) else (laws_FnTints.j1 k x1 false))) else (if x336003 = 0 then (laws_FnTints.j1 k x1 (!(x343000 == x337000) || (!(x343001 == x337001) || (!(x343002 == x337002) || (!(x343003 == x337003)))))) else (laws_FnTints.j1 k x1 false))) else (laws_FnTints.j1 k x1 true))) else (laws_FnTints.j1 k x1 false))
def laws_FnTints.j1 : Nat → List Int → Bool → Option (Bool)
  | 0, _, _ => none
  | k + 1, x1, x74 => if x74 = true then (some false) else ((spec_DrawRunAt.f k x1).bind fun bt350 => ((impl_RunAt.f k bt350.1 bt350.2.1 bt350.2.2).bind fun bt355 => ((spec_RunAt.f k bt350.1 bt350.2.1 bt350.2.2).bind fun bt361 => (if (bt355.2.2.2.2 != bt361.2.2.2.2) = true then (some false) else (if bt355.2.2.2.2 = true then ((impl_GoodTint.f bt355.1 bt355.2.1 bt355.2.2.1 bt355.2.2.2.1).bind fun t367 => (some t367)) else (some true))))))
end
def laws_FnTints.f (k : Nat) (l0 : List Int) (l1 : List Int) : Option (Bool) := if (wrap64 ((l0.length : Int) + (l1.length : Int))) > 1048576 then (some true) else ((spec_DrawOverTint.f l0).bind fun bt327 => ((impl_OverTint.f bt327.1 bt327.2.1 bt327.2.2.1 bt327.2.2.2.1 bt327.2.2.2.2.1 bt327.2.2.2.2.2.1 bt327.2.2.2.2.2.2.1 bt327.2.2.2.2.2.2.2).bind fun bt337 => ((spec_OverTint.f bt327.1 bt327.2.1 bt327.2.2.1 bt327.2.2.2.1 bt327.2.2.2.2.1 bt327.2.2.2.2.2.1 bt327.2.2.2.2.2.2.1 bt327.2.2.2.2.2.2.2).bind fun bt343 => (if (bt337.2.2.2.2 != bt343.2.2.2.2) = true then (laws_FnTints.j0 k l1 bt337.2.2.2.2 true bt327.1 bt327.2.1 bt327.2.2.1 bt327.2.2.2.1 bt327.2.2.2.2.1 bt327.2.2.2.2.2.1 bt327.2.2.2.2.2.2.1 bt327.2.2.2.2.2.2.2 bt337.1 bt337.2.1 bt337.2.2.1 bt337.2.2.2.1) else (laws_FnTints.j0 k l1 bt337.2.2.2.2 (!(bt337.1 == bt343.1) || (!(bt337.2.1 == bt343.2.1) || (!(bt337.2.2.1 == bt343.2.2.1) || (!(bt337.2.2.2.1 == bt343.2.2.2.1))))) bt327.1 bt327.2.1 bt327.2.2.1 bt327.2.2.2.1 bt327.2.2.2.2.1 bt327.2.2.2.2.2.1 bt327.2.2.2.2.2.2.1 bt327.2.2.2.2.2.2.2 bt337.1 bt337.2.1 bt337.2.2.1 bt337.2.2.2.1)))))
theorem laws_FnTints.mono_l : ∀ k, (∀ y0 y1 y2 y3 y4 y5 y6 y7 y8 y9 y10 y11 y12 y13 y14, LeO (laws_FnTints.j0 k y0 y1 y2 y3 y4 y5 y6 y7 y8 y9 y10 y11 y12 y13 y14) (laws_FnTints.j0 (k + 1) y0 y1 y2 y3 y4 y5 y6 y7 y8 y9 y10 y11 y12 y13 y14)) ∧ (∀ y0 y1, LeO (laws_FnTints.j1 k y0 y1) (laws_FnTints.j1 (k + 1) y0 y1))
  | 0 => ⟨fun _ _ _ _ _ _ _ _ _ _ _ _ _ _ _ r h => by simp [laws_FnTints.j0] at h, fun _ _ r h => by simp [laws_FnTints.j1] at h⟩
  | k + 1 => by
    obtain ⟨ih0, ih1⟩ := laws_FnTints.mono_l k
    refine ⟨?_, ?_⟩
    · intro y0 y1 y2 y3 y4 y5 y6 y7 y8 y9 y10 y11 y12 y13 y14
      unfold laws_FnTints.j0
      repeat' first
    | with_reducible exact ih0 _ _ _ _ _ _ _ _ _ _ _ _ _ _ _
    | with_reducible exact ih1 _ _
    | with_reducible exact impl_RunAt.mono ..
    | with_reducible exact spec_DrawRunAt.mono ..
    | with_reducible exact spec_RunAt.mono ..
    | with_reducible exact LeO.refl _
    | with_reducible exact LeO.none _
    | with_reducible refine LeO.ite ?_ ?_
    | with_reducible refine LeO.bind ?_ (fun _ => ?_)
    | exact ih0 _ _ _ _ _ _ _ _ _ _ _ _ _ _ _
    | exact ih1 _ _
    | exact LeO.none _
    | refine LeO.ite ?_ ?_
    | refine LeO.bind ?_ (fun _ => ?_)
    · intro y0 y1
      unfold laws_FnTints.j1
      repeat' first
    | with_reducible exact ih0 _ _ _ _ _ _ _ _ _ _ _ _ _ _ _
    | with_reducible exact ih1 _ _
    | with_reducible exact impl_RunAt.mono ..
    | with_reducible exact spec_DrawRunAt.mono ..
    | with_reducible exact spec_RunAt.mono ..
    | with_reducible exact LeO.refl _
    | with_reducible exact LeO.none _
    | with_reducible refine LeO.ite ?_ ?_
    | with_reducible refine LeO.bind ?_ (fun _ => ?_)
    | exact ih0 _ _ _ _ _ _ _ _ _ _ _ _ _ _ _
    | exact ih1 _ _
    | exact LeO.none _
    | refine LeO.ite ?_ ?_
    | refine LeO.bind ?_ (fun _ => ?_)
theorem laws_FnTints.mono : ∀ a0 a1 k, LeO (laws_FnTints.f k a0 a1) (laws_FnTints.f (k + 1) a0 a1) := by
  intro a0 a1 k
  obtain ⟨ih0, ih1⟩ := laws_FnTints.mono_l k
  unfold laws_FnTints.f
  repeat' first
    | with_reducible exact ih0 _ _ _ _ _ _ _ _ _ _ _ _ _ _ _
    | with_reducible exact ih1 _ _
    | with_reducible exact impl_RunAt.mono ..
    | with_reducible exact spec_DrawRunAt.mono ..
    | with_reducible exact spec_RunAt.mono ..
    | with_reducible exact LeO.refl _
    | with_reducible exact LeO.none _
    | with_reducible refine LeO.ite ?_ ?_
    | with_reducible refine LeO.bind ?_ (fun _ => ?_)
    | exact ih0 _ _ _ _ _ _ _ _ _ _ _ _ _ _ _
    | exact ih1 _ _
    | exact LeO.none _
    | refine LeO.ite ?_ ?_
    | refine LeO.bind ?_ (fun _ => ?_)
set_option maxHeartbeats 8000000 in
set_option maxRecDepth 100000 in
theorem laws_FnTints.calls (k : Nat) (A0 : Option Addr) (c0 : Nat) (l0 : List Int) (A1 : Option Addr) (c1 : Nat) (l1 : List Int) (r : Bool) (hrt : r = true) (w : World) (hr0 : Kd.C (Kd.int .u8) w A0 l0.length l0) (hc0 : l0.length ≤ c0) (hr1 : Kd.C (Kd.int .u8) w A1 l1.length l1) (hc1 : l1.length ≤ c1) (h : laws_FnTints.f k l0 l1 = some r) :
    Calls Try.prog 4 #[.slice A0 l0.length c0, .slice A1 l1.length c1] w fun e w' => e = .returned (.bool r) ∧ Below w.heap.size w w' := by
 have hu25 := Try.underlying25
 have HR0 := Aside0.mk hr0
 have HC0 := Aside0.mk hc0
 clear hr0 hc0
 have HR1 := Aside0.mk hr1
 have HC1 := Aside0.mk hc1
 clear hr1 hc1
 have HB := Aside0.mk (Below.refl w.heap.size w)
 have H : (if (wrap64 ((l0.length : Int) + (l1.length : Int))) > 1048576 then (some true) else ((spec_DrawOverTint.f l0).bind fun bt327 => ((impl_OverTint.f bt327.1 bt327.2.1 bt327.2.2.1 bt327.2.2.2.1 bt327.2.2.2.2.1 bt327.2.2.2.2.2.1 bt327.2.2.2.2.2.2.1 bt327.2.2.2.2.2.2.2).bind fun bt337 => ((spec_OverTint.f bt327.1 bt327.2.1 bt327.2.2.1 bt327.2.2.2.1 bt327.2.2.2.2.1 bt327.2.2.2.2.2.1 bt327.2.2.2.2.2.2.1 bt327.2.2.2.2.2.2.2).bind fun bt343 => (if (bt337.2.2.2.2 != bt343.2.2.2.2) = true then (laws_FnTints.j0 k l1 bt337.2.2.2.2 true bt327.1 bt327.2.1 bt327.2.2.1 bt327.2.2.2.1 bt327.2.2.2.2.1 bt327.2.2.2.2.2.1 bt327.2.2.2.2.2.2.1 bt327.2.2.2.2.2.2.2 bt337.1 bt337.2.1 bt337.2.2.1 bt337.2.2.2.1) else (laws_FnTints.j0 k l1 bt337.2.2.2.2 (!(bt337.1 == bt343.1) || (!(bt337.2.1 == bt343.2.1) || (!(bt337.2.2.1 == bt343.2.2.1) || (!(bt337.2.2.2.1 == bt343.2.2.2.1))))) bt327.1 bt327.2.1 bt327.2.2.1 bt327.2.2.2.1 bt327.2.2.2.2.1 bt327.2.2.2.2.2.1 bt327.2.2.2.2.2.2.1 bt327.2.2.2.2.2.2.2 bt337.1 bt337.2.1 bt337.2.2.1 bt337.2.2.2.1)))))) = some r := h
 clear h
 by_cases c3 : (wrap64 ((l0.length : Int) + (l1.length : Int))) > 1048576
 ·rw [if_pos c3] at H
  have c3b0 : decide (1048576 < (wrap64 ((l0.length : Int) + (l1.length : Int)))) = true := decide_eq_true c3
  clear c3
  obtain rfl := Option.some.inj H
  go_enter Try.func4, Try.ntmps4
  go_wp2
  go_ret
  exact ⟨by first | rfl | (simp [errW_none, errW_some] <;> rfl) | (simp [*, errW_none, errW_some] <;> rfl), z.bl HB⟩
 ·rw [if_neg c3] at H
  have c3b0 : decide (1048576 < (wrap64 ((l0.length : Int) + (l1.length : Int)))) = false := decide_eq_false c3
  clear c3
  replace H := Option.bind_eq_some_iff.mp H
  obtain ⟨⟨t327, t328, t329, t330, t331, t332, t333, t334⟩, A40, H⟩ := H
  replace H : ((impl_OverTint.f t327 t328 t329 t330 t331 t332 t333 t334).bind fun bt337 => ((spec_OverTint.f t327 t328 t329 t330 t331 t332 t333 t334).bind fun bt343 => (if (bt337.2.2.2.2 != bt343.2.2.2.2) = true then (laws_FnTints.j0 k l1 bt337.2.2.2.2 true t327 t328 t329 t330 t331 t332 t333 t334 bt337.1 bt337.2.1 bt337.2.2.1 bt337.2.2.2.1) else (laws_FnTints.j0 k l1 bt337.2.2.2.2 (!(bt337.1 == bt343.1) || (!(bt337.2.1 == bt343.2.1) || (!(bt337.2.2.1 == bt343.2.2.1) || (!(bt337.2.2.2.1 == bt343.2.2.2.1))))) t327 t328 t329 t330 t331 t332 t333 t334 bt337.1 bt337.2.1 bt337.2.2.1 bt337.2.2.2.1)))) = some r := H
  have A4 := Aside0.mk A40
  clear A40
  replace H := Option.bind_eq_some_iff.mp H
  obtain ⟨⟨t337, t338, t339, t340, t341⟩, A50, H⟩ := H
  replace H : ((spec_OverTint.f t327 t328 t329 t330 t331 t332 t333 t334).bind fun bt343 => (if (t341 != bt343.2.2.2.2) = true then (laws_FnTints.j0 k l1 t341 true t327 t328 t329 t330 t331 t332 t333 t334 t337 t338 t339 t340) else (laws_FnTints.j0 k l1 t341 (!(t337 == bt343.1) || (!(t338 == bt343.2.1) || (!(t339 == bt343.2.2.1) || (!(t340 == bt343.2.2.2.1))))) t327 t328 t329 t330 t331 t332 t333 t334 t337 t338 t339 t340))) = some r := H
  have A5 := Aside0.mk A50
  clear A50
  replace H := Option.bind_eq_some_iff.mp H
  obtain ⟨⟨t343, t344, t345, t346, t347⟩, A60, H⟩ := H
  replace H : (if (t341 != t347) = true then (laws_FnTints.j0 k l1 t341 true t327 t328 t329 t330 t331 t332 t333 t334 t337 t338 t339 t340) else (laws_FnTints.j0 k l1 t341 (!(t337 == t343) || (!(t338 == t344) || (!(t339 == t345) || (!(t340 == t346))))) t327 t328 t329 t330 t331 t332 t333 t334 t337 t338 t339 t340)) = some r := H
  have A6 := Aside0.mk A60
  clear A60
  have HC7 := Aside0.mk H
  clear H
  go_enter Try.func4, Try.ntmps4
  go_upto_region 6 with (first | ((with_reducible refine gate_callee (f := 15) rfl ?_); refine z.gl (some 26) rfl rfl Try.func15 (by kernel_rfl) rfl #[.slice A0 l0.length c0] rfl ?_; (with_reducible refine (spec_DrawOverTint.calls _ _ l0 t327 t328 t329 t330 t331 t332 t333 t334 _ ?side1 ?side2 A4.out).mono ?_); (case side1 => repeat (first | exact HR0.out | (with_reducible refine Kd.C_alloc ?_ _) | (with_reducible refine Kd.C_drewN ?_ _) | (with_reducible refine Kd.C_drew ?_))); (case side2 => exact HC0.out); rintro e w8 ⟨rfl, hb⟩; refine ⟨_, rfl, ?_⟩; replace HB := Aside0.mk (below_step (z.bl HB) hb); (try clear hb); (try clear hb2); (try clear hk); (try clear hi)) | ((with_reducible refine gate_dst (N := 5) rfl ?_); refine box_event ?hg (N := 5) ?hd (cs := #[.int .i64 0, .int .i64 0, .int .i64 0, .int .i64 0]) (t := 25) ?hr ?_; (case hd => rfl); (case hg => rfl); (case hr => first | (go_simp; done) | (go_simp; rfl)); intro gb335 hg w9 hbox hb; have BK335 := Aside0.mk (hbox); have GW335 := Aside0.mk ((by rw [hg]; exact (below_size (z.bl HB)) : w.heap.size ≤ gb335)); have GE335 := Aside0.mk ((by rw [hg]; exact (below_size (z.bl HB)) : w.heap.size ≤ gb335)); replace HB := Aside0.mk (below_step (z.bl HB) hb); clear hb hbox hg) | ((with_reducible refine gate_dst (N := 6) rfl ?_); refine box_event ?hg (N := 6) ?hd (cs := #[.int .i64 0, .int .i64 0, .int .i64 0, .int .i64 0]) (t := 25) ?hr ?_; (case hd => rfl); (case hg => rfl); (case hr => first | (go_simp; done) | (go_simp; rfl)); intro gb336 hg w10 hbox hb; have BK336 := Aside0.mk (hbox); have GW336 := Aside0.mk ((by rw [hg]; exact (below_size (z.bl HB)) : w.heap.size ≤ gb336)); have GE336 := Aside0.mk ((by rw [hg]; exact (below_size (z.bl HB)) : w.heap.size ≤ gb336)); replace HB := Aside0.mk (below_step (z.bl HB) hb); have NB335_336 := z.ht BK335 hg; have NB336_335 := z.hu BK335 hg; replace BK335 := z.bb BK335 hb; clear hb hbox hg; have hnb11 := NB335_336.out; have hnc11 := NB336_335.out; have hcz12_0 : w10.cell? ⟨gb335, 0, none⟩ = some (.int .i64 0) := (blk_cell BK335.out 0).trans rfl; have hcz12_1 : w10.cell? ⟨gb335, 1, none⟩ = some (.int .i64 0) := (blk_cell BK335.out 1).trans rfl; have hcz12_2 : w10.cell? ⟨gb335, 2, none⟩ = some (.int .i64 0) := (blk_cell BK335.out 2).trans rfl; have hcz12_3 : w10.cell? ⟨gb335, 3, none⟩ = some (.int .i64 0) := (blk_cell BK335.out 3).trans rfl; have hfz12_0 := blk_frozen BK335.out 0; have hfz12_1 := blk_frozen BK335.out 1; have hfz12_2 := blk_frozen BK335.out 2; have hfz12_3 := blk_frozen BK335.out 3; have hcz13_0 : w10.cell? ⟨gb336, 0, none⟩ = some (.int .i64 0) := (blk_cell BK336.out 0).trans rfl; have hcz13_1 : w10.cell? ⟨gb336, 1, none⟩ = some (.int .i64 0) := (blk_cell BK336.out 1).trans rfl; have hcz13_2 : w10.cell? ⟨gb336, 2, none⟩ = some (.int .i64 0) := (blk_cell BK336.out 2).trans rfl; have hcz13_3 : w10.cell? ⟨gb336, 3, none⟩ = some (.int .i64 0) := (blk_cell BK336.out 3).trans rfl; have hfz13_0 := blk_frozen BK336.out 0; have hfz13_1 := blk_frozen BK336.out 1; have hfz13_2 := blk_frozen BK336.out 2; have hfz13_3 := blk_frozen BK336.out 3) | ((with_reducible refine gate_callee (f := 16) rfl ?_); refine z.gl (some 32) rfl rfl Try.func16 (by kernel_rfl) rfl #[.agg #[.int .i64 t327, .int .i64 t328, .int .i64 t329, .int .i64 t330], .agg #[.int .i64 t331, .int .i64 t332, .int .i64 t333, .int .i64 t334]] rfl ?_; (with_reducible refine (impl_OverTint.calls t327 t328 t329 t330 t331 t332 t333 t334 t337 t338 t339 t340 t341 _ A5.out).mono ?_); rintro e w14 ⟨rfl, hb⟩; refine ⟨_, rfl, ?_⟩; replace BK335 := Aside0.mk (blk_below (g := gb335) (o := .cells #[.int .i64 t327, .int .i64 t328, .int .i64 t329, .int .i64 t330] 25 (0, 0)) (by (with_reducible repeat (first | refine blk_drewN ?_ _ | refine blk_drew ?_ | refine blk_alloc ?_ _)); refine blk_far ?_ NB335_336.out _; (with_reducible repeat (first | refine blk_drewN ?_ _ | refine blk_drew ?_ | refine blk_alloc ?_ _)); refine blk_far ?_ NB335_336.out _; (with_reducible repeat (first | refine blk_drewN ?_ _ | refine blk_drew ?_ | refine blk_alloc ?_ _)); refine blk_far ?_ NB335_336.out _; (with_reducible repeat (first | refine blk_drewN ?_ _ | refine blk_drew ?_ | refine blk_alloc ?_ _)); refine blk_far ?_ NB335_336.out _; (with_reducible repeat (first | refine blk_drewN ?_ _ | refine blk_drew ?_ | refine blk_alloc ?_ _)); refine blk_put (cs := #[.int .i64 t327, .int .i64 t328, .int .i64 t329, .int .i64 0]) ?_ 3 _ rfl; (with_reducible repeat (first | refine blk_drewN ?_ _ | refine blk_drew ?_ | refine blk_alloc ?_ _)); refine blk_put (cs := #[.int .i64 t327, .int .i64 t328, .int .i64 0, .int .i64 0]) ?_ 2 _ rfl; (with_reducible repeat (first | refine blk_drewN ?_ _ | refine blk_drew ?_ | refine blk_alloc ?_ _)); refine blk_put (cs := #[.int .i64 t327, .int .i64 0, .int .i64 0, .int .i64 0]) ?_ 1 _ rfl; (with_reducible repeat (first | refine blk_drewN ?_ _ | refine blk_drew ?_ | refine blk_alloc ?_ _)); refine blk_put (cs := #[.int .i64 0, .int .i64 0, .int .i64 0, .int .i64 0]) ?_ 0 _ rfl; (with_reducible repeat (first | refine blk_drewN ?_ _ | refine blk_drew ?_ | refine blk_alloc ?_ _)); exact BK335.out) hb); replace BK336 := Aside0.mk (blk_below (g := gb336) (o := .cells #[.int .i64 t331, .int .i64 t332, .int .i64 t333, .int .i64 t334] 25 (0, 0)) (by (with_reducible repeat (first | refine blk_drewN ?_ _ | refine blk_drew ?_ | refine blk_alloc ?_ _)); refine blk_put (cs := #[.int .i64 t331, .int .i64 t332, .int .i64 t333, .int .i64 0]) ?_ 3 _ rfl; (with_reducible repeat (first | refine blk_drewN ?_ _ | refine blk_drew ?_ | refine blk_alloc ?_ _)); refine blk_put (cs := #[.int .i64 t331, .int .i64 t332, .int .i64 0, .int .i64 0]) ?_ 2 _ rfl; (with_reducible repeat (first | refine blk_drewN ?_ _ | refine blk_drew ?_ | refine blk_alloc ?_ _)); refine blk_put (cs := #[.int .i64 t331, .int .i64 0, .int .i64 0, .int .i64 0]) ?_ 1 _ rfl; (with_reducible repeat (first | refine blk_drewN ?_ _ | refine blk_drew ?_ | refine blk_alloc ?_ _)); refine blk_put (cs := #[.int .i64 0, .int .i64 0, .int .i64 0, .int .i64 0]) ?_ 0 _ rfl; (with_reducible repeat (first | refine blk_drewN ?_ _ | refine blk_drew ?_ | refine blk_alloc ?_ _)); refine blk_far ?_ NB336_335.out _; (with_reducible repeat (first | refine blk_drewN ?_ _ | refine blk_drew ?_ | refine blk_alloc ?_ _)); refine blk_far ?_ NB336_335.out _; (with_reducible repeat (first | refine blk_drewN ?_ _ | refine blk_drew ?_ | refine blk_alloc ?_ _)); refine blk_far ?_ NB336_335.out _; (with_reducible repeat (first | refine blk_drewN ?_ _ | refine blk_drew ?_ | refine blk_alloc ?_ _)); refine blk_far ?_ NB336_335.out _; (with_reducible repeat (first | refine blk_drewN ?_ _ | refine blk_drew ?_ | refine blk_alloc ?_ _)); exact BK336.out) hb); replace HB := Aside0.mk (below_step (z.bl HB) hb); (try clear hb); (try clear hb2); (try clear hk); (try clear hi)) | ((with_reducible refine gate_dst (N := 7) rfl ?_); refine box_event ?hg (N := 7) ?hd (cs := #[.int .i64 0, .int .i64 0, .int .i64 0, .int .i64 0]) (t := 25) ?hr ?_; (case hd => rfl); (case hg => rfl); (case hr => first | (go_simp; done) | (go_simp; rfl)); intro gb342 hg w15 hbox hb; have BK342 := Aside0.mk (hbox); have GW342 := Aside0.mk ((by rw [hg]; exact (below_size (z.bl HB)) : w.heap.size ≤ gb342)); have GE342 := Aside0.mk ((by rw [hg]; exact (below_size (z.bl HB)) : w.heap.size ≤ gb342)); replace HB := Aside0.mk (below_step (z.bl HB) hb); have NB335_342 := z.ht BK335 hg; have NB342_335 := z.hu BK335 hg; replace BK335 := z.bb BK335 hb; have NB336_342 := z.ht BK336 hg; have NB342_336 := z.hu BK336 hg; replace BK336 := z.bb BK336 hb; clear hb hbox hg; have hnb16 := NB342_335.out; have hnc16 := NB335_342.out; have hnb17 := NB342_336.out; have hnc17 := NB336_342.out; have hcz18_0 : w15.cell? ⟨gb342, 0, none⟩ = some (.int .i64 0) := (blk_cell BK342.out 0).trans rfl; have hcz18_1 : w15.cell? ⟨gb342, 1, none⟩ = some (.int .i64 0) := (blk_cell BK342.out 1).trans rfl; have hcz18_2 : w15.cell? ⟨gb342, 2, none⟩ = some (.int .i64 0) := (blk_cell BK342.out 2).trans rfl; have hcz18_3 : w15.cell? ⟨gb342, 3, none⟩ = some (.int .i64 0) := (blk_cell BK342.out 3).trans rfl; have hfz18_0 := blk_frozen BK342.out 0; have hfz18_1 := blk_frozen BK342.out 1; have hfz18_2 := blk_frozen BK342.out 2; have hfz18_3 := blk_frozen BK342.out 3; have hcz19_0 : w15.cell? ⟨gb335, 0, none⟩ = some (.int .i64 t327) := (blk_cell BK335.out 0).trans rfl; have hcz19_1 : w15.cell? ⟨gb335, 1, none⟩ = some (.int .i64 t328) := (blk_cell BK335.out 1).trans rfl; have hcz19_2 : w15.cell? ⟨gb335, 2, none⟩ = some (.int .i64 t329) := (blk_cell BK335.out 2).trans rfl; have hcz19_3 : w15.cell? ⟨gb335, 3, none⟩ = some (.int .i64 t330) := (blk_cell BK335.out 3).trans rfl; have hfz19_0 := blk_frozen BK335.out 0; have hfz19_1 := blk_frozen BK335.out 1; have hfz19_2 := blk_frozen BK335.out 2; have hfz19_3 := blk_frozen BK335.out 3; have hcz20_0 : w15.cell? ⟨gb336, 0, none⟩ = some (.int .i64 t331) := (blk_cell BK336.out 0).trans rfl; have hcz20_1 : w15.cell? ⟨gb336, 1, none⟩ = some (.int .i64 t332) := (blk_cell BK336.out 1).trans rfl; have hcz20_2 : w15.cell? ⟨gb336, 2, none⟩ = some (.int .i64 t333) := (blk_cell BK336.out 2).trans rfl; have hcz20_3 : w15.cell? ⟨gb336, 3, none⟩ = some (.int .i64 t334) := (blk_cell BK336.out 3).trans rfl; have hfz20_0 := blk_frozen BK336.out 0; have hfz20_1 := blk_frozen BK336.out 1; have hfz20_2 := blk_frozen BK336.out 2; have hfz20_3 := blk_frozen BK336.out 3) | ((with_reducible refine gate_callee (f := 17) rfl ?_); refine z.gl (some 38) rfl rfl Try.func17 (by kernel_rfl) rfl #[.agg #[.int .i64 t327, .int .i64 t328, .int .i64 t329, .int .i64 t330], .agg #[.int .i64 t331, .int .i64 t332, .int .i64 t333, .int .i64 t334]] rfl ?_; (with_reducible refine (spec_OverTint.calls t327 t328 t329 t330 t331 t332 t333 t334 t343 t344 t345 t346 t347 _ A6.out).mono ?_); rintro e w21 ⟨rfl, hb⟩; refine ⟨_, rfl, ?_⟩; replace BK335 := Aside0.mk (blk_below (g := gb335) (o := .cells #[.int .i64 t327, .int .i64 t328, .int .i64 t329, .int .i64 t330] 25 (0, 0)) (z.bf BK335) hb); replace BK336 := Aside0.mk (blk_below (g := gb336) (o := .cells #[.int .i64 t331, .int .i64 t332, .int .i64 t333, .int .i64 t334] 25 (0, 0)) (z.bf BK336) hb); replace BK342 := Aside0.mk (blk_below (g := gb342) (o := .cells #[.int .i64 t337, .int .i64 t338, .int .i64 t339, .int .i64 t340] 25 (0, 0)) (by (with_reducible repeat (first | refine blk_drewN ?_ _ | refine blk_drew ?_ | refine blk_alloc ?_ _)); refine blk_put (cs := #[.int .i64 t337, .int .i64 t338, .int .i64 t339, .int .i64 0]) ?_ 3 _ rfl; (with_reducible repeat (first | refine blk_drewN ?_ _ | refine blk_drew ?_ | refine blk_alloc ?_ _)); refine blk_put (cs := #[.int .i64 t337, .int .i64 t338, .int .i64 0, .int .i64 0]) ?_ 2 _ rfl; (with_reducible repeat (first | refine blk_drewN ?_ _ | refine blk_drew ?_ | refine blk_alloc ?_ _)); refine blk_put (cs := #[.int .i64 t337, .int .i64 0, .int .i64 0, .int .i64 0]) ?_ 1 _ rfl; (with_reducible repeat (first | refine blk_drewN ?_ _ | refine blk_drew ?_ | refine blk_alloc ?_ _)); refine blk_put (cs := #[.int .i64 0, .int .i64 0, .int .i64 0, .int .i64 0]) ?_ 0 _ rfl; (with_reducible repeat (first | refine blk_drewN ?_ _ | refine blk_drew ?_ | refine blk_alloc ?_ _)); exact BK342.out) hb); replace HB := Aside0.mk (below_step (z.bl HB) hb); (try clear hb); (try clear hb2); (try clear hk); (try clear hi)) | ((with_reducible refine gate_dst (N := 9) rfl ?_); refine box_event ?hg (N := 9) ?hd (cs := #[.int .i64 0, .int .i64 0, .int .i64 0, .int .i64 0]) (t := 25) ?hr ?_; (case hd => rfl); (case hg => rfl); (case hr => first | (go_simp; done) | (go_simp; rfl)); intro gb348 hg w22 hbox hb; have BK348 := Aside0.mk (hbox); have GW348 := Aside0.mk ((by rw [hg]; exact (below_size (z.bl HB)) : w.heap.size ≤ gb348)); have GE348 := Aside0.mk ((by rw [hg]; exact (below_size (z.bl HB)) : w.heap.size ≤ gb348)); replace HB := Aside0.mk (below_step (z.bl HB) hb); have NB335_348 := z.ht BK335 hg; have NB348_335 := z.hu BK335 hg; replace BK335 := z.bb BK335 hb; have NB336_348 := z.ht BK336 hg; have NB348_336 := z.hu BK336 hg; replace BK336 := z.bb BK336 hb; have NB342_348 := z.ht BK342 hg; have NB348_342 := z.hu BK342 hg; replace BK342 := z.bb BK342 hb; clear hb hbox hg; have hnb23 := NB348_335.out; have hnc23 := NB335_348.out; have hnb24 := NB348_336.out; have hnc24 := NB336_348.out; have hnb25 := NB348_342.out; have hnc25 := NB342_348.out; have hcz26_0 : w22.cell? ⟨gb348, 0, none⟩ = some (.int .i64 0) := (blk_cell BK348.out 0).trans rfl; have hcz26_1 : w22.cell? ⟨gb348, 1, none⟩ = some (.int .i64 0) := (blk_cell BK348.out 1).trans rfl; have hcz26_2 : w22.cell? ⟨gb348, 2, none⟩ = some (.int .i64 0) := (blk_cell BK348.out 2).trans rfl; have hcz26_3 : w22.cell? ⟨gb348, 3, none⟩ = some (.int .i64 0) := (blk_cell BK348.out 3).trans rfl; have hfz26_0 := blk_frozen BK348.out 0; have hfz26_1 := blk_frozen BK348.out 1; have hfz26_2 := blk_frozen BK348.out 2; have hfz26_3 := blk_frozen BK348.out 3))
  (try simp only [Act.put, List.setIfInBounds_toArray, List.set_cons_zero, List.set_cons_succ])
  go_cut [48] (fun v48 wc => ∃ (kq : Nat) (x48_6 : Bool), v48 = .bool x48_6 ∧ Aside0 (laws_FnTints.j0 kq l1 t341 x48_6 t327 t328 t329 t330 t331 t332 t333 t334 t337 t338 t339 t340 = some r) ∧ Aside0 (kq ≤ k) ∧ Aside0 (wc.heap[gb335]? = some (.cells #[.int .i64 t327, .int .i64 t328, .int .i64 t329, .int .i64 t330] 25 (0, 0))) ∧ Aside0 (wc.heap[gb336]? = some (.cells #[.int .i64 t331, .int .i64 t332, .int .i64 t333, .int .i64 t334] 25 (0, 0))) ∧ Aside0 (wc.heap[gb342]? = some (.cells #[.int .i64 t337, .int .i64 t338, .int .i64 t339, .int .i64 t340] 25 (0, 0))) ∧ Aside0 (wc.heap[gb348]? = some (.cells #[.int .i64 t343, .int .i64 t344, .int .i64 t345, .int .i64 t346] 25 (0, 0))) ∧ Aside0 (Below w.heap.size w wc))
  case first =>
   have H := HC7.out
   clear HC7
   by_cases c27 : (t341 != t347) = true
   ·rw [if_pos c27] at H
    have c27b0 : (t341 != t347) = true := c27
    (try (have c27b1 : decide (t341 = t347) = false := by simpa using c27))
    (try (have c27b2 : (t341 == t347) = false := by simpa using c27))
    (try (have c27b3 : ¬ (t341 = t347) := by simpa using c27))
    clear c27
    (first | rw [c27b0] | (simp only [i64_w, i32_w]; rw [c27b0]) | skip)
    have H' := Aside0.mk H
    clear H
    go_wp2
    go_meet
    case rel => exact ⟨_, (true), (by first | rfl | (simp; done) | (simp [*]; done)), H', ⟨by first | omega | exact Nat.le_refl _⟩, ⟨z.bf BK335⟩, ⟨z.bf BK336⟩, ⟨z.bf BK342⟩, ⟨by (with_reducible repeat (first | refine blk_drewN ?_ _ | refine blk_drew ?_ | refine blk_alloc ?_ _)); refine blk_put (cs := #[.int .i64 t343, .int .i64 t344, .int .i64 t345, .int .i64 0]) ?_ 3 _ rfl; (with_reducible repeat (first | refine blk_drewN ?_ _ | refine blk_drew ?_ | refine blk_alloc ?_ _)); refine blk_put (cs := #[.int .i64 t343, .int .i64 t344, .int .i64 0, .int .i64 0]) ?_ 2 _ rfl; (with_reducible repeat (first | refine blk_drewN ?_ _ | refine blk_drew ?_ | refine blk_alloc ?_ _)); refine blk_put (cs := #[.int .i64 t343, .int .i64 0, .int .i64 0, .int .i64 0]) ?_ 1 _ rfl; (with_reducible repeat (first | refine blk_drewN ?_ _ | refine blk_drew ?_ | refine blk_alloc ?_ _)); refine blk_put (cs := #[.int .i64 0, .int .i64 0, .int .i64 0, .int .i64 0]) ?_ 0 _ rfl; (with_reducible repeat (first | refine blk_drewN ?_ _ | refine blk_drew ?_ | refine blk_alloc ?_ _)); exact BK348.out⟩, ⟨z.bl HB⟩⟩
   ·rw [if_neg c27] at H
    have c27b0 : (t341 != t347) = false := by simpa using c27
    (try (have c27b1 : decide (t341 = t347) = true := by simpa using c27))
    (try (have c27b2 : (t341 == t347) = true := by simpa using c27))
    clear c27
    (first | rw [c27b0] | (simp only [i64_w, i32_w]; rw [c27b0]) | skip)
    have H' := Aside0.mk H
    clear H
    have hnb28 := NB342_335.out
    have hnc28 := NB335_342.out
    have hnb29 := NB342_336.out
    have hnc29 := NB336_342.out
    have hnb30 := NB342_348.out
    have hnc30 := NB348_342.out
    have hcz31_0 : w22.cell? ⟨gb342, 0, none⟩ = some (.int .i64 t337) := (blk_cell BK342.out 0).trans rfl
    have hcz31_1 : w22.cell? ⟨gb342, 1, none⟩ = some (.int .i64 t338) := (blk_cell BK342.out 1).trans rfl
    have hcz31_2 : w22.cell? ⟨gb342, 2, none⟩ = some (.int .i64 t339) := (blk_cell BK342.out 2).trans rfl
    have hcz31_3 : w22.cell? ⟨gb342, 3, none⟩ = some (.int .i64 t340) := (blk_cell BK342.out 3).trans rfl
    have hfz31_0 := blk_frozen BK342.out 0
    have hfz31_1 := blk_frozen BK342.out 1
    have hfz31_2 := blk_frozen BK342.out 2
    have hfz31_3 := blk_frozen BK342.out 3
    have hnb32 := NB348_335.out
    have hnc32 := NB335_348.out
    have hnb33 := NB348_336.out
    have hnc33 := NB336_348.out
    have hcz34_0 : w22.cell? ⟨gb348, 0, none⟩ = some (.int .i64 0) := (blk_cell BK348.out 0).trans rfl
    have hcz34_1 : w22.cell? ⟨gb348, 1, none⟩ = some (.int .i64 0) := (blk_cell BK348.out 1).trans rfl
    have hcz34_2 : w22.cell? ⟨gb348, 2, none⟩ = some (.int .i64 0) := (blk_cell BK348.out 2).trans rfl
    have hcz34_3 : w22.cell? ⟨gb348, 3, none⟩ = some (.int .i64 0) := (blk_cell BK348.out 3).trans rfl
    have hfz34_0 := blk_frozen BK348.out 0
    have hfz34_1 := blk_frozen BK348.out 1
    have hfz34_2 := blk_frozen BK348.out 2
    have hfz34_3 := blk_frozen BK348.out 3
    go_wp2
    go_meet
    case rel => exact ⟨_, ((!(t337 == t343) || (!(t338 == t344) || (!(t339 == t345) || (!(t340 == t346)))))), (by first | rfl | (simp; done) | (simp [*]; done)), H', ⟨by first | omega | exact Nat.le_refl _⟩, ⟨z.bf BK335⟩, ⟨z.bf BK336⟩, ⟨z.bf BK342⟩, ⟨by (with_reducible repeat (first | refine blk_drewN ?_ _ | refine blk_drew ?_ | refine blk_alloc ?_ _)); refine blk_put (cs := #[.int .i64 t343, .int .i64 t344, .int .i64 t345, .int .i64 0]) ?_ 3 _ rfl; (with_reducible repeat (first | refine blk_drewN ?_ _ | refine blk_drew ?_ | refine blk_alloc ?_ _)); refine blk_put (cs := #[.int .i64 t343, .int .i64 t344, .int .i64 0, .int .i64 0]) ?_ 2 _ rfl; (with_reducible repeat (first | refine blk_drewN ?_ _ | refine blk_drew ?_ | refine blk_alloc ?_ _)); refine blk_put (cs := #[.int .i64 t343, .int .i64 0, .int .i64 0, .int .i64 0]) ?_ 1 _ rfl; (with_reducible repeat (first | refine blk_drewN ?_ _ | refine blk_drew ?_ | refine blk_alloc ?_ _)); refine blk_put (cs := #[.int .i64 0, .int .i64 0, .int .i64 0, .int .i64 0]) ?_ 0 _ rfl; (with_reducible repeat (first | refine blk_drewN ?_ _ | refine blk_drew ?_ | refine blk_alloc ?_ _)); exact BK348.out⟩, ⟨z.bl HB⟩⟩
  case rest =>
   clear HC7
   try clear c1
   try clear c2
   try clear p2
   try clear c3
   try clear c3b0
   try clear c4
   try clear p6
   try clear c11
   try clear c15
   try clear c16
   try clear c17
   try clear c23
   try clear c24
   try clear c25
   try clear c27
   try clear c27b0
   try clear c27b1
   try clear c27b2
   try clear c28
   try clear c29
   try clear c30
   try clear c32
   try clear c33
   try clear hcz12_0
   try clear hcz12_1
   try clear hcz12_2
   try clear hcz12_3
   try clear hcz13_0
   try clear hcz13_1
   try clear hcz13_2
   try clear hcz13_3
   try clear hcz18_0
   try clear hcz18_1
   try clear hcz18_2
   try clear hcz18_3
   try clear hcz19_0
   try clear hcz19_1
   try clear hcz19_2
   try clear hcz19_3
   try clear hcz20_0
   try clear hcz20_1
   try clear hcz20_2
   try clear hcz20_3
   try clear hcz26_0
   try clear hcz26_1
   try clear hcz26_2
   try clear hcz26_3
   try clear hcz31_0
   try clear hcz31_1
   try clear hcz31_2
   try clear hcz31_3
   try clear hcz34_0
   try clear hcz34_1
   try clear hcz34_2
   try clear hcz34_3
   try clear hfz12_0
   try clear hfz12_1
   try clear hfz12_2
   try clear hfz12_3
   try clear hfz13_0
   try clear hfz13_1
   try clear hfz13_2
   try clear hfz13_3
   try clear hfz18_0
   try clear hfz18_1
   try clear hfz18_2
   try clear hfz18_3
   try clear hfz19_0
   try clear hfz19_1
   try clear hfz19_2
   try clear hfz19_3
   try clear hfz20_0
   try clear hfz20_1
   try clear hfz20_2
   try clear hfz20_3
   try clear hfz26_0
   try clear hfz26_1
   try clear hfz26_2
   try clear hfz26_3
   try clear hfz31_0
   try clear hfz31_1
   try clear hfz31_2
   try clear hfz31_3
   try clear hfz34_0
   try clear hfz34_1
   try clear hfz34_2
   try clear hfz34_3
   obtain ⟨kq, x48_6, rfl, HA, HJ6, BK335, BK336, BK342, BK348, HB⟩ := hcut
   cases kq with
   | zero => exact absurd HA.out (by simp [laws_FnTints.j0])
   | succ kj6 =>
    have H := HA.out
    clear HA
    simp only [laws_FnTints.j0] at H
    by_cases c35 : x48_6 = true
    ·subst c35
     have H1 : (some false) = some r := by rw [if_pos rfl] at H; exact H
     clear H
     have H := H1
     clear H1
     exact absurd (Option.some.inj H) (by rw [hrt]; decide)
    ·replace c35 := Bool.eq_false_iff.mpr c35
     subst c35
     have H1 : (if t341 = true then ((impl_GoodTint.f t337 t338 t339 t340).bind fun t349 => (if t349 = true then (if t330 = 255 then (if (!(t337 == t327) || (!(t338 == t328) || (!(t339 == t329) || (!(t340 == t330))))) = true then (laws_FnTints.j1 kj6 l1 true) else (if t330 = 0 then (laws_FnTints.j1 kj6 l1 (!(t337 == t331) || (!(t338 == t332) || (!(t339 == t333) || (!(t340 == t334)))))) else (laws_FnTints.j1 kj6 l1 false))) else (if t330 = 0 then (laws_FnTints.j1 kj6 l1 (!(t337 == t331) || (!(t338 == t332) || (!(t339 == t333) || (!(t340 == t334)))))) else (laws_FnTints.j1 kj6 l1 false))) else (laws_FnTints.j1 kj6 l1 true))) else (laws_FnTints.j1 kj6 l1 false)) = some r := by rw [if_neg (show ¬ (false = true) by decide)] at H; exact H
     clear H
     have H := H1
     clear H1
     have HC36 := Aside0.mk H
     clear H
     go_upto_region 8 with (fail)
     go_cut [74] (fun v74 wc => ∃ (kq : Nat) (x74_35 : Bool), v74 = .bool x74_35 ∧ Aside0 (laws_FnTints.j1 kq l1 x74_35 = some r) ∧ Aside0 (kq ≤ kj6) ∧ Aside0 (wc.heap[gb335]? = some (.cells #[.int .i64 t327, .int .i64 t328, .int .i64 t329, .int .i64 t330] 25 (0, 0))) ∧ Aside0 (wc.heap[gb336]? = some (.cells #[.int .i64 t331, .int .i64 t332, .int .i64 t333, .int .i64 t334] 25 (0, 0))) ∧ Aside0 (wc.heap[gb342]? = some (.cells #[.int .i64 t337, .int .i64 t338, .int .i64 t339, .int .i64 t340] 25 (0, 0))) ∧ Aside0 (wc.heap[gb348]? = some (.cells #[.int .i64 t343, .int .i64 t344, .int .i64 t345, .int .i64 t346] 25 (0, 0))) ∧ Aside0 (Below w.heap.size w wc))
     case first =>
      have H := HC36.out
      clear HC36
      by_cases c37 : t341 = true
      ·subst c37
       have H1 : ((impl_GoodTint.f t337 t338 t339 t340).bind fun t349 => (if t349 = true then (if t330 = 255 then (if (!(t337 == t327) || (!(t338 == t328) || (!(t339 == t329) || (!(t340 == t330))))) = true then (laws_FnTints.j1 kj6 l1 true) else (if t330 = 0 then (laws_FnTints.j1 kj6 l1 (!(t337 == t331) || (!(t338 == t332) || (!(t339 == t333) || (!(t340 == t334)))))) else (laws_FnTints.j1 kj6 l1 false))) else (if t330 = 0 then (laws_FnTints.j1 kj6 l1 (!(t337 == t331) || (!(t338 == t332) || (!(t339 == t333) || (!(t340 == t334)))))) else (laws_FnTints.j1 kj6 l1 false))) else (laws_FnTints.j1 kj6 l1 true))) = some r := by rw [if_pos rfl] at H; exact H
       clear H
       have H := H1
       clear H1
       replace H := Option.bind_eq_some_iff.mp H
       obtain ⟨t349, A380, H⟩ := H
       replace H : (if t349 = true then (if t330 = 255 then (if (!(t337 == t327) || (!(t338 == t328) || (!(t339 == t329) || (!(t340 == t330))))) = true then (laws_FnTints.j1 kj6 l1 true) else (if t330 = 0 then (laws_FnTints.j1 kj6 l1 (!(t337 == t331) || (!(t338 == t332) || (!(t339 == t333) || (!(t340 == t334)))))) else (laws_FnTints.j1 kj6 l1 false))) else (if t330 = 0 then (laws_FnTints.j1 kj6 l1 (!(t337 == t331) || (!(t338 == t332) || (!(t339 == t333) || (!(t340 == t334)))))) else (laws_FnTints.j1 kj6 l1 false))) else (laws_FnTints.j1 kj6 l1 true)) = some r := H
       have A38 := Aside0.mk A380
       clear A380
       by_cases c39 : t349 = true
       ·subst c39
        have H1 : (if t330 = 255 then (if (!(t337 == t327) || (!(t338 == t328) || (!(t339 == t329) || (!(t340 == t330))))) = true then (laws_FnTints.j1 kj6 l1 true) else (if t330 = 0 then (laws_FnTints.j1 kj6 l1 (!(t337 == t331) || (!(t338 == t332) || (!(t339 == t333) || (!(t340 == t334)))))) else (laws_FnTints.j1 kj6 l1 false))) else (if t330 = 0 then (laws_FnTints.j1 kj6 l1 (!(t337 == t331) || (!(t338 == t332) || (!(t339 == t333) || (!(t340 == t334)))))) else (laws_FnTints.j1 kj6 l1 false))) = some r := by rw [if_pos rfl] at H; exact H
        clear H
        have H := H1
        clear H1
        by_cases c40 : t330 = 255
        ·rw [if_pos c40] at H
         have c40b0 : (t330 == 255) = true := beq_iff_eq.mpr c40
         have c40b1 : (t330 != 255) = false := bne_eq_false_iff_eq.mpr c40
         clear c40
         (first | rw [c40b0] | (simp only [i64_w, i32_w]; rw [c40b0]) | skip)
         by_cases c41 : (!(t337 == t327) || (!(t338 == t328) || (!(t339 == t329) || (!(t340 == t330))))) = true
         ·rw [if_pos c41] at H
          have c41b0 : (!(t337 == t327) || (!(t338 == t328) || (!(t339 == t329) || (!(t340 == t330))))) = true := c41
          clear c41
          have H' := Aside0.mk H
          clear H
          have hnb42 := NB342_335.out
          have hnc42 := NB335_342.out
          have hnb43 := NB342_336.out
          have hnc43 := NB336_342.out
          have hnb44 := NB342_348.out
          have hnc44 := NB348_342.out
          have hcz45_0 : wc.cell? ⟨gb342, 0, none⟩ = some (.int .i64 t337) := (blk_cell BK342.out 0).trans rfl
          have hcz45_1 : wc.cell? ⟨gb342, 1, none⟩ = some (.int .i64 t338) := (blk_cell BK342.out 1).trans rfl
          have hcz45_2 : wc.cell? ⟨gb342, 2, none⟩ = some (.int .i64 t339) := (blk_cell BK342.out 2).trans rfl
          have hcz45_3 : wc.cell? ⟨gb342, 3, none⟩ = some (.int .i64 t340) := (blk_cell BK342.out 3).trans rfl
          have hfz45_0 := blk_frozen BK342.out 0
          have hfz45_1 := blk_frozen BK342.out 1
          have hfz45_2 := blk_frozen BK342.out 2
          have hfz45_3 := blk_frozen BK342.out 3
          go_wp2_with (first | (go_at_call 18; (with_reducible refine (impl_GoodTint.calls t337 t338 t339 t340 true _ A38.out).mono ?_); rintro e w46 ⟨rfl, hb⟩; replace BK335 := z.bb BK335 hb; replace BK336 := z.bb BK336 hb; replace BK342 := z.bb BK342 hb; replace BK348 := z.bb BK348 hb; replace HB := Aside0.mk (below_step (z.bl HB) hb); (try clear hb); (try clear hb2); (try clear hk); (try clear hi); have hnb47 := NB335_336.out; have hnc47 := NB336_335.out; have hnb48 := NB335_348.out; have hnc48 := NB348_335.out; have hcz49_0 : w46.cell? ⟨gb335, 0, none⟩ = some (.int .i64 t327) := (blk_cell BK335.out 0).trans rfl; have hcz49_1 : w46.cell? ⟨gb335, 1, none⟩ = some (.int .i64 t328) := (blk_cell BK335.out 1).trans rfl; have hcz49_2 : w46.cell? ⟨gb335, 2, none⟩ = some (.int .i64 t329) := (blk_cell BK335.out 2).trans rfl; have hcz49_3 : w46.cell? ⟨gb335, 3, none⟩ = some (.int .i64 t330) := (blk_cell BK335.out 3).trans rfl; have hfz49_0 := blk_frozen BK335.out 0; have hfz49_1 := blk_frozen BK335.out 1; have hfz49_2 := blk_frozen BK335.out 2; have hfz49_3 := blk_frozen BK335.out 3; have hcz50_0 : w46.cell? ⟨gb342, 0, none⟩ = some (.int .i64 t337) := (blk_cell BK342.out 0).trans rfl; have hcz50_1 : w46.cell? ⟨gb342, 1, none⟩ = some (.int .i64 t338) := (blk_cell BK342.out 1).trans rfl; have hcz50_2 : w46.cell? ⟨gb342, 2, none⟩ = some (.int .i64 t339) := (blk_cell BK342.out 2).trans rfl; have hcz50_3 : w46.cell? ⟨gb342, 3, none⟩ = some (.int .i64 t340) := (blk_cell BK342.out 3).trans rfl; have hfz50_0 := blk_frozen BK342.out 0; have hfz50_1 := blk_frozen BK342.out 1; have hfz50_2 := blk_frozen BK342.out 2; have hfz50_3 := blk_frozen BK342.out 3))
          go_meet
          case rel => exact ⟨_, (true), (by first | rfl | (simp; done) | (simp [*]; done)), H', ⟨by have := HJ6.out; first | omega | exact Nat.le_refl _⟩, ⟨z.bk BK335⟩, ⟨z.bk BK336⟩, ⟨z.bk BK342⟩, ⟨z.bk BK348⟩, ⟨z.bl HB⟩⟩
         ·rw [if_neg c41] at H
          have c41b0 : (!(t337 == t327) || (!(t338 == t328) || (!(t339 == t329) || (!(t340 == t330))))) = false := by simpa using c41
          clear c41
          by_cases c51 : t330 = 0
          ·rw [if_pos c51] at H
           have c51b0 : (t330 == 0) = true := beq_iff_eq.mpr c51
           have c51b1 : (t330 != 0) = false := bne_eq_false_iff_eq.mpr c51
           clear c51
           have H' := Aside0.mk H
           clear H
           have hnb52 := NB342_335.out
           have hnc52 := NB335_342.out
           have hnb53 := NB342_336.out
           have hnc53 := NB336_342.out
           have hnb54 := NB342_348.out
           have hnc54 := NB348_342.out
           have hcz55_0 : wc.cell? ⟨gb342, 0, none⟩ = some (.int .i64 t337) := (blk_cell BK342.out 0).trans rfl
           have hcz55_1 : wc.cell? ⟨gb342, 1, none⟩ = some (.int .i64 t338) := (blk_cell BK342.out 1).trans rfl
           have hcz55_2 : wc.cell? ⟨gb342, 2, none⟩ = some (.int .i64 t339) := (blk_cell BK342.out 2).trans rfl
           have hcz55_3 : wc.cell? ⟨gb342, 3, none⟩ = some (.int .i64 t340) := (blk_cell BK342.out 3).trans rfl
           have hfz55_0 := blk_frozen BK342.out 0
           have hfz55_1 := blk_frozen BK342.out 1
           have hfz55_2 := blk_frozen BK342.out 2
           have hfz55_3 := blk_frozen BK342.out 3
           go_wp2_with (first | (go_at_call 18; (with_reducible refine (impl_GoodTint.calls t337 t338 t339 t340 true _ A38.out).mono ?_); rintro e w56 ⟨rfl, hb⟩; replace BK335 := z.bb BK335 hb; replace BK336 := z.bb BK336 hb; replace BK342 := z.bb BK342 hb; replace BK348 := z.bb BK348 hb; replace HB := Aside0.mk (below_step (z.bl HB) hb); (try clear hb); (try clear hb2); (try clear hk); (try clear hi); have hnb57 := NB335_336.out; have hnc57 := NB336_335.out; have hnb58 := NB335_348.out; have hnc58 := NB348_335.out; have hcz59_0 : w56.cell? ⟨gb335, 0, none⟩ = some (.int .i64 t327) := (blk_cell BK335.out 0).trans rfl; have hcz59_1 : w56.cell? ⟨gb335, 1, none⟩ = some (.int .i64 t328) := (blk_cell BK335.out 1).trans rfl; have hcz59_2 : w56.cell? ⟨gb335, 2, none⟩ = some (.int .i64 t329) := (blk_cell BK335.out 2).trans rfl; have hcz59_3 : w56.cell? ⟨gb335, 3, none⟩ = some (.int .i64 t330) := (blk_cell BK335.out 3).trans rfl; have hfz59_0 := blk_frozen BK335.out 0; have hfz59_1 := blk_frozen BK335.out 1; have hfz59_2 := blk_frozen BK335.out 2; have hfz59_3 := blk_frozen BK335.out 3; have hcz60_0 : w56.cell? ⟨gb342, 0, none⟩ = some (.int .i64 t337) := (blk_cell BK342.out 0).trans rfl; have hcz60_1 : w56.cell? ⟨gb342, 1, none⟩ = some (.int .i64 t338) := (blk_cell BK342.out 1).trans rfl; have hcz60_2 : w56.cell? ⟨gb342, 2, none⟩ = some (.int .i64 t339) := (blk_cell BK342.out 2).trans rfl; have hcz60_3 : w56.cell? ⟨gb342, 3, none⟩ = some (.int .i64 t340) := (blk_cell BK342.out 3).trans rfl; have hfz60_0 := blk_frozen BK342.out 0; have hfz60_1 := blk_frozen BK342.out 1; have hfz60_2 := blk_frozen BK342.out 2; have hfz60_3 := blk_frozen BK342.out 3; have hnb61 := NB336_348.out; have hnc61 := NB348_336.out; have hcz62_0 : w56.cell? ⟨gb336, 0, none⟩ = some (.int .i64 t331) := (blk_cell BK336.out 0).trans rfl; have hcz62_1 : w56.cell? ⟨gb336, 1, none⟩ = some (.int .i64 t332) := (blk_cell BK336.out 1).trans rfl; have hcz62_2 : w56.cell? ⟨gb336, 2, none⟩ = some (.int .i64 t333) := (blk_cell BK336.out 2).trans rfl; have hcz62_3 : w56.cell? ⟨gb336, 3, none⟩ = some (.int .i64 t334) := (blk_cell BK336.out 3).trans rfl; have hfz62_0 := blk_frozen BK336.out 0; have hfz62_1 := blk_frozen BK336.out 1; have hfz62_2 := blk_frozen BK336.out 2; have hfz62_3 := blk_frozen BK336.out 3))
           go_meet
           case rel => exact ⟨_, ((!(t337 == t331) || (!(t338 == t332) || (!(t339 == t333) || (!(t340 == t334)))))), (by first | rfl | (simp; done) | (simp [*]; done)), H', ⟨by have := HJ6.out; first | omega | exact Nat.le_refl _⟩, ⟨z.bk BK335⟩, ⟨z.bk BK336⟩, ⟨z.bk BK342⟩, ⟨z.bk BK348⟩, ⟨z.bl HB⟩⟩
          ·rw [if_neg c51] at H
           have c51b0 : (t330 == 0) = false := beq_eq_false_iff_ne.mpr c51
           have c51b1 : (t330 != 0) = true := bne_iff_ne.mpr c51
           have H' := Aside0.mk H
           clear H
           have hnb63 := NB342_335.out
           have hnc63 := NB335_342.out
           have hnb64 := NB342_336.out
           have hnc64 := NB336_342.out
           have hnb65 := NB342_348.out
           have hnc65 := NB348_342.out
           have hcz66_0 : wc.cell? ⟨gb342, 0, none⟩ = some (.int .i64 t337) := (blk_cell BK342.out 0).trans rfl
           have hcz66_1 : wc.cell? ⟨gb342, 1, none⟩ = some (.int .i64 t338) := (blk_cell BK342.out 1).trans rfl
           have hcz66_2 : wc.cell? ⟨gb342, 2, none⟩ = some (.int .i64 t339) := (blk_cell BK342.out 2).trans rfl
           have hcz66_3 : wc.cell? ⟨gb342, 3, none⟩ = some (.int .i64 t340) := (blk_cell BK342.out 3).trans rfl
           have hfz66_0 := blk_frozen BK342.out 0
           have hfz66_1 := blk_frozen BK342.out 1
           have hfz66_2 := blk_frozen BK342.out 2
           have hfz66_3 := blk_frozen BK342.out 3
           go_wp2_with (first | (go_at_call 18; (with_reducible refine (impl_GoodTint.calls t337 t338 t339 t340 true _ A38.out).mono ?_); rintro e w67 ⟨rfl, hb⟩; replace BK335 := z.bb BK335 hb; replace BK336 := z.bb BK336 hb; replace BK342 := z.bb BK342 hb; replace BK348 := z.bb BK348 hb; replace HB := Aside0.mk (below_step (z.bl HB) hb); (try clear hb); (try clear hb2); (try clear hk); (try clear hi); have hnb68 := NB335_336.out; have hnc68 := NB336_335.out; have hnb69 := NB335_348.out; have hnc69 := NB348_335.out; have hcz70_0 : w67.cell? ⟨gb335, 0, none⟩ = some (.int .i64 t327) := (blk_cell BK335.out 0).trans rfl; have hcz70_1 : w67.cell? ⟨gb335, 1, none⟩ = some (.int .i64 t328) := (blk_cell BK335.out 1).trans rfl; have hcz70_2 : w67.cell? ⟨gb335, 2, none⟩ = some (.int .i64 t329) := (blk_cell BK335.out 2).trans rfl; have hcz70_3 : w67.cell? ⟨gb335, 3, none⟩ = some (.int .i64 t330) := (blk_cell BK335.out 3).trans rfl; have hfz70_0 := blk_frozen BK335.out 0; have hfz70_1 := blk_frozen BK335.out 1; have hfz70_2 := blk_frozen BK335.out 2; have hfz70_3 := blk_frozen BK335.out 3; have hcz71_0 : w67.cell? ⟨gb342, 0, none⟩ = some (.int .i64 t337) := (blk_cell BK342.out 0).trans rfl; have hcz71_1 : w67.cell? ⟨gb342, 1, none⟩ = some (.int .i64 t338) := (blk_cell BK342.out 1).trans rfl; have hcz71_2 : w67.cell? ⟨gb342, 2, none⟩ = some (.int .i64 t339) := (blk_cell BK342.out 2).trans rfl; have hcz71_3 : w67.cell? ⟨gb342, 3, none⟩ = some (.int .i64 t340) := (blk_cell BK342.out 3).trans rfl; have hfz71_0 := blk_frozen BK342.out 0; have hfz71_1 := blk_frozen BK342.out 1; have hfz71_2 := blk_frozen BK342.out 2; have hfz71_3 := blk_frozen BK342.out 3))
           go_meet
           case rel => exact ⟨_, (false), (by first | rfl | (simp; done) | (simp [*]; done)), H', ⟨by have := HJ6.out; first | omega | exact Nat.le_refl _⟩, ⟨z.bk BK335⟩, ⟨z.bk BK336⟩, ⟨z.bk BK342⟩, ⟨z.bk BK348⟩, ⟨z.bl HB⟩⟩
        ·rw [if_neg c40] at H
         have c40b0 : (t330 == 255) = false := beq_eq_false_iff_ne.mpr c40
         have c40b1 : (t330 != 255) = true := bne_iff_ne.mpr c40
         (first | rw [c40b0] | (simp only [i64_w, i32_w]; rw [c40b0]) | skip)
         by_cases c72 : t330 = 0
         ·rw [if_pos c72] at H
          have c72b0 : (t330 == 0) = true := beq_iff_eq.mpr c72
          have c72b1 : (t330 != 0) = false := bne_eq_false_iff_eq.mpr c72
          clear c72
          have H' := Aside0.mk H
          clear H
          have hnb73 := NB342_335.out
          have hnc73 := NB335_342.out
          have hnb74 := NB342_336.out
          have hnc74 := NB336_342.out
          have hnb75 := NB342_348.out
          have hnc75 := NB348_342.out
          have hcz76_0 : wc.cell? ⟨gb342, 0, none⟩ = some (.int .i64 t337) := (blk_cell BK342.out 0).trans rfl
          have hcz76_1 : wc.cell? ⟨gb342, 1, none⟩ = some (.int .i64 t338) := (blk_cell BK342.out 1).trans rfl
          have hcz76_2 : wc.cell? ⟨gb342, 2, none⟩ = some (.int .i64 t339) := (blk_cell BK342.out 2).trans rfl
          have hcz76_3 : wc.cell? ⟨gb342, 3, none⟩ = some (.int .i64 t340) := (blk_cell BK342.out 3).trans rfl
          have hfz76_0 := blk_frozen BK342.out 0
          have hfz76_1 := blk_frozen BK342.out 1
          have hfz76_2 := blk_frozen BK342.out 2
          have hfz76_3 := blk_frozen BK342.out 3
          go_wp2_with (first | (go_at_call 18; (with_reducible refine (impl_GoodTint.calls t337 t338 t339 t340 true _ A38.out).mono ?_); rintro e w77 ⟨rfl, hb⟩; replace BK335 := z.bb BK335 hb; replace BK336 := z.bb BK336 hb; replace BK342 := z.bb BK342 hb; replace BK348 := z.bb BK348 hb; replace HB := Aside0.mk (below_step (z.bl HB) hb); (try clear hb); (try clear hb2); (try clear hk); (try clear hi); have hnb78 := NB335_336.out; have hnc78 := NB336_335.out; have hnb79 := NB335_348.out; have hnc79 := NB348_335.out; have hcz80_0 : w77.cell? ⟨gb335, 0, none⟩ = some (.int .i64 t327) := (blk_cell BK335.out 0).trans rfl; have hcz80_1 : w77.cell? ⟨gb335, 1, none⟩ = some (.int .i64 t328) := (blk_cell BK335.out 1).trans rfl; have hcz80_2 : w77.cell? ⟨gb335, 2, none⟩ = some (.int .i64 t329) := (blk_cell BK335.out 2).trans rfl; have hcz80_3 : w77.cell? ⟨gb335, 3, none⟩ = some (.int .i64 t330) := (blk_cell BK335.out 3).trans rfl; have hfz80_0 := blk_frozen BK335.out 0; have hfz80_1 := blk_frozen BK335.out 1; have hfz80_2 := blk_frozen BK335.out 2; have hfz80_3 := blk_frozen BK335.out 3; have hcz81_0 : w77.cell? ⟨gb342, 0, none⟩ = some (.int .i64 t337) := (blk_cell BK342.out 0).trans rfl; have hcz81_1 : w77.cell? ⟨gb342, 1, none⟩ = some (.int .i64 t338) := (blk_cell BK342.out 1).trans rfl; have hcz81_2 : w77.cell? ⟨gb342, 2, none⟩ = some (.int .i64 t339) := (blk_cell BK342.out 2).trans rfl; have hcz81_3 : w77.cell? ⟨gb342, 3, none⟩ = some (.int .i64 t340) := (blk_cell BK342.out 3).trans rfl; have hfz81_0 := blk_frozen BK342.out 0; have hfz81_1 := blk_frozen BK342.out 1; have hfz81_2 := blk_frozen BK342.out 2; have hfz81_3 := blk_frozen BK342.out 3; have hnb82 := NB336_348.out; have hnc82 := NB348_336.out; have hcz83_0 : w77.cell? ⟨gb336, 0, none⟩ = some (.int .i64 t331) := (blk_cell BK336.out 0).trans rfl; have hcz83_1 : w77.cell? ⟨gb336, 1, none⟩ = some (.int .i64 t332) := (blk_cell BK336.out 1).trans rfl; have hcz83_2 : w77.cell? ⟨gb336, 2, none⟩ = some (.int .i64 t333) := (blk_cell BK336.out 2).trans rfl; have hcz83_3 : w77.cell? ⟨gb336, 3, none⟩ = some (.int .i64 t334) := (blk_cell BK336.out 3).trans rfl; have hfz83_0 := blk_frozen BK336.out 0; have hfz83_1 := blk_frozen BK336.out 1; have hfz83_2 := blk_frozen BK336.out 2; have hfz83_3 := blk_frozen BK336.out 3))
          go_meet
          case rel => exact ⟨_, ((!(t337 == t331) || (!(t338 == t332) || (!(t339 == t333) || (!(t340 == t334)))))), (by first | rfl | (simp; done) | (simp [*]; done)), H', ⟨by have := HJ6.out; first | omega | exact Nat.le_refl _⟩, ⟨z.bk BK335⟩, ⟨z.bk BK336⟩, ⟨z.bk BK342⟩, ⟨z.bk BK348⟩, ⟨z.bl HB⟩⟩
         ·rw [if_neg c72] at H
          have c72b0 : (t330 == 0) = false := beq_eq_false_iff_ne.mpr c72
          have c72b1 : (t330 != 0) = true := bne_iff_ne.mpr c72
          have H' := Aside0.mk H
          clear H
          have hnb84 := NB342_335.out
          have hnc84 := NB335_342.out
          have hnb85 := NB342_336.out
          have hnc85 := NB336_342.out
          have hnb86 := NB342_348.out
          have hnc86 := NB348_342.out
          have hcz87_0 : wc.cell? ⟨gb342, 0, none⟩ = some (.int .i64 t337) := (blk_cell BK342.out 0).trans rfl
          have hcz87_1 : wc.cell? ⟨gb342, 1, none⟩ = some (.int .i64 t338) := (blk_cell BK342.out 1).trans rfl
          have hcz87_2 : wc.cell? ⟨gb342, 2, none⟩ = some (.int .i64 t339) := (blk_cell BK342.out 2).trans rfl
          have hcz87_3 : wc.cell? ⟨gb342, 3, none⟩ = some (.int .i64 t340) := (blk_cell BK342.out 3).trans rfl
          have hfz87_0 := blk_frozen BK342.out 0
          have hfz87_1 := blk_frozen BK342.out 1
          have hfz87_2 := blk_frozen BK342.out 2
          have hfz87_3 := blk_frozen BK342.out 3
          go_wp2_with (first | (go_at_call 18; (with_reducible refine (impl_GoodTint.calls t337 t338 t339 t340 true _ A38.out).mono ?_); rintro e w88 ⟨rfl, hb⟩; replace BK335 := z.bb BK335 hb; replace BK336 := z.bb BK336 hb; replace BK342 := z.bb BK342 hb; replace BK348 := z.bb BK348 hb; replace HB := Aside0.mk (below_step (z.bl HB) hb); (try clear hb); (try clear hb2); (try clear hk); (try clear hi); have hnb89 := NB335_336.out; have hnc89 := NB336_335.out; have hnb90 := NB335_348.out; have hnc90 := NB348_335.out; have hcz91_0 : w88.cell? ⟨gb335, 0, none⟩ = some (.int .i64 t327) := (blk_cell BK335.out 0).trans rfl; have hcz91_1 : w88.cell? ⟨gb335, 1, none⟩ = some (.int .i64 t328) := (blk_cell BK335.out 1).trans rfl; have hcz91_2 : w88.cell? ⟨gb335, 2, none⟩ = some (.int .i64 t329) := (blk_cell BK335.out 2).trans rfl; have hcz91_3 : w88.cell? ⟨gb335, 3, none⟩ = some (.int .i64 t330) := (blk_cell BK335.out 3).trans rfl; have hfz91_0 := blk_frozen BK335.out 0; have hfz91_1 := blk_frozen BK335.out 1; have hfz91_2 := blk_frozen BK335.out 2; have hfz91_3 := blk_frozen BK335.out 3))
          go_meet
          case rel => exact ⟨_, (false), (by first | rfl | (simp; done) | (simp [*]; done)), H', ⟨by have := HJ6.out; first | omega | exact Nat.le_refl _⟩, ⟨z.bk BK335⟩, ⟨z.bk BK336⟩, ⟨z.bk BK342⟩, ⟨z.bk BK348⟩, ⟨z.bl HB⟩⟩
       ·replace c39 := Bool.eq_false_iff.mpr c39
        subst c39
        have H1 : (laws_FnTints.j1 kj6 l1 true) = some r := by rw [if_neg (show ¬ (false = true) by decide)] at H; exact H
        clear H
        have H := H1
        clear H1
        have H' := Aside0.mk H
        clear H
        have hnb92 := NB342_335.out
        have hnc92 := NB335_342.out
        have hnb93 := NB342_336.out
        have hnc93 := NB336_342.out
        have hnb94 := NB342_348.out
        have hnc94 := NB348_342.out
        have hcz95_0 : wc.cell? ⟨gb342, 0, none⟩ = some (.int .i64 t337) := (blk_cell BK342.out 0).trans rfl
        have hcz95_1 : wc.cell? ⟨gb342, 1, none⟩ = some (.int .i64 t338) := (blk_cell BK342.out 1).trans rfl
        have hcz95_2 : wc.cell? ⟨gb342, 2, none⟩ = some (.int .i64 t339) := (blk_cell BK342.out 2).trans rfl
        have hcz95_3 : wc.cell? ⟨gb342, 3, none⟩ = some (.int .i64 t340) := (blk_cell BK342.out 3).trans rfl
        have hfz95_0 := blk_frozen BK342.out 0
        have hfz95_1 := blk_frozen BK342.out 1
        have hfz95_2 := blk_frozen BK342.out 2
        have hfz95_3 := blk_frozen BK342.out 3
        go_wp2_with (first | (go_at_call 18; (with_reducible refine (impl_GoodTint.calls t337 t338 t339 t340 false _ A38.out).mono ?_); rintro e w96 ⟨rfl, hb⟩; replace BK335 := z.bb BK335 hb; replace BK336 := z.bb BK336 hb; replace BK342 := z.bb BK342 hb; replace BK348 := z.bb BK348 hb; replace HB := Aside0.mk (below_step (z.bl HB) hb); (try clear hb); (try clear hb2); (try clear hk); (try clear hi)))
        go_meet
        case rel => exact ⟨_, (true), (by first | rfl | (simp; done) | (simp [*]; done)), H', ⟨by have := HJ6.out; first | omega | exact Nat.le_refl _⟩, ⟨z.bk BK335⟩, ⟨z.bk BK336⟩, ⟨z.bk BK342⟩, ⟨z.bk BK348⟩, ⟨z.bl HB⟩⟩
      ·replace c37 := Bool.eq_false_iff.mpr c37
       subst c37
       have H1 : (laws_FnTints.j1 kj6 l1 false) = some r := by rw [if_neg (show ¬ (false = true) by decide)] at H; exact H
       clear H
       have H := H1
       clear H1
       have H' := Aside0.mk H
       clear H
       go_wp2
       go_meet
       case rel => exact ⟨_, (false), (by first | rfl | (simp; done) | (simp [*]; done)), H', ⟨by have := HJ6.out; first | omega | exact Nat.le_refl _⟩, ⟨z.bk BK335⟩, ⟨z.bk BK336⟩, ⟨z.bk BK342⟩, ⟨z.bk BK348⟩, ⟨z.bl HB⟩⟩
     case rest =>
      clear HC36
      try clear c1
      try clear c2
      try clear p2
      try clear c3
      try clear c3b0
      try clear c4
      try clear c5
      try clear c6
      try clear p6
      try clear c7
      try clear c8
      try clear c9
      try clear c11
      try clear c15
      try clear c16
      try clear c17
      try clear c23
      try clear c24
      try clear c25
      try clear c27
      try clear c27b0
      try clear c27b1
      try clear c27b2
      try clear c28
      try clear c29
      try clear c30
      try clear c32
      try clear c33
      try clear c35
      try clear c37
      try clear c39
      try clear c40
      try clear c40b0
      try clear c40b1
      try clear c41
      try clear c41b0
      try clear c42
      try clear c43
      try clear c44
      try clear c47
      try clear c48
      try clear c51
      try clear c51b0
      try clear c51b1
      try clear c52
      try clear c53
      try clear c54
      try clear c57
      try clear c58
      try clear c61
      try clear c63
      try clear c64
      try clear p64
      try clear c65
      try clear c68
      try clear c69
      try clear c72
      try clear c72b0
      try clear c72b1
      try clear c73
      try clear c74
      try clear c75
      try clear c78
      try clear c79
      try clear c82
      try clear c84
      try clear c85
      try clear c86
      try clear c89
      try clear c90
      try clear c92
      try clear c93
      try clear c94
      try clear hcz12_0
      try clear hcz12_1
      try clear hcz12_2
      try clear hcz12_3
      try clear hcz13_0
      try clear hcz13_1
      try clear hcz13_2
      try clear hcz13_3
      try clear hcz18_0
      try clear hcz18_1
      try clear hcz18_2
      try clear hcz18_3
      try clear hcz19_0
      try clear hcz19_1
      try clear hcz19_2
      try clear hcz19_3
      try clear hcz20_0
      try clear hcz20_1
      try clear hcz20_2
      try clear hcz20_3
      try clear hcz26_0
      try clear hcz26_1
      try clear hcz26_2
      try clear hcz26_3
      try clear hcz31_0
      try clear hcz31_1
      try clear hcz31_2
      try clear hcz31_3
      try clear hcz34_0
      try clear hcz34_1
      try clear hcz34_2
      try clear hcz34_3
      try clear hcz45_0
      try clear hcz45_1
      try clear hcz45_2
      try clear hcz45_3
      try clear hcz49_0
      try clear hcz49_1
      try clear hcz49_2
      try clear hcz49_3
      try clear hcz50_0
      try clear hcz50_1
      try clear hcz50_2
      try clear hcz50_3
      try clear hcz55_0
      try clear hcz55_1
      try clear hcz55_2
      try clear hcz55_3
      try clear hcz59_0
      try clear hcz59_1
      try clear hcz59_2
      try clear hcz59_3
      try clear hcz60_0
      try clear hcz60_1
      try clear hcz60_2
      try clear hcz60_3
      try clear hcz62_0
      try clear hcz62_1
      try clear hcz62_2
      try clear hcz62_3
      try clear hcz66_0
      try clear hcz66_1
      try clear hcz66_2
      try clear hcz66_3
      try clear hcz70_0
      try clear hcz70_1
      try clear hcz70_2
      try clear hcz70_3
      try clear hcz71_0
      try clear hcz71_1
      try clear hcz71_2
      try clear hcz71_3
      try clear hcz76_0
      try clear hcz76_1
      try clear hcz76_2
      try clear hcz76_3
      try clear hcz80_0
      try clear hcz80_1
      try clear hcz80_2
      try clear hcz80_3
      try clear hcz81_0
      try clear hcz81_1
      try clear hcz81_2
      try clear hcz81_3
      try clear hcz83_0
      try clear hcz83_1
      try clear hcz83_2
      try clear hcz83_3
      try clear hcz87_0
      try clear hcz87_1
      try clear hcz87_2
      try clear hcz87_3
      try clear hcz91_0
      try clear hcz91_1
      try clear hcz91_2
      try clear hcz91_3
      try clear hcz95_0
      try clear hcz95_1
      try clear hcz95_2
      try clear hcz95_3
      try clear hfz12_0
      try clear hfz12_1
      try clear hfz12_2
      try clear hfz12_3
      try clear hfz13_0
      try clear hfz13_1
      try clear hfz13_2
      try clear hfz13_3
      try clear hfz18_0
      try clear hfz18_1
      try clear hfz18_2
      try clear hfz18_3
      try clear hfz19_0
      try clear hfz19_1
      try clear hfz19_2
      try clear hfz19_3
      try clear hfz20_0
      try clear hfz20_1
      try clear hfz20_2
      try clear hfz20_3
      try clear hfz26_0
      try clear hfz26_1
      try clear hfz26_2
      try clear hfz26_3
      try clear hfz31_0
      try clear hfz31_1
      try clear hfz31_2
      try clear hfz31_3
      try clear hfz34_0
      try clear hfz34_1
      try clear hfz34_2
      try clear hfz34_3
      try clear hfz45_0
      try clear hfz45_1
      try clear hfz45_2
      try clear hfz45_3
      try clear hfz49_0
      try clear hfz49_1
      try clear hfz49_2
      try clear hfz49_3
      try clear hfz50_0
      try clear hfz50_1
      try clear hfz50_2
      try clear hfz50_3
      try clear hfz55_0
      try clear hfz55_1
      try clear hfz55_2
      try clear hfz55_3
      try clear hfz59_0
      try clear hfz59_1
      try clear hfz59_2
      try clear hfz59_3
      try clear hfz60_0
      try clear hfz60_1
      try clear hfz60_2
      try clear hfz60_3
      try clear hfz62_0
      try clear hfz62_1
      try clear hfz62_2
      try clear hfz62_3
      try clear hfz66_0
      try clear hfz66_1
      try clear hfz66_2
      try clear hfz66_3
      try clear hfz70_0
      try clear hfz70_1
      try clear hfz70_2
      try clear hfz70_3
      try clear hfz71_0
      try clear hfz71_1
      try clear hfz71_2
      try clear hfz71_3
      try clear hfz76_0
      try clear hfz76_1
      try clear hfz76_2
      try clear hfz76_3
      try clear hfz80_0
      try clear hfz80_1
      try clear hfz80_2
      try clear hfz80_3
      try clear hfz81_0
      try clear hfz81_1
      try clear hfz81_2
      try clear hfz81_3
      try clear hfz83_0
      try clear hfz83_1
      try clear hfz83_2
      try clear hfz83_3
      try clear hfz87_0
      try clear hfz87_1
      try clear hfz87_2
      try clear hfz87_3
      try clear hfz91_0
      try clear hfz91_1
      try clear hfz91_2
      try clear hfz91_3
      try clear hfz95_0
      try clear hfz95_1
      try clear hfz95_2
      try clear hfz95_3
      try clear p2
      try clear p6
      obtain ⟨kq, x74_35, rfl, HA, HJ35, BK335, BK336, BK342, BK348, HB⟩ := hcut
      cases kq with
      | zero => exact absurd HA.out (by simp [laws_FnTints.j1])
      | succ kj35 =>
       have H := HA.out
       clear HA
       simp only [laws_FnTints.j1] at H
       by_cases c97 : x74_35 = true
       ·subst c97
        have H1 : (some false) = some r := by rw [if_pos rfl] at H; exact H
        clear H
        have H := H1
        clear H1
        exact absurd (Option.some.inj H) (by rw [hrt]; decide)
       ·replace c97 := Bool.eq_false_iff.mpr c97
        subst c97
        have H1 : ((spec_DrawRunAt.f kj35 l1).bind fun bt350 => ((impl_RunAt.f kj35 bt350.1 bt350.2.1 bt350.2.2).bind fun bt355 => ((spec_RunAt.f kj35 bt350.1 bt350.2.1 bt350.2.2).bind fun bt361 => (if (bt355.2.2.2.2 != bt361.2.2.2.2) = true then (some false) else (if bt355.2.2.2.2 = true then ((impl_GoodTint.f bt355.1 bt355.2.1 bt355.2.2.1 bt355.2.2.2.1).bind fun t367 => (some t367)) else (some true)))))) = some r := by rw [if_neg (show ¬ (false = true) by decide)] at H; exact H
        clear H
        have H := H1
        clear H1
        replace H := Option.bind_eq_some_iff.mp H
        obtain ⟨⟨t350, t351, t352⟩, A980, H⟩ := H
        replace H : ((impl_RunAt.f kj35 t350 t351 t352).bind fun bt355 => ((spec_RunAt.f kj35 t350 t351 t352).bind fun bt361 => (if (bt355.2.2.2.2 != bt361.2.2.2.2) = true then (some false) else (if bt355.2.2.2.2 = true then ((impl_GoodTint.f bt355.1 bt355.2.1 bt355.2.2.1 bt355.2.2.2.1).bind fun t367 => (some t367)) else (some true))))) = some r := H
        have A98 := Aside0.mk A980
        clear A980
        replace H := Option.bind_eq_some_iff.mp H
        obtain ⟨⟨t355, t356, t357, t358, t359⟩, A990, H⟩ := H
        replace H : ((spec_RunAt.f kj35 t350 t351 t352).bind fun bt361 => (if (t359 != bt361.2.2.2.2) = true then (some false) else (if t359 = true then ((impl_GoodTint.f t355 t356 t357 t358).bind fun t367 => (some t367)) else (some true)))) = some r := H
        have A99 := Aside0.mk A990
        clear A990
        replace H := Option.bind_eq_some_iff.mp H
        obtain ⟨⟨t361, t362, t363, t364, t365⟩, A1000, H⟩ := H
        replace H : (if (t359 != t365) = true then (some false) else (if t359 = true then ((impl_GoodTint.f t355 t356 t357 t358).bind fun t367 => (some t367)) else (some true))) = some r := H
        have A100 := Aside0.mk A1000
        clear A1000
        by_cases c101 : (t359 != t365) = true
        ·rw [if_pos c101] at H
         have c101b0 : (t359 != t365) = true := c101
         (try (have c101b1 : decide (t359 = t365) = false := by simpa using c101))
         (try (have c101b2 : (t359 == t365) = false := by simpa using c101))
         (try (have c101b3 : ¬ (t359 = t365) := by simpa using c101))
         clear c101
         exact absurd (Option.some.inj H) (by rw [hrt]; decide)
        ·rw [if_neg c101] at H
         have c101b0 : (t359 != t365) = false := by simpa using c101
         (try (have c101b1 : decide (t359 = t365) = true := by simpa using c101))
         (try (have c101b2 : (t359 == t365) = true := by simpa using c101))
         clear c101
         by_cases c119 : t359 = true
         ·subst c119
          have H1 : ((impl_GoodTint.f t355 t356 t357 t358).bind fun t367 => (some t367)) = some r := by rw [if_pos rfl] at H; exact H
          clear H
          have H := H1
          clear H1
          replace H := Option.bind_eq_some_iff.mp H
          obtain ⟨t367, A1200, H⟩ := H
          replace H : (some t367) = some r := H
          have A120 := Aside0.mk A1200
          clear A1200
          obtain rfl := Option.some.inj H
          go_wp2_with (first | ((with_reducible refine gate_callee (f := 19) rfl ?_); refine z.gl (some 77) rfl rfl Try.func19 (by kernel_rfl) rfl #[.slice A1 l1.length c1] rfl ?_; (with_reducible refine (spec_DrawRunAt.calls kj35 _ _ l1 t350 t351 t352 _ ?side1 ?side2 A98.out).mono ?_); (case side1 => repeat (first | exact (Kd.C_below HR1.out HB.out) | (with_reducible refine Kd.C_alloc ?_ _) | (with_reducible refine Kd.C_drewN ?_ _) | (with_reducible refine Kd.C_drew ?_))); (case side2 => exact HC1.out); rintro e w121 ⟨v353, rfl, ho0, hb⟩; refine ⟨_, rfl, ?_⟩; have HO354 := Aside0.mk (Kd.R_lower ho0 (below_size (z.bl HB))); replace BK335 := z.bb BK335 hb; replace BK336 := z.bb BK336 hb; replace BK342 := z.bb BK342 hb; replace BK348 := z.bb BK348 hb; replace HB := Aside0.mk (below_step (z.bl HB) hb); (try clear hb); (try clear hb2); (try clear hk); (try clear hi); (try clear ho0); obtain ⟨Ao122, co122, eo122⟩ := Kd.R_slice HO354.out; subst eo122) | ((with_reducible refine gate_callee (f := 12) rfl ?_); refine z.gl (some 85) rfl rfl Try.func12 (by kernel_rfl) rfl #[.slice Ao122 t350.length co122, .int .i64 t351, .int .i64 t352] rfl ?_; (with_reducible refine (impl_RunAt.calls kj35 _ _ t350 t351 t352 t355 t356 t357 t358 true _ ?side1 ?side2 A99.out).mono ?_); (case side1 => repeat (first | exact (Kd.R_reads' HO354.out).2.2 | (with_reducible refine Kd.C_alloc ?_ _) | (with_reducible refine Kd.C_drewN ?_ _) | (with_reducible refine Kd.C_drew ?_))); (case side2 => exact (Kd.R_reads' HO354.out).2.1); rintro e w123 ⟨rfl, hb⟩; refine ⟨_, rfl, ?_⟩; replace HO354 := z.rb HO354 hb; replace BK335 := z.bb BK335 hb; replace BK336 := z.bb BK336 hb; replace BK342 := z.bb BK342 hb; replace BK348 := z.bb BK348 hb; replace HB := Aside0.mk (below_step (z.bl HB) hb); (try clear hb); (try clear hb2); (try clear hk); (try clear hi)) | ((with_reducible refine gate_dst (N := 14) rfl ?_); refine box_event ?hg (N := 14) ?hd (cs := #[.int .i64 0, .int .i64 0, .int .i64 0, .int .i64 0]) (t := 25) ?hr ?_; (case hd => rfl); (case hg => rfl); (case hr => first | (go_simp; done) | (go_simp; rfl)); intro gb360 hg w124 hbox hb; replace HO354 := z.rb HO354 hb; have BK360 := Aside0.mk (hbox); have GW360 := Aside0.mk ((by rw [hg]; exact (below_size (z.bl HB)) : w.heap.size ≤ gb360)); have GE360 := Aside0.mk ((by rw [hg]; exact (below_size (z.bl HB)) : w.heap.size ≤ gb360)); replace HB := Aside0.mk (below_step (z.bl HB) hb); have NB335_360 := z.ht BK335 hg; have NB360_335 := z.hu BK335 hg; replace BK335 := z.bb BK335 hb; have NB336_360 := z.ht BK336 hg; have NB360_336 := z.hu BK336 hg; replace BK336 := z.bb BK336 hb; have NB342_360 := z.ht BK342 hg; have NB360_342 := z.hu BK342 hg; replace BK342 := z.bb BK342 hb; have NB348_360 := z.ht BK348 hg; have NB360_348 := z.hu BK348 hg; replace BK348 := z.bb BK348 hb; clear hb hbox hg; have hnb125 := NB360_335.out; have hnc125 := NB335_360.out; have hnb126 := NB360_336.out; have hnc126 := NB336_360.out; have hnb127 := NB360_342.out; have hnc127 := NB342_360.out; have hnb128 := NB360_348.out; have hnc128 := NB348_360.out; have hcz129_0 : w124.cell? ⟨gb360, 0, none⟩ = some (.int .i64 0) := (blk_cell BK360.out 0).trans rfl; have hcz129_1 : w124.cell? ⟨gb360, 1, none⟩ = some (.int .i64 0) := (blk_cell BK360.out 1).trans rfl; have hcz129_2 : w124.cell? ⟨gb360, 2, none⟩ = some (.int .i64 0) := (blk_cell BK360.out 2).trans rfl; have hcz129_3 : w124.cell? ⟨gb360, 3, none⟩ = some (.int .i64 0) := (blk_cell BK360.out 3).trans rfl; have hfz129_0 := blk_frozen BK360.out 0; have hfz129_1 := blk_frozen BK360.out 1; have hfz129_2 := blk_frozen BK360.out 2; have hfz129_3 := blk_frozen BK360.out 3) | ((with_reducible refine gate_callee (f := 10) rfl ?_); refine z.gl (some 92) rfl rfl Try.func10 (by kernel_rfl) rfl #[.slice Ao122 t350.length co122, .int .i64 t351, .int .i64 t352] rfl ?_; (with_reducible refine (spec_RunAt.calls kj35 _ _ t350 t351 t352 t361 t362 t363 t364 t365 _ ?side1 ?side2 A100.out).mono ?_); (case side1 => refine (Kd.R_reads' (e := 103) (base := w.heap.size) (ok := fun k_ => True) (n := t350.length) (c := co122) ?_).2.2; exact (z.rl ((Kd.R_mono (Kd.R_far (p := ⟨gb360, 3, none⟩) (Kd.R_far (p := ⟨gb360, 2, none⟩) (Kd.R_far (p := ⟨gb360, 1, none⟩) (Kd.R_far (p := ⟨gb360, 0, none⟩) (Kd.R_types HO354.out BK360.out (by decide)) (fun _ hk => hk.2) (.int .i64 t355)) (fun _ hk => hk.2) (.int .i64 t356)) (fun _ hk => hk.2) (.int .i64 t357)) (fun _ hk => hk.2) (.int .i64 t358)) (fun _ h_ => h_.1))))); (case side2 => exact (Kd.R_reads' HO354.out).2.1); rintro e w130 ⟨rfl, hb⟩; refine ⟨_, rfl, ?_⟩; replace HO354 := Aside0.mk (Kd.R_below (z.rl ((Kd.R_mono (Kd.R_far (p := ⟨gb360, 3, none⟩) (Kd.R_far (p := ⟨gb360, 2, none⟩) (Kd.R_far (p := ⟨gb360, 1, none⟩) (Kd.R_far (p := ⟨gb360, 0, none⟩) (Kd.R_types HO354.out BK360.out (by decide)) (fun _ hk => hk.2) (.int .i64 t355)) (fun _ hk => hk.2) (.int .i64 t356)) (fun _ hk => hk.2) (.int .i64 t357)) (fun _ hk => hk.2) (.int .i64 t358)) (fun _ h_ => h_.1)))) hb); replace BK335 := Aside0.mk (blk_below (g := gb335) (o := .cells #[.int .i64 t327, .int .i64 t328, .int .i64 t329, .int .i64 t330] 25 (0, 0)) (z.bf BK335) hb); replace BK336 := Aside0.mk (blk_below (g := gb336) (o := .cells #[.int .i64 t331, .int .i64 t332, .int .i64 t333, .int .i64 t334] 25 (0, 0)) (z.bf BK336) hb); replace BK342 := Aside0.mk (blk_below (g := gb342) (o := .cells #[.int .i64 t337, .int .i64 t338, .int .i64 t339, .int .i64 t340] 25 (0, 0)) (z.bf BK342) hb); replace BK348 := Aside0.mk (blk_below (g := gb348) (o := .cells #[.int .i64 t343, .int .i64 t344, .int .i64 t345, .int .i64 t346] 25 (0, 0)) (z.bf BK348) hb); replace BK360 := Aside0.mk (blk_below (g := gb360) (o := .cells #[.int .i64 t355, .int .i64 t356, .int .i64 t357, .int .i64 t358] 25 (0, 0)) (by (with_reducible repeat (first | refine blk_drewN ?_ _ | refine blk_drew ?_ | refine blk_alloc ?_ _)); refine blk_put (cs := #[.int .i64 t355, .int .i64 t356, .int .i64 t357, .int .i64 0]) ?_ 3 _ rfl; (with_reducible repeat (first | refine blk_drewN ?_ _ | refine blk_drew ?_ | refine blk_alloc ?_ _)); refine blk_put (cs := #[.int .i64 t355, .int .i64 t356, .int .i64 0, .int .i64 0]) ?_ 2 _ rfl; (with_reducible repeat (first | refine blk_drewN ?_ _ | refine blk_drew ?_ | refine blk_alloc ?_ _)); refine blk_put (cs := #[.int .i64 t355, .int .i64 0, .int .i64 0, .int .i64 0]) ?_ 1 _ rfl; (with_reducible repeat (first | refine blk_drewN ?_ _ | refine blk_drew ?_ | refine blk_alloc ?_ _)); refine blk_put (cs := #[.int .i64 0, .int .i64 0, .int .i64 0, .int .i64 0]) ?_ 0 _ rfl; (with_reducible repeat (first | refine blk_drewN ?_ _ | refine blk_drew ?_ | refine blk_alloc ?_ _)); exact BK360.out) hb); replace HB := Aside0.mk (below_step (z.bl HB) hb); (try clear hb); (try clear hb2); (try clear hk); (try clear hi)) | ((with_reducible refine gate_dst (N := 16) rfl ?_); refine box_event ?hg (N := 16) ?hd (cs := #[.int .i64 0, .int .i64 0, .int .i64 0, .int .i64 0]) (t := 25) ?hr ?_; (case hd => rfl); (case hg => rfl); (case hr => first | (go_simp; done) | (go_simp; rfl)); intro gb366 hg w131 hbox hb; replace HO354 := z.rb HO354 hb; have BK366 := Aside0.mk (hbox); have GW366 := Aside0.mk ((by rw [hg]; exact (below_size (z.bl HB)) : w.heap.size ≤ gb366)); have GE366 := Aside0.mk ((by rw [hg]; exact (below_size (z.bl HB)) : w.heap.size ≤ gb366)); replace HB := Aside0.mk (below_step (z.bl HB) hb); have NB335_366 := z.ht BK335 hg; have NB366_335 := z.hu BK335 hg; replace BK335 := z.bb BK335 hb; have NB336_366 := z.ht BK336 hg; have NB366_336 := z.hu BK336 hg; replace BK336 := z.bb BK336 hb; have NB342_366 := z.ht BK342 hg; have NB366_342 := z.hu BK342 hg; replace BK342 := z.bb BK342 hb; have NB348_366 := z.ht BK348 hg; have NB366_348 := z.hu BK348 hg; replace BK348 := z.bb BK348 hb; have NB360_366 := z.ht BK360 hg; have NB366_360 := z.hu BK360 hg; replace BK360 := z.bb BK360 hb; clear hb hbox hg; have hnb132 := NB366_335.out; have hnc132 := NB335_366.out; have hnb133 := NB366_336.out; have hnc133 := NB336_366.out; have hnb134 := NB366_342.out; have hnc134 := NB342_366.out; have hnb135 := NB366_348.out; have hnc135 := NB348_366.out; have hnb136 := NB366_360.out; have hnc136 := NB360_366.out; have hcz137_0 : w131.cell? ⟨gb366, 0, none⟩ = some (.int .i64 0) := (blk_cell BK366.out 0).trans rfl; have hcz137_1 : w131.cell? ⟨gb366, 1, none⟩ = some (.int .i64 0) := (blk_cell BK366.out 1).trans rfl; have hcz137_2 : w131.cell? ⟨gb366, 2, none⟩ = some (.int .i64 0) := (blk_cell BK366.out 2).trans rfl; have hcz137_3 : w131.cell? ⟨gb366, 3, none⟩ = some (.int .i64 0) := (blk_cell BK366.out 3).trans rfl; have hfz137_0 := blk_frozen BK366.out 0; have hfz137_1 := blk_frozen BK366.out 1; have hfz137_2 := blk_frozen BK366.out 2; have hfz137_3 := blk_frozen BK366.out 3; have hcz138_0 : w131.cell? ⟨gb360, 0, none⟩ = some (.int .i64 t355) := (blk_cell BK360.out 0).trans rfl; have hcz138_1 : w131.cell? ⟨gb360, 1, none⟩ = some (.int .i64 t356) := (blk_cell BK360.out 1).trans rfl; have hcz138_2 : w131.cell? ⟨gb360, 2, none⟩ = some (.int .i64 t357) := (blk_cell BK360.out 2).trans rfl; have hcz138_3 : w131.cell? ⟨gb360, 3, none⟩ = some (.int .i64 t358) := (blk_cell BK360.out 3).trans rfl; have hfz138_0 := blk_frozen BK360.out 0; have hfz138_1 := blk_frozen BK360.out 1; have hfz138_2 := blk_frozen BK360.out 2; have hfz138_3 := blk_frozen BK360.out 3) | (go_at_call 18; (with_reducible refine (impl_GoodTint.calls t355 t356 t357 t358 t367 _ A120.out).mono ?_); rintro e w139 ⟨rfl, hb⟩; replace HO354 := Aside0.mk (Kd.R_below (z.rl ((Kd.R_mono (Kd.R_far (p := ⟨gb366, 3, none⟩) (Kd.R_far (p := ⟨gb366, 2, none⟩) (Kd.R_far (p := ⟨gb366, 1, none⟩) (Kd.R_far (p := ⟨gb366, 0, none⟩) (Kd.R_types HO354.out BK366.out (by decide)) (fun _ hk => hk.2) (.int .i64 t361)) (fun _ hk => hk.2) (.int .i64 t362)) (fun _ hk => hk.2) (.int .i64 t363)) (fun _ hk => hk.2) (.int .i64 t364)) (fun _ h_ => h_.1)))) hb); replace BK335 := Aside0.mk (blk_below (g := gb335) (o := .cells #[.int .i64 t327, .int .i64 t328, .int .i64 t329, .int .i64 t330] 25 (0, 0)) (z.bf BK335) hb); replace BK336 := Aside0.mk (blk_below (g := gb336) (o := .cells #[.int .i64 t331, .int .i64 t332, .int .i64 t333, .int .i64 t334] 25 (0, 0)) (z.bf BK336) hb); replace BK342 := Aside0.mk (blk_below (g := gb342) (o := .cells #[.int .i64 t337, .int .i64 t338, .int .i64 t339, .int .i64 t340] 25 (0, 0)) (z.bf BK342) hb); replace BK348 := Aside0.mk (blk_below (g := gb348) (o := .cells #[.int .i64 t343, .int .i64 t344, .int .i64 t345, .int .i64 t346] 25 (0, 0)) (z.bf BK348) hb); replace BK360 := Aside0.mk (blk_below (g := gb360) (o := .cells #[.int .i64 t355, .int .i64 t356, .int .i64 t357, .int .i64 t358] 25 (0, 0)) (z.bf BK360) hb); replace BK366 := Aside0.mk (blk_below (g := gb366) (o := .cells #[.int .i64 t361, .int .i64 t362, .int .i64 t363, .int .i64 t364] 25 (0, 0)) (by (with_reducible repeat (first | refine blk_drewN ?_ _ | refine blk_drew ?_ | refine blk_alloc ?_ _)); refine blk_put (cs := #[.int .i64 t361, .int .i64 t362, .int .i64 t363, .int .i64 0]) ?_ 3 _ rfl; (with_reducible repeat (first | refine blk_drewN ?_ _ | refine blk_drew ?_ | refine blk_alloc ?_ _)); refine blk_put (cs := #[.int .i64 t361, .int .i64 t362, .int .i64 0, .int .i64 0]) ?_ 2 _ rfl; (with_reducible repeat (first | refine blk_drewN ?_ _ | refine blk_drew ?_ | refine blk_alloc ?_ _)); refine blk_put (cs := #[.int .i64 t361, .int .i64 0, .int .i64 0, .int .i64 0]) ?_ 1 _ rfl; (with_reducible repeat (first | refine blk_drewN ?_ _ | refine blk_drew ?_ | refine blk_alloc ?_ _)); refine blk_put (cs := #[.int .i64 0, .int .i64 0, .int .i64 0, .int .i64 0]) ?_ 0 _ rfl; (with_reducible repeat (first | refine blk_drewN ?_ _ | refine blk_drew ?_ | refine blk_alloc ?_ _)); exact BK366.out) hb); replace HB := Aside0.mk (below_step (z.bl HB) hb); (try clear hb); (try clear hb2); (try clear hk); (try clear hi)))
          go_ret
          exact ⟨by first | rfl | (simp [errW_none, errW_some] <;> rfl) | (simp [*, errW_none, errW_some] <;> rfl), z.bl HB⟩
         ·replace c119 := Bool.eq_false_iff.mpr c119
          subst c119
          have H1 : (some true) = some r := by rw [if_neg (show ¬ (false = true) by decide)] at H; exact H
          clear H
          have H := H1
          clear H1
          obtain rfl := Option.some.inj H
          go_wp2_with (first | ((with_reducible refine gate_callee (f := 19) rfl ?_); refine z.gl (some 77) rfl rfl Try.func19 (by kernel_rfl) rfl #[.slice A1 l1.length c1] rfl ?_; (with_reducible refine (spec_DrawRunAt.calls kj35 _ _ l1 t350 t351 t352 _ ?side1 ?side2 A98.out).mono ?_); (case side1 => repeat (first | exact (Kd.C_below HR1.out HB.out) | (with_reducible refine Kd.C_alloc ?_ _) | (with_reducible refine Kd.C_drewN ?_ _) | (with_reducible refine Kd.C_drew ?_))); (case side2 => exact HC1.out); rintro e w140 ⟨v353, rfl, ho0, hb⟩; refine ⟨_, rfl, ?_⟩; have HO354 := Aside0.mk (Kd.R_lower ho0 (below_size (z.bl HB))); replace BK335 := z.bb BK335 hb; replace BK336 := z.bb BK336 hb; replace BK342 := z.bb BK342 hb; replace BK348 := z.bb BK348 hb; replace HB := Aside0.mk (below_step (z.bl HB) hb); (try clear hb); (try clear hb2); (try clear hk); (try clear hi); (try clear ho0); obtain ⟨Ao141, co141, eo141⟩ := Kd.R_slice HO354.out; subst eo141) | ((with_reducible refine gate_callee (f := 12) rfl ?_); refine z.gl (some 85) rfl rfl Try.func12 (by kernel_rfl) rfl #[.slice Ao141 t350.length co141, .int .i64 t351, .int .i64 t352] rfl ?_; (with_reducible refine (impl_RunAt.calls kj35 _ _ t350 t351 t352 t355 t356 t357 t358 false _ ?side1 ?side2 A99.out).mono ?_); (case side1 => repeat (first | exact (Kd.R_reads' HO354.out).2.2 | (with_reducible refine Kd.C_alloc ?_ _) | (with_reducible refine Kd.C_drewN ?_ _) | (with_reducible refine Kd.C_drew ?_))); (case side2 => exact (Kd.R_reads' HO354.out).2.1); rintro e w142 ⟨rfl, hb⟩; refine ⟨_, rfl, ?_⟩; replace HO354 := z.rb HO354 hb; replace BK335 := z.bb BK335 hb; replace BK336 := z.bb BK336 hb; replace BK342 := z.bb BK342 hb; replace BK348 := z.bb BK348 hb; replace HB := Aside0.mk (below_step (z.bl HB) hb); (try clear hb); (try clear hb2); (try clear hk); (try clear hi)) | ((with_reducible refine gate_dst (N := 14) rfl ?_); refine box_event ?hg (N := 14) ?hd (cs := #[.int .i64 0, .int .i64 0, .int .i64 0, .int .i64 0]) (t := 25) ?hr ?_; (case hd => rfl); (case hg => rfl); (case hr => first | (go_simp; done) | (go_simp; rfl)); intro gb360 hg w143 hbox hb; replace HO354 := z.rb HO354 hb; have BK360 := Aside0.mk (hbox); have GW360 := Aside0.mk ((by rw [hg]; exact (below_size (z.bl HB)) : w.heap.size ≤ gb360)); have GE360 := Aside0.mk ((by rw [hg]; exact (below_size (z.bl HB)) : w.heap.size ≤ gb360)); replace HB := Aside0.mk (below_step (z.bl HB) hb); have NB335_360 := z.ht BK335 hg; have NB360_335 := z.hu BK335 hg; replace BK335 := z.bb BK335 hb; have NB336_360 := z.ht BK336 hg; have NB360_336 := z.hu BK336 hg; replace BK336 := z.bb BK336 hb; have NB342_360 := z.ht BK342 hg; have NB360_342 := z.hu BK342 hg; replace BK342 := z.bb BK342 hb; have NB348_360 := z.ht BK348 hg; have NB360_348 := z.hu BK348 hg; replace BK348 := z.bb BK348 hb; clear hb hbox hg; have hnb144 := NB360_335.out; have hnc144 := NB335_360.out; have hnb145 := NB360_336.out; have hnc145 := NB336_360.out; have hnb146 := NB360_342.out; have hnc146 := NB342_360.out; have hnb147 := NB360_348.out; have hnc147 := NB348_360.out; have hcz148_0 : w143.cell? ⟨gb360, 0, none⟩ = some (.int .i64 0) := (blk_cell BK360.out 0).trans rfl; have hcz148_1 : w143.cell? ⟨gb360, 1, none⟩ = some (.int .i64 0) := (blk_cell BK360.out 1).trans rfl; have hcz148_2 : w143.cell? ⟨gb360, 2, none⟩ = some (.int .i64 0) := (blk_cell BK360.out 2).trans rfl; have hcz148_3 : w143.cell? ⟨gb360, 3, none⟩ = some (.int .i64 0) := (blk_cell BK360.out 3).trans rfl; have hfz148_0 := blk_frozen BK360.out 0; have hfz148_1 := blk_frozen BK360.out 1; have hfz148_2 := blk_frozen BK360.out 2; have hfz148_3 := blk_frozen BK360.out 3) | ((with_reducible refine gate_callee (f := 10) rfl ?_); refine z.gl (some 92) rfl rfl Try.func10 (by kernel_rfl) rfl #[.slice Ao141 t350.length co141, .int .i64 t351, .int .i64 t352] rfl ?_; (with_reducible refine (spec_RunAt.calls kj35 _ _ t350 t351 t352 t361 t362 t363 t364 t365 _ ?side1 ?side2 A100.out).mono ?_); (case side1 => refine (Kd.R_reads' (e := 103) (base := w.heap.size) (ok := fun k_ => True) (n := t350.length) (c := co141) ?_).2.2; exact (z.rl ((Kd.R_mono (Kd.R_far (p := ⟨gb360, 3, none⟩) (Kd.R_far (p := ⟨gb360, 2, none⟩) (Kd.R_far (p := ⟨gb360, 1, none⟩) (Kd.R_far (p := ⟨gb360, 0, none⟩) (Kd.R_types HO354.out BK360.out (by decide)) (fun _ hk => hk.2) (.int .i64 t355)) (fun _ hk => hk.2) (.int .i64 t356)) (fun _ hk => hk.2) (.int .i64 t357)) (fun _ hk => hk.2) (.int .i64 t358)) (fun _ h_ => h_.1))))); (case side2 => exact (Kd.R_reads' HO354.out).2.1); rintro e w149 ⟨rfl, hb⟩; refine ⟨_, rfl, ?_⟩; replace HO354 := Aside0.mk (Kd.R_below (z.rl ((Kd.R_mono (Kd.R_far (p := ⟨gb360, 3, none⟩) (Kd.R_far (p := ⟨gb360, 2, none⟩) (Kd.R_far (p := ⟨gb360, 1, none⟩) (Kd.R_far (p := ⟨gb360, 0, none⟩) (Kd.R_types HO354.out BK360.out (by decide)) (fun _ hk => hk.2) (.int .i64 t355)) (fun _ hk => hk.2) (.int .i64 t356)) (fun _ hk => hk.2) (.int .i64 t357)) (fun _ hk => hk.2) (.int .i64 t358)) (fun _ h_ => h_.1)))) hb); replace BK335 := Aside0.mk (blk_below (g := gb335) (o := .cells #[.int .i64 t327, .int .i64 t328, .int .i64 t329, .int .i64 t330] 25 (0, 0)) (z.bf BK335) hb); replace BK336 := Aside0.mk (blk_below (g := gb336) (o := .cells #[.int .i64 t331, .int .i64 t332, .int .i64 t333, .int .i64 t334] 25 (0, 0)) (z.bf BK336) hb); replace BK342 := Aside0.mk (blk_below (g := gb342) (o := .cells #[.int .i64 t337, .int .i64 t338, .int .i64 t339, .int .i64 t340] 25 (0, 0)) (z.bf BK342) hb); replace BK348 := Aside0.mk (blk_below (g := gb348) (o := .cells #[.int .i64 t343, .int .i64 t344, .int .i64 t345, .int .i64 t346] 25 (0, 0)) (z.bf BK348) hb); replace BK360 := Aside0.mk (blk_below (g := gb360) (o := .cells #[.int .i64 t355, .int .i64 t356, .int .i64 t357, .int .i64 t358] 25 (0, 0)) (by (with_reducible repeat (first | refine blk_drewN ?_ _ | refine blk_drew ?_ | refine blk_alloc ?_ _)); refine blk_put (cs := #[.int .i64 t355, .int .i64 t356, .int .i64 t357, .int .i64 0]) ?_ 3 _ rfl; (with_reducible repeat (first | refine blk_drewN ?_ _ | refine blk_drew ?_ | refine blk_alloc ?_ _)); refine blk_put (cs := #[.int .i64 t355, .int .i64 t356, .int .i64 0, .int .i64 0]) ?_ 2 _ rfl; (with_reducible repeat (first | refine blk_drewN ?_ _ | refine blk_drew ?_ | refine blk_alloc ?_ _)); refine blk_put (cs := #[.int .i64 t355, .int .i64 0, .int .i64 0, .int .i64 0]) ?_ 1 _ rfl; (with_reducible repeat (first | refine blk_drewN ?_ _ | refine blk_drew ?_ | refine blk_alloc ?_ _)); refine blk_put (cs := #[.int .i64 0, .int .i64 0, .int .i64 0, .int .i64 0]) ?_ 0 _ rfl; (with_reducible repeat (first | refine blk_drewN ?_ _ | refine blk_drew ?_ | refine blk_alloc ?_ _)); exact BK360.out) hb); replace HB := Aside0.mk (below_step (z.bl HB) hb); (try clear hb); (try clear hb2); (try clear hk); (try clear hi)) | ((with_reducible refine gate_dst (N := 16) rfl ?_); refine box_event ?hg (N := 16) ?hd (cs := #[.int .i64 0, .int .i64 0, .int .i64 0, .int .i64 0]) (t := 25) ?hr ?_; (case hd => rfl); (case hg => rfl); (case hr => first | (go_simp; done) | (go_simp; rfl)); intro gb366 hg w150 hbox hb; replace HO354 := z.rb HO354 hb; have BK366 := Aside0.mk (hbox); have GW366 := Aside0.mk ((by rw [hg]; exact (below_size (z.bl HB)) : w.heap.size ≤ gb366)); have GE366 := Aside0.mk ((by rw [hg]; exact (below_size (z.bl HB)) : w.heap.size ≤ gb366)); replace HB := Aside0.mk (below_step (z.bl HB) hb); have NB335_366 := z.ht BK335 hg; have NB366_335 := z.hu BK335 hg; replace BK335 := z.bb BK335 hb; have NB336_366 := z.ht BK336 hg; have NB366_336 := z.hu BK336 hg; replace BK336 := z.bb BK336 hb; have NB342_366 := z.ht BK342 hg; have NB366_342 := z.hu BK342 hg; replace BK342 := z.bb BK342 hb; have NB348_366 := z.ht BK348 hg; have NB366_348 := z.hu BK348 hg; replace BK348 := z.bb BK348 hb; have NB360_366 := z.ht BK360 hg; have NB366_360 := z.hu BK360 hg; replace BK360 := z.bb BK360 hb; clear hb hbox hg; have hnb151 := NB366_335.out; have hnc151 := NB335_366.out; have hnb152 := NB366_336.out; have hnc152 := NB336_366.out; have hnb153 := NB366_342.out; have hnc153 := NB342_366.out; have hnb154 := NB366_348.out; have hnc154 := NB348_366.out; have hnb155 := NB366_360.out; have hnc155 := NB360_366.out; have hcz156_0 : w150.cell? ⟨gb366, 0, none⟩ = some (.int .i64 0) := (blk_cell BK366.out 0).trans rfl; have hcz156_1 : w150.cell? ⟨gb366, 1, none⟩ = some (.int .i64 0) := (blk_cell BK366.out 1).trans rfl; have hcz156_2 : w150.cell? ⟨gb366, 2, none⟩ = some (.int .i64 0) := (blk_cell BK366.out 2).trans rfl; have hcz156_3 : w150.cell? ⟨gb366, 3, none⟩ = some (.int .i64 0) := (blk_cell BK366.out 3).trans rfl; have hfz156_0 := blk_frozen BK366.out 0; have hfz156_1 := blk_frozen BK366.out 1; have hfz156_2 := blk_frozen BK366.out 2; have hfz156_3 := blk_frozen BK366.out 3))
          go_ret
          exact ⟨by first | rfl | (simp [errW_none, errW_some] <;> rfl) | (simp [*, errW_none, errW_some] <;> rfl), z.bl HB⟩
/-- THE ONE PURE STATEMENT of laws_FnTints: yours. -/
def laws_FnTints.Pure : Prop := ∀ (l0 : List Int) (l1 : List Int), l0.length ≤ maxLen → l0.length * 1 ≤ 140737488351232 → (∀ x ∈ l0, (Lit.int .u8 x).wf = true) → l1.length ≤ maxLen → l1.length * 1 ≤ 140737488351232 → (∀ x ∈ l1, (Lit.int .u8 x).wf = true) → ∃ k, laws_FnTints.f k l0 l1 = some true
theorem laws_FnTints.walk (P : laws_FnTints.Pure) (a0 : Option Addr) (len0 cap0 : Nat) (z0 : List Int) (a1 : Option Addr) (len1 cap1 : Nat) (z1 : List Int) (w : World) (w0 : (a0 = none ∧ len0 = 0 ∧ cap0 = 0 ∧ z0 = []) ∨ ∃ x, a0 = some x ∧ len0 ≤ cap0 ∧ cap0 ≤ maxLen ∧ z0.length = cap0 ∧ (∀ i, i < z0.length → w.cell? (x.add i) = some (.int .u8 (z0.getD i 0))) ∧ ∀ n ∈ z0, (Lit.int .u8 n).wf = true) (y0 : len0 * 1 ≤ 140737488351232) (w1 : (a1 = none ∧ len1 = 0 ∧ cap1 = 0 ∧ z1 = []) ∨ ∃ x, a1 = some x ∧ len1 ≤ cap1 ∧ cap1 ≤ maxLen ∧ z1.length = cap1 ∧ (∀ i, i < z1.length → w.cell? (x.add i) = some (.int .u8 (z1.getD i 0))) ∧ ∀ n ∈ z1, (Lit.int .u8 n).wf = true) (y1 : len1 * 1 ≤ 140737488351232) :
    Calls Try.prog 4 #[.slice a0 len0 cap0, .slice a1 len1 cap1] w fun e w' => e = .returned (.bool true) ∧ Below w.heap.size w w' := by
  obtain ⟨l0, rfl, hr0, hm0, hw0, hc0⟩ := ReadsInt.ofRowC w0
  obtain ⟨l1, rfl, hr1, hm1, hw1, hc1⟩ := ReadsInt.ofRowC w1
  obtain ⟨k, h⟩ := P l0 l1 hm0 y0 hw0 hm1 y1 hw1
  refine (laws_FnTints.calls k _ _ l0 _ _ l1 true rfl w (Kd.C_of_reads (d := (0 : Int)) (h1 := fun _ => rfl) hr0) hc0 (Kd.C_of_reads (d := (0 : Int)) (h1 := fun _ => rfl) hr1) hc1 h).mono ?_
  rintro e w' ⟨rfl, hd⟩
  exact ⟨rfl, hd⟩
end Go.Proofs.Ytiadieifofaobaa.HFnTints
