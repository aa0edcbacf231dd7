-- Printed by a program of this session over the kit's print; functions that the print does not take stand here by hand.
import Derived.Test.YtdbgnoolokfafaaZShort
import Derived.Test.YtdbgnoolokfafaaZHFnCoverx0
import Derived.Test.YtdbgnoolokfafaaZHFnCoverx10
import Derived.Test.YtdbgnoolokfafaaZHFnCoverx11
import Derived.Test.YtdbgnoolokfafaaZHFnCoverx12
namespace Go.Proofs.Ytdbgnoolokfafaa.HFnCover
open Go.RowKit Go.Proofs.YtdbgnoolokfafaaW.PrintWords Go.Proofs.YtdbgnoolokfafaaW.PrintLast Go.Proofs.YtdbgnoolokfafaaW.PrintMore
attribute [local go_sem] max2_int min2_int max_two min_two max_three min_three max_four min_four   -- for this text's walks alone
set_option linter.unusedVariables false
set_option linter.unusedSimpArgs false
/-! ### impl_CoverOf: function 45 -/
mutual
def impl_CoverOf.j0 : Nat → Int → Int → Bool → List (S175) → Bool → Option (Int × Int × List Int × Bool)
  | 0, _, _, _, _, _ => none
  | k + 1, x1, x2, x3, x10, x34 => if x34 = true then (some (0, 0, ([] : List Int), false)) else (if 0 ≤ (wrap64 (x1 * x2)) then (if (wrap64 (x1 * x2) : Int).toNat ≤ 35184372088832 then (impl_CoverOf.l0 k x1 x3 x10 (wrap64 (4 * x2)) 0 x1 x2 (List.replicate (wrap64 (x1 * x2) : Int).toNat 0)) else (none)) else (none))
def impl_CoverOf.l0 : Nat → Int → Bool → List (S175) → Int → Int → Int → Int → List Int → Option (Int × Int × List Int × Bool)
  | 0, _, _, _, _, _, _, _, _ => none
  | k + 1, x1, x3, x10, x44, x45, x268000, x268001, x268002 => if x45 < x44 then (impl_CoverOf.l1 k x1 x3 x10 x45 (wrap64 ((wrap64 (4 * x45)) + 2)) (([] : List (S175))) x44 x45 x10 (x10.length : Int) 0 x268000 x268001 x268002) else (some (x268000, x268001, x268002, true))
def impl_CoverOf.l1 : Nat → Int → Bool → List (S175) → Int → Int → List (S175) → Int → Int → List (S175) → Int → Int → Int → Int → List Int → Option (Int × Int × List Int × Bool)
  | 0, _, _, _, _, _, _, _, _, _, _, _, _, _, _ => none
  | k + 1, x1, x3, x10, x13, x14, x15, x44, x45, x52, x53, x54, x268000, x268001, x268002 => if x54 < x53 then (if 0 ≤ x54 then (if x54 < (x52.length : Int) then (if (mn ((rd_T175 x52 x54).f1) ((rd_T175 x52 x54).f3)) ≤ x14 then (if x14 < (mx ((rd_T175 x52 x54).f1) ((rd_T175 x52 x54).f3)) then (if x15.length < 4398046511104 then (impl_CoverOf.l1 k x1 x3 x10 x13 x14 (x15 ++ [(⟨(rd_T175 x52 x54).f0, (rd_T175 x52 x54).f1, (rd_T175 x52 x54).f2, (rd_T175 x52 x54).f3⟩ : S175)]) x44 x45 x52 x53 (wrap64 (x54 + 1)) x268000 x268001 x268002) else (none)) else (impl_CoverOf.l1 k x1 x3 x10 x13 x14 x15 x44 x45 x52 x53 (wrap64 (x54 + 1)) x268000 x268001 x268002)) else (impl_CoverOf.l1 k x1 x3 x10 x13 x14 x15 x44 x45 x52 x53 (wrap64 (x54 + 1)) x268000 x268001 x268002)) else (none)) else (none)) else (impl_CoverOf.l2 k x1 x3 x10 x13 x14 x15 x44 x45 (wrap64 (4 * x1)) 0 x268000 x268001 x268002)
def impl_CoverOf.l2 : Nat → Int → Bool → List (S175) → Int → Int → List (S175) → Int → Int → Int → Int → Int → Int → List Int → Option (Int × Int × List Int × Bool)
  | 0, _, _, _, _, _, _, _, _, _, _, _, _, _ => none
  | k + 1, x1, x3, x10, x13, x14, x15, x44, x45, x80, x81, x268000, x268001, x268002 => if x81 < x80 then (impl_CoverOf.l3 k x1 x3 x10 x13 x14 x15 x81 0 x44 x45 x80 x81 x15 (x15.length : Int) 0 x268000 x268001 x268002) else (impl_CoverOf.l0 k x1 x3 x10 x44 (wrap64 (x45 + 1)) x268000 x268001 x268002)
def impl_CoverOf.l3 : Nat → Int → Bool → List (S175) → Int → Int → List (S175) → Int → Int → Int → Int → Int → Int → List (S175) → Int → Int → Int → Int → List Int → Option (Int × Int × List Int × Bool)
  | 0, _, _, _, _, _, _, _, _, _, _, _, _, _, _, _, _, _, _ => none
  | k + 1, x1, x3, x10, x13, x14, x15, x18, x19, x44, x45, x80, x81, x84, x85, x86, x268000, x268001, x268002 => if x86 < x85 then (if 0 ≤ x86 then (if x86 < (x84.length : Int) then ((impl_edge_winds.f k ((rd_T175 x84 x86).f0) ((rd_T175 x84 x86).f1) ((rd_T175 x84 x86).f2) ((rd_T175 x84 x86).f3) (wrap64 ((wrap64 (4 * x18)) + 2)) x14).bind fun t278 => (impl_CoverOf.l3 k x1 x3 x10 x13 x14 x15 x18 (wrap64 (x19 + t278)) x44 x45 x80 x81 x84 x85 (wrap64 (x86 + 1)) x268000 x268001 x268002)) else (none)) else (none)) else (if x19 = 0 then (if (Int.tmod x19 2) = 0 then (impl_CoverOf.l2 k x1 x3 x10 x13 x14 x15 x44 x45 x80 (wrap64 (x81 + 1)) x268000 x268001 x268002) else (if 0 ≤ (wrap64 ((wrap64 ((wrap64 (Int.tdiv x13 4)) * x1)) + (wrap64 (Int.tdiv x18 4)))) then (if (wrap64 ((wrap64 ((wrap64 (Int.tdiv x13 4)) * x1)) + (wrap64 (Int.tdiv x18 4)))) < (x268002.length : Int) then (impl_CoverOf.l2 k x1 x3 x10 x13 x14 x15 x44 x45 x80 (wrap64 (x81 + 1)) x268000 x268001 (x268002.set ((wrap64 ((wrap64 ((wrap64 (Int.tdiv x13 4)) * x1)) + (wrap64 (Int.tdiv x18 4)))) : Int).toNat (wrap64 ((rd x268002 (wrap64 ((wrap64 ((wrap64 (Int.tdiv x13 4)) * x1)) + (wrap64 (Int.tdiv x18 4))))) + 1)))) else (none)) else (none))) else (if x3 = true then (if (Int.tmod x19 2) = 0 then (impl_CoverOf.l2 k x1 x3 x10 x13 x14 x15 x44 x45 x80 (wrap64 (x81 + 1)) x268000 x268001 x268002) else (if 0 ≤ (wrap64 ((wrap64 ((wrap64 (Int.tdiv x13 4)) * x1)) + (wrap64 (Int.tdiv x18 4)))) then (if (wrap64 ((wrap64 ((wrap64 (Int.tdiv x13 4)) * x1)) + (wrap64 (Int.tdiv x18 4)))) < (x268002.length : Int) then (impl_CoverOf.l2 k x1 x3 x10 x13 x14 x15 x44 x45 x80 (wrap64 (x81 + 1)) x268000 x268001 (x268002.set ((wrap64 ((wrap64 ((wrap64 (Int.tdiv x13 4)) * x1)) + (wrap64 (Int.tdiv x18 4)))) : Int).toNat (wrap64 ((rd x268002 (wrap64 ((wrap64 ((wrap64 (Int.tdiv x13 4)) * x1)) + (wrap64 (Int.tdiv x18 4))))) + 1)))) else (none)) else (none))) else (if 0 ≤ (wrap64 ((wrap64 ((wrap64 (Int.tdiv x13 4)) * x1)) + (wrap64 (Int.tdiv x18 4)))) then (if (wrap64 ((wrap64 ((wrap64 (Int.tdiv x13 4)) * x1)) + (wrap64 (Int.tdiv x18 4)))) < (x268002.length : Int) then (impl_CoverOf.l2 k x1 x3 x10 x13 x14 x15 x44 x45 x80 (wrap64 (x81 + 1)) x268000 x268001 (x268002.set ((wrap64 ((wrap64 ((wrap64 (Int.tdiv x13 4)) * x1)) + (wrap64 (Int.tdiv x18 4)))) : Int).toNat (wrap64 ((rd x268002 (wrap64 ((wrap64 ((wrap64 (Int.tdiv x13 4)) * x1)) + (wrap64 (Int.tdiv x18 4))))) + 1)))) else (none)) else (none))))
end
def impl_CoverOf.f (k : Nat) (l0 : List (S83)) (a1 : Int) (a2 : Int) (a3 : Bool) : Option (Int × Int × List Int × Bool) := (impl_edgesOf.f k l0).bind fun bt259 => (if bt259.2 = true then ((impl_areSides.f a1 a2).bind fun t263 => (impl_CoverOf.j0 k a1 a2 a3 bt259.1 (!t263))) else (impl_CoverOf.j0 k a1 a2 a3 bt259.1 true))
theorem impl_CoverOf.mono_l : ∀ k, (∀ y0 y1 y2 y3 y4, LeO (impl_CoverOf.j0 k y0 y1 y2 y3 y4) (impl_CoverOf.j0 (k + 1) y0 y1 y2 y3 y4)) ∧ (∀ y0 y1 y2 y3 y4 y5 y6 y7, LeO (impl_CoverOf.l0 k y0 y1 y2 y3 y4 y5 y6 y7) (impl_CoverOf.l0 (k + 1) y0 y1 y2 y3 y4 y5 y6 y7)) ∧ (∀ y0 y1 y2 y3 y4 y5 y6 y7 y8 y9 y10 y11 y12 y13, LeO (impl_CoverOf.l1 k y0 y1 y2 y3 y4 y5 y6 y7 y8 y9 y10 y11 y12 y13) (impl_CoverOf.l1 (k + 1) y0 y1 y2 y3 y4 y5 y6 y7 y8 y9 y10 y11 y12 y13)) ∧ (∀ y0 y1 y2 y3 y4 y5 y6 y7 y8 y9 y10 y11 y12, LeO (impl_CoverOf.l2 k y0 y1 y2 y3 y4 y5 y6 y7 y8 y9 y10 y11 y12) (impl_CoverOf.l2 (k + 1) y0 y1 y2 y3 y4 y5 y6 y7 y8 y9 y10 y11 y12)) ∧ (∀ y0 y1 y2 y3 y4 y5 y6 y7 y8 y9 y10 y11 y12 y13 y14 y15 y16 y17, LeO (impl_CoverOf.l3 k y0 y1 y2 y3 y4 y5 y6 y7 y8 y9 y10 y11 y12 y13 y14 y15 y16 y17) (impl_CoverOf.l3 (k + 1) y0 y1 y2 y3 y4 y5 y6 y7 y8 y9 y10 y11 y12 y13 y14 y15 y16 y17))
  | 0 => ⟨fun _ _ _ _ _ r h => by simp [impl_CoverOf.j0] at h, fun _ _ _ _ _ _ _ _ r h => by simp [impl_CoverOf.l0] at h, fun _ _ _ _ _ _ _ _ _ _ _ _ _ _ r h => by simp [impl_CoverOf.l1] at h, fun _ _ _ _ _ _ _ _ _ _ _ _ _ r h => by simp [impl_CoverOf.l2] at h, fun _ _ _ _ _ _ _ _ _ _ _ _ _ _ _ _ _ _ r h => by simp [impl_CoverOf.l3] at h⟩
  | k + 1 => by
    obtain ⟨ih0, ih1, ih2, ih3, ih4⟩ := impl_CoverOf.mono_l k
    refine ⟨?_, ?_, ?_, ?_, ?_⟩
    · intro y0 y1 y2 y3 y4
      unfold impl_CoverOf.j0
      repeat' first
    | with_reducible exact ih0 _ _ _ _ _
    | with_reducible exact ih1 _ _ _ _ _ _ _ _
    | with_reducible exact ih2 _ _ _ _ _ _ _ _ _ _ _ _ _ _
    | with_reducible exact ih3 _ _ _ _ _ _ _ _ _ _ _ _ _
    | with_reducible exact ih4 _ _ _ _ _ _ _ _ _ _ _ _ _ _ _ _ _ _
    | with_reducible exact impl_edge_winds.mono ..
    | with_reducible exact impl_edgesOf.mono ..
    | with_reducible exact LeO.refl _
    | with_reducible exact LeO.none _
    | with_reducible refine LeO.ite ?_ ?_
    | with_reducible refine LeO.bind ?_ (fun _ => ?_)
    | exact ih0 _ _ _ _ _
    | exact ih1 _ _ _ _ _ _ _ _
    | exact ih2 _ _ _ _ _ _ _ _ _ _ _ _ _ _
    | exact ih3 _ _ _ _ _ _ _ _ _ _ _ _ _
    | exact ih4 _ _ _ _ _ _ _ _ _ _ _ _ _ _ _ _ _ _
    | exact LeO.none _
    | refine LeO.ite ?_ ?_
    | refine LeO.bind ?_ (fun _ => ?_)
    · intro y0 y1 y2 y3 y4 y5 y6 y7
      unfold impl_CoverOf.l0
      repeat' first
    | with_reducible exact ih0 _ _ _ _ _
    | with_reducible exact ih1 _ _ _ _ _ _ _ _
    | with_reducible exact ih2 _ _ _ _ _ _ _ _ _ _ _ _ _ _
    | with_reducible exact ih3 _ _ _ _ _ _ _ _ _ _ _ _ _
    | with_reducible exact ih4 _ _ _ _ _ _ _ _ _ _ _ _ _ _ _ _ _ _
    | with_reducible exact impl_edge_winds.mono ..
    | with_reducible exact impl_edgesOf.mono ..
    | with_reducible exact LeO.refl _
    | with_reducible exact LeO.none _
    | with_reducible refine LeO.ite ?_ ?_
    | with_reducible refine LeO.bind ?_ (fun _ => ?_)
    | exact ih0 _ _ _ _ _
    | exact ih1 _ _ _ _ _ _ _ _
    | exact ih2 _ _ _ _ _ _ _ _ _ _ _ _ _ _
    | exact ih3 _ _ _ _ _ _ _ _ _ _ _ _ _
    | exact ih4 _ _ _ _ _ _ _ _ _ _ _ _ _ _ _ _ _ _
    | exact LeO.none _
    | refine LeO.ite ?_ ?_
    | refine LeO.bind ?_ (fun _ => ?_)
    · intro y0 y1 y2 y3 y4 y5 y6 y7 y8 y9 y10 y11 y12 y13
      unfold impl_CoverOf.l1
      repeat' first
    | with_reducible exact ih0 _ _ _ _ _
    | with_reducible exact ih1 _ _ _ _ _ _ _ _
    | with_reducible exact ih2 _ _ _ _ _ _ _ _ _ _ _ _ _ _
    | with_reducible exact ih3 _ _ _ _ _ _ _ _ _ _ _ _ _
    | with_reducible exact ih4 _ _ _ _ _ _ _ _ _ _ _ _ _ _ _ _ _ _
    | with_reducible exact impl_edge_winds.mono ..
    | with_reducible exact impl_edgesOf.mono ..
    | with_reducible exact LeO.refl _
    | with_reducible exact LeO.none _
    | with_reducible refine LeO.ite ?_ ?_
    | with_reducible refine LeO.bind ?_ (fun _ => ?_)
    | exact ih0 _ _ _ _ _
    | exact ih1 _ _ _ _ _ _ _ _
    | exact ih2 _ _ _ _ _ _ _ _ _ _ _ _ _ _
    | exact ih3 _ _ _ _ _ _ _ _ _ _ _ _ _
    | exact ih4 _ _ _ _ _ _ _ _ _ _ _ _ _ _ _ _ _ _
    | exact LeO.none _
    | refine LeO.ite ?_ ?_
    | refine LeO.bind ?_ (fun _ => ?_)
    · intro y0 y1 y2 y3 y4 y5 y6 y7 y8 y9 y10 y11 y12
      unfold impl_CoverOf.l2
      repeat' first
    | with_reducible exact ih0 _ _ _ _ _
    | with_reducible exact ih1 _ _ _ _ _ _ _ _
    | with_reducible exact ih2 _ _ _ _ _ _ _ _ _ _ _ _ _ _
    | with_reducible exact ih3 _ _ _ _ _ _ _ _ _ _ _ _ _
    | with_reducible exact ih4 _ _ _ _ _ _ _ _ _ _ _ _ _ _ _ _ _ _
    | with_reducible exact impl_edge_winds.mono ..
    | with_reducible exact impl_edgesOf.mono ..
    | with_reducible exact LeO.refl _
    | with_reducible exact LeO.none _
    | with_reducible refine LeO.ite ?_ ?_
    | with_reducible refine LeO.bind ?_ (fun _ => ?_)
    | exact ih0 _ _ _ _ _
    | exact ih1 _ _ _ _ _ _ _ _
    | exact ih2 _ _ _ _ _ _ _ _ _ _ _ _ _ _
    | exact ih3 _ _ _ _ _ _ _ _ _ _ _ _ _
    | exact ih4 _ _ _ _ _ _ _ _ _ _ _ _ _ _ _ _ _ _
    | exact LeO.none _
    | refine LeO.ite ?_ ?_
    | refine LeO.bind ?_ (fun _ => ?_)
    · intro y0 y1 y2 y3 y4 y5 y6 y7 y8 y9 y10 y11 y12 y13 y14 y15 y16 y17
      unfold impl_CoverOf.l3
      repeat' first
    | with_reducible exact ih0 _ _ _ _ _
    | with_reducible exact ih1 _ _ _ _ _ _ _ _
    | with_reducible exact ih2 _ _ _ _ _ _ _ _ _ _ _ _ _ _
    | with_reducible exact ih3 _ _ _ _ _ _ _ _ _ _ _ _ _
    | with_reducible exact ih4 _ _ _ _ _ _ _ _ _ _ _ _ _ _ _ _ _ _
    | with_reducible exact impl_edge_winds.mono ..
    | with_reducible exact impl_edgesOf.mono ..
    | with_reducible exact LeO.refl _
    | with_reducible exact LeO.none _
    | with_reducible refine LeO.ite ?_ ?_
    | with_reducible refine LeO.bind ?_ (fun _ => ?_)
    | exact ih0 _ _ _ _ _
    | exact ih1 _ _ _ _ _ _ _ _
    | exact ih2 _ _ _ _ _ _ _ _ _ _ _ _ _ _
    | exact ih3 _ _ _ _ _ _ _ _ _ _ _ _ _
    | exact ih4 _ _ _ _ _ _ _ _ _ _ _ _ _ _ _ _ _ _
    | exact LeO.none _
    | refine LeO.ite ?_ ?_
    | refine LeO.bind ?_ (fun _ => ?_)
theorem impl_CoverOf.mono : ∀ a0 a1 a2 a3 k, LeO (impl_CoverOf.f k a0 a1 a2 a3) (impl_CoverOf.f (k + 1) a0 a1 a2 a3) := by
  intro a0 a1 a2 a3 k
  obtain ⟨ih0, ih1, ih2, ih3, ih4⟩ := impl_CoverOf.mono_l k
  unfold impl_CoverOf.f
  repeat' first
    | with_reducible exact ih0 _ _ _ _ _
    | with_reducible exact ih1 _ _ _ _ _ _ _ _
    | with_reducible exact ih2 _ _ _ _ _ _ _ _ _ _ _ _ _ _
    | with_reducible exact ih3 _ _ _ _ _ _ _ _ _ _ _ _ _
    | with_reducible exact ih4 _ _ _ _ _ _ _ _ _ _ _ _ _ _ _ _ _ _
    | with_reducible exact impl_edge_winds.mono ..
    | with_reducible exact impl_edgesOf.mono ..
    | with_reducible exact LeO.refl _
    | with_reducible exact LeO.none _
    | with_reducible refine LeO.ite ?_ ?_
    | with_reducible refine LeO.bind ?_ (fun _ => ?_)
    | exact ih0 _ _ _ _ _
    | exact ih1 _ _ _ _ _ _ _ _
    | exact ih2 _ _ _ _ _ _ _ _ _ _ _ _ _ _
    | exact ih3 _ _ _ _ _ _ _ _ _ _ _ _ _
    | exact ih4 _ _ _ _ _ _ _ _ _ _ _ _ _ _ _ _ _ _
    | exact LeO.none _
    | refine LeO.ite ?_ ?_
    | refine LeO.bind ?_ (fun _ => ?_)
set_option maxHeartbeats 8000000 in
set_option maxRecDepth 100000 in
theorem impl_CoverOf.calls (k : Nat) (A0 : Option Addr) (c0 : Nat) (l0 : List (S83)) (a1 : Int) (a2 : Int) (a3 : Bool) (r1 : Int) (r2 : Int) (r3 : List Int) (r4 : Bool) (w : World) (hr0 : Kd.C k83 w A0 l0.length l0) (hc0 : l0.length ≤ c0) (h : impl_CoverOf.f k l0 a1 a2 a3 = some (r1, r2, r3, r4)) :
    Calls Try.prog 45 #[.slice A0 l0.length c0, .int .i64 a1, .int .i64 a2, .bool a3] w fun e w' => ∃ v2_ : Value, e = .returned (.tuple #[.agg #[.int .i64 r1, .int .i64 r2, v2_], .bool r4]) ∧ Kd.R (Kd.int .i64) 3 w' w.heap.size (fun _ => True) v2_ r3 ∧ Below w.heap.size w w' := by
 have hu67 := Try.underlying67
 have hu175 := Try.underlying175
 have HR0 := Aside0.mk hr0
 have HC0 := Aside0.mk hc0
 clear hr0 hc0
 have HB := Aside0.mk (Below.refl w.heap.size w)
 have H : ((impl_edgesOf.f k l0).bind fun bt259 => (if bt259.2 = true then ((impl_areSides.f a1 a2).bind fun t263 => (impl_CoverOf.j0 k a1 a2 a3 bt259.1 (!t263))) else (impl_CoverOf.j0 k a1 a2 a3 bt259.1 true))) = some (r1, r2, r3, r4) := h
 clear h
 replace H := Option.bind_eq_some_iff.mp H
 obtain ⟨⟨t259, t260⟩, A50, H⟩ := H
 replace H : (if t260 = true then ((impl_areSides.f a1 a2).bind fun t263 => (impl_CoverOf.j0 k a1 a2 a3 t259 (!t263))) else (impl_CoverOf.j0 k a1 a2 a3 t259 true)) = some (r1, r2, r3, r4) := H
 have A5 := Aside0.mk A50
 clear A50
 have HC6 := Aside0.mk H
 clear H
 go_enter Try.func45, Try.ntmps45
 go_upto_region 2 with (first | ((with_reducible refine gate_dst (N := 8) rfl ?_); (try (refine gate_guard (by rfl) ?_; dsimp only)); refine box_event ?hg (N := 8) ?hd (cs := #[.int .i64 0, .int .i64 0, .slice none 0 0]) (t := 67) ?hr ?_; (case hd => rfl); (case hg => rfl); (case hr => first | (go_simp; done) | (go_simp; rfl)); intro gb258 hg w7 hbox hb; have BK258 := Aside0.mk (hbox); have GW258 := Aside0.mk ((by rw [hg]; exact (below_size (z.bl HB)) : w.heap.size ≤ gb258)); have GE258 := Aside0.mk ((by rw [hg]; exact (below_size (z.bl HB)) : w.heap.size ≤ gb258)); replace HB := Aside0.mk (below_step (z.bl HB) hb); clear hb hbox hg) | ((with_reducible refine gate_callee (f := 128) rfl ?_); refine z.gl (some 24) rfl rfl Try.func128 (by kernel_rfl) rfl #[.slice A0 l0.length c0] rfl ?_; (with_reducible refine (impl_edgesOf.calls k _ _ l0 t259 t260 _ ?side1 ?side2 A5.out).mono ?_); (case side1 => repeat (first | exact (Kd.C_below HR0.out HB.out) | (with_reducible refine Kd.C_alloc ?_ _) | (with_reducible refine Kd.C_drewN ?_ _) | (with_reducible refine Kd.C_drew ?_))); (case side2 => exact HC0.out); rintro e w8 ⟨v261, rfl, ho0, hb⟩; refine ⟨_, rfl, ?_⟩; have HO262 := Aside0.mk (Kd.R_lower ho0 (below_size (z.bl HB))); replace BK258 := z.bb BK258 hb; replace HB := Aside0.mk (below_step (z.bl HB) hb); (try clear hb); (try clear hb2); (try clear hk); (try clear hi); (try clear ho0)))
 (try simp only [Act.put, List.setIfInBounds_toArray, List.set_cons_zero, List.set_cons_succ])
 go_cut [34] (fun v34 wc => ∃ (kq : Nat) (x34_5 : Bool), v34 = .bool x34_5 ∧ Aside0 (impl_CoverOf.j0 kq a1 a2 a3 t259 x34_5 = some (r1, r2, r3, r4)) ∧ Aside0 (kq ≤ k) ∧ Aside0 (Kd.R k175 175 wc w.heap.size (fun _ => True) v261 t259) ∧ Aside0 (wc.heap[gb258]? = some (.cells #[.int .i64 0, .int .i64 0, (.slice none 0 0)] 67 (0, 0))) ∧ Aside0 (Below w.heap.size w wc))
 case first =>
  have H := HC6.out
  clear HC6
  by_cases c9 : t260 = true
  ·subst c9
   have H1 : ((impl_areSides.f a1 a2).bind fun t263 => (impl_CoverOf.j0 k a1 a2 a3 t259 (!t263))) = some (r1, r2, r3, r4) := by rw [if_pos rfl] at H; exact H
   clear H
   have H := H1
   clear H1
   replace H := Option.bind_eq_some_iff.mp H
   obtain ⟨t263, A100, H⟩ := H
   replace H : (impl_CoverOf.j0 k a1 a2 a3 t259 (!t263)) = some (r1, r2, r3, r4) := H
   have A10 := Aside0.mk A100
   clear A100
   have H' := Aside0.mk H
   clear H
   go_wp2_with (first | (go_at_call 129; (with_reducible refine (impl_areSides.calls a1 a2 t263 _ A10.out).mono ?_); rintro e w' ⟨rfl, ⟨nd, rfl⟩⟩))
   go_meet
   case rel => exact ⟨_, (!t263), (by first | rfl | (simp; done) | (simp [*]; done)), H', ⟨by first | omega | exact Nat.le_refl _⟩, ⟨z.rl HO262.out⟩, ⟨z.bk BK258⟩, ⟨z.bl HB⟩⟩
  ·replace c9 := Bool.eq_false_iff.mpr c9
   subst c9
   have H1 : (impl_CoverOf.j0 k a1 a2 a3 t259 true) = some (r1, r2, r3, r4) := by rw [if_neg (show ¬ (false = true) by decide)] at H; exact H
   clear H
   have H := H1
   clear H1
   have H' := Aside0.mk H
   clear H
   go_wp2
   go_meet
   case rel => exact ⟨_, (true), (by first | rfl | (simp; done) | (simp [*]; done)), H', ⟨by first | omega | exact Nat.le_refl _⟩, ⟨z.rl HO262.out⟩, ⟨z.bk BK258⟩, ⟨z.bl HB⟩⟩
 case rest =>
  clear HC6
  try clear c1
  try clear p2
  try clear c4
  try clear c9
  obtain ⟨kq, x34_5, rfl, HA, HJ5, HO_10, BK258, HB⟩ := hcut
  cases kq with
  | zero => exact absurd HA.out (by simp [impl_CoverOf.j0])
  | succ kj5 =>
   have H := HA.out
   clear HA
   simp only [impl_CoverOf.j0] at H
   by_cases c11 : x34_5 = true
   ·subst c11
    have H1 : (some (0, 0, ([] : List Int), false)) = some (r1, r2, r3, r4) := by rw [if_pos rfl] at H; exact H
    clear H
    have H := H1
    clear H1
    simp only [Option.some.injEq, Prod.mk.injEq] at H
    obtain ⟨rfl, rfl, rfl, rfl⟩ := H
    have hcz12_0 : wc.cell? ⟨gb258, 0, none⟩ = some (.int .i64 0) := (blk_cell BK258.out 0).trans rfl
    have hcz12_1 : wc.cell? ⟨gb258, 1, none⟩ = some (.int .i64 0) := (blk_cell BK258.out 1).trans rfl
    have hcz12_2 : wc.cell? ⟨gb258, 2, none⟩ = some (.slice none 0 0) := (blk_cell BK258.out 2).trans rfl
    have hfz12_0 := blk_frozen BK258.out 0
    have hfz12_1 := blk_frozen BK258.out 1
    have hfz12_2 := blk_frozen BK258.out 2
    go_wp2
    refine bodyPost_ret (results_ct rfl _ _ gb258 67 #[.int .i64 0, .int .i64 0, .slice none 0 0] (0, 0) _ rfl (by (with_reducible repeat (first | refine blk_drewN ?_ _ | refine blk_drew ?_ | refine blk_alloc ?_ _)); refine blk_put (cs := #[.int .i64 0, .int .i64 0, .slice none 0 0]) ?_ 2 _ rfl; (with_reducible repeat (first | refine blk_drewN ?_ _ | refine blk_drew ?_ | refine blk_alloc ?_ _)); refine blk_put (cs := #[.int .i64 0, .int .i64 0, .slice none 0 0]) ?_ 1 _ rfl; (with_reducible repeat (first | refine blk_drewN ?_ _ | refine blk_drew ?_ | refine blk_alloc ?_ _)); refine blk_put (cs := #[.int .i64 0, .int .i64 0, .slice none 0 0]) ?_ 0 _ rfl; (with_reducible repeat (first | refine blk_drewN ?_ _ | refine blk_drew ?_ | refine blk_alloc ?_ _)); exact BK258.out) Try.underlying67 rfl (by kernel_rfl)) rfl ?_
    exact ⟨_, by first | rfl | (simp [errW_none, errW_some] <;> rfl) | (simp [*, errW_none, errW_some] <;> rfl), by first | exact Kd.R_nil _ _ _ _ _ | exact Kd.N_nil _ _ _ _ _ | exact Kd.V_nil _ _ _ _ _ | exact Kd.Q_nil _ _ _ _ _ | exact Kd.S_nil _ _ _ _ _, z.bl HB⟩
   ·replace c11 := Bool.eq_false_iff.mpr c11
    subst c11
    have H1 : (if 0 ≤ (wrap64 (a1 * a2)) then (if (wrap64 (a1 * a2) : Int).toNat ≤ 35184372088832 then (impl_CoverOf.l0 kj5 a1 a3 t259 (wrap64 (4 * a2)) 0 a1 a2 (List.replicate (wrap64 (a1 * a2) : Int).toNat 0)) else (none)) else (none)) = some (r1, r2, r3, r4) := by rw [if_neg (show ¬ (false = true) by decide)] at H; exact H
    clear H
    have H := H1
    clear H1
    obtain ⟨ji13, hji13⟩ : ∃ j_ : Int, (wrap64 (a1 * a2)) = j_ := ⟨_, rfl⟩
    replace H : (if 0 ≤ (ji13) then (if (ji13 : Int).toNat ≤ 35184372088832 then (impl_CoverOf.l0 kj5 a1 a3 t259 (wrap64 (4 * a2)) 0 a1 a2 (List.replicate (ji13 : Int).toNat 0)) else (none)) else (none)) = some (r1, r2, r3, r4) := by first | (rw [hji13] at H; exact H) | (simp only [hji13] at H ⊢; exact H)
    have hji13w : (IntKind.i64.wrap (a1 * a2)) = ji13 := (i64_w _).trans hji13
    by_cases c14 : 0 ≤ (ji13)
    ·rw [if_pos c14] at H
     have c14b0 := eq_true c14
     have c14b1 : decide (0 ≤ (ji13)) = true := decide_eq_true c14
     clear c14
     by_cases c15 : (ji13 : Int).toNat ≤ 35184372088832
     ·rw [if_pos c15] at H
      have c15b0 := eq_true c15
      have c15b1 : decide ((ji13 : Int).toNat ≤ 35184372088832) = true := decide_eq_true c15
      clear c15
      obtain ⟨y264, hy264⟩ : ∃ y_ : List Int, y_ = (List.replicate (ji13 : Int).toNat 0) := ⟨_, rfl⟩
      replace H : (impl_CoverOf.l0 kj5 a1 a3 t259 (wrap64 (4 * a2)) 0 a1 a2 y264) = some (r1, r2, r3, r4) := by first | (rw [hy264]; with_reducible exact H) | (have H2_ := (Option.bind_some _ _).symm.trans H; rw [hy264]; with_reducible exact H2_) | (have H2_ := (Option.bind_some _ _).symm.trans H; with_reducible exact H2_) | with_reducible exact H | (rw [hy264]; exact H) | exact H
      have Ny264 := Aside0.mk hy264
      clear hy264
      have H' := Aside0.mk H
      clear H
      go_wp2_with (first | ((with_reducible refine gate_dst (N := 41) rfl ?_); (try (refine gate_guard (by rfl) ?_; dsimp only)); refine Kd.R_make (Kd.int .i64) _ 3 rfl (N := 41) rfl 55 _ _ rfl ji13 rfl rfl Try.underlying55 (.int .i64 0) 8 info3 rfl (by decide) (by omega) 0 (ok := fun _ => True) (okp := fun _ => True) rfl (fun _ hk => hk) trivial (of_decide_eq_true (by first | (with_reducible assumption) | assumption)) (Nat.le_trans (Nat.mul_le_mul_right _ (of_decide_eq_true (by first | (with_reducible assumption) | assumption) : ji13.toNat ≤ 35184372088832)) (by omega)) (Below.refl _ _) (Nat.le_refl _) ?_; intro v265 w16 ho17 hb hg_ hnew_; clear hg_ hnew_; (first | rw [← Ny264.out] at ho17 | (simp only [Int.reduceToNat] at ho17; rw [← Ny264.out] at ho17)); replace HO_10 := z.rb HO_10 hb; have HO266 := Aside0.mk (Kd.R_lower ho17 (below_size (z.bl HB))); replace BK258 := z.bb BK258 hb; replace HB := Aside0.mk (below_step (z.bl HB) hb); clear hb ho17; obtain ⟨Ao18, co18, eo18⟩ := Kd.R_slice HO266.out; subst eo18) | ((with_reducible refine gate_dst (N := 12) rfl ?_); (try (refine gate_guard (by rfl) ?_; dsimp only)); refine box_event ?hg (N := 12) ?hd (cs := #[.int .i64 0, .int .i64 0, .slice none 0 0]) (t := 67) ?hr ?_; (case hd => rfl); (case hg => rfl); (case hr => first | (go_simp; done) | (go_simp; rfl)); intro gb267 hg w19 hbox hb; replace HO_10 := z.rb HO_10 hb; replace HO266 := z.rb HO266 hb; have BK267 := Aside0.mk (hbox); have GW267 := Aside0.mk ((by rw [hg]; exact (below_size (z.bl HB)) : w.heap.size ≤ gb267)); have GE267 := Aside0.mk ((by rw [hg]; exact (below_size (z.bl HB)) : w.heap.size ≤ gb267)); replace HB := Aside0.mk (below_step (z.bl HB) hb); have NB258_267 := z.ht BK258 hg; have NB267_258 := z.hu BK258 hg; replace BK258 := z.bb BK258 hb; clear hb hbox hg; have hnb20 := NB267_258.out; have hnc20 := NB258_267.out; have hcz21_0 : w19.cell? ⟨gb267, 0, none⟩ = some (.int .i64 0) := (blk_cell BK267.out 0).trans rfl; have hcz21_1 : w19.cell? ⟨gb267, 1, none⟩ = some (.int .i64 0) := (blk_cell BK267.out 1).trans rfl; have hcz21_2 : w19.cell? ⟨gb267, 2, none⟩ = some (.slice none 0 0) := (blk_cell BK267.out 2).trans rfl; have hfz21_0 := blk_frozen BK267.out 0; have hfz21_1 := blk_frozen BK267.out 1; have hfz21_2 := blk_frozen BK267.out 2))
      go_loopg [45] kj5 (fun kq v45 w' => ∃ (x45_2 : Int) (x268002_2 : List Int) (u268002 : Value), v45 = .int .i64 x45_2 ∧ Aside0 (impl_CoverOf.l0 kq a1 a3 t259 (wrap64 (4 * a2)) x45_2 a1 a2 x268002_2 = some (r1, r2, r3, r4)) ∧ Aside0 (kq ≤ kj5) ∧ Aside0 (Kd.R k175 175 w' w.heap.size (fun _ => True) v261 t259) ∧ Aside0 (Kd.R (Kd.int .i64) 3 w' w.heap.size (fun _ => True) u268002 x268002_2) ∧ Aside0 (w'.heap[gb258]? = some (.cells #[.int .i64 0, .int .i64 0, (.slice none 0 0)] 67 (0, 0))) ∧ Aside0 (w'.heap[gb267]? = some (.cells #[.int .i64 a1, .int .i64 a2, u268002] 67 (0, 0))) ∧ Aside0 (Below w.heap.size w w'))
      case atStart => exact ⟨(0), (y264), (.slice Ao18 y264.length co18), (by first | rfl | (simp; done) | (simp [*]; done)), H', ⟨Nat.le_refl _⟩, ⟨z.rl (Kd.R_mono (Kd.R_far (p := ⟨gb267, 2, none⟩) (Kd.R_far (p := ⟨gb267, 1, none⟩) (Kd.R_far (p := ⟨gb267, 0, none⟩) (Kd.R_types HO_10.out BK267.out (by decide)) (fun _ hk => hk.2) (.int .i64 a1)) (fun _ hk => hk.2) (.int .i64 a2)) (fun _ hk => hk.2) (.slice Ao18 y264.length co18)) (fun _ hk => trivial))⟩, ⟨z.rl (Kd.R_mono (Kd.R_far (p := ⟨gb267, 2, none⟩) (Kd.R_far (p := ⟨gb267, 1, none⟩) (Kd.R_far (p := ⟨gb267, 0, none⟩) (Kd.R_types HO266.out BK267.out (by decide)) (fun _ hk => hk.2) (.int .i64 a1)) (fun _ hk => hk.2) (.int .i64 a2)) (fun _ hk => hk.2) (.slice Ao18 y264.length co18)) (fun _ hk => trivial))⟩, ⟨z.bf BK258⟩, ⟨by (with_reducible repeat (first | refine blk_drewN ?_ _ | refine blk_drew ?_ | refine blk_alloc ?_ _)); refine blk_put (cs := #[.int .i64 a1, .int .i64 a2, .slice none 0 0]) ?_ 2 _ rfl; (with_reducible repeat (first | refine blk_drewN ?_ _ | refine blk_drew ?_ | refine blk_alloc ?_ _)); refine blk_put (cs := #[.int .i64 a1, .int .i64 0, .slice none 0 0]) ?_ 1 _ rfl; (with_reducible repeat (first | refine blk_drewN ?_ _ | refine blk_drew ?_ | refine blk_alloc ?_ _)); refine blk_put (cs := #[.int .i64 0, .int .i64 0, .slice none 0 0]) ?_ 0 _ rfl; (with_reducible repeat (first | refine blk_drewN ?_ _ | refine blk_drew ?_ | refine blk_alloc ?_ _)); exact BK267.out⟩, ⟨z.bl HB⟩⟩
      case round =>
       clear H'
       try clear c1
       try clear c2
       try clear p2
       try clear c4
       try clear p6
       try clear c9
       try clear c11
       try clear c12
       try clear c14
       try clear c14b0
       try clear c14b1
       try clear c15
       try clear c15b0
       try clear c15b1
       try clear c20
       try clear hcz12_0
       try clear hcz12_1
       try clear hcz12_2
       try clear hcz21_0
       try clear hcz21_1
       try clear hcz21_2
       try clear hfz12_0
       try clear hfz12_1
       try clear hfz12_2
       try clear hfz21_0
       try clear hfz21_1
       try clear hfz21_2
       try clear p2
       obtain ⟨x45_2, x268002_2, u268002, rfl, HA, HK2, HO_10, HO_268002, BK258, BK267, HB⟩ := hrel
       cases gk with
       | zero => exact absurd HA.out (by simp [impl_CoverOf.l0])
       | succ k2 =>
        have H := HA.out
        clear HA
        simp only [impl_CoverOf.l0] at H
        by_cases c22 : x45_2 < (wrap64 (4 * a2))
        ·rw [if_pos c22] at H
         have c22b0 : decide (x45_2 < (wrap64 (4 * a2))) = true := decide_eq_true c22
         clear c22
         obtain ⟨y268, hy268⟩ : ∃ y_ : List (S175), y_ = (([] : List (S175))) := ⟨_, rfl⟩
         replace H : (impl_CoverOf.l1 k2 a1 a3 t259 x45_2 (wrap64 ((wrap64 (4 * x45_2)) + 2)) y268 (wrap64 (4 * a2)) x45_2 t259 (t259.length : Int) 0 a1 a2 x268002_2) = some (r1, r2, r3, r4) := by first | (rw [hy268]; with_reducible exact H) | (have H2_ := (Option.bind_some _ _).symm.trans H; rw [hy268]; with_reducible exact H2_) | (have H2_ := (Option.bind_some _ _).symm.trans H; with_reducible exact H2_) | with_reducible exact H | (rw [hy268]; exact H) | exact H
         have Ny268 := Aside0.mk hy268
         clear hy268
         have H' := Aside0.mk H
         clear H
         go_wp2_with (first | ((with_reducible refine gate_dst (N := 51) rfl ?_); (try (refine gate_guard (by rfl) ?_; dsimp only)); refine Kd.R_lit k175 _ 175 ?hg (N := 51) ?hd (xs := ([] : List (S175))) (inner := []) (ok := fun _ => True) (okp := fun _ => True) ?hr ?hp (fun _ hk => hk) trivial (Below.refl _ _) (Nat.le_refl _) (by simp) ?_; (case hd => rfl); (case hg => rfl); (case hr => first | (go_simp; done) | (go_simp; rfl)); (case hp => exact (Reps.none _ _)); intro v269 w23 ho24 hb hg_ hnew_; clear hg_ hnew_; (first | rw [← Ny268.out] at ho24 | (simp only [Int.reduceToNat] at ho24; rw [← Ny268.out] at ho24)); replace HO_268002 := z.rb HO_268002 hb; have HO270 := Aside0.mk (Kd.R_lower (Kd.R_new' ho24 (Kd.R_lt (z.rl HO_10.out))) (below_size (z.bl HB))); replace HO_10 := Aside0.mk (Kd.R_elder' (z.rl HO_10.out) (Kd.R_base ho24) hb); replace BK258 := z.bb BK258 hb; replace BK267 := z.bb BK267 hb; replace HB := Aside0.mk (below_step (z.bl HB) hb); clear hb ho24; obtain ⟨Ao25, co25, eo25⟩ := Kd.R_slice HO_10.out; subst eo25))
         go_loopg [15, 54] k2 (fun kq v15 v54 w' => ∃ (x15_3 : List (S175)) (x54_3 : Int), v54 = .int .i64 x54_3 ∧ Aside0 (impl_CoverOf.l1 kq a1 a3 t259 x45_2 (wrap64 ((wrap64 (4 * x45_2)) + 2)) x15_3 (wrap64 (4 * a2)) x45_2 t259 (t259.length : Int) x54_3 a1 a2 x268002_2 = some (r1, r2, r3, r4)) ∧ Aside0 (kq ≤ k2) ∧ Aside0 (Kd.R k175 175 w' w.heap.size (fun k_ => some k_ ≠ (v15 : Value).ownBlock) (.slice Ao25 t259.length co25) t259) ∧ Aside0 (Kd.R k175 175 w' w.heap.size (fun k_ => some k_ ≠ ((.slice Ao25 t259.length co25) : Value).ownBlock ∧ some k_ ≠ ((.slice Ao25 t259.length co25) : Value).ownBlock) v15 x15_3) ∧ Aside0 (Kd.R k175 175 w' w.heap.size (fun k_ => some k_ ≠ (v15 : Value).ownBlock) (.slice Ao25 t259.length co25) t259) ∧ Aside0 (Kd.R (Kd.int .i64) 3 w' w.heap.size (fun _ => True) u268002 x268002_2) ∧ Aside0 (w'.heap[gb258]? = some (.cells #[.int .i64 0, .int .i64 0, (.slice none 0 0)] 67 (0, 0))) ∧ Aside0 (w'.heap[gb267]? = some (.cells #[.int .i64 a1, .int .i64 a2, u268002] 67 (0, 0))) ∧ Aside0 (Below w.heap.size w w'))
         case atStart => exact ⟨(y268), (0), (by first | rfl | (simp; done) | (simp [*]; done)), H', ⟨Nat.le_refl _⟩, ⟨z.rl (Kd.R_mono HO_10.out (fun _ hk => hk.2))⟩, ⟨z.rl (Kd.R_mono HO270.out (fun _ hk => ⟨hk.2, hk.2⟩))⟩, ⟨z.rl (Kd.R_mono HO_10.out (fun _ hk => hk.2))⟩, ⟨z.rl HO_268002.out⟩, ⟨z.bk BK258⟩, ⟨z.bk BK267⟩, ⟨z.bl HB⟩⟩
         case round =>
          clear H'
          try clear c1
          try clear c2
          try clear p2
          try clear c4
          try clear p6
          try clear c9
          try clear c11
          try clear c12
          try clear c14
          try clear c14b0
          try clear c14b1
          try clear c15
          try clear c15b0
          try clear c15b1
          try clear c20
          try clear c22
          try clear c22b0
          try clear hcz12_0
          try clear hcz12_1
          try clear hcz12_2
          try clear hcz21_0
          try clear hcz21_1
          try clear hcz21_2
          try clear hfz12_0
          try clear hfz12_1
          try clear hfz12_2
          try clear hfz21_0
          try clear hfz21_1
          try clear hfz21_2
          try clear p2
          try clear p6
          obtain ⟨x15_3, x54_3, rfl, HA, HK3, HO_10, HO_15, HO_52, HO_268002, BK258, BK267, HB⟩ := hrel
          cases gk with
          | zero => exact absurd HA.out (by simp [impl_CoverOf.l1])
          | succ k3 =>
           have H := HA.out
           clear HA
           simp only [impl_CoverOf.l1] at H
           by_cases c26 : x54_3 < (t259.length : Int)
           ·rw [if_pos c26] at H
            have c26b0 : decide (x54_3 < (t259.length : Int)) = true := decide_eq_true c26
            clear c26
            by_cases c27 : 0 ≤ x54_3
            ·rw [if_pos c27] at H
             have c27b0 : decide (0 ≤ x54_3) = true := decide_eq_true c27
             clear c27
             by_cases c28 : x54_3 < (t259.length : Int)
             ·rw [if_pos c28] at H
              have c28b0 : decide (x54_3 < (t259.length : Int)) = true := decide_eq_true c28
              clear c28
              obtain ⟨ji29, hji29⟩ : ∃ j_ : Int, (mn ((rd_T175 t259 x54_3).f1) ((rd_T175 t259 x54_3).f3)) = j_ := ⟨_, rfl⟩
              replace H : (if (ji29) ≤ (wrap64 ((wrap64 (4 * x45_2)) + 2)) then (if (wrap64 ((wrap64 (4 * x45_2)) + 2)) < (mx ((rd_T175 t259 x54_3).f1) ((rd_T175 t259 x54_3).f3)) then (if x15_3.length < 4398046511104 then (impl_CoverOf.l1 k3 a1 a3 t259 x45_2 (wrap64 ((wrap64 (4 * x45_2)) + 2)) (x15_3 ++ [(⟨(rd_T175 t259 x54_3).f0, (rd_T175 t259 x54_3).f1, (rd_T175 t259 x54_3).f2, (rd_T175 t259 x54_3).f3⟩ : S175)]) (wrap64 (4 * a2)) x45_2 t259 (t259.length : Int) (wrap64 (x54_3 + 1)) a1 a2 x268002_2) else (none)) else (impl_CoverOf.l1 k3 a1 a3 t259 x45_2 (wrap64 ((wrap64 (4 * x45_2)) + 2)) x15_3 (wrap64 (4 * a2)) x45_2 t259 (t259.length : Int) (wrap64 (x54_3 + 1)) a1 a2 x268002_2)) else (impl_CoverOf.l1 k3 a1 a3 t259 x45_2 (wrap64 ((wrap64 (4 * x45_2)) + 2)) x15_3 (wrap64 (4 * a2)) x45_2 t259 (t259.length : Int) (wrap64 (x54_3 + 1)) a1 a2 x268002_2)) = some (r1, r2, r3, r4) := by first | (rw [hji29] at H; exact H) | (simp only [hji29] at H ⊢; exact H)
              have hji29_ : (if ((rd_T175 t259 x54_3).f3) < ((rd_T175 t259 x54_3).f1) then ((rd_T175 t259 x54_3).f3) else ((rd_T175 t259 x54_3).f1)) = ji29 := hji29
              by_cases c30 : (ji29) ≤ (wrap64 ((wrap64 (4 * x45_2)) + 2))
              ·rw [if_pos c30] at H
               have c30b0 : decide ((ji29) ≤ (wrap64 ((wrap64 (4 * x45_2)) + 2))) = true := decide_eq_true c30
               clear c30
               obtain ⟨ji31, hji31⟩ : ∃ j_ : Int, (mx ((rd_T175 t259 x54_3).f1) ((rd_T175 t259 x54_3).f3)) = j_ := ⟨_, rfl⟩
               replace H : (if (wrap64 ((wrap64 (4 * x45_2)) + 2)) < (ji31) then (if x15_3.length < 4398046511104 then (impl_CoverOf.l1 k3 a1 a3 t259 x45_2 (wrap64 ((wrap64 (4 * x45_2)) + 2)) (x15_3 ++ [(⟨(rd_T175 t259 x54_3).f0, (rd_T175 t259 x54_3).f1, (rd_T175 t259 x54_3).f2, (rd_T175 t259 x54_3).f3⟩ : S175)]) (wrap64 (4 * a2)) x45_2 t259 (t259.length : Int) (wrap64 (x54_3 + 1)) a1 a2 x268002_2) else (none)) else (impl_CoverOf.l1 k3 a1 a3 t259 x45_2 (wrap64 ((wrap64 (4 * x45_2)) + 2)) x15_3 (wrap64 (4 * a2)) x45_2 t259 (t259.length : Int) (wrap64 (x54_3 + 1)) a1 a2 x268002_2)) = some (r1, r2, r3, r4) := by first | (rw [hji31] at H; exact H) | (simp only [hji31] at H ⊢; exact H)
               have hji31_ : (if ((rd_T175 t259 x54_3).f1) < ((rd_T175 t259 x54_3).f3) then ((rd_T175 t259 x54_3).f3) else ((rd_T175 t259 x54_3).f1)) = ji31 := hji31
               by_cases c32 : (wrap64 ((wrap64 (4 * x45_2)) + 2)) < (ji31)
               ·rw [if_pos c32] at H
                have c32b0 : decide ((wrap64 ((wrap64 (4 * x45_2)) + 2)) < (ji31)) = true := decide_eq_true c32
                clear c32
                by_cases c33 : x15_3.length < 4398046511104
                ·rw [if_pos c33] at H
                 have LMc33 := Aside0.mk c33
                 clear c33
                 obtain ⟨y273, hy273⟩ : ∃ y_ : List (S175), y_ = (x15_3 ++ [(⟨(rd_T175 t259 x54_3).f0, (rd_T175 t259 x54_3).f1, (rd_T175 t259 x54_3).f2, (rd_T175 t259 x54_3).f3⟩ : S175)]) := ⟨_, rfl⟩
                 replace H : (impl_CoverOf.l1 k3 a1 a3 t259 x45_2 (wrap64 ((wrap64 (4 * x45_2)) + 2)) y273 (wrap64 (4 * a2)) x45_2 t259 (t259.length : Int) (wrap64 (x54_3 + 1)) a1 a2 x268002_2) = some (r1, r2, r3, r4) := by first | (rw [hy273]; with_reducible exact H) | (have H2_ := (Option.bind_some _ _).symm.trans H; rw [hy273]; with_reducible exact H2_) | (have H2_ := (Option.bind_some _ _).symm.trans H; with_reducible exact H2_) | with_reducible exact H | (rw [hy273]; exact H) | exact H
                 have Ny273 := Aside0.mk hy273
                 clear hy273
                 have H' := Aside0.mk H
                 clear H
                 have p271 : 0 ≤ (x54_3 : Int) := of_decide_eq_true (by first | (with_reducible assumption) | assumption)
                 have q271 : x54_3 < (t259.length : Int) := of_decide_eq_true (by first | (with_reducible assumption) | assumption)
                 obtain ⟨ad271, e271, hx271_0, hx271_1, hx271_2, hx271_3⟩ := at_T175 (Kd.R_reads' HO_52.out).2.2 x54_3 p271 q271
                 cases e271
                 replace p271 := eq_true p271
                 replace q271 := eq_true q271
                 go_wp2_with (first | ((with_reducible refine gate_dst (N := 17) rfl ?_); (try (refine gate_guard (by rfl) ?_; dsimp only)); refine box_event ?hg (N := 17) ?hd (cs := #[.int .i64 0, .int .i64 0, .int .i64 0, .int .i64 0]) (t := 175) ?hr ?_; (case hd => rfl); (case hg => rfl); (case hr => first | (go_simp; done) | (go_simp; rfl)); intro gb272 hg w34 hbox hb; replace HO_10 := Aside0.mk (Kd.R_below (Kd.R_elderB (z.rl HO_10.out) gb272 (Nat.le_of_eq hg.symm)) hb); replace HO_15 := Aside0.mk (Kd.R_below (Kd.R_elderB (z.rl HO_15.out) gb272 (Nat.le_of_eq hg.symm)) hb); replace HO_52 := Aside0.mk (Kd.R_below (Kd.R_elderB (z.rl HO_52.out) gb272 (Nat.le_of_eq hg.symm)) hb); replace HO_268002 := z.rb HO_268002 hb; have BK272 := Aside0.mk (hbox); have GW272 := Aside0.mk ((by rw [hg]; exact (below_size (z.bl HB)) : w.heap.size ≤ gb272)); have GE272 := Aside0.mk ((by rw [hg]; exact (below_size (z.bl HB)) : w.heap.size ≤ gb272)); replace HB := Aside0.mk (below_step (z.bl HB) hb); have NB258_272 := z.ht BK258 hg; have NB272_258 := z.hu BK258 hg; replace BK258 := z.bb BK258 hb; have NB267_272 := z.ht BK267 hg; have NB272_267 := z.hu BK267 hg; replace BK267 := z.bb BK267 hb; clear hb hbox hg; have hnb35 := NB272_258.out; have hnc35 := NB258_272.out; have hnb36 := NB272_267.out; have hnc36 := NB267_272.out; have hcz37_0 : w34.cell? ⟨gb272, 0, none⟩ = some (.int .i64 0) := (blk_cell BK272.out 0).trans rfl; have hcz37_1 : w34.cell? ⟨gb272, 1, none⟩ = some (.int .i64 0) := (blk_cell BK272.out 1).trans rfl; have hcz37_2 : w34.cell? ⟨gb272, 2, none⟩ = some (.int .i64 0) := (blk_cell BK272.out 2).trans rfl; have hcz37_3 : w34.cell? ⟨gb272, 3, none⟩ = some (.int .i64 0) := (blk_cell BK272.out 3).trans rfl; have hfz37_0 := blk_frozen BK272.out 0; have hfz37_1 := blk_frozen BK272.out 1; have hfz37_2 := blk_frozen BK272.out 2; have hfz37_3 := blk_frozen BK272.out 3) | ((with_reducible refine gate_builtin (b := .append) (xs := #[.tmp 74, .tmp 76]) rfl ?_); (try (refine gate_guard (by rfl) ?_; dsimp only)); at_builtin; refine Kd.R_append k175 (w0 := w) w.heap.size rfl (.tmp 74) (.tmp 76) 170 175 (.agg #[(.int .i64 0), (.int .i64 0), (.int .i64 0), (.int .i64 0)]) 32 rfl Try.underlying170 info175 rfl (by decide) (by omega) u15 x15_3 (⟨(rd_T175 t259 x54_3).f0, (rd_T175 t259 x54_3).f1, (rd_T175 t259 x54_3).f2, (rd_T175 t259 x54_3).f3⟩ : S175) [.int .i64 ((rd_T175 t259 x54_3).f0), .int .i64 ((rd_T175 t259 x54_3).f1), .int .i64 ((rd_T175 t259 x54_3).f2), .int .i64 ((rd_T175 t259 x54_3).f3)] (fun k_ => some k_ ≠ (.slice (some ad271) t259.length co25 : Value).ownBlock ∧ some k_ ≠ (.slice (some ad271) t259.length co25 : Value).ownBlock ∧ k_ ≠ gb272) (fun _ => False) rfl (by first | (go_simp; done) | (go_simp; rfl)) ?aP (fun _ hk => hk.elim) ?aF ?aO ?aB ?aS ?aL ?_; (case aP => exact k175_mkM _ _ _ (⟨(rd_T175 t259 x54_3).f0, (rd_T175 t259 x54_3).f1, (rd_T175 t259 x54_3).f2, (rd_T175 t259 x54_3).f3⟩ : S175)); (case aB => exact (z.bl HB)); (case aF => exact (fun k_ hk => ⟨Kd.fresh' (Kd.R_lt (z.rl ((Kd.R_mono (Kd.R_far (p := ⟨gb272, 3, none⟩) (Kd.R_far (p := ⟨gb272, 2, none⟩) (Kd.R_far (p := ⟨gb272, 1, none⟩) (Kd.R_far (p := ⟨gb272, 0, none⟩) (Kd.R_mono HO_10.out (fun k_ hk => (⟨hk, hk.2⟩ : _ ∧ k_ ≠ gb272))) (fun _ hk => hk.2) (.int .i64 ((rd_T175 t259 x54_3).f0))) (fun _ hk => hk.2) (.int .i64 ((rd_T175 t259 x54_3).f1))) (fun _ hk => hk.2) (.int .i64 ((rd_T175 t259 x54_3).f2))) (fun _ hk => hk.2) (.int .i64 ((rd_T175 t259 x54_3).f3))) (fun _ h_ => h_.1))))) k_ hk, Kd.fresh' (Kd.R_lt (z.rl ((Kd.R_mono (Kd.R_far (p := ⟨gb272, 3, none⟩) (Kd.R_far (p := ⟨gb272, 2, none⟩) (Kd.R_far (p := ⟨gb272, 1, none⟩) (Kd.R_far (p := ⟨gb272, 0, none⟩) (Kd.R_mono HO_52.out (fun k_ hk => (⟨hk, hk.2⟩ : _ ∧ k_ ≠ gb272))) (fun _ hk => hk.2) (.int .i64 ((rd_T175 t259 x54_3).f0))) (fun _ hk => hk.2) (.int .i64 ((rd_T175 t259 x54_3).f1))) (fun _ hk => hk.2) (.int .i64 ((rd_T175 t259 x54_3).f2))) (fun _ hk => hk.2) (.int .i64 ((rd_T175 t259 x54_3).f3))) (fun _ h_ => h_.1))))) k_ hk, Kd.freshB (g := gb272) (o := .cells #[.int .i64 ((rd_T175 t259 x54_3).f0), .int .i64 ((rd_T175 t259 x54_3).f1), .int .i64 ((rd_T175 t259 x54_3).f2), .int .i64 ((rd_T175 t259 x54_3).f3)] 175 (0, 0)) (by (with_reducible repeat (first | refine blk_drewN ?_ _ | refine blk_drew ?_ | refine blk_alloc ?_ _)); refine blk_put (cs := #[.int .i64 ((rd_T175 t259 x54_3).f0), .int .i64 ((rd_T175 t259 x54_3).f1), .int .i64 ((rd_T175 t259 x54_3).f2), .int .i64 0]) ?_ 3 _ rfl; (with_reducible repeat (first | refine blk_drewN ?_ _ | refine blk_drew ?_ | refine blk_alloc ?_ _)); refine blk_put (cs := #[.int .i64 ((rd_T175 t259 x54_3).f0), .int .i64 ((rd_T175 t259 x54_3).f1), .int .i64 0, .int .i64 0]) ?_ 2 _ rfl; (with_reducible repeat (first | refine blk_drewN ?_ _ | refine blk_drew ?_ | refine blk_alloc ?_ _)); refine blk_put (cs := #[.int .i64 ((rd_T175 t259 x54_3).f0), .int .i64 0, .int .i64 0, .int .i64 0]) ?_ 1 _ rfl; (with_reducible repeat (first | refine blk_drewN ?_ _ | refine blk_drew ?_ | refine blk_alloc ?_ _)); refine blk_put (cs := #[.int .i64 0, .int .i64 0, .int .i64 0, .int .i64 0]) ?_ 0 _ rfl; (with_reducible repeat (first | refine blk_drewN ?_ _ | refine blk_drew ?_ | refine blk_alloc ?_ _)); exact BK272.out) k_ hk⟩)); (case aO => exact (z.rl (Kd.R_mono (Kd.R_far (p := ⟨gb272, 3, none⟩) (Kd.R_far (p := ⟨gb272, 2, none⟩) (Kd.R_far (p := ⟨gb272, 1, none⟩) (Kd.R_far (p := ⟨gb272, 0, none⟩) (Kd.R_mono HO_15.out (fun k_ hk => (⟨hk, hk.2⟩ : _ ∧ k_ ≠ gb272))) (fun _ hk => hk.2) (.int .i64 ((rd_T175 t259 x54_3).f0))) (fun _ hk => hk.2) (.int .i64 ((rd_T175 t259 x54_3).f1))) (fun _ hk => hk.2) (.int .i64 ((rd_T175 t259 x54_3).f2))) (fun _ hk => hk.2) (.int .i64 ((rd_T175 t259 x54_3).f3))) (fun _ hk => ⟨hk.1.1.1, ⟨hk.1.1.2, hk.1.2⟩⟩)))); (case aS => exact (below_size (z.bl HB))); (case aL => have := LMc33.out; omega); intro v274 w38 ho hb hg hat; rw [← Ny273.out] at ho; replace HO_10 := Aside0.mk (Kd.R_after (ok := (fun k_ => k_ ≠ gb272)) (z.rl (Kd.R_mono (Kd.R_far (p := ⟨gb272, 3, none⟩) (Kd.R_far (p := ⟨gb272, 2, none⟩) (Kd.R_far (p := ⟨gb272, 1, none⟩) (Kd.R_far (p := ⟨gb272, 0, none⟩) (Kd.R_mono HO_10.out (fun k_ hk => (⟨hk, hk.2⟩ : _ ∧ k_ ≠ gb272))) (fun _ hk => hk.2) (.int .i64 ((rd_T175 t259 x54_3).f0))) (fun _ hk => hk.2) (.int .i64 ((rd_T175 t259 x54_3).f1))) (fun _ hk => hk.2) (.int .i64 ((rd_T175 t259 x54_3).f2))) (fun _ hk => hk.2) (.int .i64 ((rd_T175 t259 x54_3).f3))) (fun _ hk => ⟨hk.1.2, hk.1.1⟩))) hg hat); replace HO_52 := Aside0.mk (Kd.R_after (ok := (fun k_ => k_ ≠ gb272)) (z.rl (Kd.R_mono (Kd.R_far (p := ⟨gb272, 3, none⟩) (Kd.R_far (p := ⟨gb272, 2, none⟩) (Kd.R_far (p := ⟨gb272, 1, none⟩) (Kd.R_far (p := ⟨gb272, 0, none⟩) (Kd.R_mono HO_52.out (fun k_ hk => (⟨hk, hk.2⟩ : _ ∧ k_ ≠ gb272))) (fun _ hk => hk.2) (.int .i64 ((rd_T175 t259 x54_3).f0))) (fun _ hk => hk.2) (.int .i64 ((rd_T175 t259 x54_3).f1))) (fun _ hk => hk.2) (.int .i64 ((rd_T175 t259 x54_3).f2))) (fun _ hk => hk.2) (.int .i64 ((rd_T175 t259 x54_3).f3))) (fun _ hk => ⟨hk.1.2, hk.1.1⟩))) hg hat); replace HO_268002 := Aside0.mk (Kd.R_over' (z.rl ((Kd.R_mono (Kd.R_far (p := ⟨gb272, 3, none⟩) (Kd.R_far (p := ⟨gb272, 2, none⟩) (Kd.R_far (p := ⟨gb272, 1, none⟩) (Kd.R_far (p := ⟨gb272, 0, none⟩) (Kd.R_types HO_268002.out BK272.out (by decide)) (fun _ hk => hk.2) (.int .i64 ((rd_T175 t259 x54_3).f0))) (fun _ hk => hk.2) (.int .i64 ((rd_T175 t259 x54_3).f1))) (fun _ hk => hk.2) (.int .i64 ((rd_T175 t259 x54_3).f2))) (fun _ hk => hk.2) (.int .i64 ((rd_T175 t259 x54_3).f3))) (fun _ h_ => h_.1)))) (Kd.R_typed (z.rl ((Kd.R_mono (Kd.R_far (p := ⟨gb272, 3, none⟩) (Kd.R_far (p := ⟨gb272, 2, none⟩) (Kd.R_far (p := ⟨gb272, 1, none⟩) (Kd.R_far (p := ⟨gb272, 0, none⟩) (Kd.R_mono HO_15.out (fun k_ hk => (⟨hk, hk.2⟩ : _ ∧ k_ ≠ gb272))) (fun _ hk => hk.2) (.int .i64 ((rd_T175 t259 x54_3).f0))) (fun _ hk => hk.2) (.int .i64 ((rd_T175 t259 x54_3).f1))) (fun _ hk => hk.2) (.int .i64 ((rd_T175 t259 x54_3).f2))) (fun _ hk => hk.2) (.int .i64 ((rd_T175 t259 x54_3).f3))) (fun _ h_ => h_.1))))) (by decide) hg); replace BK258 := Aside0.mk (blk_grown (g := gb258) (o := .cells #[.int .i64 0, .int .i64 0, .slice none 0 0] 67 (0, 0)) (z.bf BK258) hg (Kd.R_ne HO_15.out BK258.out (by decide))); replace BK267 := Aside0.mk (blk_grown (g := gb267) (o := .cells #[.int .i64 a1, .int .i64 a2, u268002] 67 (0, 0)) (z.bf BK267) hg (Kd.R_ne HO_15.out BK267.out (by decide))); replace BK272 := Aside0.mk (blk_grown (g := gb272) (o := .cells #[.int .i64 ((rd_T175 t259 x54_3).f0), .int .i64 ((rd_T175 t259 x54_3).f1), .int .i64 ((rd_T175 t259 x54_3).f2), .int .i64 ((rd_T175 t259 x54_3).f3)] 175 (0, 0)) (by (with_reducible repeat (first | refine blk_drewN ?_ _ | refine blk_drew ?_ | refine blk_alloc ?_ _)); refine blk_put (cs := #[.int .i64 ((rd_T175 t259 x54_3).f0), .int .i64 ((rd_T175 t259 x54_3).f1), .int .i64 ((rd_T175 t259 x54_3).f2), .int .i64 0]) ?_ 3 _ rfl; (with_reducible repeat (first | refine blk_drewN ?_ _ | refine blk_drew ?_ | refine blk_alloc ?_ _)); refine blk_put (cs := #[.int .i64 ((rd_T175 t259 x54_3).f0), .int .i64 ((rd_T175 t259 x54_3).f1), .int .i64 0, .int .i64 0]) ?_ 2 _ rfl; (with_reducible repeat (first | refine blk_drewN ?_ _ | refine blk_drew ?_ | refine blk_alloc ?_ _)); refine blk_put (cs := #[.int .i64 ((rd_T175 t259 x54_3).f0), .int .i64 0, .int .i64 0, .int .i64 0]) ?_ 1 _ rfl; (with_reducible repeat (first | refine blk_drewN ?_ _ | refine blk_drew ?_ | refine blk_alloc ?_ _)); refine blk_put (cs := #[.int .i64 0, .int .i64 0, .int .i64 0, .int .i64 0]) ?_ 0 _ rfl; (with_reducible repeat (first | refine blk_drewN ?_ _ | refine blk_drew ?_ | refine blk_alloc ?_ _)); exact BK272.out) hg (Kd.R_away HO_15.out (fun _ hk => hk.2))); replace HB := Aside0.mk (hb); have HO275 := Aside0.mk (ho); clear HO_15; clear ho hb hg hat))
                 go_roundg k3
                 case measure => have := HJ5.out; have := HK2.out; have := HK3.out; omega
                 case rel => exact ⟨(y273), (wrap64 (x54_3 + 1)), (by first | rfl | (simp; done) | (simp [*]; done)), H', ⟨by have := HJ5.out; have := HK2.out; have := HK3.out; omega⟩, ⟨z.rl (Kd.R_mono HO_10.out (fun _ hk => hk.2))⟩, ⟨z.rl (Kd.R_mono HO275.out (fun _ hk => ⟨hk.1, hk.2.1⟩))⟩, ⟨z.rl (Kd.R_mono HO_52.out (fun _ hk => hk.2))⟩, ⟨z.rl HO_268002.out⟩, ⟨z.bk BK258⟩, ⟨z.bk BK267⟩, ⟨z.bl HB⟩⟩
                ·rw [if_neg c33] at H
                 exact absurd H (by simp)
               ·rw [if_neg c32] at H
                have c32b0 : decide ((wrap64 ((wrap64 (4 * x45_2)) + 2)) < (ji31)) = false := decide_eq_false c32
                clear c32
                have H' := Aside0.mk H
                clear H
                have p271 : 0 ≤ (x54_3 : Int) := of_decide_eq_true (by first | (with_reducible assumption) | assumption)
                have q271 : x54_3 < (t259.length : Int) := of_decide_eq_true (by first | (with_reducible assumption) | assumption)
                obtain ⟨ad271, e271, hx271_0, hx271_1, hx271_2, hx271_3⟩ := at_T175 (Kd.R_reads' HO_52.out).2.2 x54_3 p271 q271
                cases e271
                replace p271 := eq_true p271
                replace q271 := eq_true q271
                go_wp2_with (first | ((with_reducible refine gate_dst (N := 17) rfl ?_); (try (refine gate_guard (by rfl) ?_; dsimp only)); refine box_event ?hg (N := 17) ?hd (cs := #[.int .i64 0, .int .i64 0, .int .i64 0, .int .i64 0]) (t := 175) ?hr ?_; (case hd => rfl); (case hg => rfl); (case hr => first | (go_simp; done) | (go_simp; rfl)); intro gb272 hg w39 hbox hb; replace HO_10 := Aside0.mk (Kd.R_below (Kd.R_elderB (z.rl HO_10.out) gb272 (Nat.le_of_eq hg.symm)) hb); replace HO_15 := Aside0.mk (Kd.R_below (Kd.R_elderB (z.rl HO_15.out) gb272 (Nat.le_of_eq hg.symm)) hb); replace HO_52 := Aside0.mk (Kd.R_below (Kd.R_elderB (z.rl HO_52.out) gb272 (Nat.le_of_eq hg.symm)) hb); replace HO_268002 := z.rb HO_268002 hb; have BK272 := Aside0.mk (hbox); have GW272 := Aside0.mk ((by rw [hg]; exact (below_size (z.bl HB)) : w.heap.size ≤ gb272)); have GE272 := Aside0.mk ((by rw [hg]; exact (below_size (z.bl HB)) : w.heap.size ≤ gb272)); replace HB := Aside0.mk (below_step (z.bl HB) hb); have NB258_272 := z.ht BK258 hg; have NB272_258 := z.hu BK258 hg; replace BK258 := z.bb BK258 hb; have NB267_272 := z.ht BK267 hg; have NB272_267 := z.hu BK267 hg; replace BK267 := z.bb BK267 hb; clear hb hbox hg; have hnb40 := NB272_258.out; have hnc40 := NB258_272.out; have hnb41 := NB272_267.out; have hnc41 := NB267_272.out; have hcz42_0 : w39.cell? ⟨gb272, 0, none⟩ = some (.int .i64 0) := (blk_cell BK272.out 0).trans rfl; have hcz42_1 : w39.cell? ⟨gb272, 1, none⟩ = some (.int .i64 0) := (blk_cell BK272.out 1).trans rfl; have hcz42_2 : w39.cell? ⟨gb272, 2, none⟩ = some (.int .i64 0) := (blk_cell BK272.out 2).trans rfl; have hcz42_3 : w39.cell? ⟨gb272, 3, none⟩ = some (.int .i64 0) := (blk_cell BK272.out 3).trans rfl; have hfz42_0 := blk_frozen BK272.out 0; have hfz42_1 := blk_frozen BK272.out 1; have hfz42_2 := blk_frozen BK272.out 2; have hfz42_3 := blk_frozen BK272.out 3))
                go_roundg k3
                case measure => have := HJ5.out; have := HK2.out; have := HK3.out; omega
                case rel => exact ⟨(x15_3), (wrap64 (x54_3 + 1)), (by first | rfl | (simp; done) | (simp [*]; done)), H', ⟨by have := HJ5.out; have := HK2.out; have := HK3.out; omega⟩, ⟨z.rl (Kd.R_mono (Kd.R_far (p := ⟨gb272, 3, none⟩) (Kd.R_far (p := ⟨gb272, 2, none⟩) (Kd.R_far (p := ⟨gb272, 1, none⟩) (Kd.R_far (p := ⟨gb272, 0, none⟩) (Kd.R_mono HO_10.out (fun k_ hk => (⟨hk, hk.2⟩ : _ ∧ k_ ≠ gb272))) (fun _ hk => hk.2) (.int .i64 ((rd_T175 t259 x54_3).f0))) (fun _ hk => hk.2) (.int .i64 ((rd_T175 t259 x54_3).f1))) (fun _ hk => hk.2) (.int .i64 ((rd_T175 t259 x54_3).f2))) (fun _ hk => hk.2) (.int .i64 ((rd_T175 t259 x54_3).f3))) (fun _ hk => hk.1.1))⟩, ⟨z.rl (Kd.R_mono (Kd.R_far (p := ⟨gb272, 3, none⟩) (Kd.R_far (p := ⟨gb272, 2, none⟩) (Kd.R_far (p := ⟨gb272, 1, none⟩) (Kd.R_far (p := ⟨gb272, 0, none⟩) (Kd.R_mono HO_15.out (fun k_ hk => (⟨hk, hk.2⟩ : _ ∧ k_ ≠ gb272))) (fun _ hk => hk.2) (.int .i64 ((rd_T175 t259 x54_3).f0))) (fun _ hk => hk.2) (.int .i64 ((rd_T175 t259 x54_3).f1))) (fun _ hk => hk.2) (.int .i64 ((rd_T175 t259 x54_3).f2))) (fun _ hk => hk.2) (.int .i64 ((rd_T175 t259 x54_3).f3))) (fun _ hk => ⟨hk.1.1.1, hk.1.1.2⟩))⟩, ⟨z.rl (Kd.R_mono (Kd.R_far (p := ⟨gb272, 3, none⟩) (Kd.R_far (p := ⟨gb272, 2, none⟩) (Kd.R_far (p := ⟨gb272, 1, none⟩) (Kd.R_far (p := ⟨gb272, 0, none⟩) (Kd.R_mono HO_52.out (fun k_ hk => (⟨hk, hk.2⟩ : _ ∧ k_ ≠ gb272))) (fun _ hk => hk.2) (.int .i64 ((rd_T175 t259 x54_3).f0))) (fun _ hk => hk.2) (.int .i64 ((rd_T175 t259 x54_3).f1))) (fun _ hk => hk.2) (.int .i64 ((rd_T175 t259 x54_3).f2))) (fun _ hk => hk.2) (.int .i64 ((rd_T175 t259 x54_3).f3))) (fun _ hk => hk.1.1))⟩, ⟨z.rl (Kd.R_mono (Kd.R_far (p := ⟨gb272, 3, none⟩) (Kd.R_far (p := ⟨gb272, 2, none⟩) (Kd.R_far (p := ⟨gb272, 1, none⟩) (Kd.R_far (p := ⟨gb272, 0, none⟩) (Kd.R_types HO_268002.out BK272.out (by decide)) (fun _ hk => hk.2) (.int .i64 ((rd_T175 t259 x54_3).f0))) (fun _ hk => hk.2) (.int .i64 ((rd_T175 t259 x54_3).f1))) (fun _ hk => hk.2) (.int .i64 ((rd_T175 t259 x54_3).f2))) (fun _ hk => hk.2) (.int .i64 ((rd_T175 t259 x54_3).f3))) (fun _ hk => trivial))⟩, ⟨z.bf BK258⟩, ⟨z.bf BK267⟩, ⟨z.bl HB⟩⟩
              ·rw [if_neg c30] at H
               have c30b0 : decide ((ji29) ≤ (wrap64 ((wrap64 (4 * x45_2)) + 2))) = false := decide_eq_false c30
               clear c30
               have H' := Aside0.mk H
               clear H
               have p271 : 0 ≤ (x54_3 : Int) := of_decide_eq_true (by first | (with_reducible assumption) | assumption)
               have q271 : x54_3 < (t259.length : Int) := of_decide_eq_true (by first | (with_reducible assumption) | assumption)
               obtain ⟨ad271, e271, hx271_0, hx271_1, hx271_2, hx271_3⟩ := at_T175 (Kd.R_reads' HO_52.out).2.2 x54_3 p271 q271
               cases e271
               replace p271 := eq_true p271
               replace q271 := eq_true q271
               go_wp2_with (first | ((with_reducible refine gate_dst (N := 17) rfl ?_); (try (refine gate_guard (by rfl) ?_; dsimp only)); refine box_event ?hg (N := 17) ?hd (cs := #[.int .i64 0, .int .i64 0, .int .i64 0, .int .i64 0]) (t := 175) ?hr ?_; (case hd => rfl); (case hg => rfl); (case hr => first | (go_simp; done) | (go_simp; rfl)); intro gb272 hg w43 hbox hb; replace HO_10 := Aside0.mk (Kd.R_below (Kd.R_elderB (z.rl HO_10.out) gb272 (Nat.le_of_eq hg.symm)) hb); replace HO_15 := Aside0.mk (Kd.R_below (Kd.R_elderB (z.rl HO_15.out) gb272 (Nat.le_of_eq hg.symm)) hb); replace HO_52 := Aside0.mk (Kd.R_below (Kd.R_elderB (z.rl HO_52.out) gb272 (Nat.le_of_eq hg.symm)) hb); replace HO_268002 := z.rb HO_268002 hb; have BK272 := Aside0.mk (hbox); have GW272 := Aside0.mk ((by rw [hg]; exact (below_size (z.bl HB)) : w.heap.size ≤ gb272)); have GE272 := Aside0.mk ((by rw [hg]; exact (below_size (z.bl HB)) : w.heap.size ≤ gb272)); replace HB := Aside0.mk (below_step (z.bl HB) hb); have NB258_272 := z.ht BK258 hg; have NB272_258 := z.hu BK258 hg; replace BK258 := z.bb BK258 hb; have NB267_272 := z.ht BK267 hg; have NB272_267 := z.hu BK267 hg; replace BK267 := z.bb BK267 hb; clear hb hbox hg; have hnb44 := NB272_258.out; have hnc44 := NB258_272.out; have hnb45 := NB272_267.out; have hnc45 := NB267_272.out; have hcz46_0 : w43.cell? ⟨gb272, 0, none⟩ = some (.int .i64 0) := (blk_cell BK272.out 0).trans rfl; have hcz46_1 : w43.cell? ⟨gb272, 1, none⟩ = some (.int .i64 0) := (blk_cell BK272.out 1).trans rfl; have hcz46_2 : w43.cell? ⟨gb272, 2, none⟩ = some (.int .i64 0) := (blk_cell BK272.out 2).trans rfl; have hcz46_3 : w43.cell? ⟨gb272, 3, none⟩ = some (.int .i64 0) := (blk_cell BK272.out 3).trans rfl; have hfz46_0 := blk_frozen BK272.out 0; have hfz46_1 := blk_frozen BK272.out 1; have hfz46_2 := blk_frozen BK272.out 2; have hfz46_3 := blk_frozen BK272.out 3))
               go_roundg k3
               case measure => have := HJ5.out; have := HK2.out; have := HK3.out; omega
               case rel => exact ⟨(x15_3), (wrap64 (x54_3 + 1)), (by first | rfl | (simp; done) | (simp [*]; done)), H', ⟨by have := HJ5.out; have := HK2.out; have := HK3.out; omega⟩, ⟨z.rl (Kd.R_mono (Kd.R_far (p := ⟨gb272, 3, none⟩) (Kd.R_far (p := ⟨gb272, 2, none⟩) (Kd.R_far (p := ⟨gb272, 1, none⟩) (Kd.R_far (p := ⟨gb272, 0, none⟩) (Kd.R_mono HO_10.out (fun k_ hk => (⟨hk, hk.2⟩ : _ ∧ k_ ≠ gb272))) (fun _ hk => hk.2) (.int .i64 ((rd_T175 t259 x54_3).f0))) (fun _ hk => hk.2) (.int .i64 ((rd_T175 t259 x54_3).f1))) (fun _ hk => hk.2) (.int .i64 ((rd_T175 t259 x54_3).f2))) (fun _ hk => hk.2) (.int .i64 ((rd_T175 t259 x54_3).f3))) (fun _ hk => hk.1.1))⟩, ⟨z.rl (Kd.R_mono (Kd.R_far (p := ⟨gb272, 3, none⟩) (Kd.R_far (p := ⟨gb272, 2, none⟩) (Kd.R_far (p := ⟨gb272, 1, none⟩) (Kd.R_far (p := ⟨gb272, 0, none⟩) (Kd.R_mono HO_15.out (fun k_ hk => (⟨hk, hk.2⟩ : _ ∧ k_ ≠ gb272))) (fun _ hk => hk.2) (.int .i64 ((rd_T175 t259 x54_3).f0))) (fun _ hk => hk.2) (.int .i64 ((rd_T175 t259 x54_3).f1))) (fun _ hk => hk.2) (.int .i64 ((rd_T175 t259 x54_3).f2))) (fun _ hk => hk.2) (.int .i64 ((rd_T175 t259 x54_3).f3))) (fun _ hk => ⟨hk.1.1.1, hk.1.1.2⟩))⟩, ⟨z.rl (Kd.R_mono (Kd.R_far (p := ⟨gb272, 3, none⟩) (Kd.R_far (p := ⟨gb272, 2, none⟩) (Kd.R_far (p := ⟨gb272, 1, none⟩) (Kd.R_far (p := ⟨gb272, 0, none⟩) (Kd.R_mono HO_52.out (fun k_ hk => (⟨hk, hk.2⟩ : _ ∧ k_ ≠ gb272))) (fun _ hk => hk.2) (.int .i64 ((rd_T175 t259 x54_3).f0))) (fun _ hk => hk.2) (.int .i64 ((rd_T175 t259 x54_3).f1))) (fun _ hk => hk.2) (.int .i64 ((rd_T175 t259 x54_3).f2))) (fun _ hk => hk.2) (.int .i64 ((rd_T175 t259 x54_3).f3))) (fun _ hk => hk.1.1))⟩, ⟨z.rl (Kd.R_mono (Kd.R_far (p := ⟨gb272, 3, none⟩) (Kd.R_far (p := ⟨gb272, 2, none⟩) (Kd.R_far (p := ⟨gb272, 1, none⟩) (Kd.R_far (p := ⟨gb272, 0, none⟩) (Kd.R_types HO_268002.out BK272.out (by decide)) (fun _ hk => hk.2) (.int .i64 ((rd_T175 t259 x54_3).f0))) (fun _ hk => hk.2) (.int .i64 ((rd_T175 t259 x54_3).f1))) (fun _ hk => hk.2) (.int .i64 ((rd_T175 t259 x54_3).f2))) (fun _ hk => hk.2) (.int .i64 ((rd_T175 t259 x54_3).f3))) (fun _ hk => trivial))⟩, ⟨z.bf BK258⟩, ⟨z.bf BK267⟩, ⟨z.bl HB⟩⟩
             ·rw [if_neg c28] at H
              exact absurd H (by simp)
            ·rw [if_neg c27] at H
             exact absurd H (by simp)
           ·rw [if_neg c26] at H
            have c26b0 : decide (x54_3 < (t259.length : Int)) = false := decide_eq_false c26
            clear c26
            have H' := Aside0.mk H
            clear H
            go_wp2
            go_loopg [81] k3 (fun kq v81 w' => ∃ (x81_4 : Int) (x268002_4 : List Int) (u268002 : Value), v81 = .int .i64 x81_4 ∧ Aside0 (impl_CoverOf.l2 kq a1 a3 t259 x45_2 (wrap64 ((wrap64 (4 * x45_2)) + 2)) x15_3 (wrap64 (4 * a2)) x45_2 (wrap64 (4 * a1)) x81_4 a1 a2 x268002_4 = some (r1, r2, r3, r4)) ∧ Aside0 (kq ≤ k3) ∧ Aside0 (Kd.R k175 175 w' w.heap.size (fun k_ => some k_ ≠ (u15 : Value).ownBlock) (.slice Ao25 t259.length co25) t259) ∧ Aside0 (Kd.R k175 175 w' w.heap.size (fun k_ => some k_ ≠ ((.slice Ao25 t259.length co25) : Value).ownBlock) u15 x15_3) ∧ Aside0 (Kd.R (Kd.int .i64) 3 w' w.heap.size (fun _ => True) u268002 x268002_4) ∧ Aside0 (w'.heap[gb258]? = some (.cells #[.int .i64 0, .int .i64 0, (.slice none 0 0)] 67 (0, 0))) ∧ Aside0 (w'.heap[gb267]? = some (.cells #[.int .i64 a1, .int .i64 a2, u268002] 67 (0, 0))) ∧ Aside0 (Below w.heap.size w w'))
            case atStart => exact ⟨(0), (x268002_2), (u268002), (by first | rfl | (simp; done) | (simp [*]; done)), H', ⟨Nat.le_refl _⟩, ⟨z.rl HO_10.out⟩, ⟨z.rl (Kd.R_mono HO_15.out (fun _ hk => hk.1))⟩, ⟨z.rl HO_268002.out⟩, ⟨z.bk BK258⟩, ⟨z.bk BK267⟩, ⟨z.bl HB⟩⟩
            case round =>
             clear H'
             try clear c1
             try clear c2
             try clear p2
             try clear q2
             try clear hx2
             try clear c3
             try clear c4
             try clear p6
             try clear c9
             try clear c11
             try clear c12
             try clear c14
             try clear c14b0
             try clear c14b1
             try clear c15
             try clear c15b0
             try clear c15b1
             try clear c20
             try clear c22
             try clear c22b0
             try clear c26
             try clear c26b0
             try clear c27
             try clear c27b0
             try clear p27
             try clear q27
             try clear hx27
             try clear c28
             try clear c28b0
             try clear c30
             try clear c30b0
             try clear c32
             try clear c32b0
             try clear c33
             try clear c35
             try clear c36
             try clear c40
             try clear c41
             try clear c44
             try clear c45
             try clear hcz12_0
             try clear hcz12_1
             try clear hcz12_2
             try clear hcz21_0
             try clear hcz21_1
             try clear hcz21_2
             try clear hcz37_0
             try clear hcz37_1
             try clear hcz37_2
             try clear hcz37_3
             try clear hcz42_0
             try clear hcz42_1
             try clear hcz42_2
             try clear hcz42_3
             try clear hcz46_0
             try clear hcz46_1
             try clear hcz46_2
             try clear hcz46_3
             try clear hfz12_0
             try clear hfz12_1
             try clear hfz12_2
             try clear hfz21_0
             try clear hfz21_1
             try clear hfz21_2
             try clear hfz37_0
             try clear hfz37_1
             try clear hfz37_2
             try clear hfz37_3
             try clear hfz42_0
             try clear hfz42_1
             try clear hfz42_2
             try clear hfz42_3
             try clear hfz46_0
             try clear hfz46_1
             try clear hfz46_2
             try clear hfz46_3
             try clear hx271_0
             try clear hx271_1
             try clear hx271_2
             try clear hx271_3
             try clear p2
             try clear p271
             try clear p6
             try clear q271
             obtain ⟨x81_4, x268002_4, u268002, rfl, HA, HK4, HO_10, HO_15, HO_268002, BK258, BK267, HB⟩ := hrel
             cases gk with
             | zero => exact absurd HA.out (by simp [impl_CoverOf.l2])
             | succ k4 =>
              have H := HA.out
              clear HA
              simp only [impl_CoverOf.l2] at H
              by_cases c47 : x81_4 < (wrap64 (4 * a1))
              ·rw [if_pos c47] at H
               have c47b0 : decide (x81_4 < (wrap64 (4 * a1))) = true := decide_eq_true c47
               clear c47
               have H' := Aside0.mk H
               clear H
               obtain ⟨Ao48, co48, eo48⟩ := Kd.R_slice HO_15.out
               subst eo48
               go_wp2
               go_loopg [19, 86] k4 (fun kq v19 v86 w' => ∃ (x19_5 : Int) (x86_5 : Int), v19 = .int .i64 x19_5 ∧ v86 = .int .i64 x86_5 ∧ Aside0 (impl_CoverOf.l3 kq a1 a3 t259 x45_2 (wrap64 ((wrap64 (4 * x45_2)) + 2)) x15_3 x81_4 x19_5 (wrap64 (4 * a2)) x45_2 (wrap64 (4 * a1)) x81_4 x15_3 (x15_3.length : Int) x86_5 a1 a2 x268002_4 = some (r1, r2, r3, r4)) ∧ Aside0 (kq ≤ k4) ∧ Aside0 (Kd.R k175 175 w' w.heap.size (fun k_ => some k_ ≠ ((.slice Ao48 x15_3.length co48) : Value).ownBlock ∧ some k_ ≠ ((.slice Ao48 x15_3.length co48) : Value).ownBlock) (.slice Ao25 t259.length co25) t259) ∧ Aside0 (Kd.R k175 175 w' w.heap.size (fun k_ => some k_ ≠ ((.slice Ao25 t259.length co25) : Value).ownBlock) (.slice Ao48 x15_3.length co48) x15_3) ∧ Aside0 (Kd.R k175 175 w' w.heap.size (fun k_ => some k_ ≠ ((.slice Ao25 t259.length co25) : Value).ownBlock) (.slice Ao48 x15_3.length co48) x15_3) ∧ Aside0 (Kd.R (Kd.int .i64) 3 w' w.heap.size (fun _ => True) u268002 x268002_4) ∧ Aside0 (w'.heap[gb258]? = some (.cells #[.int .i64 0, .int .i64 0, (.slice none 0 0)] 67 (0, 0))) ∧ Aside0 (w'.heap[gb267]? = some (.cells #[.int .i64 a1, .int .i64 a2, u268002] 67 (0, 0))) ∧ Aside0 (Below w.heap.size w w'))
               case atStart => exact ⟨(0), (0), (by first | rfl | (simp; done) | (simp [*]; done)), (by first | rfl | (simp; done) | (simp [*]; done)), H', ⟨Nat.le_refl _⟩, ⟨z.rl (Kd.R_mono HO_10.out (fun _ hk => ⟨hk, hk⟩))⟩, ⟨z.rl HO_15.out⟩, ⟨z.rl HO_15.out⟩, ⟨z.rl HO_268002.out⟩, ⟨z.bk BK258⟩, ⟨z.bk BK267⟩, ⟨z.bl HB⟩⟩
               case round =>
                clear H'
                try clear c1
                try clear c2
                try clear p2
                try clear q2
                try clear hx2
                try clear c3
                try clear c4
                try clear p6
                try clear c9
                try clear c11
                try clear c12
                try clear c14
                try clear c14b0
                try clear c14b1
                try clear c15
                try clear c15b0
                try clear c15b1
                try clear c20
                try clear c22
                try clear c22b0
                try clear c26
                try clear c26b0
                try clear c27
                try clear c27b0
                try clear p27
                try clear q27
                try clear hx27
                try clear c28
                try clear c28b0
                try clear c30
                try clear c30b0
                try clear c32
                try clear c32b0
                try clear c33
                try clear c35
                try clear c36
                try clear c40
                try clear c41
                try clear c44
                try clear c45
                try clear c47
                try clear c47b0
                try clear hcz12_0
                try clear hcz12_1
                try clear hcz12_2
                try clear hcz21_0
                try clear hcz21_1
                try clear hcz21_2
                try clear hcz37_0
                try clear hcz37_1
                try clear hcz37_2
                try clear hcz37_3
                try clear hcz42_0
                try clear hcz42_1
                try clear hcz42_2
                try clear hcz42_3
                try clear hcz46_0
                try clear hcz46_1
                try clear hcz46_2
                try clear hcz46_3
                try clear hfz12_0
                try clear hfz12_1
                try clear hfz12_2
                try clear hfz21_0
                try clear hfz21_1
                try clear hfz21_2
                try clear hfz37_0
                try clear hfz37_1
                try clear hfz37_2
                try clear hfz37_3
                try clear hfz42_0
                try clear hfz42_1
                try clear hfz42_2
                try clear hfz42_3
                try clear hfz46_0
                try clear hfz46_1
                try clear hfz46_2
                try clear hfz46_3
                try clear hx271_0
                try clear hx271_1
                try clear hx271_2
                try clear hx271_3
                try clear p2
                try clear p27
                try clear p271
                try clear p6
                try clear q2
                try clear q27
                try clear q271
                obtain ⟨x19_5, x86_5, rfl, rfl, HA, HK5, HO_10, HO_15, HO_84, HO_268002, BK258, BK267, HB⟩ := hrel
                cases gk with
                | zero => exact absurd HA.out (by simp [impl_CoverOf.l3])
                | succ k5 =>
                 have H := HA.out
                 clear HA
                 simp only [impl_CoverOf.l3] at H
                 by_cases c49 : x86_5 < (x15_3.length : Int)
                 ·rw [if_pos c49] at H
                  have c49b0 : decide (x86_5 < (x15_3.length : Int)) = true := decide_eq_true c49
                  clear c49
                  by_cases c50 : 0 ≤ x86_5
                  ·rw [if_pos c50] at H
                   have c50b0 : decide (0 ≤ x86_5) = true := decide_eq_true c50
                   clear c50
                   by_cases c51 : x86_5 < (x15_3.length : Int)
                   ·rw [if_pos c51] at H
                    have c51b0 : decide (x86_5 < (x15_3.length : Int)) = true := decide_eq_true c51
                    clear c51
                    replace H := Option.bind_eq_some_iff.mp H
                    obtain ⟨t278, A520, H⟩ := H
                    replace H : (impl_CoverOf.l3 k5 a1 a3 t259 x45_2 (wrap64 ((wrap64 (4 * x45_2)) + 2)) x15_3 x81_4 (wrap64 (x19_5 + t278)) (wrap64 (4 * a2)) x45_2 (wrap64 (4 * a1)) x81_4 x15_3 (x15_3.length : Int) (wrap64 (x86_5 + 1)) a1 a2 x268002_4) = some (r1, r2, r3, r4) := H
                    have A52 := Aside0.mk A520
                    clear A520
                    have H' := Aside0.mk H
                    clear H
                    have p276 : 0 ≤ (x86_5 : Int) := of_decide_eq_true (by first | (with_reducible assumption) | assumption)
                    have q276 : x86_5 < (x15_3.length : Int) := of_decide_eq_true (by first | (with_reducible assumption) | assumption)
                    obtain ⟨ad276, e276, hx276_0, hx276_1, hx276_2, hx276_3⟩ := at_T175 (Kd.R_reads' HO_84.out).2.2 x86_5 p276 q276
                    cases e276
                    replace p276 := eq_true p276
                    replace q276 := eq_true q276
                    go_wp2_with (first | ((with_reducible refine gate_dst (N := 21) rfl ?_); (try (refine gate_guard (by rfl) ?_; dsimp only)); refine box_event ?hg (N := 21) ?hd (cs := #[.int .i64 0, .int .i64 0, .int .i64 0, .int .i64 0]) (t := 175) ?hr ?_; (case hd => rfl); (case hg => rfl); (case hr => first | (go_simp; done) | (go_simp; rfl)); intro gb277 hg w53 hbox hb; replace HO_10 := Aside0.mk (Kd.R_below (Kd.R_elderB (z.rl HO_10.out) gb277 (Nat.le_of_eq hg.symm)) hb); replace HO_15 := Aside0.mk (Kd.R_below (Kd.R_elderB (z.rl HO_15.out) gb277 (Nat.le_of_eq hg.symm)) hb); replace HO_84 := Aside0.mk (Kd.R_below (Kd.R_elderB (z.rl HO_84.out) gb277 (Nat.le_of_eq hg.symm)) hb); replace HO_268002 := z.rb HO_268002 hb; have BK277 := Aside0.mk (hbox); have GW277 := Aside0.mk ((by rw [hg]; exact (below_size (z.bl HB)) : w.heap.size ≤ gb277)); have GE277 := Aside0.mk ((by rw [hg]; exact (below_size (z.bl HB)) : w.heap.size ≤ gb277)); replace HB := Aside0.mk (below_step (z.bl HB) hb); have NB258_277 := z.ht BK258 hg; have NB277_258 := z.hu BK258 hg; replace BK258 := z.bb BK258 hb; have NB267_277 := z.ht BK267 hg; have NB277_267 := z.hu BK267 hg; replace BK267 := z.bb BK267 hb; clear hb hbox hg; have hnb54 := NB277_258.out; have hnc54 := NB258_277.out; have hnb55 := NB277_267.out; have hnc55 := NB267_277.out; have hcz56_0 : w53.cell? ⟨gb277, 0, none⟩ = some (.int .i64 0) := (blk_cell BK277.out 0).trans rfl; have hcz56_1 : w53.cell? ⟨gb277, 1, none⟩ = some (.int .i64 0) := (blk_cell BK277.out 1).trans rfl; have hcz56_2 : w53.cell? ⟨gb277, 2, none⟩ = some (.int .i64 0) := (blk_cell BK277.out 2).trans rfl; have hcz56_3 : w53.cell? ⟨gb277, 3, none⟩ = some (.int .i64 0) := (blk_cell BK277.out 3).trans rfl; have hfz56_0 := blk_frozen BK277.out 0; have hfz56_1 := blk_frozen BK277.out 1; have hfz56_2 := blk_frozen BK277.out 2; have hfz56_3 := blk_frozen BK277.out 3) | ((with_reducible refine gate_callee (f := 130) rfl ?_); refine z.gl (some 96) rfl rfl Try.func130 (by kernel_rfl) rfl #[.agg #[.int .i64 ((rd_T175 x15_3 x86_5).f0), .int .i64 ((rd_T175 x15_3 x86_5).f1), .int .i64 ((rd_T175 x15_3 x86_5).f2), .int .i64 ((rd_T175 x15_3 x86_5).f3)], .int .i64 (wrap64 ((wrap64 (4 * x81_4)) + 2)), .int .i64 (wrap64 ((wrap64 (4 * x45_2)) + 2))] rfl ?_; (with_reducible refine (impl_edge_winds.calls k5 ((rd_T175 x15_3 x86_5).f0) ((rd_T175 x15_3 x86_5).f1) ((rd_T175 x15_3 x86_5).f2) ((rd_T175 x15_3 x86_5).f3) (wrap64 ((wrap64 (4 * x81_4)) + 2)) (wrap64 ((wrap64 (4 * x45_2)) + 2)) t278 _ A52.out).mono ?_); rintro e w57 ⟨rfl, hb⟩; refine ⟨_, rfl, ?_⟩; replace HO_10 := Aside0.mk (Kd.R_below (z.rl ((Kd.R_mono (Kd.R_far (p := ⟨gb277, 3, none⟩) (Kd.R_far (p := ⟨gb277, 2, none⟩) (Kd.R_far (p := ⟨gb277, 1, none⟩) (Kd.R_far (p := ⟨gb277, 0, none⟩) (Kd.R_mono HO_10.out (fun k_ hk => (⟨hk, hk.2⟩ : _ ∧ k_ ≠ gb277))) (fun _ hk => hk.2) (.int .i64 ((rd_T175 x15_3 x86_5).f0))) (fun _ hk => hk.2) (.int .i64 ((rd_T175 x15_3 x86_5).f1))) (fun _ hk => hk.2) (.int .i64 ((rd_T175 x15_3 x86_5).f2))) (fun _ hk => hk.2) (.int .i64 ((rd_T175 x15_3 x86_5).f3))) (fun _ h_ => h_.1)))) hb); replace HO_15 := Aside0.mk (Kd.R_below (z.rl ((Kd.R_mono (Kd.R_far (p := ⟨gb277, 3, none⟩) (Kd.R_far (p := ⟨gb277, 2, none⟩) (Kd.R_far (p := ⟨gb277, 1, none⟩) (Kd.R_far (p := ⟨gb277, 0, none⟩) (Kd.R_mono HO_15.out (fun k_ hk => (⟨hk, hk.2⟩ : _ ∧ k_ ≠ gb277))) (fun _ hk => hk.2) (.int .i64 ((rd_T175 x15_3 x86_5).f0))) (fun _ hk => hk.2) (.int .i64 ((rd_T175 x15_3 x86_5).f1))) (fun _ hk => hk.2) (.int .i64 ((rd_T175 x15_3 x86_5).f2))) (fun _ hk => hk.2) (.int .i64 ((rd_T175 x15_3 x86_5).f3))) (fun _ h_ => h_.1)))) hb); replace HO_84 := Aside0.mk (Kd.R_below (z.rl ((Kd.R_mono (Kd.R_far (p := ⟨gb277, 3, none⟩) (Kd.R_far (p := ⟨gb277, 2, none⟩) (Kd.R_far (p := ⟨gb277, 1, none⟩) (Kd.R_far (p := ⟨gb277, 0, none⟩) (Kd.R_mono HO_84.out (fun k_ hk => (⟨hk, hk.2⟩ : _ ∧ k_ ≠ gb277))) (fun _ hk => hk.2) (.int .i64 ((rd_T175 x15_3 x86_5).f0))) (fun _ hk => hk.2) (.int .i64 ((rd_T175 x15_3 x86_5).f1))) (fun _ hk => hk.2) (.int .i64 ((rd_T175 x15_3 x86_5).f2))) (fun _ hk => hk.2) (.int .i64 ((rd_T175 x15_3 x86_5).f3))) (fun _ h_ => h_.1)))) hb); replace HO_268002 := Aside0.mk (Kd.R_below (z.rl ((Kd.R_mono (Kd.R_far (p := ⟨gb277, 3, none⟩) (Kd.R_far (p := ⟨gb277, 2, none⟩) (Kd.R_far (p := ⟨gb277, 1, none⟩) (Kd.R_far (p := ⟨gb277, 0, none⟩) (Kd.R_types HO_268002.out BK277.out (by decide)) (fun _ hk => hk.2) (.int .i64 ((rd_T175 x15_3 x86_5).f0))) (fun _ hk => hk.2) (.int .i64 ((rd_T175 x15_3 x86_5).f1))) (fun _ hk => hk.2) (.int .i64 ((rd_T175 x15_3 x86_5).f2))) (fun _ hk => hk.2) (.int .i64 ((rd_T175 x15_3 x86_5).f3))) (fun _ h_ => h_.1)))) hb); replace BK258 := Aside0.mk (blk_below (g := gb258) (o := .cells #[.int .i64 0, .int .i64 0, .slice none 0 0] 67 (0, 0)) (z.bf BK258) hb); replace BK267 := Aside0.mk (blk_below (g := gb267) (o := .cells #[.int .i64 a1, .int .i64 a2, u268002] 67 (0, 0)) (z.bf BK267) hb); replace BK277 := Aside0.mk (blk_below (g := gb277) (o := .cells #[.int .i64 ((rd_T175 x15_3 x86_5).f0), .int .i64 ((rd_T175 x15_3 x86_5).f1), .int .i64 ((rd_T175 x15_3 x86_5).f2), .int .i64 ((rd_T175 x15_3 x86_5).f3)] 175 (0, 0)) (by (with_reducible repeat (first | refine blk_drewN ?_ _ | refine blk_drew ?_ | refine blk_alloc ?_ _)); refine blk_put (cs := #[.int .i64 ((rd_T175 x15_3 x86_5).f0), .int .i64 ((rd_T175 x15_3 x86_5).f1), .int .i64 ((rd_T175 x15_3 x86_5).f2), .int .i64 0]) ?_ 3 _ rfl; (with_reducible repeat (first | refine blk_drewN ?_ _ | refine blk_drew ?_ | refine blk_alloc ?_ _)); refine blk_put (cs := #[.int .i64 ((rd_T175 x15_3 x86_5).f0), .int .i64 ((rd_T175 x15_3 x86_5).f1), .int .i64 0, .int .i64 0]) ?_ 2 _ rfl; (with_reducible repeat (first | refine blk_drewN ?_ _ | refine blk_drew ?_ | refine blk_alloc ?_ _)); refine blk_put (cs := #[.int .i64 ((rd_T175 x15_3 x86_5).f0), .int .i64 0, .int .i64 0, .int .i64 0]) ?_ 1 _ rfl; (with_reducible repeat (first | refine blk_drewN ?_ _ | refine blk_drew ?_ | refine blk_alloc ?_ _)); refine blk_put (cs := #[.int .i64 0, .int .i64 0, .int .i64 0, .int .i64 0]) ?_ 0 _ rfl; (with_reducible repeat (first | refine blk_drewN ?_ _ | refine blk_drew ?_ | refine blk_alloc ?_ _)); exact BK277.out) hb); replace HB := Aside0.mk (below_step (z.bl HB) hb); (try clear hb); (try clear hb2); (try clear hk); (try clear hi)))
                    go_roundg k5
                    case measure => have := HJ5.out; have := HK2.out; have := HK3.out; have := HK4.out; have := HK5.out; omega
                    case rel => exact ⟨(wrap64 (x19_5 + t278)), (wrap64 (x86_5 + 1)), (by first | rfl | (simp; done) | (simp [*]; done)), (by first | rfl | (simp; done) | (simp [*]; done)), H', ⟨by have := HJ5.out; have := HK2.out; have := HK3.out; have := HK4.out; have := HK5.out; omega⟩, ⟨z.rl (Kd.R_mono HO_10.out (fun _ hk => ⟨hk.1.1, hk.1.2⟩))⟩, ⟨z.rl (Kd.R_mono HO_15.out (fun _ hk => hk.1))⟩, ⟨z.rl (Kd.R_mono HO_84.out (fun _ hk => hk.1))⟩, ⟨z.rl HO_268002.out⟩, ⟨z.bk BK258⟩, ⟨z.bk BK267⟩, ⟨z.bl HB⟩⟩
                   ·rw [if_neg c51] at H
                    exact absurd H (by simp)
                  ·rw [if_neg c50] at H
                   exact absurd H (by simp)
                 ·rw [if_neg c49] at H
                  have c49b0 : decide (x86_5 < (x15_3.length : Int)) = false := decide_eq_false c49
                  clear c49
                  by_cases c58 : x19_5 = 0
                  ·rw [if_pos c58] at H
                   have c58b0 : (x19_5 == 0) = true := beq_iff_eq.mpr c58
                   have c58b1 : (x19_5 != 0) = false := bne_eq_false_iff_eq.mpr c58
                   clear c58
                   by_cases c59 : (Int.tmod x19_5 2) = 0
                   ·rw [if_pos c59] at H
                    have c59b0 : ((Int.tmod x19_5 2) == 0) = true := beq_iff_eq.mpr c59
                    have c59b1 : ((Int.tmod x19_5 2) != 0) = false := bne_eq_false_iff_eq.mpr c59
                    clear c59
                    have H' := Aside0.mk H
                    clear H
                    go_wp2
                    go_roundg k5
                    case measure => have := HJ5.out; have := HK2.out; have := HK3.out; have := HK4.out; have := HK5.out; omega
                    case rel => exact ⟨(wrap64 (x81_4 + 1)), (x268002_4), (u268002), (by first | rfl | (simp; done) | (simp [*]; done)), H', ⟨by have := HJ5.out; have := HK2.out; have := HK3.out; have := HK4.out; have := HK5.out; omega⟩, ⟨z.rl (Kd.R_mono HO_10.out (fun _ hk => hk.1))⟩, ⟨z.rl HO_15.out⟩, ⟨z.rl HO_268002.out⟩, ⟨z.bk BK258⟩, ⟨z.bk BK267⟩, ⟨z.bl HB⟩⟩
                   ·rw [if_neg c59] at H
                    have c59b0 : ((Int.tmod x19_5 2) == 0) = false := beq_eq_false_iff_ne.mpr c59
                    have c59b1 : ((Int.tmod x19_5 2) != 0) = true := bne_iff_ne.mpr c59
                    obtain ⟨ji60, hji60⟩ : ∃ j_ : Int, (wrap64 ((wrap64 ((wrap64 (Int.tdiv x45_2 4)) * a1)) + (wrap64 (Int.tdiv x81_4 4)))) = j_ := ⟨_, rfl⟩
                    replace H : (if 0 ≤ (ji60) then (if (ji60) < (x268002_4.length : Int) then (impl_CoverOf.l2 k5 a1 a3 t259 x45_2 (wrap64 ((wrap64 (4 * x45_2)) + 2)) x15_3 (wrap64 (4 * a2)) x45_2 (wrap64 (4 * a1)) (wrap64 (x81_4 + 1)) a1 a2 (x268002_4.set ((ji60) : Int).toNat (wrap64 ((rd x268002_4 (ji60)) + 1)))) else (none)) else (none)) = some (r1, r2, r3, r4) := by first | (rw [hji60] at H; exact H) | (simp only [hji60] at H ⊢; exact H)
                    have hji60w : (IntKind.i64.wrap ((wrap64 ((wrap64 (Int.tdiv x45_2 4)) * a1)) + (wrap64 (Int.tdiv x81_4 4)))) = ji60 := (i64_w _).trans hji60
                    by_cases c61 : 0 ≤ (ji60)
                    ·rw [if_pos c61] at H
                     have c61b0 : decide (0 ≤ (ji60)) = true := decide_eq_true c61
                     clear c61
                     by_cases c62 : (ji60) < (x268002_4.length : Int)
                     ·rw [if_pos c62] at H
                      have c62b0 : decide ((ji60) < (x268002_4.length : Int)) = true := decide_eq_true c62
                      clear c62
                      obtain ⟨y280, hy280⟩ : ∃ y_ : List Int, y_ = (x268002_4.set ((ji60) : Int).toNat (wrap64 ((rd x268002_4 (ji60)) + 1))) := ⟨_, rfl⟩
                      replace H : (impl_CoverOf.l2 k5 a1 a3 t259 x45_2 (wrap64 ((wrap64 (4 * x45_2)) + 2)) x15_3 (wrap64 (4 * a2)) x45_2 (wrap64 (4 * a1)) (wrap64 (x81_4 + 1)) a1 a2 y280) = some (r1, r2, r3, r4) := by first | (rw [hy280]; with_reducible exact H) | (have H2_ := (Option.bind_some _ _).symm.trans H; rw [hy280]; with_reducible exact H2_) | (have H2_ := (Option.bind_some _ _).symm.trans H; with_reducible exact H2_) | with_reducible exact H | (rw [hy280]; exact H) | exact H
                      have Ny280 := Aside0.mk hy280
                      clear hy280
                      have H' := Aside0.mk H
                      clear H
                      have hnb64 := NB267_258.out
                      have hnc64 := NB258_267.out
                      have hcz65_0 : wr.cell? ⟨gb267, 0, none⟩ = some (.int .i64 a1) := (blk_cell BK267.out 0).trans rfl
                      have hcz65_1 : wr.cell? ⟨gb267, 1, none⟩ = some (.int .i64 a2) := (blk_cell BK267.out 1).trans rfl
                      have hcz65_2 : wr.cell? ⟨gb267, 2, none⟩ = some (u268002) := (blk_cell BK267.out 2).trans rfl
                      have hfz65_0 := blk_frozen BK267.out 0
                      have hfz65_1 := blk_frozen BK267.out 1
                      have hfz65_2 := blk_frozen BK267.out 2
                      obtain ⟨Ao66, co66, eo66⟩ := Kd.R_slice HO_268002.out
                      subst eo66
                      have p279 : 0 ≤ ((ji60) : Int) := of_decide_eq_true (by first | (with_reducible assumption) | assumption)
                      have q279 : (ji60) < (x268002_4.length : Int) := of_decide_eq_true (by first | (with_reducible assumption) | assumption)
                      obtain ⟨ad279, e279, hx279_0⟩ := Kd.at_int (Kd.R_reads' HO_268002.out).2.2 (ji60) p279 q279
                      cases e279
                      replace p279 := eq_true p279
                      replace q279 := eq_true q279
                      have p63 : 0 ≤ ((ji60) : Int) := of_decide_eq_true (by first | (with_reducible assumption) | assumption)
                      have q63 : ((ji60) : Int) < ((x268002_4.length : Int) : Int) := of_decide_eq_true (by first | (with_reducible assumption) | assumption)
                      obtain ⟨go63, co63, eo63, gb63, gl63, cl63, HG63⟩ := Kd.R_form HO_268002.out (by omega)
                      (first | cases eo63 | (injection eo63 with ea_ en_ ec_; (first | subst ea_ | (injection ea_ with ea_; subst ea_)); subst ec_; clear en_))
                      have GB63 := Aside0.mk gb63
                      have GG63 := Aside0.mk HG63
                      clear gb63 gl63 HG63
                      (first | simp only [add_plain] at hx279_0 | skip)
                      obtain ⟨hx63_0, hf63_0⟩ := Kd.R_celln 0 HO_268002.out ((ji60) : Int) p63 q63
                      replace p63 := eq_true p63
                      replace q63 := eq_true q63
                      have HP67 := Kd.R_putg HO_268002.out ((ji60) : Int) (wrap64 ((rd x268002_4 (ji60)) + 1))
                      go_wp2_with (first | ((with_reducible refine gate_store (t := 3) (p := 122) rfl ?_); refine store_event (t := 3) (p := 122) (v := ?vo_w68) (w1 := (wr.setCell ⟨go63, ((ji60) : Int).toNat, none⟩ (.int .i64 (wrap64 ((rd x268002_4 (ji60)) + 1))))) ?hg ?ho ?hn ?hr ?_; (case ho => rfl); (case hg => rfl); (case hn => rfl); (case hr => first | (go_simp; done) | (go_simp; rfl)); intro w68 hw; have hg : wr.grownBy w68 (some go63) := (by rw [hw]; exact HP67.2); have hp_ : Kd.R (Kd.int .i64) 3 w68 w.heap.size (fun _ => True) (.slice (some ⟨go63, 0, none⟩) x268002_4.length co66) y280 := (by rw [hw, Ny280.out]; exact HP67.1); clear HP67; replace HO_10 := Aside0.mk (Kd.R_over' (v := (.slice (some ⟨go63, 0, none⟩) x268002_4.length co66)) (z.rl HO_10.out) (Kd.R_typed HO_268002.out) (by decide) hg); replace HO_15 := Aside0.mk (Kd.R_over' (v := (.slice (some ⟨go63, 0, none⟩) x268002_4.length co66)) (z.rl HO_15.out) (Kd.R_typed HO_268002.out) (by decide) hg); replace HO_84 := Aside0.mk (Kd.R_over' (v := (.slice (some ⟨go63, 0, none⟩) x268002_4.length co66)) (z.rl HO_84.out) (Kd.R_typed HO_268002.out) (by decide) hg); replace BK258 := Aside0.mk (blk_grown (g := gb258) (z.bk BK258) hg (Kd.R_ne HO_268002.out BK258.out (by decide))); replace BK267 := Aside0.mk (blk_grown (g := gb267) (z.bk BK267) hg (Kd.R_ne HO_268002.out BK267.out (by decide))); replace HO_268002 := Aside0.mk (hp_); replace HB := Aside0.mk ((by rw [hw]; exact below_set (HB.out) GB63.out : Below w.heap.size w w68)); clear hg hw hp_))
                      go_roundg k5
                      case measure => have := HJ5.out; have := HK2.out; have := HK3.out; have := HK4.out; have := HK5.out; omega
                      case rel => exact ⟨(wrap64 (x81_4 + 1)), (y280), (.slice (some ⟨go63, 0, none⟩) x268002_4.length co66), (by first | rfl | (simp; done) | (simp [*]; done)), H', ⟨by have := HJ5.out; have := HK2.out; have := HK3.out; have := HK4.out; have := HK5.out; omega⟩, ⟨z.rl (Kd.R_mono HO_10.out (fun _ hk => hk.1))⟩, ⟨z.rl HO_15.out⟩, ⟨z.rl HO_268002.out⟩, ⟨z.bk BK258⟩, ⟨z.bk BK267⟩, ⟨z.bl HB⟩⟩
                     ·rw [if_neg c62] at H
                      exact absurd H (by simp)
                    ·rw [if_neg c61] at H
                     exact absurd H (by simp)
                  ·rw [if_neg c58] at H
                   have c58b0 : (x19_5 == 0) = false := beq_eq_false_iff_ne.mpr c58
                   have c58b1 : (x19_5 != 0) = true := bne_iff_ne.mpr c58
                   by_cases c69 : a3 = true
                   ·subst c69
                    have H1 : (if (Int.tmod x19_5 2) = 0 then (impl_CoverOf.l2 k5 a1 true t259 x45_2 (wrap64 ((wrap64 (4 * x45_2)) + 2)) x15_3 (wrap64 (4 * a2)) x45_2 (wrap64 (4 * a1)) (wrap64 (x81_4 + 1)) a1 a2 x268002_4) else (if 0 ≤ (wrap64 ((wrap64 ((wrap64 (Int.tdiv x45_2 4)) * a1)) + (wrap64 (Int.tdiv x81_4 4)))) then (if (wrap64 ((wrap64 ((wrap64 (Int.tdiv x45_2 4)) * a1)) + (wrap64 (Int.tdiv x81_4 4)))) < (x268002_4.length : Int) then (impl_CoverOf.l2 k5 a1 true t259 x45_2 (wrap64 ((wrap64 (4 * x45_2)) + 2)) x15_3 (wrap64 (4 * a2)) x45_2 (wrap64 (4 * a1)) (wrap64 (x81_4 + 1)) a1 a2 (x268002_4.set ((wrap64 ((wrap64 ((wrap64 (Int.tdiv x45_2 4)) * a1)) + (wrap64 (Int.tdiv x81_4 4)))) : Int).toNat (wrap64 ((rd x268002_4 (wrap64 ((wrap64 ((wrap64 (Int.tdiv x45_2 4)) * a1)) + (wrap64 (Int.tdiv x81_4 4))))) + 1)))) else (none)) else (none))) = some (r1, r2, r3, r4) := by rw [if_pos rfl] at H; exact H
                    clear H
                    have H := H1
                    clear H1
                    by_cases c70 : (Int.tmod x19_5 2) = 0
                    ·rw [if_pos c70] at H
                     have c70b0 : ((Int.tmod x19_5 2) == 0) = true := beq_iff_eq.mpr c70
                     have c70b1 : ((Int.tmod x19_5 2) != 0) = false := bne_eq_false_iff_eq.mpr c70
                     clear c70
                     have H' := Aside0.mk H
                     clear H
                     go_wp2
                     go_roundg k5
                     case measure => have := HJ5.out; have := HK2.out; have := HK3.out; have := HK4.out; have := HK5.out; omega
                     case rel => exact ⟨(wrap64 (x81_4 + 1)), (x268002_4), (u268002), (by first | rfl | (simp; done) | (simp [*]; done)), H', ⟨by have := HJ5.out; have := HK2.out; have := HK3.out; have := HK4.out; have := HK5.out; omega⟩, ⟨z.rl (Kd.R_mono HO_10.out (fun _ hk => hk.1))⟩, ⟨z.rl HO_15.out⟩, ⟨z.rl HO_268002.out⟩, ⟨z.bk BK258⟩, ⟨z.bk BK267⟩, ⟨z.bl HB⟩⟩
                    ·rw [if_neg c70] at H
                     have c70b0 : ((Int.tmod x19_5 2) == 0) = false := beq_eq_false_iff_ne.mpr c70
                     have c70b1 : ((Int.tmod x19_5 2) != 0) = true := bne_iff_ne.mpr c70
                     obtain ⟨ji71, hji71⟩ : ∃ j_ : Int, (wrap64 ((wrap64 ((wrap64 (Int.tdiv x45_2 4)) * a1)) + (wrap64 (Int.tdiv x81_4 4)))) = j_ := ⟨_, rfl⟩
                     replace H : (if 0 ≤ (ji71) then (if (ji71) < (x268002_4.length : Int) then (impl_CoverOf.l2 k5 a1 true t259 x45_2 (wrap64 ((wrap64 (4 * x45_2)) + 2)) x15_3 (wrap64 (4 * a2)) x45_2 (wrap64 (4 * a1)) (wrap64 (x81_4 + 1)) a1 a2 (x268002_4.set ((ji71) : Int).toNat (wrap64 ((rd x268002_4 (ji71)) + 1)))) else (none)) else (none)) = some (r1, r2, r3, r4) := by first | (rw [hji71] at H; exact H) | (simp only [hji71] at H ⊢; exact H)
                     have hji71w : (IntKind.i64.wrap ((wrap64 ((wrap64 (Int.tdiv x45_2 4)) * a1)) + (wrap64 (Int.tdiv x81_4 4)))) = ji71 := (i64_w _).trans hji71
                     by_cases c72 : 0 ≤ (ji71)
                     ·rw [if_pos c72] at H
                      have c72b0 : decide (0 ≤ (ji71)) = true := decide_eq_true c72
                      clear c72
                      by_cases c73 : (ji71) < (x268002_4.length : Int)
                      ·rw [if_pos c73] at H
                       have c73b0 : decide ((ji71) < (x268002_4.length : Int)) = true := decide_eq_true c73
                       clear c73
                       obtain ⟨y282, hy282⟩ : ∃ y_ : List Int, y_ = (x268002_4.set ((ji71) : Int).toNat (wrap64 ((rd x268002_4 (ji71)) + 1))) := ⟨_, rfl⟩
                       replace H : (impl_CoverOf.l2 k5 a1 true t259 x45_2 (wrap64 ((wrap64 (4 * x45_2)) + 2)) x15_3 (wrap64 (4 * a2)) x45_2 (wrap64 (4 * a1)) (wrap64 (x81_4 + 1)) a1 a2 y282) = some (r1, r2, r3, r4) := by first | (rw [hy282]; with_reducible exact H) | (have H2_ := (Option.bind_some _ _).symm.trans H; rw [hy282]; with_reducible exact H2_) | (have H2_ := (Option.bind_some _ _).symm.trans H; with_reducible exact H2_) | with_reducible exact H | (rw [hy282]; exact H) | exact H
                       have Ny282 := Aside0.mk hy282
                       clear hy282
                       have H' := Aside0.mk H
                       clear H
                       have hnb75 := NB267_258.out
                       have hnc75 := NB258_267.out
                       have hcz76_0 : wr.cell? ⟨gb267, 0, none⟩ = some (.int .i64 a1) := (blk_cell BK267.out 0).trans rfl
                       have hcz76_1 : wr.cell? ⟨gb267, 1, none⟩ = some (.int .i64 a2) := (blk_cell BK267.out 1).trans rfl
                       have hcz76_2 : wr.cell? ⟨gb267, 2, none⟩ = some (u268002) := (blk_cell BK267.out 2).trans rfl
                       have hfz76_0 := blk_frozen BK267.out 0
                       have hfz76_1 := blk_frozen BK267.out 1
                       have hfz76_2 := blk_frozen BK267.out 2
                       obtain ⟨Ao77, co77, eo77⟩ := Kd.R_slice HO_268002.out
                       subst eo77
                       have p281 : 0 ≤ ((ji71) : Int) := of_decide_eq_true (by first | (with_reducible assumption) | assumption)
                       have q281 : (ji71) < (x268002_4.length : Int) := of_decide_eq_true (by first | (with_reducible assumption) | assumption)
                       obtain ⟨ad281, e281, hx281_0⟩ := Kd.at_int (Kd.R_reads' HO_268002.out).2.2 (ji71) p281 q281
                       cases e281
                       replace p281 := eq_true p281
                       replace q281 := eq_true q281
                       have p74 : 0 ≤ ((ji71) : Int) := of_decide_eq_true (by first | (with_reducible assumption) | assumption)
                       have q74 : ((ji71) : Int) < ((x268002_4.length : Int) : Int) := of_decide_eq_true (by first | (with_reducible assumption) | assumption)
                       obtain ⟨go74, co74, eo74, gb74, gl74, cl74, HG74⟩ := Kd.R_form HO_268002.out (by omega)
                       (first | cases eo74 | (injection eo74 with ea_ en_ ec_; (first | subst ea_ | (injection ea_ with ea_; subst ea_)); subst ec_; clear en_))
                       have GB74 := Aside0.mk gb74
                       have GG74 := Aside0.mk HG74
                       clear gb74 gl74 HG74
                       (first | simp only [add_plain] at hx281_0 | skip)
                       obtain ⟨hx74_0, hf74_0⟩ := Kd.R_celln 0 HO_268002.out ((ji71) : Int) p74 q74
                       replace p74 := eq_true p74
                       replace q74 := eq_true q74
                       have HP78 := Kd.R_putg HO_268002.out ((ji71) : Int) (wrap64 ((rd x268002_4 (ji71)) + 1))
                       go_wp2_with (first | ((with_reducible refine gate_store (t := 3) (p := 122) rfl ?_); refine store_event (t := 3) (p := 122) (v := ?vo_w79) (w1 := (wr.setCell ⟨go74, ((ji71) : Int).toNat, none⟩ (.int .i64 (wrap64 ((rd x268002_4 (ji71)) + 1))))) ?hg ?ho ?hn ?hr ?_; (case ho => rfl); (case hg => rfl); (case hn => rfl); (case hr => first | (go_simp; done) | (go_simp; rfl)); intro w79 hw; have hg : wr.grownBy w79 (some go74) := (by rw [hw]; exact HP78.2); have hp_ : Kd.R (Kd.int .i64) 3 w79 w.heap.size (fun _ => True) (.slice (some ⟨go74, 0, none⟩) x268002_4.length co77) y282 := (by rw [hw, Ny282.out]; exact HP78.1); clear HP78; replace HO_10 := Aside0.mk (Kd.R_over' (v := (.slice (some ⟨go74, 0, none⟩) x268002_4.length co77)) (z.rl HO_10.out) (Kd.R_typed HO_268002.out) (by decide) hg); replace HO_15 := Aside0.mk (Kd.R_over' (v := (.slice (some ⟨go74, 0, none⟩) x268002_4.length co77)) (z.rl HO_15.out) (Kd.R_typed HO_268002.out) (by decide) hg); replace HO_84 := Aside0.mk (Kd.R_over' (v := (.slice (some ⟨go74, 0, none⟩) x268002_4.length co77)) (z.rl HO_84.out) (Kd.R_typed HO_268002.out) (by decide) hg); replace BK258 := Aside0.mk (blk_grown (g := gb258) (z.bk BK258) hg (Kd.R_ne HO_268002.out BK258.out (by decide))); replace BK267 := Aside0.mk (blk_grown (g := gb267) (z.bk BK267) hg (Kd.R_ne HO_268002.out BK267.out (by decide))); replace HO_268002 := Aside0.mk (hp_); replace HB := Aside0.mk ((by rw [hw]; exact below_set (HB.out) GB74.out : Below w.heap.size w w79)); clear hg hw hp_))
                       go_roundg k5
                       case measure => have := HJ5.out; have := HK2.out; have := HK3.out; have := HK4.out; have := HK5.out; omega
                       case rel => exact ⟨(wrap64 (x81_4 + 1)), (y282), (.slice (some ⟨go74, 0, none⟩) x268002_4.length co77), (by first | rfl | (simp; done) | (simp [*]; done)), H', ⟨by have := HJ5.out; have := HK2.out; have := HK3.out; have := HK4.out; have := HK5.out; omega⟩, ⟨z.rl (Kd.R_mono HO_10.out (fun _ hk => hk.1))⟩, ⟨z.rl HO_15.out⟩, ⟨z.rl HO_268002.out⟩, ⟨z.bk BK258⟩, ⟨z.bk BK267⟩, ⟨z.bl HB⟩⟩
                      ·rw [if_neg c73] at H
                       exact absurd H (by simp)
                     ·rw [if_neg c72] at H
                      exact absurd H (by simp)
                   ·replace c69 := Bool.eq_false_iff.mpr c69
                    subst c69
                    have H1 : (if 0 ≤ (wrap64 ((wrap64 ((wrap64 (Int.tdiv x45_2 4)) * a1)) + (wrap64 (Int.tdiv x81_4 4)))) then (if (wrap64 ((wrap64 ((wrap64 (Int.tdiv x45_2 4)) * a1)) + (wrap64 (Int.tdiv x81_4 4)))) < (x268002_4.length : Int) then (impl_CoverOf.l2 k5 a1 false t259 x45_2 (wrap64 ((wrap64 (4 * x45_2)) + 2)) x15_3 (wrap64 (4 * a2)) x45_2 (wrap64 (4 * a1)) (wrap64 (x81_4 + 1)) a1 a2 (x268002_4.set ((wrap64 ((wrap64 ((wrap64 (Int.tdiv x45_2 4)) * a1)) + (wrap64 (Int.tdiv x81_4 4)))) : Int).toNat (wrap64 ((rd x268002_4 (wrap64 ((wrap64 ((wrap64 (Int.tdiv x45_2 4)) * a1)) + (wrap64 (Int.tdiv x81_4 4))))) + 1)))) else (none)) else (none)) = some (r1, r2, r3, r4) := by rw [if_neg (show ¬ (false = true) by decide)] at H; exact H
                    clear H
                    have H := H1
                    clear H1
                    obtain ⟨ji80, hji80⟩ : ∃ j_ : Int, (wrap64 ((wrap64 ((wrap64 (Int.tdiv x45_2 4)) * a1)) + (wrap64 (Int.tdiv x81_4 4)))) = j_ := ⟨_, rfl⟩
                    replace H : (if 0 ≤ (ji80) then (if (ji80) < (x268002_4.length : Int) then (impl_CoverOf.l2 k5 a1 false t259 x45_2 (wrap64 ((wrap64 (4 * x45_2)) + 2)) x15_3 (wrap64 (4 * a2)) x45_2 (wrap64 (4 * a1)) (wrap64 (x81_4 + 1)) a1 a2 (x268002_4.set ((ji80) : Int).toNat (wrap64 ((rd x268002_4 (ji80)) + 1)))) else (none)) else (none)) = some (r1, r2, r3, r4) := by first | (rw [hji80] at H; exact H) | (simp only [hji80] at H ⊢; exact H)
                    have hji80w : (IntKind.i64.wrap ((wrap64 ((wrap64 (Int.tdiv x45_2 4)) * a1)) + (wrap64 (Int.tdiv x81_4 4)))) = ji80 := (i64_w _).trans hji80
                    by_cases c81 : 0 ≤ (ji80)
                    ·rw [if_pos c81] at H
                     have c81b0 : decide (0 ≤ (ji80)) = true := decide_eq_true c81
                     clear c81
                     by_cases c82 : (ji80) < (x268002_4.length : Int)
                     ·rw [if_pos c82] at H
                      have c82b0 : decide ((ji80) < (x268002_4.length : Int)) = true := decide_eq_true c82
                      clear c82
                      obtain ⟨y284, hy284⟩ : ∃ y_ : List Int, y_ = (x268002_4.set ((ji80) : Int).toNat (wrap64 ((rd x268002_4 (ji80)) + 1))) := ⟨_, rfl⟩
                      replace H : (impl_CoverOf.l2 k5 a1 false t259 x45_2 (wrap64 ((wrap64 (4 * x45_2)) + 2)) x15_3 (wrap64 (4 * a2)) x45_2 (wrap64 (4 * a1)) (wrap64 (x81_4 + 1)) a1 a2 y284) = some (r1, r2, r3, r4) := by first | (rw [hy284]; with_reducible exact H) | (have H2_ := (Option.bind_some _ _).symm.trans H; rw [hy284]; with_reducible exact H2_) | (have H2_ := (Option.bind_some _ _).symm.trans H; with_reducible exact H2_) | with_reducible exact H | (rw [hy284]; exact H) | exact H
                      have Ny284 := Aside0.mk hy284
                      clear hy284
                      have H' := Aside0.mk H
                      clear H
                      have hnb84 := NB267_258.out
                      have hnc84 := NB258_267.out
                      have hcz85_0 : wr.cell? ⟨gb267, 0, none⟩ = some (.int .i64 a1) := (blk_cell BK267.out 0).trans rfl
                      have hcz85_1 : wr.cell? ⟨gb267, 1, none⟩ = some (.int .i64 a2) := (blk_cell BK267.out 1).trans rfl
                      have hcz85_2 : wr.cell? ⟨gb267, 2, none⟩ = some (u268002) := (blk_cell BK267.out 2).trans rfl
                      have hfz85_0 := blk_frozen BK267.out 0
                      have hfz85_1 := blk_frozen BK267.out 1
                      have hfz85_2 := blk_frozen BK267.out 2
                      obtain ⟨Ao86, co86, eo86⟩ := Kd.R_slice HO_268002.out
                      subst eo86
                      have p283 : 0 ≤ ((ji80) : Int) := of_decide_eq_true (by first | (with_reducible assumption) | assumption)
                      have q283 : (ji80) < (x268002_4.length : Int) := of_decide_eq_true (by first | (with_reducible assumption) | assumption)
                      obtain ⟨ad283, e283, hx283_0⟩ := Kd.at_int (Kd.R_reads' HO_268002.out).2.2 (ji80) p283 q283
                      cases e283
                      replace p283 := eq_true p283
                      replace q283 := eq_true q283
                      have p83 : 0 ≤ ((ji80) : Int) := of_decide_eq_true (by first | (with_reducible assumption) | assumption)
                      have q83 : ((ji80) : Int) < ((x268002_4.length : Int) : Int) := of_decide_eq_true (by first | (with_reducible assumption) | assumption)
                      obtain ⟨go83, co83, eo83, gb83, gl83, cl83, HG83⟩ := Kd.R_form HO_268002.out (by omega)
                      (first | cases eo83 | (injection eo83 with ea_ en_ ec_; (first | subst ea_ | (injection ea_ with ea_; subst ea_)); subst ec_; clear en_))
                      have GB83 := Aside0.mk gb83
                      have GG83 := Aside0.mk HG83
                      clear gb83 gl83 HG83
                      (first | simp only [add_plain] at hx283_0 | skip)
                      obtain ⟨hx83_0, hf83_0⟩ := Kd.R_celln 0 HO_268002.out ((ji80) : Int) p83 q83
                      replace p83 := eq_true p83
                      replace q83 := eq_true q83
                      have HP87 := Kd.R_putg HO_268002.out ((ji80) : Int) (wrap64 ((rd x268002_4 (ji80)) + 1))
                      go_wp2_with (first | ((with_reducible refine gate_store (t := 3) (p := 122) rfl ?_); refine store_event (t := 3) (p := 122) (v := ?vo_w88) (w1 := (wr.setCell ⟨go83, ((ji80) : Int).toNat, none⟩ (.int .i64 (wrap64 ((rd x268002_4 (ji80)) + 1))))) ?hg ?ho ?hn ?hr ?_; (case ho => rfl); (case hg => rfl); (case hn => rfl); (case hr => first | (go_simp; done) | (go_simp; rfl)); intro w88 hw; have hg : wr.grownBy w88 (some go83) := (by rw [hw]; exact HP87.2); have hp_ : Kd.R (Kd.int .i64) 3 w88 w.heap.size (fun _ => True) (.slice (some ⟨go83, 0, none⟩) x268002_4.length co86) y284 := (by rw [hw, Ny284.out]; exact HP87.1); clear HP87; replace HO_10 := Aside0.mk (Kd.R_over' (v := (.slice (some ⟨go83, 0, none⟩) x268002_4.length co86)) (z.rl HO_10.out) (Kd.R_typed HO_268002.out) (by decide) hg); replace HO_15 := Aside0.mk (Kd.R_over' (v := (.slice (some ⟨go83, 0, none⟩) x268002_4.length co86)) (z.rl HO_15.out) (Kd.R_typed HO_268002.out) (by decide) hg); replace HO_84 := Aside0.mk (Kd.R_over' (v := (.slice (some ⟨go83, 0, none⟩) x268002_4.length co86)) (z.rl HO_84.out) (Kd.R_typed HO_268002.out) (by decide) hg); replace BK258 := Aside0.mk (blk_grown (g := gb258) (z.bk BK258) hg (Kd.R_ne HO_268002.out BK258.out (by decide))); replace BK267 := Aside0.mk (blk_grown (g := gb267) (z.bk BK267) hg (Kd.R_ne HO_268002.out BK267.out (by decide))); replace HO_268002 := Aside0.mk (hp_); replace HB := Aside0.mk ((by rw [hw]; exact below_set (HB.out) GB83.out : Below w.heap.size w w88)); clear hg hw hp_))
                      go_roundg k5
                      case measure => have := HJ5.out; have := HK2.out; have := HK3.out; have := HK4.out; have := HK5.out; omega
                      case rel => exact ⟨(wrap64 (x81_4 + 1)), (y284), (.slice (some ⟨go83, 0, none⟩) x268002_4.length co86), (by first | rfl | (simp; done) | (simp [*]; done)), H', ⟨by have := HJ5.out; have := HK2.out; have := HK3.out; have := HK4.out; have := HK5.out; omega⟩, ⟨z.rl (Kd.R_mono HO_10.out (fun _ hk => hk.1))⟩, ⟨z.rl HO_15.out⟩, ⟨z.rl HO_268002.out⟩, ⟨z.bk BK258⟩, ⟨z.bk BK267⟩, ⟨z.bl HB⟩⟩
                     ·rw [if_neg c82] at H
                      exact absurd H (by simp)
                    ·rw [if_neg c81] at H
                     exact absurd H (by simp)
              ·rw [if_neg c47] at H
               have c47b0 : decide (x81_4 < (wrap64 (4 * a1))) = false := decide_eq_false c47
               clear c47
               have H' := Aside0.mk H
               clear H
               go_wp2
               go_roundg k4
               case measure => have := HJ5.out; have := HK2.out; have := HK3.out; have := HK4.out; omega
               case rel => exact ⟨(wrap64 (x45_2 + 1)), (x268002_4), (u268002), (by first | rfl | (simp; done) | (simp [*]; done)), H', ⟨by have := HJ5.out; have := HK2.out; have := HK3.out; have := HK4.out; omega⟩, ⟨z.rl (Kd.R_mono HO_10.out (fun _ hk => trivial))⟩, ⟨z.rl HO_268002.out⟩, ⟨z.bk BK258⟩, ⟨z.bk BK267⟩, ⟨z.bl HB⟩⟩
        ·rw [if_neg c22] at H
         have c22b0 : decide (x45_2 < (wrap64 (4 * a2))) = false := decide_eq_false c22
         clear c22
         simp only [Option.some.injEq, Prod.mk.injEq] at H
         obtain ⟨rfl, rfl, rfl, rfl⟩ := H
         have hnb89 := NB267_258.out
         have hnc89 := NB258_267.out
         have hcz90_0 : wr.cell? ⟨gb267, 0, none⟩ = some (.int .i64 a1) := (blk_cell BK267.out 0).trans rfl
         have hcz90_1 : wr.cell? ⟨gb267, 1, none⟩ = some (.int .i64 a2) := (blk_cell BK267.out 1).trans rfl
         have hcz90_2 : wr.cell? ⟨gb267, 2, none⟩ = some (u268002) := (blk_cell BK267.out 2).trans rfl
         have hfz90_0 := blk_frozen BK267.out 0
         have hfz90_1 := blk_frozen BK267.out 1
         have hfz90_2 := blk_frozen BK267.out 2
         have hcz91_0 : wr.cell? ⟨gb258, 0, none⟩ = some (.int .i64 0) := (blk_cell BK258.out 0).trans rfl
         have hcz91_1 : wr.cell? ⟨gb258, 1, none⟩ = some (.int .i64 0) := (blk_cell BK258.out 1).trans rfl
         have hcz91_2 : wr.cell? ⟨gb258, 2, none⟩ = some (.slice none 0 0) := (blk_cell BK258.out 2).trans rfl
         have hfz91_0 := blk_frozen BK258.out 0
         have hfz91_1 := blk_frozen BK258.out 1
         have hfz91_2 := blk_frozen BK258.out 2
         obtain ⟨Ao92, co92, eo92⟩ := Kd.R_slice HO_268002.out
         subst eo92
         go_wp2
         refine bodyPost_ret (results_ct rfl _ _ gb258 67 #[.int .i64 a1, .int .i64 a2, .slice Ao92 x268002_2.length co92] (0, 0) _ rfl (by (with_reducible repeat (first | refine blk_drewN ?_ _ | refine blk_drew ?_ | refine blk_alloc ?_ _)); refine blk_put (cs := #[.int .i64 a1, .int .i64 a2, .slice none 0 0]) ?_ 2 _ rfl; (with_reducible repeat (first | refine blk_drewN ?_ _ | refine blk_drew ?_ | refine blk_alloc ?_ _)); refine blk_put (cs := #[.int .i64 a1, .int .i64 0, .slice none 0 0]) ?_ 1 _ rfl; (with_reducible repeat (first | refine blk_drewN ?_ _ | refine blk_drew ?_ | refine blk_alloc ?_ _)); refine blk_put (cs := #[.int .i64 0, .int .i64 0, .slice none 0 0]) ?_ 0 _ rfl; (with_reducible repeat (first | refine blk_drewN ?_ _ | refine blk_drew ?_ | refine blk_alloc ?_ _)); exact BK258.out) Try.underlying67 rfl (by kernel_rfl)) rfl ?_
         exact ⟨_, by first | rfl | (simp [errW_none, errW_some] <;> rfl) | (simp only [← hji13]; first | rfl | (simp [errW_none, errW_some] <;> rfl)) | (simp [*, errW_none, errW_some] <;> rfl), z.rl (Kd.R_mono (Kd.R_far (p := ⟨gb258, 2, none⟩) (Kd.R_far (p := ⟨gb258, 1, none⟩) (Kd.R_far (p := ⟨gb258, 0, none⟩) (Kd.R_types HO_268002.out BK258.out (by decide)) (fun _ hk => hk.2) (.int .i64 a1)) (fun _ hk => hk.2) (.int .i64 a2)) (fun _ hk => hk.2) (.slice Ao92 x268002_2.length co92)) (fun _ hk => trivial)), z.bl HB⟩
     ·rw [if_neg c15] at H
      exact absurd H (by simp)
    ·rw [if_neg c14] at H
     exact absurd H (by simp)
end Go.Proofs.Ytdbgnoolokfafaa.HFnCover
