-- Printed by a program of this session over the kit's print; functions that the print does not take stand here by hand.
import Derived.Test.YtdbgnoolokfafaaYHFnExactCoverOfx0
import Derived.Test.YtdbgnoolokfafaaYHFnExactCoverOfx5
import Derived.Test.YtdbgnoolokfafaaYHFnExactCoverOfx6
namespace Go.Proofs.Ytdbgnoolokfafaa.HFnExactCoverOf
open Go.RowKit Go.Proofs.YtdbgnoolokfafaaW.PrintWords Go.Proofs.YtdbgnoolokfafaaW.PrintLast Go.Proofs.YtdbgnoolokfafaaW.PrintMore
attribute [local go_sem] max2_int min2_int max_two min_two max_three min_three max_four min_four   -- for this text's walks alone
set_option linter.unusedVariables false
set_option linter.unusedSimpArgs false
/-! ### impl_CoverOf: function 45 -/
mutual
def impl_CoverOf.j0 : Nat → Int → Int → Bool → List (S175) → Bool → Option (Int × Int × List Int × Bool)
  | 0, _, _, _, _, _ => none
  | k + 1, x1, x2, x3, x10, x34 => if x34 = true then (some (0, 0, ([] : List Int), false)) else (if 0 ≤ (wrap64 (x1 * x2)) then (if (wrap64 (x1 * x2) : Int).toNat ≤ 35184372088832 then (impl_CoverOf.l0 k x1 x3 x10 (wrap64 (4 * x2)) 0 x1 x2 (List.replicate (wrap64 (x1 * x2) : Int).toNat 0)) else (none)) else (none))
def impl_CoverOf.l0 : Nat → Int → Bool → List (S175) → Int → Int → Int → Int → List Int → Option (Int × Int × List Int × Bool)
  | 0, _, _, _, _, _, _, _, _ => none
  | k + 1, x1, x3, x10, x44, x45, x156000, x156001, x156002 => if x45 < x44 then (impl_CoverOf.l1 k x1 x3 x10 x45 (wrap64 ((wrap64 (4 * x45)) + 2)) (([] : List (S175))) x44 x45 x10 (x10.length : Int) 0 x156000 x156001 x156002) else (some (x156000, x156001, x156002, true))
def impl_CoverOf.l1 : Nat → Int → Bool → List (S175) → Int → Int → List (S175) → Int → Int → List (S175) → Int → Int → Int → Int → List Int → Option (Int × Int × List Int × Bool)
  | 0, _, _, _, _, _, _, _, _, _, _, _, _, _, _ => none
  | k + 1, x1, x3, x10, x13, x14, x15, x44, x45, x52, x53, x54, x156000, x156001, x156002 => if x54 < x53 then (if 0 ≤ x54 then (if x54 < (x52.length : Int) then (if (mn ((rd_T175 x52 x54).f1) ((rd_T175 x52 x54).f3)) ≤ x14 then (if x14 < (mx ((rd_T175 x52 x54).f1) ((rd_T175 x52 x54).f3)) then (if x15.length < 4398046511104 then (impl_CoverOf.l1 k x1 x3 x10 x13 x14 (x15 ++ [(⟨(rd_T175 x52 x54).f0, (rd_T175 x52 x54).f1, (rd_T175 x52 x54).f2, (rd_T175 x52 x54).f3⟩ : S175)]) x44 x45 x52 x53 (wrap64 (x54 + 1)) x156000 x156001 x156002) else (none)) else (impl_CoverOf.l1 k x1 x3 x10 x13 x14 x15 x44 x45 x52 x53 (wrap64 (x54 + 1)) x156000 x156001 x156002)) else (impl_CoverOf.l1 k x1 x3 x10 x13 x14 x15 x44 x45 x52 x53 (wrap64 (x54 + 1)) x156000 x156001 x156002)) else (none)) else (none)) else (impl_CoverOf.l2 k x1 x3 x10 x13 x14 x15 x44 x45 (wrap64 (4 * x1)) 0 x156000 x156001 x156002)
def impl_CoverOf.l2 : Nat → Int → Bool → List (S175) → Int → Int → List (S175) → Int → Int → Int → Int → Int → Int → List Int → Option (Int × Int × List Int × Bool)
  | 0, _, _, _, _, _, _, _, _, _, _, _, _, _ => none
  | k + 1, x1, x3, x10, x13, x14, x15, x44, x45, x80, x81, x156000, x156001, x156002 => if x81 < x80 then (impl_CoverOf.l3 k x1 x3 x10 x13 x14 x15 x81 0 x44 x45 x80 x81 x15 (x15.length : Int) 0 x156000 x156001 x156002) else (impl_CoverOf.l0 k x1 x3 x10 x44 (wrap64 (x45 + 1)) x156000 x156001 x156002)
def impl_CoverOf.l3 : Nat → Int → Bool → List (S175) → Int → Int → List (S175) → Int → Int → Int → Int → Int → Int → List (S175) → Int → Int → Int → Int → List Int → Option (Int × Int × List Int × Bool)
  | 0, _, _, _, _, _, _, _, _, _, _, _, _, _, _, _, _, _, _ => none
  | k + 1, x1, x3, x10, x13, x14, x15, x18, x19, x44, x45, x80, x81, x84, x85, x86, x156000, x156001, x156002 => if x86 < x85 then (if 0 ≤ x86 then (if x86 < (x84.length : Int) then ((impl_edge_winds.f k ((rd_T175 x84 x86).f0) ((rd_T175 x84 x86).f1) ((rd_T175 x84 x86).f2) ((rd_T175 x84 x86).f3) (wrap64 ((wrap64 (4 * x18)) + 2)) x14).bind fun t166 => (impl_CoverOf.l3 k x1 x3 x10 x13 x14 x15 x18 (wrap64 (x19 + t166)) x44 x45 x80 x81 x84 x85 (wrap64 (x86 + 1)) x156000 x156001 x156002)) else (none)) else (none)) else (if x19 = 0 then (if (Int.tmod x19 2) = 0 then (impl_CoverOf.l2 k x1 x3 x10 x13 x14 x15 x44 x45 x80 (wrap64 (x81 + 1)) x156000 x156001 x156002) else (if 0 ≤ (wrap64 ((wrap64 ((wrap64 (Int.tdiv x13 4)) * x1)) + (wrap64 (Int.tdiv x18 4)))) then (if (wrap64 ((wrap64 ((wrap64 (Int.tdiv x13 4)) * x1)) + (wrap64 (Int.tdiv x18 4)))) < (x156002.length : Int) then (impl_CoverOf.l2 k x1 x3 x10 x13 x14 x15 x44 x45 x80 (wrap64 (x81 + 1)) x156000 x156001 (x156002.set ((wrap64 ((wrap64 ((wrap64 (Int.tdiv x13 4)) * x1)) + (wrap64 (Int.tdiv x18 4)))) : Int).toNat (wrap64 ((rd x156002 (wrap64 ((wrap64 ((wrap64 (Int.tdiv x13 4)) * x1)) + (wrap64 (Int.tdiv x18 4))))) + 1)))) else (none)) else (none))) else (if x3 = true then (if (Int.tmod x19 2) = 0 then (impl_CoverOf.l2 k x1 x3 x10 x13 x14 x15 x44 x45 x80 (wrap64 (x81 + 1)) x156000 x156001 x156002) else (if 0 ≤ (wrap64 ((wrap64 ((wrap64 (Int.tdiv x13 4)) * x1)) + (wrap64 (Int.tdiv x18 4)))) then (if (wrap64 ((wrap64 ((wrap64 (Int.tdiv x13 4)) * x1)) + (wrap64 (Int.tdiv x18 4)))) < (x156002.length : Int) then (impl_CoverOf.l2 k x1 x3 x10 x13 x14 x15 x44 x45 x80 (wrap64 (x81 + 1)) x156000 x156001 (x156002.set ((wrap64 ((wrap64 ((wrap64 (Int.tdiv x13 4)) * x1)) + (wrap64 (Int.tdiv x18 4)))) : Int).toNat (wrap64 ((rd x156002 (wrap64 ((wrap64 ((wrap64 (Int.tdiv x13 4)) * x1)) + (wrap64 (Int.tdiv x18 4))))) + 1)))) else (none)) else (none))) else (if 0 ≤ (wrap64 ((wrap64 ((wrap64 (Int.tdiv x13 4)) * x1)) + (wrap64 (Int.tdiv x18 4)))) then (if (wrap64 ((wrap64 ((wrap64 (Int.tdiv x13 4)) * x1)) + (wrap64 (Int.tdiv x18 4)))) < (x156002.length : Int) then (impl_CoverOf.l2 k x1 x3 x10 x13 x14 x15 x44 x45 x80 (wrap64 (x81 + 1)) x156000 x156001 (x156002.set ((wrap64 ((wrap64 ((wrap64 (Int.tdiv x13 4)) * x1)) + (wrap64 (Int.tdiv x18 4)))) : Int).toNat (wrap64 ((rd x156002 (wrap64 ((wrap64 ((wrap64 (Int.tdiv x13 4)) * x1)) + (wrap64 (Int.tdiv x18 4))))) + 1)))) else (none)) else (none))))
end
def impl_CoverOf.f (k : Nat) (l0 : List (S83)) (a1 : Int) (a2 : Int) (a3 : Bool) : Option (Int × Int × List Int × Bool) := (impl_edgesOf.f k l0).bind fun bt147 => (if bt147.2 = true then ((impl_areSides.f a1 a2).bind fun t151 => (impl_CoverOf.j0 k a1 a2 a3 bt147.1 (!t151))) else (impl_CoverOf.j0 k a1 a2 a3 bt147.1 true))
theorem impl_CoverOf.mono_l : ∀ k, (∀ y0 y1 y2 y3 y4, LeO (impl_CoverOf.j0 k y0 y1 y2 y3 y4) (impl_CoverOf.j0 (k + 1) y0 y1 y2 y3 y4)) ∧ (∀ y0 y1 y2 y3 y4 y5 y6 y7, LeO (impl_CoverOf.l0 k y0 y1 y2 y3 y4 y5 y6 y7) (impl_CoverOf.l0 (k + 1) y0 y1 y2 y3 y4 y5 y6 y7)) ∧ (∀ y0 y1 y2 y3 y4 y5 y6 y7 y8 y9 y10 y11 y12 y13, LeO (impl_CoverOf.l1 k y0 y1 y2 y3 y4 y5 y6 y7 y8 y9 y10 y11 y12 y13) (impl_CoverOf.l1 (k + 1) y0 y1 y2 y3 y4 y5 y6 y7 y8 y9 y10 y11 y12 y13)) ∧ (∀ y0 y1 y2 y3 y4 y5 y6 y7 y8 y9 y10 y11 y12, LeO (impl_CoverOf.l2 k y0 y1 y2 y3 y4 y5 y6 y7 y8 y9 y10 y11 y12) (impl_CoverOf.l2 (k + 1) y0 y1 y2 y3 y4 y5 y6 y7 y8 y9 y10 y11 y12)) ∧ (∀ y0 y1 y2 y3 y4 y5 y6 y7 y8 y9 y10 y11 y12 y13 y14 y15 y16 y17, LeO (impl_CoverOf.l3 k y0 y1 y2 y3 y4 y5 y6 y7 y8 y9 y10 y11 y12 y13 y14 y15 y16 y17) (impl_CoverOf.l3 (k + 1) y0 y1 y2 y3 y4 y5 y6 y7 y8 y9 y10 y11 y12 y13 y14 y15 y16 y17))
  | 0 => ⟨fun _ _ _ _ _ r h => by simp [impl_CoverOf.j0] at h, fun _ _ _ _ _ _ _ _ r h => by simp [impl_CoverOf.l0] at h, fun _ _ _ _ _ _ _ _ _ _ _ _ _ _ r h => by simp [impl_CoverOf.l1] at h, fun _ _ _ _ _ _ _ _ _ _ _ _ _ r h => by simp [impl_CoverOf.l2] at h, fun _ _ _ _ _ _ _ _ _ _ _ _ _ _ _ _ _ _ r h => by simp [impl_CoverOf.l3] at h⟩
  | k + 1 => by
    obtain ⟨ih0, ih1, ih2, ih3, ih4⟩ := impl_CoverOf.mono_l k
    refine ⟨?_, ?_, ?_, ?_, ?_⟩
    · intro y0 y1 y2 y3 y4
      unfold impl_CoverOf.j0
      repeat' first
    | with_reducible exact ih0 _ _ _ _ _
    | with_reducible exact ih1 _ _ _ _ _ _ _ _
    | with_reducible exact ih2 _ _ _ _ _ _ _ _ _ _ _ _ _ _
    | with_reducible exact ih3 _ _ _ _ _ _ _ _ _ _ _ _ _
    | with_reducible exact ih4 _ _ _ _ _ _ _ _ _ _ _ _ _ _ _ _ _ _
    | with_reducible exact impl_edge_winds.mono ..
    | with_reducible exact impl_edgesOf.mono ..
    | with_reducible exact LeO.refl _
    | with_reducible exact LeO.none _
    | with_reducible refine LeO.ite ?_ ?_
    | with_reducible refine LeO.bind ?_ (fun _ => ?_)
    | exact ih0 _ _ _ _ _
    | exact ih1 _ _ _ _ _ _ _ _
    | exact ih2 _ _ _ _ _ _ _ _ _ _ _ _ _ _
    | exact ih3 _ _ _ _ _ _ _ _ _ _ _ _ _
    | exact ih4 _ _ _ _ _ _ _ _ _ _ _ _ _ _ _ _ _ _
    | exact LeO.none _
    | refine LeO.ite ?_ ?_
    | refine LeO.bind ?_ (fun _ => ?_)
    · intro y0 y1 y2 y3 y4 y5 y6 y7
      unfold impl_CoverOf.l0
      repeat' first
    | with_reducible exact ih0 _ _ _ _ _
    | with_reducible exact ih1 _ _ _ _ _ _ _ _
    | with_reducible exact ih2 _ _ _ _ _ _ _ _ _ _ _ _ _ _
    | with_reducible exact ih3 _ _ _ _ _ _ _ _ _ _ _ _ _
    | with_reducible exact ih4 _ _ _ _ _ _ _ _ _ _ _ _ _ _ _ _ _ _
    | with_reducible exact impl_edge_winds.mono ..
    | with_reducible exact impl_edgesOf.mono ..
    | with_reducible exact LeO.refl _
    | with_reducible exact LeO.none _
    | with_reducible refine LeO.ite ?_ ?_
    | with_reducible refine LeO.bind ?_ (fun _ => ?_)
    | exact ih0 _ _ _ _ _
    | exact ih1 _ _ _ _ _ _ _ _
    | exact ih2 _ _ _ _ _ _ _ _ _ _ _ _ _ _
    | exact ih3 _ _ _ _ _ _ _ _ _ _ _ _ _
    | exact ih4 _ _ _ _ _ _ _ _ _ _ _ _ _ _ _ _ _ _
    | exact LeO.none _
    | refine LeO.ite ?_ ?_
    | refine LeO.bind ?_ (fun _ => ?_)
    · intro y0 y1 y2 y3 y4 y5 y6 y7 y8 y9 y10 y11 y12 y13
      unfold impl_CoverOf.l1
      repeat' first
    | with_reducible exact ih0 _ _ _ _ _
    | with_reducible exact ih1 _ _ _ _ _ _ _ _
    | with_reducible exact ih2 _ _ _ _ _ _ _ _ _ _ _ _ _ _
    | with_reducible exact ih3 _ _ _ _ _ _ _ _ _ _ _ _ _
    | with_reducible exact ih4 _ _ _ _ _ _ _ _ _ _ _ _ _ _ _ _ _ _
    | with_reducible exact impl_edge_winds.mono ..
    | with_reducible exact impl_edgesOf.mono ..
    | with_reducible exact LeO.refl _
    | with_reducible exact LeO.none _
    | with_reducible refine LeO.ite ?_ ?_
    | with_reducible refine LeO.bind ?_ (fun _ => ?_)
    | exact ih0 _ _ _ _ _
    | exact ih1 _ _ _ _ _ _ _ _
    | exact ih2 _ _ _ _ _ _ _ _ _ _ _ _ _ _
    | exact ih3 _ _ _ _ _ _ _ _ _ _ _ _ _
    | exact ih4 _ _ _ _ _ _ _ _ _ _ _ _ _ _ _ _ _ _
    | exact LeO.none _
    | refine LeO.ite ?_ ?_
    | refine LeO.bind ?_ (fun _ => ?_)
    · intro y0 y1 y2 y3 y4 y5 y6 y7 y8 y9 y10 y11 y12
      unfold impl_CoverOf.l2
      repeat' first
    | with_reducible exact ih0 _ _ _ _ _
    | with_reducible exact ih1 _ _ _ _ _ _ _ _
    | with_reducible exact ih2 _ _ _ _ _ _ _ _ _ _ _ _ _ _
    | with_reducible exact ih3 _ _ _ _ _ _ _ _ _ _ _ _ _
    | with_reducible exact ih4 _ _ _ _ _ _ _ _ _ _ _ _ _ _ _ _ _ _
    | with_reducible exact impl_edge_winds.mono ..
    | with_reducible exact impl_edgesOf.mono ..
    | with_reducible exact LeO.refl _
    | with_reducible exact LeO.none _
    | with_reducible refine LeO.ite ?_ ?_
    | with_reducible refine LeO.bind ?_ (fun _ => ?_)
    | exact ih0 _ _ _ _ _
    | exact ih1 _ _ _ _ _ _ _ _
    | exact ih2 _ _ _ _ _ _ _ _ _ _ _ _ _ _
    | exact ih3 _ _ _ _ _ _ _ _ _ _ _ _ _
    | exact ih4 _ _ _ _ _ _ _ _ _ _ _ _ _ _ _ _ _ _
    | exact LeO.none _
    | refine LeO.ite ?_ ?_
    | refine LeO.bind ?_ (fun _ => ?_)
    · intro y0 y1 y2 y3 y4 y5 y6 y7 y8 y9 y10 y11 y12 y13 y14 y15 y16 y17
      unfold impl_CoverOf.l3
      repeat' first
    | with_reducible exact ih0 _ _ _ _ _
    | with_reducible exact ih1 _ _ _ _ _ _ _ _
    | with_reducible exact ih2 _ _ _ _ _ _ _ _ _ _ _ _ _ _
    | with_reducible exact ih3 _ _ _ _ _ _ _ _ _ _ _ _ _
    | with_reducible exact ih4 _ _ _ _ _ _ _ _ _ _ _ _ _ _ _ _ _ _
    | with_reducible exact impl_edge_winds.mono ..
    | with_reducible exact impl_edgesOf.mono ..
    | with_reducible exact LeO.refl _
    | with_reducible exact LeO.none _
    | with_reducible refine LeO.ite ?_ ?_
    | with_reducible refine LeO.bind ?_ (fun _ => ?_)
    | exact ih0 _ _ _ _ _
    | exact ih1 _ _ _ _ _ _ _ _
    | exact ih2 _ _ _ _ _ _ _ _ _ _ _ _ _ _
    | exact ih3 _ _ _ _ _ _ _ _ _ _ _ _ _
    | exact ih4 _ _ _ _ _ _ _ _ _ _ _ _ _ _ _ _ _ _
    | exact LeO.none _
    | refine LeO.ite ?_ ?_
    | refine LeO.bind ?_ (fun _ => ?_)
theorem impl_CoverOf.mono : ∀ a0 a1 a2 a3 k, LeO (impl_CoverOf.f k a0 a1 a2 a3) (impl_CoverOf.f (k + 1) a0 a1 a2 a3) := by
  intro a0 a1 a2 a3 k
  obtain ⟨ih0, ih1, ih2, ih3, ih4⟩ := impl_CoverOf.mono_l k
  unfold impl_CoverOf.f
  repeat' first
    | with_reducible exact ih0 _ _ _ _ _
    | with_reducible exact ih1 _ _ _ _ _ _ _ _
    | with_reducible exact ih2 _ _ _ _ _ _ _ _ _ _ _ _ _ _
    | with_reducible exact ih3 _ _ _ _ _ _ _ _ _ _ _ _ _
    | with_reducible exact ih4 _ _ _ _ _ _ _ _ _ _ _ _ _ _ _ _ _ _
    | with_reducible exact impl_edge_winds.mono ..
    | with_reducible exact impl_edgesOf.mono ..
    | with_reducible exact LeO.refl _
    | with_reducible exact LeO.none _
    | with_reducible refine LeO.ite ?_ ?_
    | with_reducible refine LeO.bind ?_ (fun _ => ?_)
    | exact ih0 _ _ _ _ _
    | exact ih1 _ _ _ _ _ _ _ _
    | exact ih2 _ _ _ _ _ _ _ _ _ _ _ _ _ _
    | exact ih3 _ _ _ _ _ _ _ _ _ _ _ _ _
    | exact ih4 _ _ _ _ _ _ _ _ _ _ _ _ _ _ _ _ _ _
    | exact LeO.none _
    | refine LeO.ite ?_ ?_
    | refine LeO.bind ?_ (fun _ => ?_)
set_option maxHeartbeats 8000000 in
set_option maxRecDepth 100000 in
theorem impl_CoverOf.calls (k : Nat) (A0 : Option Addr) (c0 : Nat) (l0 : List (S83)) (a1 : Int) (a2 : Int) (a3 : Bool) (r1 : Int) (r2 : Int) (r3 : List Int) (r4 : Bool) (w : World) (hr0 : Kd.C k83 w A0 l0.length l0) (hc0 : l0.length ≤ c0) (h : impl_CoverOf.f k l0 a1 a2 a3 = some (r1, r2, r3, r4)) :
    Calls Try.prog 45 #[.slice A0 l0.length c0, .int .i64 a1, .int .i64 a2, .bool a3] w fun e w' => ∃ v2_ : Value, e = .returned (.tuple #[.agg #[.int .i64 r1, .int .i64 r2, v2_], .bool r4]) ∧ Kd.R (Kd.int .i64) 3 w' w.heap.size (fun _ => True) v2_ r3 ∧ Below w.heap.size w w' := by
  have hu67 := Try.underlying67
  have hu175 := Try.underlying175
  have HR0 := Aside0.mk hr0
  have HC0 := Aside0.mk hc0
  clear hr0 hc0
  have HB := Aside0.mk (Below.refl w.heap.size w)
  have H : ((impl_edgesOf.f k l0).bind fun bt147 => (if bt147.2 = true then ((impl_areSides.f a1 a2).bind fun t151 => (impl_CoverOf.j0 k a1 a2 a3 bt147.1 (!t151))) else (impl_CoverOf.j0 k a1 a2 a3 bt147.1 true))) = some (r1, r2, r3, r4) := h
  clear h
  replace H := Option.bind_eq_some_iff.mp H
  obtain ⟨⟨t147, t148⟩, A50, H⟩ := H
  replace H : (if t148 = true then ((impl_areSides.f a1 a2).bind fun t151 => (impl_CoverOf.j0 k a1 a2 a3 t147 (!t151))) else (impl_CoverOf.j0 k a1 a2 a3 t147 true)) = some (r1, r2, r3, r4) := H
  have A5 := Aside0.mk A50
  clear A50
  have HC6 := Aside0.mk H
  clear H
  go_enter Try.func45, Try.ntmps45
  go_upto_region 2 with (first | ((with_reducible refine gate_dst (N := 8) rfl ?_); (try (refine gate_guard (by rfl) ?_; dsimp only)); refine box_event ?hg (N := 8) ?hd (cs := #[.int .i64 0, .int .i64 0, .slice none 0 0]) (t := 67) ?hr ?_; (case hd => rfl); (case hg => rfl); (case hr => first | (go_simp; done) | (go_simp; rfl)); intro gb146 hg w7 hbox hb; have n0_ := Aside0.mk (below_step (by repeat (first | (with_reducible first | exact HB.out | apply below_alloc | apply pw_below_drewN | apply below_drew1) | exact HB.out)) hb); have n1_ := Aside0.mk (hbox); have n2_ := Aside0.mk ((by rw [hg]; exact (below_size (by repeat (first | (with_reducible first | exact HB.out | apply below_alloc | apply pw_below_drewN | apply below_drew1) | exact HB.out))) : w.heap.size ≤ gb146)); have n3_ := Aside0.mk ((by rw [hg]; exact (below_size (by repeat (first | (with_reducible first | exact HB.out | apply below_alloc | apply pw_below_drewN | apply below_drew1) | exact HB.out))) : w.heap.size ≤ gb146)); clear HB; have HB := n0_; have BK146 := n1_; have GW146 := n2_; have GE146 := n3_; clear n0_ n1_ n2_ n3_; clear hb hbox hg) | ((with_reducible refine gate_callee (f := 128) rfl ?_); refine goesL_ (some 24) rfl rfl Try.func128 (by kernel_rfl) rfl #[.slice A0 l0.length c0] rfl (by (try simp only [List.map_toArray, List.map_cons, List.map_nil]); first | done | rfl | (simp only [List.length_drop, List.length_take]; rfl)) ?_; (with_reducible refine (impl_edgesOf.calls k _ _ l0 t147 t148 _ ?side1 ?side2 A5.out).mono ?_); (case side1 => repeat (first | exact (Kd.C_below HR0.out HB.out) | (with_reducible refine Kd.C_alloc ?_ _) | (with_reducible refine Kd.C_drewN ?_ _) | (with_reducible refine Kd.C_drew ?_))); (case side2 => exact HC0.out); rintro e w8 ⟨v149, rfl, ho0, hb⟩; refine ⟨_, rfl, ?_⟩; have n0_ := Aside0.mk (Kd.R_lower ho0 (below_size (by repeat (first | (with_reducible first | exact HB.out | apply below_alloc | apply pw_below_drewN | apply below_drew1 | refine below_set ?_ GE146.out) | exact HB.out)))); have n1_ := Aside0.mk (blk_below (g := gb146) (o := .cells #[.int .i64 0, .int .i64 0, .slice none 0 0] 67 (0, 0)) (by (with_reducible repeat (first | refine blk_drewN ?_ _ | refine blk_drew ?_ | refine blk_alloc ?_ _)); exact BK146.out) hb); have n2_ := Aside0.mk (below_step (by repeat (first | (with_reducible first | exact HB.out | apply below_alloc | apply pw_below_drewN | apply below_drew1 | refine below_set ?_ GE146.out) | exact HB.out)) hb); clear BK146; clear HB; have HO150 := n0_; have BK146 := n1_; have HB := n2_; clear n0_ n1_ n2_; (try clear hb); (try clear hb2); (try clear hk); (try clear hi); (try clear ho0)))
  (try simp only [Act.put, List.setIfInBounds_toArray, List.set_cons_zero, List.set_cons_succ])
  go_cut [34] (fun v34 wc => ∃ (kq : Nat) (x34_5 : Bool), v34 = .bool x34_5 ∧ Aside0 (impl_CoverOf.j0 kq a1 a2 a3 t147 x34_5 = some (r1, r2, r3, r4)) ∧ Aside0 (kq ≤ k) ∧ Aside0 (Kd.R k175 175 wc w.heap.size (fun _ => True) v149 t147) ∧ Aside0 (wc.heap[gb146]? = some (.cells #[.int .i64 0, .int .i64 0, (.slice none 0 0)] 67 (0, 0))) ∧ Aside0 (Below w.heap.size w wc))
  case first =>
    have H := HC6.out
    clear HC6
    by_cases c9 : t148 = true
    · subst c9
      have H1 : ((impl_areSides.f a1 a2).bind fun t151 => (impl_CoverOf.j0 k a1 a2 a3 t147 (!t151))) = some (r1, r2, r3, r4) := by rw [if_pos rfl] at H; exact H
      clear H
      have H := H1
      clear H1
      replace H := Option.bind_eq_some_iff.mp H
      obtain ⟨t151, A100, H⟩ := H
      replace H : (impl_CoverOf.j0 k a1 a2 a3 t147 (!t151)) = some (r1, r2, r3, r4) := H
      have A10 := Aside0.mk A100
      clear A100
      have H' := Aside0.mk H
      clear H
      go_wp2_with (first | (go_at_call 129; (with_reducible refine (impl_areSides.calls a1 a2 t151 _ A10.out).mono ?_); rintro e w' ⟨rfl, ⟨nd, rfl⟩⟩))
      go_meet
      case rel => exact ⟨_, (!t151), (by first | rfl | (simp; done) | (simp [*]; done)), H', ⟨by first | omega | exact Nat.le_refl _⟩, ⟨by (with_reducible repeat (first | apply Kd.R_alloc | apply Kd.R_drewN | apply Kd.R_drew)); exact HO150.out⟩, ⟨by (with_reducible repeat (first | refine blk_drewN ?_ _ | refine blk_drew ?_ | refine blk_alloc ?_ _)); exact BK146.out⟩, ⟨by repeat (first | (with_reducible first | exact HB.out | apply below_alloc | apply pw_below_drewN | apply below_drew1 | refine below_set ?_ GE146.out) | exact HB.out)⟩⟩
    · replace c9 := Bool.eq_false_iff.mpr c9
      subst c9
      have H1 : (impl_CoverOf.j0 k a1 a2 a3 t147 true) = some (r1, r2, r3, r4) := by rw [if_neg (show ¬ (false = true) by decide)] at H; exact H
      clear H
      have H := H1
      clear H1
      have H' := Aside0.mk H
      clear H
      go_wp2
      go_meet
      case rel => exact ⟨_, (true), (by first | rfl | (simp; done) | (simp [*]; done)), H', ⟨by first | omega | exact Nat.le_refl _⟩, ⟨by (with_reducible repeat (first | apply Kd.R_alloc | apply Kd.R_drewN | apply Kd.R_drew)); exact HO150.out⟩, ⟨by (with_reducible repeat (first | refine blk_drewN ?_ _ | refine blk_drew ?_ | refine blk_alloc ?_ _)); exact BK146.out⟩, ⟨by repeat (first | (with_reducible first | exact HB.out | apply below_alloc | apply pw_below_drewN | apply below_drew1 | refine below_set ?_ GE146.out) | exact HB.out)⟩⟩
  case rest =>
    clear HC6
    try clear c1
    try clear p2
    try clear c4
    try clear c9
    obtain ⟨kq, x34_5, rfl, HA, HJ5, HO_10, BK146, HB⟩ := hcut
    cases kq with
    | zero => exact absurd HA.out (by simp [impl_CoverOf.j0])
    | succ kj5 =>
      have H := HA.out
      clear HA
      simp only [impl_CoverOf.j0] at H
      by_cases c11 : x34_5 = true
      · subst c11
        have H1 : (some (0, 0, ([] : List Int), false)) = some (r1, r2, r3, r4) := by rw [if_pos rfl] at H; exact H
        clear H
        have H := H1
        clear H1
        simp only [Option.some.injEq, Prod.mk.injEq] at H
        obtain ⟨rfl, rfl, rfl, rfl⟩ := H
        have hcz12_0 : wc.cell? ⟨gb146, 0, none⟩ = some (.int .i64 0) := (blk_cell BK146.out 0).trans rfl
        have hcz12_1 : wc.cell? ⟨gb146, 1, none⟩ = some (.int .i64 0) := (blk_cell BK146.out 1).trans rfl
        have hcz12_2 : wc.cell? ⟨gb146, 2, none⟩ = some (.slice none 0 0) := (blk_cell BK146.out 2).trans rfl
        have hfz12_0 := blk_frozen BK146.out 0
        have hfz12_1 := blk_frozen BK146.out 1
        have hfz12_2 := blk_frozen BK146.out 2
        go_wp2
        refine bodyPost_ret (results_ct rfl _ _ gb146 67 #[.int .i64 0, .int .i64 0, .slice none 0 0] (0, 0) _ rfl (by (with_reducible repeat (first | refine blk_drewN ?_ _ | refine blk_drew ?_ | refine blk_alloc ?_ _)); refine blk_put (cs := #[.int .i64 0, .int .i64 0, .slice none 0 0]) ?_ 2 _ rfl; (with_reducible repeat (first | refine blk_drewN ?_ _ | refine blk_drew ?_ | refine blk_alloc ?_ _)); refine blk_put (cs := #[.int .i64 0, .int .i64 0, .slice none 0 0]) ?_ 1 _ rfl; (with_reducible repeat (first | refine blk_drewN ?_ _ | refine blk_drew ?_ | refine blk_alloc ?_ _)); refine blk_put (cs := #[.int .i64 0, .int .i64 0, .slice none 0 0]) ?_ 0 _ rfl; (with_reducible repeat (first | refine blk_drewN ?_ _ | refine blk_drew ?_ | refine blk_alloc ?_ _)); exact BK146.out) Try.underlying67 rfl (by kernel_rfl)) rfl ?_
        exact ⟨_, by first | rfl | (simp [errW_none, errW_some] <;> rfl) | (simp [*, errW_none, errW_some] <;> rfl), by first | exact Kd.R_nil _ _ _ _ _ | exact Kd.N_nil _ _ _ _ _ | exact Kd.V_nil _ _ _ _ _ | exact Kd.Q_nil _ _ _ _ _ | exact Kd.S_nil _ _ _ _ _, by repeat (first | (with_reducible first | exact HB.out | apply below_alloc | apply pw_below_drewN | apply below_drew1 | refine below_set ?_ GE146.out) | exact HB.out)⟩
      · replace c11 := Bool.eq_false_iff.mpr c11
        subst c11
        have H1 : (if 0 ≤ (wrap64 (a1 * a2)) then (if (wrap64 (a1 * a2) : Int).toNat ≤ 35184372088832 then (impl_CoverOf.l0 kj5 a1 a3 t147 (wrap64 (4 * a2)) 0 a1 a2 (List.replicate (wrap64 (a1 * a2) : Int).toNat 0)) else (none)) else (none)) = some (r1, r2, r3, r4) := by rw [if_neg (show ¬ (false = true) by decide)] at H; exact H
        clear H
        have H := H1
        clear H1
        obtain ⟨ji13, hji13⟩ : ∃ j_ : Int, (wrap64 (a1 * a2)) = j_ := ⟨_, rfl⟩
        replace H : (if 0 ≤ (ji13) then (if (ji13 : Int).toNat ≤ 35184372088832 then (impl_CoverOf.l0 kj5 a1 a3 t147 (wrap64 (4 * a2)) 0 a1 a2 (List.replicate (ji13 : Int).toNat 0)) else (none)) else (none)) = some (r1, r2, r3, r4) := by first | (rw [hji13] at H; exact H) | (simp only [hji13] at H ⊢; exact H)
        have hji13w : (IntKind.i64.wrap (a1 * a2)) = ji13 := (i64_w _).trans hji13
        by_cases c14 : 0 ≤ (ji13)
        · rw [if_pos c14] at H
          have c14b0 := eq_true c14
          have c14b1 : decide (0 ≤ (ji13)) = true := decide_eq_true c14
          clear c14
          by_cases c15 : (ji13 : Int).toNat ≤ 35184372088832
          · rw [if_pos c15] at H
            have c15b0 := eq_true c15
            have c15b1 : decide ((ji13 : Int).toNat ≤ 35184372088832) = true := decide_eq_true c15
            clear c15
            obtain ⟨y152, hy152⟩ : ∃ y_ : List Int, y_ = (List.replicate (ji13 : Int).toNat 0) := ⟨_, rfl⟩
            replace H : (impl_CoverOf.l0 kj5 a1 a3 t147 (wrap64 (4 * a2)) 0 a1 a2 y152) = some (r1, r2, r3, r4) := by first | (rw [hy152]; with_reducible exact H) | (have H2_ := (Option.bind_some _ _).symm.trans H; rw [hy152]; with_reducible exact H2_) | (have H2_ := (Option.bind_some _ _).symm.trans H; with_reducible exact H2_) | with_reducible exact H | (rw [hy152]; exact H) | exact H
            have Ny152 := Aside0.mk hy152
            clear hy152
            have H' := Aside0.mk H
            clear H
            go_wp2_with (first | ((with_reducible refine gate_dst (N := 41) rfl ?_); (try (refine gate_guard (by rfl) ?_; dsimp only)); refine Kd.R_make (Kd.int .i64) _ 3 rfl (N := 41) rfl 55 _ _ rfl ji13 rfl rfl Try.underlying55 (.int .i64 0) 8 info3 rfl (by decide) (by omega) 0 (ok := fun _ => True) (okp := fun _ => True) rfl (fun _ hk => hk) trivial (of_decide_eq_true (by first | (with_reducible assumption) | assumption)) (Nat.le_trans (Nat.mul_le_mul_right _ (of_decide_eq_true (by first | (with_reducible assumption) | assumption) : ji13.toNat ≤ 35184372088832)) (by omega)) (Below.refl _ _) (Nat.le_refl _) ?_; intro v153 w16 ho17 hb hg_ hnew_; clear hg_ hnew_; (first | rw [← Ny152.out] at ho17 | (simp only [Int.reduceToNat] at ho17; rw [← Ny152.out] at ho17)); have n0_ := Aside0.mk (Kd.R_below (by (with_reducible repeat (first | apply Kd.R_alloc | apply Kd.R_drewN | apply Kd.R_drew)); exact HO_10.out) hb); have n1_ := Aside0.mk (Kd.R_lower ho17 (below_size (by repeat (first | (with_reducible first | exact HB.out | apply below_alloc | apply pw_below_drewN | apply below_drew1 | refine below_set ?_ GE146.out) | exact HB.out)))); have n2_ := Aside0.mk (blk_below (g := gb146) (o := .cells #[.int .i64 0, .int .i64 0, .slice none 0 0] 67 (0, 0)) (by (with_reducible repeat (first | refine blk_drewN ?_ _ | refine blk_drew ?_ | refine blk_alloc ?_ _)); exact BK146.out) hb); have n3_ := Aside0.mk (below_step (by repeat (first | (with_reducible first | exact HB.out | apply below_alloc | apply pw_below_drewN | apply below_drew1 | refine below_set ?_ GE146.out) | exact HB.out)) hb); clear HO_10; clear BK146; clear HB; have HO_10 := n0_; have HO154 := n1_; have BK146 := n2_; have HB := n3_; clear n0_ n1_ n2_ n3_; clear hb ho17; obtain ⟨Ao18, co18, eo18⟩ := Kd.R_slice HO154.out; subst eo18) | ((with_reducible refine gate_dst (N := 12) rfl ?_); (try (refine gate_guard (by rfl) ?_; dsimp only)); refine box_event ?hg (N := 12) ?hd (cs := #[.int .i64 0, .int .i64 0, .slice none 0 0]) (t := 67) ?hr ?_; (case hd => rfl); (case hg => rfl); (case hr => first | (go_simp; done) | (go_simp; rfl)); intro gb155 hg w19 hbox hb; have n0_ := Aside0.mk (Kd.R_below (by (with_reducible repeat (first | apply Kd.R_alloc | apply Kd.R_drewN | apply Kd.R_drew)); exact HO_10.out) hb); have n1_ := Aside0.mk (Kd.R_below (by (with_reducible repeat (first | apply Kd.R_alloc | apply Kd.R_drewN | apply Kd.R_drew)); exact HO154.out) hb); have n2_ := Aside0.mk (blk_below (g := gb146) (o := .cells #[.int .i64 0, .int .i64 0, .slice none 0 0] 67 (0, 0)) (by (with_reducible repeat (first | refine blk_drewN ?_ _ | refine blk_drew ?_ | refine blk_alloc ?_ _)); exact BK146.out) hb); have n3_ := Aside0.mk (below_step (by repeat (first | (with_reducible first | exact HB.out | apply below_alloc | apply pw_below_drewN | apply below_drew1 | refine below_set ?_ GE146.out) | exact HB.out)) hb); have n4_ := Aside0.mk (hbox); have n5_ := Aside0.mk ((by rw [hg]; exact (below_size (by repeat (first | (with_reducible first | exact HB.out | apply below_alloc | apply pw_below_drewN | apply below_drew1 | refine below_set ?_ GE146.out) | exact HB.out))) : w.heap.size ≤ gb155)); have n6_ := Aside0.mk ((by rw [hg]; exact (below_size (by repeat (first | (with_reducible first | exact HB.out | apply below_alloc | apply pw_below_drewN | apply below_drew1 | refine below_set ?_ GE146.out) | exact HB.out))) : w.heap.size ≤ gb155)); have n7_ := Aside0.mk ((by rw [hg]; exact Nat.ne_of_lt (blk_lt (g := gb146) (o := .cells #[.int .i64 0, .int .i64 0, .slice none 0 0] 67 (0, 0)) (by (with_reducible repeat (first | refine blk_drewN ?_ _ | refine blk_drew ?_ | refine blk_alloc ?_ _)); exact BK146.out)) : gb146 ≠ gb155)); have n8_ := Aside0.mk ((by rw [hg]; exact Nat.ne_of_gt (blk_lt (g := gb146) (o := .cells #[.int .i64 0, .int .i64 0, .slice none 0 0] 67 (0, 0)) (by (with_reducible repeat (first | refine blk_drewN ?_ _ | refine blk_drew ?_ | refine blk_alloc ?_ _)); exact BK146.out)) : gb155 ≠ gb146)); clear HO_10; clear HO154; clear BK146; clear HB; have HO_10 := n0_; have HO154 := n1_; have BK146 := n2_; have HB := n3_; have BK155 := n4_; have GW155 := n5_; have GE155 := n6_; have NB146_155 := n7_; have NB155_146 := n8_; clear n0_ n1_ n2_ n3_ n4_ n5_ n6_ n7_ n8_; clear hb hbox hg; have hnb20 := NB155_146.out; have hnc20 := NB146_155.out; have hcz21_0 : w19.cell? ⟨gb155, 0, none⟩ = some (.int .i64 0) := (blk_cell BK155.out 0).trans rfl; have hcz21_1 : w19.cell? ⟨gb155, 1, none⟩ = some (.int .i64 0) := (blk_cell BK155.out 1).trans rfl; have hcz21_2 : w19.cell? ⟨gb155, 2, none⟩ = some (.slice none 0 0) := (blk_cell BK155.out 2).trans rfl; have hfz21_0 := blk_frozen BK155.out 0; have hfz21_1 := blk_frozen BK155.out 1; have hfz21_2 := blk_frozen BK155.out 2))
            go_loopg [45] kj5 (fun kq v45 w' => ∃ (x45_2 : Int) (x156002_2 : List Int) (u156002 : Value), v45 = .int .i64 x45_2 ∧ Aside0 (impl_CoverOf.l0 kq a1 a3 t147 (wrap64 (4 * a2)) x45_2 a1 a2 x156002_2 = some (r1, r2, r3, r4)) ∧ Aside0 (kq ≤ kj5) ∧ Aside0 (Kd.R k175 175 w' w.heap.size (fun _ => True) v149 t147) ∧ Aside0 (Kd.R (Kd.int .i64) 3 w' w.heap.size (fun _ => True) u156002 x156002_2) ∧ Aside0 (w'.heap[gb146]? = some (.cells #[.int .i64 0, .int .i64 0, (.slice none 0 0)] 67 (0, 0))) ∧ Aside0 (w'.heap[gb155]? = some (.cells #[.int .i64 a1, .int .i64 a2, u156002] 67 (0, 0))) ∧ Aside0 (Below w.heap.size w w'))
            case atStart => exact ⟨(0), (y152), (.slice Ao18 y152.length co18), (by first | rfl | (simp; done) | (simp [*]; done)), H', ⟨Nat.le_refl _⟩, ⟨by (with_reducible repeat (first | apply Kd.R_alloc | apply Kd.R_drewN | apply Kd.R_drew)); exact Kd.R_mono (Kd.R_far (p := ⟨gb155, 2, none⟩) (Kd.R_far (p := ⟨gb155, 1, none⟩) (Kd.R_far (p := ⟨gb155, 0, none⟩) (Kd.R_types HO_10.out BK155.out (by decide)) (fun _ hk => hk.2) (.int .i64 a1)) (fun _ hk => hk.2) (.int .i64 a2)) (fun _ hk => hk.2) (.slice Ao18 y152.length co18)) (fun _ hk => trivial)⟩, ⟨by (with_reducible repeat (first | apply Kd.R_alloc | apply Kd.R_drewN | apply Kd.R_drew)); exact Kd.R_mono (Kd.R_far (p := ⟨gb155, 2, none⟩) (Kd.R_far (p := ⟨gb155, 1, none⟩) (Kd.R_far (p := ⟨gb155, 0, none⟩) (Kd.R_types HO154.out BK155.out (by decide)) (fun _ hk => hk.2) (.int .i64 a1)) (fun _ hk => hk.2) (.int .i64 a2)) (fun _ hk => hk.2) (.slice Ao18 y152.length co18)) (fun _ hk => trivial)⟩, ⟨by (with_reducible repeat (first | refine blk_drewN ?_ _ | refine blk_drew ?_ | refine blk_alloc ?_ _)); refine blk_far ?_ NB146_155.out _; (with_reducible repeat (first | refine blk_drewN ?_ _ | refine blk_drew ?_ | refine blk_alloc ?_ _)); refine blk_far ?_ NB146_155.out _; (with_reducible repeat (first | refine blk_drewN ?_ _ | refine blk_drew ?_ | refine blk_alloc ?_ _)); refine blk_far ?_ NB146_155.out _; (with_reducible repeat (first | refine blk_drewN ?_ _ | refine blk_drew ?_ | refine blk_alloc ?_ _)); exact BK146.out⟩, ⟨by (with_reducible repeat (first | refine blk_drewN ?_ _ | refine blk_drew ?_ | refine blk_alloc ?_ _)); refine blk_put (cs := #[.int .i64 a1, .int .i64 a2, .slice none 0 0]) ?_ 2 _ rfl; (with_reducible repeat (first | refine blk_drewN ?_ _ | refine blk_drew ?_ | refine blk_alloc ?_ _)); refine blk_put (cs := #[.int .i64 a1, .int .i64 0, .slice none 0 0]) ?_ 1 _ rfl; (with_reducible repeat (first | refine blk_drewN ?_ _ | refine blk_drew ?_ | refine blk_alloc ?_ _)); refine blk_put (cs := #[.int .i64 0, .int .i64 0, .slice none 0 0]) ?_ 0 _ rfl; (with_reducible repeat (first | refine blk_drewN ?_ _ | refine blk_drew ?_ | refine blk_alloc ?_ _)); exact BK155.out⟩, ⟨by repeat (first | (with_reducible first | exact HB.out | apply below_alloc | apply pw_below_drewN | apply below_drew1 | refine below_set ?_ GE146.out | refine below_set ?_ GE155.out) | exact HB.out)⟩⟩
            case round =>
              clear H'
              try clear c1
              try clear c2
              try clear p2
              try clear c4
              try clear p6
              try clear c9
              try clear c11
              try clear c12
              try clear c14
              try clear c14b0
              try clear c14b1
              try clear c15
              try clear c15b0
              try clear c15b1
              try clear c20
              try clear hcz12_0
              try clear hcz12_1
              try clear hcz12_2
              try clear hcz21_0
              try clear hcz21_1
              try clear hcz21_2
              try clear hfz12_0
              try clear hfz12_1
              try clear hfz12_2
              try clear hfz21_0
              try clear hfz21_1
              try clear hfz21_2
              try clear p2
              obtain ⟨x45_2, x156002_2, u156002, rfl, HA, HK2, HO_10, HO_156002, BK146, BK155, HB⟩ := hrel
              cases gk with
              | zero => exact absurd HA.out (by simp [impl_CoverOf.l0])
              | succ k2 =>
                have H := HA.out
                clear HA
                simp only [impl_CoverOf.l0] at H
                by_cases c22 : x45_2 < (wrap64 (4 * a2))
                · rw [if_pos c22] at H
                  have c22b0 : decide (x45_2 < (wrap64 (4 * a2))) = true := decide_eq_true c22
                  clear c22
                  obtain ⟨y156, hy156⟩ : ∃ y_ : List (S175), y_ = (([] : List (S175))) := ⟨_, rfl⟩
                  replace H : (impl_CoverOf.l1 k2 a1 a3 t147 x45_2 (wrap64 ((wrap64 (4 * x45_2)) + 2)) y156 (wrap64 (4 * a2)) x45_2 t147 (t147.length : Int) 0 a1 a2 x156002_2) = some (r1, r2, r3, r4) := by first | (rw [hy156]; with_reducible exact H) | (have H2_ := (Option.bind_some _ _).symm.trans H; rw [hy156]; with_reducible exact H2_) | (have H2_ := (Option.bind_some _ _).symm.trans H; with_reducible exact H2_) | with_reducible exact H | (rw [hy156]; exact H) | exact H
                  have Ny156 := Aside0.mk hy156
                  clear hy156
                  have H' := Aside0.mk H
                  clear H
                  go_wp2_with (first | ((with_reducible refine gate_dst (N := 51) rfl ?_); (try (refine gate_guard (by rfl) ?_; dsimp only)); refine Kd.R_lit k175 _ 175 ?hg (N := 51) ?hd (xs := ([] : List (S175))) (inner := []) (ok := fun _ => True) (okp := fun _ => True) ?hr ?hp (fun _ hk => hk) trivial (Below.refl _ _) (Nat.le_refl _) (by simp) ?_; (case hd => rfl); (case hg => rfl); (case hr => first | (go_simp; done) | (go_simp; rfl)); (case hp => exact (Reps.none _ _)); intro v157 w23 ho24 hb hg_ hnew_; clear hg_ hnew_; (first | rw [← Ny156.out] at ho24 | (simp only [Int.reduceToNat] at ho24; rw [← Ny156.out] at ho24)); have n0_ := Aside0.mk (Kd.R_elder' (by (with_reducible repeat (first | apply Kd.R_alloc | apply Kd.R_drewN | apply Kd.R_drew)); exact HO_10.out) (Kd.R_base ho24) hb); have n1_ := Aside0.mk (Kd.R_below (by (with_reducible repeat (first | apply Kd.R_alloc | apply Kd.R_drewN | apply Kd.R_drew)); exact HO_156002.out) hb); have n2_ := Aside0.mk (Kd.R_lower (Kd.R_new' ho24 (Kd.R_lt (by (with_reducible repeat (first | apply Kd.R_alloc | apply Kd.R_drewN | apply Kd.R_drew)); exact HO_10.out))) (below_size (by repeat (first | (with_reducible first | exact HB.out | apply below_alloc | apply pw_below_drewN | apply below_drew1 | refine below_set ?_ GE146.out | refine below_set ?_ GE155.out) | exact HB.out)))); have n3_ := Aside0.mk (blk_below (g := gb146) (o := .cells #[.int .i64 0, .int .i64 0, .slice none 0 0] 67 (0, 0)) (by (with_reducible repeat (first | refine blk_drewN ?_ _ | refine blk_drew ?_ | refine blk_alloc ?_ _)); exact BK146.out) hb); have n4_ := Aside0.mk (blk_below (g := gb155) (o := .cells #[.int .i64 a1, .int .i64 a2, u156002] 67 (0, 0)) (by (with_reducible repeat (first | refine blk_drewN ?_ _ | refine blk_drew ?_ | refine blk_alloc ?_ _)); exact BK155.out) hb); have n5_ := Aside0.mk (below_step (by repeat (first | (with_reducible first | exact HB.out | apply below_alloc | apply pw_below_drewN | apply below_drew1 | refine below_set ?_ GE146.out | refine below_set ?_ GE155.out) | exact HB.out)) hb); clear HO_10; clear HO_156002; clear BK146; clear BK155; clear HB; have HO_10 := n0_; have HO_156002 := n1_; have HO158 := n2_; have BK146 := n3_; have BK155 := n4_; have HB := n5_; clear n0_ n1_ n2_ n3_ n4_ n5_; clear hb ho24; obtain ⟨Ao25, co25, eo25⟩ := Kd.R_slice HO_10.out; subst eo25))
                  go_loopg [15, 54] k2 (fun kq v15 v54 w' => ∃ (x15_3 : List (S175)) (x54_3 : Int), v54 = .int .i64 x54_3 ∧ Aside0 (impl_CoverOf.l1 kq a1 a3 t147 x45_2 (wrap64 ((wrap64 (4 * x45_2)) + 2)) x15_3 (wrap64 (4 * a2)) x45_2 t147 (t147.length : Int) x54_3 a1 a2 x156002_2 = some (r1, r2, r3, r4)) ∧ Aside0 (kq ≤ k2) ∧ Aside0 (Kd.R k175 175 w' w.heap.size (fun k_ => some k_ ≠ (v15 : Value).ownBlock) (.slice Ao25 t147.length co25) t147) ∧ Aside0 (Kd.R k175 175 w' w.heap.size (fun k_ => some k_ ≠ ((.slice Ao25 t147.length co25) : Value).ownBlock ∧ some k_ ≠ ((.slice Ao25 t147.length co25) : Value).ownBlock) v15 x15_3) ∧ Aside0 (Kd.R k175 175 w' w.heap.size (fun k_ => some k_ ≠ (v15 : Value).ownBlock) (.slice Ao25 t147.length co25) t147) ∧ Aside0 (Kd.R (Kd.int .i64) 3 w' w.heap.size (fun _ => True) u156002 x156002_2) ∧ Aside0 (w'.heap[gb146]? = some (.cells #[.int .i64 0, .int .i64 0, (.slice none 0 0)] 67 (0, 0))) ∧ Aside0 (w'.heap[gb155]? = some (.cells #[.int .i64 a1, .int .i64 a2, u156002] 67 (0, 0))) ∧ Aside0 (Below w.heap.size w w'))
                  case atStart => exact ⟨(y156), (0), (by first | rfl | (simp; done) | (simp [*]; done)), H', ⟨Nat.le_refl _⟩, ⟨by (with_reducible repeat (first | apply Kd.R_alloc | apply Kd.R_drewN | apply Kd.R_drew)); exact Kd.R_mono HO_10.out (fun _ hk => hk.2)⟩, ⟨by (with_reducible repeat (first | apply Kd.R_alloc | apply Kd.R_drewN | apply Kd.R_drew)); exact Kd.R_mono HO158.out (fun _ hk => ⟨hk.2, hk.2⟩)⟩, ⟨by (with_reducible repeat (first | apply Kd.R_alloc | apply Kd.R_drewN | apply Kd.R_drew)); exact Kd.R_mono HO_10.out (fun _ hk => hk.2)⟩, ⟨by (with_reducible repeat (first | apply Kd.R_alloc | apply Kd.R_drewN | apply Kd.R_drew)); exact HO_156002.out⟩, ⟨by (with_reducible repeat (first | refine blk_drewN ?_ _ | refine blk_drew ?_ | refine blk_alloc ?_ _)); exact BK146.out⟩, ⟨by (with_reducible repeat (first | refine blk_drewN ?_ _ | refine blk_drew ?_ | refine blk_alloc ?_ _)); exact BK155.out⟩, ⟨by repeat (first | (with_reducible first | exact HB.out | apply below_alloc | apply pw_below_drewN | apply below_drew1 | refine below_set ?_ GE146.out | refine below_set ?_ GE155.out) | exact HB.out)⟩⟩
                  case round =>
                    clear H'
                    try clear c1
                    try clear c2
                    try clear p2
                    try clear c4
                    try clear p6
                    try clear c9
                    try clear c11
                    try clear c12
                    try clear c14
                    try clear c14b0
                    try clear c14b1
                    try clear c15
                    try clear c15b0
                    try clear c15b1
                    try clear c20
                    try clear c22
                    try clear c22b0
                    try clear hcz12_0
                    try clear hcz12_1
                    try clear hcz12_2
                    try clear hcz21_0
                    try clear hcz21_1
                    try clear hcz21_2
                    try clear hfz12_0
                    try clear hfz12_1
                    try clear hfz12_2
                    try clear hfz21_0
                    try clear hfz21_1
                    try clear hfz21_2
                    try clear p2
                    try clear p6
                    obtain ⟨x15_3, x54_3, rfl, HA, HK3, HO_10, HO_15, HO_52, HO_156002, BK146, BK155, HB⟩ := hrel
                    cases gk with
                    | zero => exact absurd HA.out (by simp [impl_CoverOf.l1])
                    | succ k3 =>
                      have H := HA.out
                      clear HA
                      simp only [impl_CoverOf.l1] at H
                      by_cases c26 : x54_3 < (t147.length : Int)
                      · rw [if_pos c26] at H
                        have c26b0 : decide (x54_3 < (t147.length : Int)) = true := decide_eq_true c26
                        clear c26
                        by_cases c27 : 0 ≤ x54_3
                        · rw [if_pos c27] at H
                          have c27b0 : decide (0 ≤ x54_3) = true := decide_eq_true c27
                          clear c27
                          by_cases c28 : x54_3 < (t147.length : Int)
                          · rw [if_pos c28] at H
                            have c28b0 : decide (x54_3 < (t147.length : Int)) = true := decide_eq_true c28
                            clear c28
                            obtain ⟨ji29, hji29⟩ : ∃ j_ : Int, (mn ((rd_T175 t147 x54_3).f1) ((rd_T175 t147 x54_3).f3)) = j_ := ⟨_, rfl⟩
                            replace H : (if (ji29) ≤ (wrap64 ((wrap64 (4 * x45_2)) + 2)) then (if (wrap64 ((wrap64 (4 * x45_2)) + 2)) < (mx ((rd_T175 t147 x54_3).f1) ((rd_T175 t147 x54_3).f3)) then (if x15_3.length < 4398046511104 then (impl_CoverOf.l1 k3 a1 a3 t147 x45_2 (wrap64 ((wrap64 (4 * x45_2)) + 2)) (x15_3 ++ [(⟨(rd_T175 t147 x54_3).f0, (rd_T175 t147 x54_3).f1, (rd_T175 t147 x54_3).f2, (rd_T175 t147 x54_3).f3⟩ : S175)]) (wrap64 (4 * a2)) x45_2 t147 (t147.length : Int) (wrap64 (x54_3 + 1)) a1 a2 x156002_2) else (none)) else (impl_CoverOf.l1 k3 a1 a3 t147 x45_2 (wrap64 ((wrap64 (4 * x45_2)) + 2)) x15_3 (wrap64 (4 * a2)) x45_2 t147 (t147.length : Int) (wrap64 (x54_3 + 1)) a1 a2 x156002_2)) else (impl_CoverOf.l1 k3 a1 a3 t147 x45_2 (wrap64 ((wrap64 (4 * x45_2)) + 2)) x15_3 (wrap64 (4 * a2)) x45_2 t147 (t147.length : Int) (wrap64 (x54_3 + 1)) a1 a2 x156002_2)) = some (r1, r2, r3, r4) := by first | (rw [hji29] at H; exact H) | (simp only [hji29] at H ⊢; exact H)
                            have hji29_ : (if ((rd_T175 t147 x54_3).f3) < ((rd_T175 t147 x54_3).f1) then ((rd_T175 t147 x54_3).f3) else ((rd_T175 t147 x54_3).f1)) = ji29 := hji29
                            by_cases c30 : (ji29) ≤ (wrap64 ((wrap64 (4 * x45_2)) + 2))
                            · rw [if_pos c30] at H
                              have c30b0 : decide ((ji29) ≤ (wrap64 ((wrap64 (4 * x45_2)) + 2))) = true := decide_eq_true c30
                              clear c30
                              obtain ⟨ji31, hji31⟩ : ∃ j_ : Int, (mx ((rd_T175 t147 x54_3).f1) ((rd_T175 t147 x54_3).f3)) = j_ := ⟨_, rfl⟩
                              replace H : (if (wrap64 ((wrap64 (4 * x45_2)) + 2)) < (ji31) then (if x15_3.length < 4398046511104 then (impl_CoverOf.l1 k3 a1 a3 t147 x45_2 (wrap64 ((wrap64 (4 * x45_2)) + 2)) (x15_3 ++ [(⟨(rd_T175 t147 x54_3).f0, (rd_T175 t147 x54_3).f1, (rd_T175 t147 x54_3).f2, (rd_T175 t147 x54_3).f3⟩ : S175)]) (wrap64 (4 * a2)) x45_2 t147 (t147.length : Int) (wrap64 (x54_3 + 1)) a1 a2 x156002_2) else (none)) else (impl_CoverOf.l1 k3 a1 a3 t147 x45_2 (wrap64 ((wrap64 (4 * x45_2)) + 2)) x15_3 (wrap64 (4 * a2)) x45_2 t147 (t147.length : Int) (wrap64 (x54_3 + 1)) a1 a2 x156002_2)) = some (r1, r2, r3, r4) := by first | (rw [hji31] at H; exact H) | (simp only [hji31] at H ⊢; exact H)
                              have hji31_ : (if ((rd_T175 t147 x54_3).f1) < ((rd_T175 t147 x54_3).f3) then ((rd_T175 t147 x54_3).f3) else ((rd_T175 t147 x54_3).f1)) = ji31 := hji31
                              by_cases c32 : (wrap64 ((wrap64 (4 * x45_2)) + 2)) < (ji31)
                              · rw [if_pos c32] at H
                                have c32b0 : decide ((wrap64 ((wrap64 (4 * x45_2)) + 2)) < (ji31)) = true := decide_eq_true c32
                                clear c32
                                by_cases c33 : x15_3.length < 4398046511104
                                · rw [if_pos c33] at H
                                  have LMc33 := Aside0.mk c33
                                  clear c33
                                  obtain ⟨y161, hy161⟩ : ∃ y_ : List (S175), y_ = (x15_3 ++ [(⟨(rd_T175 t147 x54_3).f0, (rd_T175 t147 x54_3).f1, (rd_T175 t147 x54_3).f2, (rd_T175 t147 x54_3).f3⟩ : S175)]) := ⟨_, rfl⟩
                                  replace H : (impl_CoverOf.l1 k3 a1 a3 t147 x45_2 (wrap64 ((wrap64 (4 * x45_2)) + 2)) y161 (wrap64 (4 * a2)) x45_2 t147 (t147.length : Int) (wrap64 (x54_3 + 1)) a1 a2 x156002_2) = some (r1, r2, r3, r4) := by first | (rw [hy161]; with_reducible exact H) | (have H2_ := (Option.bind_some _ _).symm.trans H; rw [hy161]; with_reducible exact H2_) | (have H2_ := (Option.bind_some _ _).symm.trans H; with_reducible exact H2_) | with_reducible exact H | (rw [hy161]; exact H) | exact H
                                  have Ny161 := Aside0.mk hy161
                                  clear hy161
                                  have H' := Aside0.mk H
                                  clear H
                                  have p159 : 0 ≤ (x54_3 : Int) := of_decide_eq_true (by first | (with_reducible assumption) | assumption)
                                  have q159 : x54_3 < (t147.length : Int) := of_decide_eq_true (by first | (with_reducible assumption) | assumption)
                                  obtain ⟨ad159, e159, hx159_0, hx159_1, hx159_2, hx159_3⟩ := at_T175 (Kd.R_reads' HO_52.out).2.2 x54_3 p159 q159
                                  cases e159
                                  replace p159 := eq_true p159
                                  replace q159 := eq_true q159
                                  go_wp2_with (first | ((with_reducible refine gate_dst (N := 17) rfl ?_); (try (refine gate_guard (by rfl) ?_; dsimp only)); refine box_event ?hg (N := 17) ?hd (cs := #[.int .i64 0, .int .i64 0, .int .i64 0, .int .i64 0]) (t := 175) ?hr ?_; (case hd => rfl); (case hg => rfl); (case hr => first | (go_simp; done) | (go_simp; rfl)); intro gb160 hg w34 hbox hb; have n0_ := Aside0.mk (Kd.R_below (Kd.R_elderB (by (with_reducible repeat (first | apply Kd.R_alloc | apply Kd.R_drewN | apply Kd.R_drew)); exact HO_10.out) gb160 (Nat.le_of_eq hg.symm)) hb); have n1_ := Aside0.mk (Kd.R_below (Kd.R_elderB (by (with_reducible repeat (first | apply Kd.R_alloc | apply Kd.R_drewN | apply Kd.R_drew)); exact HO_15.out) gb160 (Nat.le_of_eq hg.symm)) hb); have n2_ := Aside0.mk (Kd.R_below (Kd.R_elderB (by (with_reducible repeat (first | apply Kd.R_alloc | apply Kd.R_drewN | apply Kd.R_drew)); exact HO_52.out) gb160 (Nat.le_of_eq hg.symm)) hb); have n3_ := Aside0.mk (Kd.R_below (by (with_reducible repeat (first | apply Kd.R_alloc | apply Kd.R_drewN | apply Kd.R_drew)); exact HO_156002.out) hb); have n4_ := Aside0.mk (blk_below (g := gb146) (o := .cells #[.int .i64 0, .int .i64 0, .slice none 0 0] 67 (0, 0)) (by (with_reducible repeat (first | refine blk_drewN ?_ _ | refine blk_drew ?_ | refine blk_alloc ?_ _)); exact BK146.out) hb); have n5_ := Aside0.mk (blk_below (g := gb155) (o := .cells #[.int .i64 a1, .int .i64 a2, u156002] 67 (0, 0)) (by (with_reducible repeat (first | refine blk_drewN ?_ _ | refine blk_drew ?_ | refine blk_alloc ?_ _)); exact BK155.out) hb); have n6_ := Aside0.mk (below_step (by repeat (first | (with_reducible first | exact HB.out | apply below_alloc | apply pw_below_drewN | apply below_drew1 | refine below_set ?_ GE146.out | refine below_set ?_ GE155.out) | exact HB.out)) hb); have n7_ := Aside0.mk (hbox); have n8_ := Aside0.mk ((by rw [hg]; exact (below_size (by repeat (first | (with_reducible first | exact HB.out | apply below_alloc | apply pw_below_drewN | apply below_drew1 | refine below_set ?_ GE146.out | refine below_set ?_ GE155.out) | exact HB.out))) : w.heap.size ≤ gb160)); have n9_ := Aside0.mk ((by rw [hg]; exact (below_size (by repeat (first | (with_reducible first | exact HB.out | apply below_alloc | apply pw_below_drewN | apply below_drew1 | refine below_set ?_ GE146.out | refine below_set ?_ GE155.out) | exact HB.out))) : w.heap.size ≤ gb160)); have n10_ := Aside0.mk ((by rw [hg]; exact Nat.ne_of_lt (blk_lt (g := gb146) (o := .cells #[.int .i64 0, .int .i64 0, .slice none 0 0] 67 (0, 0)) (by (with_reducible repeat (first | refine blk_drewN ?_ _ | refine blk_drew ?_ | refine blk_alloc ?_ _)); exact BK146.out)) : gb146 ≠ gb160)); have n11_ := Aside0.mk ((by rw [hg]; exact Nat.ne_of_gt (blk_lt (g := gb146) (o := .cells #[.int .i64 0, .int .i64 0, .slice none 0 0] 67 (0, 0)) (by (with_reducible repeat (first | refine blk_drewN ?_ _ | refine blk_drew ?_ | refine blk_alloc ?_ _)); exact BK146.out)) : gb160 ≠ gb146)); have n12_ := Aside0.mk ((by rw [hg]; exact Nat.ne_of_lt (blk_lt (g := gb155) (o := .cells #[.int .i64 a1, .int .i64 a2, u156002] 67 (0, 0)) (by (with_reducible repeat (first | refine blk_drewN ?_ _ | refine blk_drew ?_ | refine blk_alloc ?_ _)); exact BK155.out)) : gb155 ≠ gb160)); have n13_ := Aside0.mk ((by rw [hg]; exact Nat.ne_of_gt (blk_lt (g := gb155) (o := .cells #[.int .i64 a1, .int .i64 a2, u156002] 67 (0, 0)) (by (with_reducible repeat (first | refine blk_drewN ?_ _ | refine blk_drew ?_ | refine blk_alloc ?_ _)); exact BK155.out)) : gb160 ≠ gb155)); clear HO_10; clear HO_15; clear HO_52; clear HO_156002; clear BK146; clear BK155; clear HB; have HO_10 := n0_; have HO_15 := n1_; have HO_52 := n2_; have HO_156002 := n3_; have BK146 := n4_; have BK155 := n5_; have HB := n6_; have BK160 := n7_; have GW160 := n8_; have GE160 := n9_; have NB146_160 := n10_; have NB160_146 := n11_; have NB155_160 := n12_; have NB160_155 := n13_; clear n0_ n1_ n2_ n3_ n4_ n5_ n6_ n7_ n8_ n9_ n10_ n11_ n12_ n13_; clear hb hbox hg; have hnb35 := NB160_146.out; have hnc35 := NB146_160.out; have hnb36 := NB160_155.out; have hnc36 := NB155_160.out; have hcz37_0 : w34.cell? ⟨gb160, 0, none⟩ = some (.int .i64 0) := (blk_cell BK160.out 0).trans rfl; have hcz37_1 : w34.cell? ⟨gb160, 1, none⟩ = some (.int .i64 0) := (blk_cell BK160.out 1).trans rfl; have hcz37_2 : w34.cell? ⟨gb160, 2, none⟩ = some (.int .i64 0) := (blk_cell BK160.out 2).trans rfl; have hcz37_3 : w34.cell? ⟨gb160, 3, none⟩ = some (.int .i64 0) := (blk_cell BK160.out 3).trans rfl; have hfz37_0 := blk_frozen BK160.out 0; have hfz37_1 := blk_frozen BK160.out 1; have hfz37_2 := blk_frozen BK160.out 2; have hfz37_3 := blk_frozen BK160.out 3) | ((with_reducible refine gate_builtin (b := .append) (xs := #[.tmp 74, .tmp 76]) rfl ?_); (try (refine gate_guard (by rfl) ?_; dsimp only)); at_builtin; refine Kd.R_append k175 (w0 := w) w.heap.size rfl (.tmp 74) (.tmp 76) 170 175 (.agg #[(.int .i64 0), (.int .i64 0), (.int .i64 0), (.int .i64 0)]) 32 rfl Try.underlying170 info175 rfl (by decide) (by omega) u15 x15_3 (⟨(rd_T175 t147 x54_3).f0, (rd_T175 t147 x54_3).f1, (rd_T175 t147 x54_3).f2, (rd_T175 t147 x54_3).f3⟩ : S175) [.int .i64 ((rd_T175 t147 x54_3).f0), .int .i64 ((rd_T175 t147 x54_3).f1), .int .i64 ((rd_T175 t147 x54_3).f2), .int .i64 ((rd_T175 t147 x54_3).f3)] (fun k_ => some k_ ≠ (.slice (some ad159) t147.length co25 : Value).ownBlock ∧ some k_ ≠ (.slice (some ad159) t147.length co25 : Value).ownBlock ∧ k_ ≠ gb160) (fun _ => False) rfl (by first | (go_simp; done) | (go_simp; rfl)) ?aP (fun _ hk => hk.elim) ?aF ?aO ?aB ?aS ?aL ?_; (case aP => exact k175_mkM _ _ _ (⟨(rd_T175 t147 x54_3).f0, (rd_T175 t147 x54_3).f1, (rd_T175 t147 x54_3).f2, (rd_T175 t147 x54_3).f3⟩ : S175)); (case aB => exact (by repeat (first | (with_reducible first | exact HB.out | apply below_alloc | apply pw_below_drewN | apply below_drew1 | refine below_set ?_ GE146.out | refine below_set ?_ GE155.out | refine below_set ?_ GE160.out) | exact HB.out))); (case aF => exact (fun k_ hk => ⟨Kd.fresh' (Kd.R_lt (by (with_reducible repeat (first | apply Kd.R_alloc | apply Kd.R_drewN | apply Kd.R_drew)); exact (Kd.R_mono (Kd.R_far (p := ⟨gb160, 3, none⟩) (Kd.R_far (p := ⟨gb160, 2, none⟩) (Kd.R_far (p := ⟨gb160, 1, none⟩) (Kd.R_far (p := ⟨gb160, 0, none⟩) (Kd.R_mono HO_10.out (fun k_ hk => (⟨hk, hk.2⟩ : _ ∧ k_ ≠ gb160))) (fun _ hk => hk.2) (.int .i64 ((rd_T175 t147 x54_3).f0))) (fun _ hk => hk.2) (.int .i64 ((rd_T175 t147 x54_3).f1))) (fun _ hk => hk.2) (.int .i64 ((rd_T175 t147 x54_3).f2))) (fun _ hk => hk.2) (.int .i64 ((rd_T175 t147 x54_3).f3))) (fun _ h_ => h_.1)))) k_ hk, Kd.fresh' (Kd.R_lt (by (with_reducible repeat (first | apply Kd.R_alloc | apply Kd.R_drewN | apply Kd.R_drew)); exact (Kd.R_mono (Kd.R_far (p := ⟨gb160, 3, none⟩) (Kd.R_far (p := ⟨gb160, 2, none⟩) (Kd.R_far (p := ⟨gb160, 1, none⟩) (Kd.R_far (p := ⟨gb160, 0, none⟩) (Kd.R_mono HO_52.out (fun k_ hk => (⟨hk, hk.2⟩ : _ ∧ k_ ≠ gb160))) (fun _ hk => hk.2) (.int .i64 ((rd_T175 t147 x54_3).f0))) (fun _ hk => hk.2) (.int .i64 ((rd_T175 t147 x54_3).f1))) (fun _ hk => hk.2) (.int .i64 ((rd_T175 t147 x54_3).f2))) (fun _ hk => hk.2) (.int .i64 ((rd_T175 t147 x54_3).f3))) (fun _ h_ => h_.1)))) k_ hk, Kd.freshB (g := gb160) (o := .cells #[.int .i64 ((rd_T175 t147 x54_3).f0), .int .i64 ((rd_T175 t147 x54_3).f1), .int .i64 ((rd_T175 t147 x54_3).f2), .int .i64 ((rd_T175 t147 x54_3).f3)] 175 (0, 0)) (by (with_reducible repeat (first | refine blk_drewN ?_ _ | refine blk_drew ?_ | refine blk_alloc ?_ _)); refine blk_put (cs := #[.int .i64 ((rd_T175 t147 x54_3).f0), .int .i64 ((rd_T175 t147 x54_3).f1), .int .i64 ((rd_T175 t147 x54_3).f2), .int .i64 0]) ?_ 3 _ rfl; (with_reducible repeat (first | refine blk_drewN ?_ _ | refine blk_drew ?_ | refine blk_alloc ?_ _)); refine blk_put (cs := #[.int .i64 ((rd_T175 t147 x54_3).f0), .int .i64 ((rd_T175 t147 x54_3).f1), .int .i64 0, .int .i64 0]) ?_ 2 _ rfl; (with_reducible repeat (first | refine blk_drewN ?_ _ | refine blk_drew ?_ | refine blk_alloc ?_ _)); refine blk_put (cs := #[.int .i64 ((rd_T175 t147 x54_3).f0), .int .i64 0, .int .i64 0, .int .i64 0]) ?_ 1 _ rfl; (with_reducible repeat (first | refine blk_drewN ?_ _ | refine blk_drew ?_ | refine blk_alloc ?_ _)); refine blk_put (cs := #[.int .i64 0, .int .i64 0, .int .i64 0, .int .i64 0]) ?_ 0 _ rfl; (with_reducible repeat (first | refine blk_drewN ?_ _ | refine blk_drew ?_ | refine blk_alloc ?_ _)); exact BK160.out) k_ hk⟩)); (case aO => exact (by (with_reducible repeat (first | apply Kd.R_alloc | apply Kd.R_drewN | apply Kd.R_drew)); exact Kd.R_mono (Kd.R_far (p := ⟨gb160, 3, none⟩) (Kd.R_far (p := ⟨gb160, 2, none⟩) (Kd.R_far (p := ⟨gb160, 1, none⟩) (Kd.R_far (p := ⟨gb160, 0, none⟩) (Kd.R_mono HO_15.out (fun k_ hk => (⟨hk, hk.2⟩ : _ ∧ k_ ≠ gb160))) (fun _ hk => hk.2) (.int .i64 ((rd_T175 t147 x54_3).f0))) (fun _ hk => hk.2) (.int .i64 ((rd_T175 t147 x54_3).f1))) (fun _ hk => hk.2) (.int .i64 ((rd_T175 t147 x54_3).f2))) (fun _ hk => hk.2) (.int .i64 ((rd_T175 t147 x54_3).f3))) (fun _ hk => ⟨hk.1.1.1, ⟨hk.1.1.2, hk.1.2⟩⟩))); (case aS => exact (below_size (by repeat (first | (with_reducible first | exact HB.out | apply below_alloc | apply pw_below_drewN | apply below_drew1 | refine below_set ?_ GE146.out | refine below_set ?_ GE155.out | refine below_set ?_ GE160.out) | exact HB.out)))); (case aL => have := LMc33.out; omega); intro v162 w38 ho hb hg hat; rw [← Ny161.out] at ho; have n0_ := Aside0.mk (Kd.R_after (ok := (fun k_ => k_ ≠ gb160)) (by (with_reducible repeat (first | apply Kd.R_alloc | apply Kd.R_drewN | apply Kd.R_drew)); exact Kd.R_mono (Kd.R_far (p := ⟨gb160, 3, none⟩) (Kd.R_far (p := ⟨gb160, 2, none⟩) (Kd.R_far (p := ⟨gb160, 1, none⟩) (Kd.R_far (p := ⟨gb160, 0, none⟩) (Kd.R_mono HO_10.out (fun k_ hk => (⟨hk, hk.2⟩ : _ ∧ k_ ≠ gb160))) (fun _ hk => hk.2) (.int .i64 ((rd_T175 t147 x54_3).f0))) (fun _ hk => hk.2) (.int .i64 ((rd_T175 t147 x54_3).f1))) (fun _ hk => hk.2) (.int .i64 ((rd_T175 t147 x54_3).f2))) (fun _ hk => hk.2) (.int .i64 ((rd_T175 t147 x54_3).f3))) (fun _ hk => ⟨hk.1.2, hk.1.1⟩)) hg hat); have n1_ := Aside0.mk (Kd.R_after (ok := (fun k_ => k_ ≠ gb160)) (by (with_reducible repeat (first | apply Kd.R_alloc | apply Kd.R_drewN | apply Kd.R_drew)); exact Kd.R_mono (Kd.R_far (p := ⟨gb160, 3, none⟩) (Kd.R_far (p := ⟨gb160, 2, none⟩) (Kd.R_far (p := ⟨gb160, 1, none⟩) (Kd.R_far (p := ⟨gb160, 0, none⟩) (Kd.R_mono HO_52.out (fun k_ hk => (⟨hk, hk.2⟩ : _ ∧ k_ ≠ gb160))) (fun _ hk => hk.2) (.int .i64 ((rd_T175 t147 x54_3).f0))) (fun _ hk => hk.2) (.int .i64 ((rd_T175 t147 x54_3).f1))) (fun _ hk => hk.2) (.int .i64 ((rd_T175 t147 x54_3).f2))) (fun _ hk => hk.2) (.int .i64 ((rd_T175 t147 x54_3).f3))) (fun _ hk => ⟨hk.1.2, hk.1.1⟩)) hg hat); have n2_ := Aside0.mk (Kd.R_over' (by (with_reducible repeat (first | apply Kd.R_alloc | apply Kd.R_drewN | apply Kd.R_drew)); exact (Kd.R_mono (Kd.R_far (p := ⟨gb160, 3, none⟩) (Kd.R_far (p := ⟨gb160, 2, none⟩) (Kd.R_far (p := ⟨gb160, 1, none⟩) (Kd.R_far (p := ⟨gb160, 0, none⟩) (Kd.R_types HO_156002.out BK160.out (by decide)) (fun _ hk => hk.2) (.int .i64 ((rd_T175 t147 x54_3).f0))) (fun _ hk => hk.2) (.int .i64 ((rd_T175 t147 x54_3).f1))) (fun _ hk => hk.2) (.int .i64 ((rd_T175 t147 x54_3).f2))) (fun _ hk => hk.2) (.int .i64 ((rd_T175 t147 x54_3).f3))) (fun _ h_ => h_.1))) (Kd.R_typed (by (with_reducible repeat (first | apply Kd.R_alloc | apply Kd.R_drewN | apply Kd.R_drew)); exact (Kd.R_mono (Kd.R_far (p := ⟨gb160, 3, none⟩) (Kd.R_far (p := ⟨gb160, 2, none⟩) (Kd.R_far (p := ⟨gb160, 1, none⟩) (Kd.R_far (p := ⟨gb160, 0, none⟩) (Kd.R_mono HO_15.out (fun k_ hk => (⟨hk, hk.2⟩ : _ ∧ k_ ≠ gb160))) (fun _ hk => hk.2) (.int .i64 ((rd_T175 t147 x54_3).f0))) (fun _ hk => hk.2) (.int .i64 ((rd_T175 t147 x54_3).f1))) (fun _ hk => hk.2) (.int .i64 ((rd_T175 t147 x54_3).f2))) (fun _ hk => hk.2) (.int .i64 ((rd_T175 t147 x54_3).f3))) (fun _ h_ => h_.1)))) (by decide) hg); have n3_ := Aside0.mk (blk_grown (g := gb146) (o := .cells #[.int .i64 0, .int .i64 0, .slice none 0 0] 67 (0, 0)) (by (with_reducible repeat (first | refine blk_drewN ?_ _ | refine blk_drew ?_ | refine blk_alloc ?_ _)); refine blk_far ?_ NB146_160.out _; (with_reducible repeat (first | refine blk_drewN ?_ _ | refine blk_drew ?_ | refine blk_alloc ?_ _)); refine blk_far ?_ NB146_160.out _; (with_reducible repeat (first | refine blk_drewN ?_ _ | refine blk_drew ?_ | refine blk_alloc ?_ _)); refine blk_far ?_ NB146_160.out _; (with_reducible repeat (first | refine blk_drewN ?_ _ | refine blk_drew ?_ | refine blk_alloc ?_ _)); refine blk_far ?_ NB146_160.out _; (with_reducible repeat (first | refine blk_drewN ?_ _ | refine blk_drew ?_ | refine blk_alloc ?_ _)); exact BK146.out) hg (Kd.R_ne HO_15.out BK146.out (by decide))); have n4_ := Aside0.mk (blk_grown (g := gb155) (o := .cells #[.int .i64 a1, .int .i64 a2, u156002] 67 (0, 0)) (by (with_reducible repeat (first | refine blk_drewN ?_ _ | refine blk_drew ?_ | refine blk_alloc ?_ _)); refine blk_far ?_ NB155_160.out _; (with_reducible repeat (first | refine blk_drewN ?_ _ | refine blk_drew ?_ | refine blk_alloc ?_ _)); refine blk_far ?_ NB155_160.out _; (with_reducible repeat (first | refine blk_drewN ?_ _ | refine blk_drew ?_ | refine blk_alloc ?_ _)); refine blk_far ?_ NB155_160.out _; (with_reducible repeat (first | refine blk_drewN ?_ _ | refine blk_drew ?_ | refine blk_alloc ?_ _)); refine blk_far ?_ NB155_160.out _; (with_reducible repeat (first | refine blk_drewN ?_ _ | refine blk_drew ?_ | refine blk_alloc ?_ _)); exact BK155.out) hg (Kd.R_ne HO_15.out BK155.out (by decide))); have n5_ := Aside0.mk (blk_grown (g := gb160) (o := .cells #[.int .i64 ((rd_T175 t147 x54_3).f0), .int .i64 ((rd_T175 t147 x54_3).f1), .int .i64 ((rd_T175 t147 x54_3).f2), .int .i64 ((rd_T175 t147 x54_3).f3)] 175 (0, 0)) (by (with_reducible repeat (first | refine blk_drewN ?_ _ | refine blk_drew ?_ | refine blk_alloc ?_ _)); refine blk_put (cs := #[.int .i64 ((rd_T175 t147 x54_3).f0), .int .i64 ((rd_T175 t147 x54_3).f1), .int .i64 ((rd_T175 t147 x54_3).f2), .int .i64 0]) ?_ 3 _ rfl; (with_reducible repeat (first | refine blk_drewN ?_ _ | refine blk_drew ?_ | refine blk_alloc ?_ _)); refine blk_put (cs := #[.int .i64 ((rd_T175 t147 x54_3).f0), .int .i64 ((rd_T175 t147 x54_3).f1), .int .i64 0, .int .i64 0]) ?_ 2 _ rfl; (with_reducible repeat (first | refine blk_drewN ?_ _ | refine blk_drew ?_ | refine blk_alloc ?_ _)); refine blk_put (cs := #[.int .i64 ((rd_T175 t147 x54_3).f0), .int .i64 0, .int .i64 0, .int .i64 0]) ?_ 1 _ rfl; (with_reducible repeat (first | refine blk_drewN ?_ _ | refine blk_drew ?_ | refine blk_alloc ?_ _)); refine blk_put (cs := #[.int .i64 0, .int .i64 0, .int .i64 0, .int .i64 0]) ?_ 0 _ rfl; (with_reducible repeat (first | refine blk_drewN ?_ _ | refine blk_drew ?_ | refine blk_alloc ?_ _)); exact BK160.out) hg (Kd.R_away HO_15.out (fun _ hk => hk.2))); have n6_ := Aside0.mk (hb); have n7_ := Aside0.mk (ho); clear HO_10; clear HO_52; clear HO_156002; clear BK146; clear BK155; clear BK160; clear HB; clear HO_15; have HO_10 := n0_; have HO_52 := n1_; have HO_156002 := n2_; have BK146 := n3_; have BK155 := n4_; have BK160 := n5_; have HB := n6_; have HO163 := n7_; clear n0_ n1_ n2_ n3_ n4_ n5_ n6_ n7_; clear ho hb hg hat))
                                  go_roundg k3
                                  case measure => have := HJ5.out; have := HK2.out; have := HK3.out; omega
                                  case rel => exact ⟨(y161), (wrap64 (x54_3 + 1)), (by first | rfl | (simp; done) | (simp [*]; done)), H', ⟨by have := HJ5.out; have := HK2.out; have := HK3.out; omega⟩, ⟨by (with_reducible repeat (first | apply Kd.R_alloc | apply Kd.R_drewN | apply Kd.R_drew)); exact Kd.R_mono HO_10.out (fun _ hk => hk.2)⟩, ⟨by (with_reducible repeat (first | apply Kd.R_alloc | apply Kd.R_drewN | apply Kd.R_drew)); exact Kd.R_mono HO163.out (fun _ hk => ⟨hk.1, hk.2.1⟩)⟩, ⟨by (with_reducible repeat (first | apply Kd.R_alloc | apply Kd.R_drewN | apply Kd.R_drew)); exact Kd.R_mono HO_52.out (fun _ hk => hk.2)⟩, ⟨by (with_reducible repeat (first | apply Kd.R_alloc | apply Kd.R_drewN | apply Kd.R_drew)); exact HO_156002.out⟩, ⟨by (with_reducible repeat (first | refine blk_drewN ?_ _ | refine blk_drew ?_ | refine blk_alloc ?_ _)); exact BK146.out⟩, ⟨by (with_reducible repeat (first | refine blk_drewN ?_ _ | refine blk_drew ?_ | refine blk_alloc ?_ _)); exact BK155.out⟩, ⟨by repeat (first | (with_reducible first | exact HB.out | apply below_alloc | apply pw_below_drewN | apply below_drew1 | refine below_set ?_ GE146.out | refine below_set ?_ GE155.out | refine below_set ?_ GE160.out) | exact HB.out)⟩⟩
                                · rw [if_neg c33] at H
                                  exact absurd H (by simp)
                              · rw [if_neg c32] at H
                                have c32b0 : decide ((wrap64 ((wrap64 (4 * x45_2)) + 2)) < (ji31)) = false := decide_eq_false c32
                                clear c32
                                have H' := Aside0.mk H
                                clear H
                                have p159 : 0 ≤ (x54_3 : Int) := of_decide_eq_true (by first | (with_reducible assumption) | assumption)
                                have q159 : x54_3 < (t147.length : Int) := of_decide_eq_true (by first | (with_reducible assumption) | assumption)
                                obtain ⟨ad159, e159, hx159_0, hx159_1, hx159_2, hx159_3⟩ := at_T175 (Kd.R_reads' HO_52.out).2.2 x54_3 p159 q159
                                cases e159
                                replace p159 := eq_true p159
                                replace q159 := eq_true q159
                                go_wp2_with (first | ((with_reducible refine gate_dst (N := 17) rfl ?_); (try (refine gate_guard (by rfl) ?_; dsimp only)); refine box_event ?hg (N := 17) ?hd (cs := #[.int .i64 0, .int .i64 0, .int .i64 0, .int .i64 0]) (t := 175) ?hr ?_; (case hd => rfl); (case hg => rfl); (case hr => first | (go_simp; done) | (go_simp; rfl)); intro gb160 hg w39 hbox hb; have n0_ := Aside0.mk (Kd.R_below (Kd.R_elderB (by (with_reducible repeat (first | apply Kd.R_alloc | apply Kd.R_drewN | apply Kd.R_drew)); exact HO_10.out) gb160 (Nat.le_of_eq hg.symm)) hb); have n1_ := Aside0.mk (Kd.R_below (Kd.R_elderB (by (with_reducible repeat (first | apply Kd.R_alloc | apply Kd.R_drewN | apply Kd.R_drew)); exact HO_15.out) gb160 (Nat.le_of_eq hg.symm)) hb); have n2_ := Aside0.mk (Kd.R_below (Kd.R_elderB (by (with_reducible repeat (first | apply Kd.R_alloc | apply Kd.R_drewN | apply Kd.R_drew)); exact HO_52.out) gb160 (Nat.le_of_eq hg.symm)) hb); have n3_ := Aside0.mk (Kd.R_below (by (with_reducible repeat (first | apply Kd.R_alloc | apply Kd.R_drewN | apply Kd.R_drew)); exact HO_156002.out) hb); have n4_ := Aside0.mk (blk_below (g := gb146) (o := .cells #[.int .i64 0, .int .i64 0, .slice none 0 0] 67 (0, 0)) (by (with_reducible repeat (first | refine blk_drewN ?_ _ | refine blk_drew ?_ | refine blk_alloc ?_ _)); exact BK146.out) hb); have n5_ := Aside0.mk (blk_below (g := gb155) (o := .cells #[.int .i64 a1, .int .i64 a2, u156002] 67 (0, 0)) (by (with_reducible repeat (first | refine blk_drewN ?_ _ | refine blk_drew ?_ | refine blk_alloc ?_ _)); exact BK155.out) hb); have n6_ := Aside0.mk (below_step (by repeat (first | (with_reducible first | exact HB.out | apply below_alloc | apply pw_below_drewN | apply below_drew1 | refine below_set ?_ GE146.out | refine below_set ?_ GE155.out) | exact HB.out)) hb); have n7_ := Aside0.mk (hbox); have n8_ := Aside0.mk ((by rw [hg]; exact (below_size (by repeat (first | (with_reducible first | exact HB.out | apply below_alloc | apply pw_below_drewN | apply below_drew1 | refine below_set ?_ GE146.out | refine below_set ?_ GE155.out) | exact HB.out))) : w.heap.size ≤ gb160)); have n9_ := Aside0.mk ((by rw [hg]; exact (below_size (by repeat (first | (with_reducible first | exact HB.out | apply below_alloc | apply pw_below_drewN | apply below_drew1 | refine below_set ?_ GE146.out | refine below_set ?_ GE155.out) | exact HB.out))) : w.heap.size ≤ gb160)); have n10_ := Aside0.mk ((by rw [hg]; exact Nat.ne_of_lt (blk_lt (g := gb146) (o := .cells #[.int .i64 0, .int .i64 0, .slice none 0 0] 67 (0, 0)) (by (with_reducible repeat (first | refine blk_drewN ?_ _ | refine blk_drew ?_ | refine blk_alloc ?_ _)); exact BK146.out)) : gb146 ≠ gb160)); have n11_ := Aside0.mk ((by rw [hg]; exact Nat.ne_of_gt (blk_lt (g := gb146) (o := .cells #[.int .i64 0, .int .i64 0, .slice none 0 0] 67 (0, 0)) (by (with_reducible repeat (first | refine blk_drewN ?_ _ | refine blk_drew ?_ | refine blk_alloc ?_ _)); exact BK146.out)) : gb160 ≠ gb146)); have n12_ := Aside0.mk ((by rw [hg]; exact Nat.ne_of_lt (blk_lt (g := gb155) (o := .cells #[.int .i64 a1, .int .i64 a2, u156002] 67 (0, 0)) (by (with_reducible repeat (first | refine blk_drewN ?_ _ | refine blk_drew ?_ | refine blk_alloc ?_ _)); exact BK155.out)) : gb155 ≠ gb160)); have n13_ := Aside0.mk ((by rw [hg]; exact Nat.ne_of_gt (blk_lt (g := gb155) (o := .cells #[.int .i64 a1, .int .i64 a2, u156002] 67 (0, 0)) (by (with_reducible repeat (first | refine blk_drewN ?_ _ | refine blk_drew ?_ | refine blk_alloc ?_ _)); exact BK155.out)) : gb160 ≠ gb155)); clear HO_10; clear HO_15; clear HO_52; clear HO_156002; clear BK146; clear BK155; clear HB; have HO_10 := n0_; have HO_15 := n1_; have HO_52 := n2_; have HO_156002 := n3_; have BK146 := n4_; have BK155 := n5_; have HB := n6_; have BK160 := n7_; have GW160 := n8_; have GE160 := n9_; have NB146_160 := n10_; have NB160_146 := n11_; have NB155_160 := n12_; have NB160_155 := n13_; clear n0_ n1_ n2_ n3_ n4_ n5_ n6_ n7_ n8_ n9_ n10_ n11_ n12_ n13_; clear hb hbox hg; have hnb40 := NB160_146.out; have hnc40 := NB146_160.out; have hnb41 := NB160_155.out; have hnc41 := NB155_160.out; have hcz42_0 : w39.cell? ⟨gb160, 0, none⟩ = some (.int .i64 0) := (blk_cell BK160.out 0).trans rfl; have hcz42_1 : w39.cell? ⟨gb160, 1, none⟩ = some (.int .i64 0) := (blk_cell BK160.out 1).trans rfl; have hcz42_2 : w39.cell? ⟨gb160, 2, none⟩ = some (.int .i64 0) := (blk_cell BK160.out 2).trans rfl; have hcz42_3 : w39.cell? ⟨gb160, 3, none⟩ = some (.int .i64 0) := (blk_cell BK160.out 3).trans rfl; have hfz42_0 := blk_frozen BK160.out 0; have hfz42_1 := blk_frozen BK160.out 1; have hfz42_2 := blk_frozen BK160.out 2; have hfz42_3 := blk_frozen BK160.out 3))
                                go_roundg k3
                                case measure => have := HJ5.out; have := HK2.out; have := HK3.out; omega
                                case rel => exact ⟨(x15_3), (wrap64 (x54_3 + 1)), (by first | rfl | (simp; done) | (simp [*]; done)), H', ⟨by have := HJ5.out; have := HK2.out; have := HK3.out; omega⟩, ⟨by (with_reducible repeat (first | apply Kd.R_alloc | apply Kd.R_drewN | apply Kd.R_drew)); exact Kd.R_mono (Kd.R_far (p := ⟨gb160, 3, none⟩) (Kd.R_far (p := ⟨gb160, 2, none⟩) (Kd.R_far (p := ⟨gb160, 1, none⟩) (Kd.R_far (p := ⟨gb160, 0, none⟩) (Kd.R_mono HO_10.out (fun k_ hk => (⟨hk, hk.2⟩ : _ ∧ k_ ≠ gb160))) (fun _ hk => hk.2) (.int .i64 ((rd_T175 t147 x54_3).f0))) (fun _ hk => hk.2) (.int .i64 ((rd_T175 t147 x54_3).f1))) (fun _ hk => hk.2) (.int .i64 ((rd_T175 t147 x54_3).f2))) (fun _ hk => hk.2) (.int .i64 ((rd_T175 t147 x54_3).f3))) (fun _ hk => hk.1.1)⟩, ⟨by (with_reducible repeat (first | apply Kd.R_alloc | apply Kd.R_drewN | apply Kd.R_drew)); exact Kd.R_mono (Kd.R_far (p := ⟨gb160, 3, none⟩) (Kd.R_far (p := ⟨gb160, 2, none⟩) (Kd.R_far (p := ⟨gb160, 1, none⟩) (Kd.R_far (p := ⟨gb160, 0, none⟩) (Kd.R_mono HO_15.out (fun k_ hk => (⟨hk, hk.2⟩ : _ ∧ k_ ≠ gb160))) (fun _ hk => hk.2) (.int .i64 ((rd_T175 t147 x54_3).f0))) (fun _ hk => hk.2) (.int .i64 ((rd_T175 t147 x54_3).f1))) (fun _ hk => hk.2) (.int .i64 ((rd_T175 t147 x54_3).f2))) (fun _ hk => hk.2) (.int .i64 ((rd_T175 t147 x54_3).f3))) (fun _ hk => ⟨hk.1.1.1, hk.1.1.2⟩)⟩, ⟨by (with_reducible repeat (first | apply Kd.R_alloc | apply Kd.R_drewN | apply Kd.R_drew)); exact Kd.R_mono (Kd.R_far (p := ⟨gb160, 3, none⟩) (Kd.R_far (p := ⟨gb160, 2, none⟩) (Kd.R_far (p := ⟨gb160, 1, none⟩) (Kd.R_far (p := ⟨gb160, 0, none⟩) (Kd.R_mono HO_52.out (fun k_ hk => (⟨hk, hk.2⟩ : _ ∧ k_ ≠ gb160))) (fun _ hk => hk.2) (.int .i64 ((rd_T175 t147 x54_3).f0))) (fun _ hk => hk.2) (.int .i64 ((rd_T175 t147 x54_3).f1))) (fun _ hk => hk.2) (.int .i64 ((rd_T175 t147 x54_3).f2))) (fun _ hk => hk.2) (.int .i64 ((rd_T175 t147 x54_3).f3))) (fun _ hk => hk.1.1)⟩, ⟨by (with_reducible repeat (first | apply Kd.R_alloc | apply Kd.R_drewN | apply Kd.R_drew)); exact Kd.R_mono (Kd.R_far (p := ⟨gb160, 3, none⟩) (Kd.R_far (p := ⟨gb160, 2, none⟩) (Kd.R_far (p := ⟨gb160, 1, none⟩) (Kd.R_far (p := ⟨gb160, 0, none⟩) (Kd.R_types HO_156002.out BK160.out (by decide)) (fun _ hk => hk.2) (.int .i64 ((rd_T175 t147 x54_3).f0))) (fun _ hk => hk.2) (.int .i64 ((rd_T175 t147 x54_3).f1))) (fun _ hk => hk.2) (.int .i64 ((rd_T175 t147 x54_3).f2))) (fun _ hk => hk.2) (.int .i64 ((rd_T175 t147 x54_3).f3))) (fun _ hk => trivial)⟩, ⟨by (with_reducible repeat (first | refine blk_drewN ?_ _ | refine blk_drew ?_ | refine blk_alloc ?_ _)); refine blk_far ?_ NB146_160.out _; (with_reducible repeat (first | refine blk_drewN ?_ _ | refine blk_drew ?_ | refine blk_alloc ?_ _)); refine blk_far ?_ NB146_160.out _; (with_reducible repeat (first | refine blk_drewN ?_ _ | refine blk_drew ?_ | refine blk_alloc ?_ _)); refine blk_far ?_ NB146_160.out _; (with_reducible repeat (first | refine blk_drewN ?_ _ | refine blk_drew ?_ | refine blk_alloc ?_ _)); refine blk_far ?_ NB146_160.out _; (with_reducible repeat (first | refine blk_drewN ?_ _ | refine blk_drew ?_ | refine blk_alloc ?_ _)); exact BK146.out⟩, ⟨by (with_reducible repeat (first | refine blk_drewN ?_ _ | refine blk_drew ?_ | refine blk_alloc ?_ _)); refine blk_far ?_ NB155_160.out _; (with_reducible repeat (first | refine blk_drewN ?_ _ | refine blk_drew ?_ | refine blk_alloc ?_ _)); refine blk_far ?_ NB155_160.out _; (with_reducible repeat (first | refine blk_drewN ?_ _ | refine blk_drew ?_ | refine blk_alloc ?_ _)); refine blk_far ?_ NB155_160.out _; (with_reducible repeat (first | refine blk_drewN ?_ _ | refine blk_drew ?_ | refine blk_alloc ?_ _)); refine blk_far ?_ NB155_160.out _; (with_reducible repeat (first | refine blk_drewN ?_ _ | refine blk_drew ?_ | refine blk_alloc ?_ _)); exact BK155.out⟩, ⟨by repeat (first | (with_reducible first | exact HB.out | apply below_alloc | apply pw_below_drewN | apply below_drew1 | refine below_set ?_ GE146.out | refine below_set ?_ GE155.out | refine below_set ?_ GE160.out) | exact HB.out)⟩⟩
                            · rw [if_neg c30] at H
                              have c30b0 : decide ((ji29) ≤ (wrap64 ((wrap64 (4 * x45_2)) + 2))) = false := decide_eq_false c30
                              clear c30
                              have H' := Aside0.mk H
                              clear H
                              have p159 : 0 ≤ (x54_3 : Int) := of_decide_eq_true (by first | (with_reducible assumption) | assumption)
                              have q159 : x54_3 < (t147.length : Int) := of_decide_eq_true (by first | (with_reducible assumption) | assumption)
                              obtain ⟨ad159, e159, hx159_0, hx159_1, hx159_2, hx159_3⟩ := at_T175 (Kd.R_reads' HO_52.out).2.2 x54_3 p159 q159
                              cases e159
                              replace p159 := eq_true p159
                              replace q159 := eq_true q159
                              go_wp2_with (first | ((with_reducible refine gate_dst (N := 17) rfl ?_); (try (refine gate_guard (by rfl) ?_; dsimp only)); refine box_event ?hg (N := 17) ?hd (cs := #[.int .i64 0, .int .i64 0, .int .i64 0, .int .i64 0]) (t := 175) ?hr ?_; (case hd => rfl); (case hg => rfl); (case hr => first | (go_simp; done) | (go_simp; rfl)); intro gb160 hg w43 hbox hb; have n0_ := Aside0.mk (Kd.R_below (Kd.R_elderB (by (with_reducible repeat (first | apply Kd.R_alloc | apply Kd.R_drewN | apply Kd.R_drew)); exact HO_10.out) gb160 (Nat.le_of_eq hg.symm)) hb); have n1_ := Aside0.mk (Kd.R_below (Kd.R_elderB (by (with_reducible repeat (first | apply Kd.R_alloc | apply Kd.R_drewN | apply Kd.R_drew)); exact HO_15.out) gb160 (Nat.le_of_eq hg.symm)) hb); have n2_ := Aside0.mk (Kd.R_below (Kd.R_elderB (by (with_reducible repeat (first | apply Kd.R_alloc | apply Kd.R_drewN | apply Kd.R_drew)); exact HO_52.out) gb160 (Nat.le_of_eq hg.symm)) hb); have n3_ := Aside0.mk (Kd.R_below (by (with_reducible repeat (first | apply Kd.R_alloc | apply Kd.R_drewN | apply Kd.R_drew)); exact HO_156002.out) hb); have n4_ := Aside0.mk (blk_below (g := gb146) (o := .cells #[.int .i64 0, .int .i64 0, .slice none 0 0] 67 (0, 0)) (by (with_reducible repeat (first | refine blk_drewN ?_ _ | refine blk_drew ?_ | refine blk_alloc ?_ _)); exact BK146.out) hb); have n5_ := Aside0.mk (blk_below (g := gb155) (o := .cells #[.int .i64 a1, .int .i64 a2, u156002] 67 (0, 0)) (by (with_reducible repeat (first | refine blk_drewN ?_ _ | refine blk_drew ?_ | refine blk_alloc ?_ _)); exact BK155.out) hb); have n6_ := Aside0.mk (below_step (by repeat (first | (with_reducible first | exact HB.out | apply below_alloc | apply pw_below_drewN | apply below_drew1 | refine below_set ?_ GE146.out | refine below_set ?_ GE155.out) | exact HB.out)) hb); have n7_ := Aside0.mk (hbox); have n8_ := Aside0.mk ((by rw [hg]; exact (below_size (by repeat (first | (with_reducible first | exact HB.out | apply below_alloc | apply pw_below_drewN | apply below_drew1 | refine below_set ?_ GE146.out | refine below_set ?_ GE155.out) | exact HB.out))) : w.heap.size ≤ gb160)); have n9_ := Aside0.mk ((by rw [hg]; exact (below_size (by repeat (first | (with_reducible first | exact HB.out | apply below_alloc | apply pw_below_drewN | apply below_drew1 | refine below_set ?_ GE146.out | refine below_set ?_ GE155.out) | exact HB.out))) : w.heap.size ≤ gb160)); have n10_ := Aside0.mk ((by rw [hg]; exact Nat.ne_of_lt (blk_lt (g := gb146) (o := .cells #[.int .i64 0, .int .i64 0, .slice none 0 0] 67 (0, 0)) (by (with_reducible repeat (first | refine blk_drewN ?_ _ | refine blk_drew ?_ | refine blk_alloc ?_ _)); exact BK146.out)) : gb146 ≠ gb160)); have n11_ := Aside0.mk ((by rw [hg]; exact Nat.ne_of_gt (blk_lt (g := gb146) (o := .cells #[.int .i64 0, .int .i64 0, .slice none 0 0] 67 (0, 0)) (by (with_reducible repeat (first | refine blk_drewN ?_ _ | refine blk_drew ?_ | refine blk_alloc ?_ _)); exact BK146.out)) : gb160 ≠ gb146)); have n12_ := Aside0.mk ((by rw [hg]; exact Nat.ne_of_lt (blk_lt (g := gb155) (o := .cells #[.int .i64 a1, .int .i64 a2, u156002] 67 (0, 0)) (by (with_reducible repeat (first | refine blk_drewN ?_ _ | refine blk_drew ?_ | refine blk_alloc ?_ _)); exact BK155.out)) : gb155 ≠ gb160)); have n13_ := Aside0.mk ((by rw [hg]; exact Nat.ne_of_gt (blk_lt (g := gb155) (o := .cells #[.int .i64 a1, .int .i64 a2, u156002] 67 (0, 0)) (by (with_reducible repeat (first | refine blk_drewN ?_ _ | refine blk_drew ?_ | refine blk_alloc ?_ _)); exact BK155.out)) : gb160 ≠ gb155)); clear HO_10; clear HO_15; clear HO_52; clear HO_156002; clear BK146; clear BK155; clear HB; have HO_10 := n0_; have HO_15 := n1_; have HO_52 := n2_; have HO_156002 := n3_; have BK146 := n4_; have BK155 := n5_; have HB := n6_; have BK160 := n7_; have GW160 := n8_; have GE160 := n9_; have NB146_160 := n10_; have NB160_146 := n11_; have NB155_160 := n12_; have NB160_155 := n13_; clear n0_ n1_ n2_ n3_ n4_ n5_ n6_ n7_ n8_ n9_ n10_ n11_ n12_ n13_; clear hb hbox hg; have hnb44 := NB160_146.out; have hnc44 := NB146_160.out; have hnb45 := NB160_155.out; have hnc45 := NB155_160.out; have hcz46_0 : w43.cell? ⟨gb160, 0, none⟩ = some (.int .i64 0) := (blk_cell BK160.out 0).trans rfl; have hcz46_1 : w43.cell? ⟨gb160, 1, none⟩ = some (.int .i64 0) := (blk_cell BK160.out 1).trans rfl; have hcz46_2 : w43.cell? ⟨gb160, 2, none⟩ = some (.int .i64 0) := (blk_cell BK160.out 2).trans rfl; have hcz46_3 : w43.cell? ⟨gb160, 3, none⟩ = some (.int .i64 0) := (blk_cell BK160.out 3).trans rfl; have hfz46_0 := blk_frozen BK160.out 0; have hfz46_1 := blk_frozen BK160.out 1; have hfz46_2 := blk_frozen BK160.out 2; have hfz46_3 := blk_frozen BK160.out 3))
                              go_roundg k3
                              case measure => have := HJ5.out; have := HK2.out; have := HK3.out; omega
                              case rel => exact ⟨(x15_3), (wrap64 (x54_3 + 1)), (by first | rfl | (simp; done) | (simp [*]; done)), H', ⟨by have := HJ5.out; have := HK2.out; have := HK3.out; omega⟩, ⟨by (with_reducible repeat (first | apply Kd.R_alloc | apply Kd.R_drewN | apply Kd.R_drew)); exact Kd.R_mono (Kd.R_far (p := ⟨gb160, 3, none⟩) (Kd.R_far (p := ⟨gb160, 2, none⟩) (Kd.R_far (p := ⟨gb160, 1, none⟩) (Kd.R_far (p := ⟨gb160, 0, none⟩) (Kd.R_mono HO_10.out (fun k_ hk => (⟨hk, hk.2⟩ : _ ∧ k_ ≠ gb160))) (fun _ hk => hk.2) (.int .i64 ((rd_T175 t147 x54_3).f0))) (fun _ hk => hk.2) (.int .i64 ((rd_T175 t147 x54_3).f1))) (fun _ hk => hk.2) (.int .i64 ((rd_T175 t147 x54_3).f2))) (fun _ hk => hk.2) (.int .i64 ((rd_T175 t147 x54_3).f3))) (fun _ hk => hk.1.1)⟩, ⟨by (with_reducible repeat (first | apply Kd.R_alloc | apply Kd.R_drewN | apply Kd.R_drew)); exact Kd.R_mono (Kd.R_far (p := ⟨gb160, 3, none⟩) (Kd.R_far (p := ⟨gb160, 2, none⟩) (Kd.R_far (p := ⟨gb160, 1, none⟩) (Kd.R_far (p := ⟨gb160, 0, none⟩) (Kd.R_mono HO_15.out (fun k_ hk => (⟨hk, hk.2⟩ : _ ∧ k_ ≠ gb160))) (fun _ hk => hk.2) (.int .i64 ((rd_T175 t147 x54_3).f0))) (fun _ hk => hk.2) (.int .i64 ((rd_T175 t147 x54_3).f1))) (fun _ hk => hk.2) (.int .i64 ((rd_T175 t147 x54_3).f2))) (fun _ hk => hk.2) (.int .i64 ((rd_T175 t147 x54_3).f3))) (fun _ hk => ⟨hk.1.1.1, hk.1.1.2⟩)⟩, ⟨by (with_reducible repeat (first | apply Kd.R_alloc | apply Kd.R_drewN | apply Kd.R_drew)); exact Kd.R_mono (Kd.R_far (p := ⟨gb160, 3, none⟩) (Kd.R_far (p := ⟨gb160, 2, none⟩) (Kd.R_far (p := ⟨gb160, 1, none⟩) (Kd.R_far (p := ⟨gb160, 0, none⟩) (Kd.R_mono HO_52.out (fun k_ hk => (⟨hk, hk.2⟩ : _ ∧ k_ ≠ gb160))) (fun _ hk => hk.2) (.int .i64 ((rd_T175 t147 x54_3).f0))) (fun _ hk => hk.2) (.int .i64 ((rd_T175 t147 x54_3).f1))) (fun _ hk => hk.2) (.int .i64 ((rd_T175 t147 x54_3).f2))) (fun _ hk => hk.2) (.int .i64 ((rd_T175 t147 x54_3).f3))) (fun _ hk => hk.1.1)⟩, ⟨by (with_reducible repeat (first | apply Kd.R_alloc | apply Kd.R_drewN | apply Kd.R_drew)); exact Kd.R_mono (Kd.R_far (p := ⟨gb160, 3, none⟩) (Kd.R_far (p := ⟨gb160, 2, none⟩) (Kd.R_far (p := ⟨gb160, 1, none⟩) (Kd.R_far (p := ⟨gb160, 0, none⟩) (Kd.R_types HO_156002.out BK160.out (by decide)) (fun _ hk => hk.2) (.int .i64 ((rd_T175 t147 x54_3).f0))) (fun _ hk => hk.2) (.int .i64 ((rd_T175 t147 x54_3).f1))) (fun _ hk => hk.2) (.int .i64 ((rd_T175 t147 x54_3).f2))) (fun _ hk => hk.2) (.int .i64 ((rd_T175 t147 x54_3).f3))) (fun _ hk => trivial)⟩, ⟨by (with_reducible repeat (first | refine blk_drewN ?_ _ | refine blk_drew ?_ | refine blk_alloc ?_ _)); refine blk_far ?_ NB146_160.out _; (with_reducible repeat (first | refine blk_drewN ?_ _ | refine blk_drew ?_ | refine blk_alloc ?_ _)); refine blk_far ?_ NB146_160.out _; (with_reducible repeat (first | refine blk_drewN ?_ _ | refine blk_drew ?_ | refine blk_alloc ?_ _)); refine blk_far ?_ NB146_160.out _; (with_reducible repeat (first | refine blk_drewN ?_ _ | refine blk_drew ?_ | refine blk_alloc ?_ _)); refine blk_far ?_ NB146_160.out _; (with_reducible repeat (first | refine blk_drewN ?_ _ | refine blk_drew ?_ | refine blk_alloc ?_ _)); exact BK146.out⟩, ⟨by (with_reducible repeat (first | refine blk_drewN ?_ _ | refine blk_drew ?_ | refine blk_alloc ?_ _)); refine blk_far ?_ NB155_160.out _; (with_reducible repeat (first | refine blk_drewN ?_ _ | refine blk_drew ?_ | refine blk_alloc ?_ _)); refine blk_far ?_ NB155_160.out _; (with_reducible repeat (first | refine blk_drewN ?_ _ | refine blk_drew ?_ | refine blk_alloc ?_ _)); refine blk_far ?_ NB155_160.out _; (with_reducible repeat (first | refine blk_drewN ?_ _ | refine blk_drew ?_ | refine blk_alloc ?_ _)); refine blk_far ?_ NB155_160.out _; (with_reducible repeat (first | refine blk_drewN ?_ _ | refine blk_drew ?_ | refine blk_alloc ?_ _)); exact BK155.out⟩, ⟨by repeat (first | (with_reducible first | exact HB.out | apply below_alloc | apply pw_below_drewN | apply below_drew1 | refine below_set ?_ GE146.out | refine below_set ?_ GE155.out | refine below_set ?_ GE160.out) | exact HB.out)⟩⟩
                          · rw [if_neg c28] at H
                            exact absurd H (by simp)
                        · rw [if_neg c27] at H
                          exact absurd H (by simp)
                      · rw [if_neg c26] at H
                        have c26b0 : decide (x54_3 < (t147.length : Int)) = false := decide_eq_false c26
                        clear c26
                        have H' := Aside0.mk H
                        clear H
                        go_wp2
                        go_loopg [81] k3 (fun kq v81 w' => ∃ (x81_4 : Int) (x156002_4 : List Int) (u156002 : Value), v81 = .int .i64 x81_4 ∧ Aside0 (impl_CoverOf.l2 kq a1 a3 t147 x45_2 (wrap64 ((wrap64 (4 * x45_2)) + 2)) x15_3 (wrap64 (4 * a2)) x45_2 (wrap64 (4 * a1)) x81_4 a1 a2 x156002_4 = some (r1, r2, r3, r4)) ∧ Aside0 (kq ≤ k3) ∧ Aside0 (Kd.R k175 175 w' w.heap.size (fun k_ => some k_ ≠ (u15 : Value).ownBlock) (.slice Ao25 t147.length co25) t147) ∧ Aside0 (Kd.R k175 175 w' w.heap.size (fun k_ => some k_ ≠ ((.slice Ao25 t147.length co25) : Value).ownBlock) u15 x15_3) ∧ Aside0 (Kd.R (Kd.int .i64) 3 w' w.heap.size (fun _ => True) u156002 x156002_4) ∧ Aside0 (w'.heap[gb146]? = some (.cells #[.int .i64 0, .int .i64 0, (.slice none 0 0)] 67 (0, 0))) ∧ Aside0 (w'.heap[gb155]? = some (.cells #[.int .i64 a1, .int .i64 a2, u156002] 67 (0, 0))) ∧ Aside0 (Below w.heap.size w w'))
                        case atStart => exact ⟨(0), (x156002_2), (u156002), (by first | rfl | (simp; done) | (simp [*]; done)), H', ⟨Nat.le_refl _⟩, ⟨by (with_reducible repeat (first | apply Kd.R_alloc | apply Kd.R_drewN | apply Kd.R_drew)); exact HO_10.out⟩, ⟨by (with_reducible repeat (first | apply Kd.R_alloc | apply Kd.R_drewN | apply Kd.R_drew)); exact Kd.R_mono HO_15.out (fun _ hk => hk.1)⟩, ⟨by (with_reducible repeat (first | apply Kd.R_alloc | apply Kd.R_drewN | apply Kd.R_drew)); exact HO_156002.out⟩, ⟨by (with_reducible repeat (first | refine blk_drewN ?_ _ | refine blk_drew ?_ | refine blk_alloc ?_ _)); exact BK146.out⟩, ⟨by (with_reducible repeat (first | refine blk_drewN ?_ _ | refine blk_drew ?_ | refine blk_alloc ?_ _)); exact BK155.out⟩, ⟨by repeat (first | (with_reducible first | exact HB.out | apply below_alloc | apply pw_below_drewN | apply below_drew1 | refine below_set ?_ GE146.out | refine below_set ?_ GE155.out) | exact HB.out)⟩⟩
                        case round =>
                          clear H'
                          try clear c1
                          try clear p1
                          try clear q1
                          try clear hx1
                          try clear c2
                          try clear p2
                          try clear c3
                          try clear c4
                          try clear p6
                          try clear c9
                          try clear c11
                          try clear c12
                          try clear c14
                          try clear c14b0
                          try clear c14b1
                          try clear c15
                          try clear c15b0
                          try clear c15b1
                          try clear p15
                          try clear q15
                          try clear hx15
                          try clear c20
                          try clear c22
                          try clear c22b0
                          try clear c26
                          try clear c26b0
                          try clear c27
                          try clear c27b0
                          try clear c28
                          try clear c28b0
                          try clear c30
                          try clear c30b0
                          try clear c32
                          try clear c32b0
                          try clear c33
                          try clear c35
                          try clear c36
                          try clear c40
                          try clear c41
                          try clear c44
                          try clear c45
                          try clear hcz12_0
                          try clear hcz12_1
                          try clear hcz12_2
                          try clear hcz21_0
                          try clear hcz21_1
                          try clear hcz21_2
                          try clear hcz37_0
                          try clear hcz37_1
                          try clear hcz37_2
                          try clear hcz37_3
                          try clear hcz42_0
                          try clear hcz42_1
                          try clear hcz42_2
                          try clear hcz42_3
                          try clear hcz46_0
                          try clear hcz46_1
                          try clear hcz46_2
                          try clear hcz46_3
                          try clear hfz12_0
                          try clear hfz12_1
                          try clear hfz12_2
                          try clear hfz21_0
                          try clear hfz21_1
                          try clear hfz21_2
                          try clear hfz37_0
                          try clear hfz37_1
                          try clear hfz37_2
                          try clear hfz37_3
                          try clear hfz42_0
                          try clear hfz42_1
                          try clear hfz42_2
                          try clear hfz42_3
                          try clear hfz46_0
                          try clear hfz46_1
                          try clear hfz46_2
                          try clear hfz46_3
                          try clear hx159_0
                          try clear hx159_1
                          try clear hx159_2
                          try clear hx159_3
                          try clear p159
                          try clear p2
                          try clear p6
                          try clear q159
                          obtain ⟨x81_4, x156002_4, u156002, rfl, HA, HK4, HO_10, HO_15, HO_156002, BK146, BK155, HB⟩ := hrel
                          cases gk with
                          | zero => exact absurd HA.out (by simp [impl_CoverOf.l2])
                          | succ k4 =>
                            have H := HA.out
                            clear HA
                            simp only [impl_CoverOf.l2] at H
                            by_cases c47 : x81_4 < (wrap64 (4 * a1))
                            · rw [if_pos c47] at H
                              have c47b0 : decide (x81_4 < (wrap64 (4 * a1))) = true := decide_eq_true c47
                              clear c47
                              have H' := Aside0.mk H
                              clear H
                              obtain ⟨Ao48, co48, eo48⟩ := Kd.R_slice HO_15.out
                              subst eo48
                              go_wp2
                              go_loopg [19, 86] k4 (fun kq v19 v86 w' => ∃ (x19_5 : Int) (x86_5 : Int), v19 = .int .i64 x19_5 ∧ v86 = .int .i64 x86_5 ∧ Aside0 (impl_CoverOf.l3 kq a1 a3 t147 x45_2 (wrap64 ((wrap64 (4 * x45_2)) + 2)) x15_3 x81_4 x19_5 (wrap64 (4 * a2)) x45_2 (wrap64 (4 * a1)) x81_4 x15_3 (x15_3.length : Int) x86_5 a1 a2 x156002_4 = some (r1, r2, r3, r4)) ∧ Aside0 (kq ≤ k4) ∧ Aside0 (Kd.R k175 175 w' w.heap.size (fun k_ => some k_ ≠ ((.slice Ao48 x15_3.length co48) : Value).ownBlock ∧ some k_ ≠ ((.slice Ao48 x15_3.length co48) : Value).ownBlock) (.slice Ao25 t147.length co25) t147) ∧ Aside0 (Kd.R k175 175 w' w.heap.size (fun k_ => some k_ ≠ ((.slice Ao25 t147.length co25) : Value).ownBlock) (.slice Ao48 x15_3.length co48) x15_3) ∧ Aside0 (Kd.R k175 175 w' w.heap.size (fun k_ => some k_ ≠ ((.slice Ao25 t147.length co25) : Value).ownBlock) (.slice Ao48 x15_3.length co48) x15_3) ∧ Aside0 (Kd.R (Kd.int .i64) 3 w' w.heap.size (fun _ => True) u156002 x156002_4) ∧ Aside0 (w'.heap[gb146]? = some (.cells #[.int .i64 0, .int .i64 0, (.slice none 0 0)] 67 (0, 0))) ∧ Aside0 (w'.heap[gb155]? = some (.cells #[.int .i64 a1, .int .i64 a2, u156002] 67 (0, 0))) ∧ Aside0 (Below w.heap.size w w'))
                              case atStart => exact ⟨(0), (0), (by first | rfl | (simp; done) | (simp [*]; done)), (by first | rfl | (simp; done) | (simp [*]; done)), H', ⟨Nat.le_refl _⟩, ⟨by (with_reducible repeat (first | apply Kd.R_alloc | apply Kd.R_drewN | apply Kd.R_drew)); exact Kd.R_mono HO_10.out (fun _ hk => ⟨hk, hk⟩)⟩, ⟨by (with_reducible repeat (first | apply Kd.R_alloc | apply Kd.R_drewN | apply Kd.R_drew)); exact HO_15.out⟩, ⟨by (with_reducible repeat (first | apply Kd.R_alloc | apply Kd.R_drewN | apply Kd.R_drew)); exact HO_15.out⟩, ⟨by (with_reducible repeat (first | apply Kd.R_alloc | apply Kd.R_drewN | apply Kd.R_drew)); exact HO_156002.out⟩, ⟨by (with_reducible repeat (first | refine blk_drewN ?_ _ | refine blk_drew ?_ | refine blk_alloc ?_ _)); exact BK146.out⟩, ⟨by (with_reducible repeat (first | refine blk_drewN ?_ _ | refine blk_drew ?_ | refine blk_alloc ?_ _)); exact BK155.out⟩, ⟨by repeat (first | (with_reducible first | exact HB.out | apply below_alloc | apply pw_below_drewN | apply below_drew1 | refine below_set ?_ GE146.out | refine below_set ?_ GE155.out) | exact HB.out)⟩⟩
                              case round =>
                                clear H'
                                try clear c1
                                try clear p1
                                try clear q1
                                try clear hx1
                                try clear c2
                                try clear p2
                                try clear c3
                                try clear c4
                                try clear p6
                                try clear c9
                                try clear c11
                                try clear c12
                                try clear c14
                                try clear c14b0
                                try clear c14b1
                                try clear c15
                                try clear c15b0
                                try clear c15b1
                                try clear p15
                                try clear q15
                                try clear hx15
                                try clear c20
                                try clear c22
                                try clear c22b0
                                try clear c26
                                try clear c26b0
                                try clear c27
                                try clear c27b0
                                try clear c28
                                try clear c28b0
                                try clear c30
                                try clear c30b0
                                try clear c32
                                try clear c32b0
                                try clear c33
                                try clear c35
                                try clear c36
                                try clear c40
                                try clear c41
                                try clear c44
                                try clear c45
                                try clear c47
                                try clear c47b0
                                try clear hcz12_0
                                try clear hcz12_1
                                try clear hcz12_2
                                try clear hcz21_0
                                try clear hcz21_1
                                try clear hcz21_2
                                try clear hcz37_0
                                try clear hcz37_1
                                try clear hcz37_2
                                try clear hcz37_3
                                try clear hcz42_0
                                try clear hcz42_1
                                try clear hcz42_2
                                try clear hcz42_3
                                try clear hcz46_0
                                try clear hcz46_1
                                try clear hcz46_2
                                try clear hcz46_3
                                try clear hfz12_0
                                try clear hfz12_1
                                try clear hfz12_2
                                try clear hfz21_0
                                try clear hfz21_1
                                try clear hfz21_2
                                try clear hfz37_0
                                try clear hfz37_1
                                try clear hfz37_2
                                try clear hfz37_3
                                try clear hfz42_0
                                try clear hfz42_1
                                try clear hfz42_2
                                try clear hfz42_3
                                try clear hfz46_0
                                try clear hfz46_1
                                try clear hfz46_2
                                try clear hfz46_3
                                try clear hx159_0
                                try clear hx159_1
                                try clear hx159_2
                                try clear hx159_3
                                try clear p1
                                try clear p15
                                try clear p159
                                try clear p2
                                try clear p6
                                try clear q1
                                try clear q15
                                try clear q159
                                obtain ⟨x19_5, x86_5, rfl, rfl, HA, HK5, HO_10, HO_15, HO_84, HO_156002, BK146, BK155, HB⟩ := hrel
                                cases gk with
                                | zero => exact absurd HA.out (by simp [impl_CoverOf.l3])
                                | succ k5 =>
                                  have H := HA.out
                                  clear HA
                                  simp only [impl_CoverOf.l3] at H
                                  by_cases c49 : x86_5 < (x15_3.length : Int)
                                  · rw [if_pos c49] at H
                                    have c49b0 : decide (x86_5 < (x15_3.length : Int)) = true := decide_eq_true c49
                                    clear c49
                                    by_cases c50 : 0 ≤ x86_5
                                    · rw [if_pos c50] at H
                                      have c50b0 : decide (0 ≤ x86_5) = true := decide_eq_true c50
                                      clear c50
                                      by_cases c51 : x86_5 < (x15_3.length : Int)
                                      · rw [if_pos c51] at H
                                        have c51b0 : decide (x86_5 < (x15_3.length : Int)) = true := decide_eq_true c51
                                        clear c51
                                        replace H := Option.bind_eq_some_iff.mp H
                                        obtain ⟨t166, A520, H⟩ := H
                                        replace H : (impl_CoverOf.l3 k5 a1 a3 t147 x45_2 (wrap64 ((wrap64 (4 * x45_2)) + 2)) x15_3 x81_4 (wrap64 (x19_5 + t166)) (wrap64 (4 * a2)) x45_2 (wrap64 (4 * a1)) x81_4 x15_3 (x15_3.length : Int) (wrap64 (x86_5 + 1)) a1 a2 x156002_4) = some (r1, r2, r3, r4) := H
                                        have A52 := Aside0.mk A520
                                        clear A520
                                        have H' := Aside0.mk H
                                        clear H
                                        have p164 : 0 ≤ (x86_5 : Int) := of_decide_eq_true (by first | (with_reducible assumption) | assumption)
                                        have q164 : x86_5 < (x15_3.length : Int) := of_decide_eq_true (by first | (with_reducible assumption) | assumption)
                                        obtain ⟨ad164, e164, hx164_0, hx164_1, hx164_2, hx164_3⟩ := at_T175 (Kd.R_reads' HO_84.out).2.2 x86_5 p164 q164
                                        cases e164
                                        replace p164 := eq_true p164
                                        replace q164 := eq_true q164
                                        go_wp2_with (first | ((with_reducible refine gate_dst (N := 21) rfl ?_); (try (refine gate_guard (by rfl) ?_; dsimp only)); refine box_event ?hg (N := 21) ?hd (cs := #[.int .i64 0, .int .i64 0, .int .i64 0, .int .i64 0]) (t := 175) ?hr ?_; (case hd => rfl); (case hg => rfl); (case hr => first | (go_simp; done) | (go_simp; rfl)); intro gb165 hg w53 hbox hb; have n0_ := Aside0.mk (Kd.R_below (Kd.R_elderB (by (with_reducible repeat (first | apply Kd.R_alloc | apply Kd.R_drewN | apply Kd.R_drew)); exact HO_10.out) gb165 (Nat.le_of_eq hg.symm)) hb); have n1_ := Aside0.mk (Kd.R_below (Kd.R_elderB (by (with_reducible repeat (first | apply Kd.R_alloc | apply Kd.R_drewN | apply Kd.R_drew)); exact HO_15.out) gb165 (Nat.le_of_eq hg.symm)) hb); have n2_ := Aside0.mk (Kd.R_below (Kd.R_elderB (by (with_reducible repeat (first | apply Kd.R_alloc | apply Kd.R_drewN | apply Kd.R_drew)); exact HO_84.out) gb165 (Nat.le_of_eq hg.symm)) hb); have n3_ := Aside0.mk (Kd.R_below (by (with_reducible repeat (first | apply Kd.R_alloc | apply Kd.R_drewN | apply Kd.R_drew)); exact HO_156002.out) hb); have n4_ := Aside0.mk (blk_below (g := gb146) (o := .cells #[.int .i64 0, .int .i64 0, .slice none 0 0] 67 (0, 0)) (by (with_reducible repeat (first | refine blk_drewN ?_ _ | refine blk_drew ?_ | refine blk_alloc ?_ _)); exact BK146.out) hb); have n5_ := Aside0.mk (blk_below (g := gb155) (o := .cells #[.int .i64 a1, .int .i64 a2, u156002] 67 (0, 0)) (by (with_reducible repeat (first | refine blk_drewN ?_ _ | refine blk_drew ?_ | refine blk_alloc ?_ _)); exact BK155.out) hb); have n6_ := Aside0.mk (below_step (by repeat (first | (with_reducible first | exact HB.out | apply below_alloc | apply pw_below_drewN | apply below_drew1 | refine below_set ?_ GE146.out | refine below_set ?_ GE155.out) | exact HB.out)) hb); have n7_ := Aside0.mk (hbox); have n8_ := Aside0.mk ((by rw [hg]; exact (below_size (by repeat (first | (with_reducible first | exact HB.out | apply below_alloc | apply pw_below_drewN | apply below_drew1 | refine below_set ?_ GE146.out | refine below_set ?_ GE155.out) | exact HB.out))) : w.heap.size ≤ gb165)); have n9_ := Aside0.mk ((by rw [hg]; exact (below_size (by repeat (first | (with_reducible first | exact HB.out | apply below_alloc | apply pw_below_drewN | apply below_drew1 | refine below_set ?_ GE146.out | refine below_set ?_ GE155.out) | exact HB.out))) : w.heap.size ≤ gb165)); have n10_ := Aside0.mk ((by rw [hg]; exact Nat.ne_of_lt (blk_lt (g := gb146) (o := .cells #[.int .i64 0, .int .i64 0, .slice none 0 0] 67 (0, 0)) (by (with_reducible repeat (first | refine blk_drewN ?_ _ | refine blk_drew ?_ | refine blk_alloc ?_ _)); exact BK146.out)) : gb146 ≠ gb165)); have n11_ := Aside0.mk ((by rw [hg]; exact Nat.ne_of_gt (blk_lt (g := gb146) (o := .cells #[.int .i64 0, .int .i64 0, .slice none 0 0] 67 (0, 0)) (by (with_reducible repeat (first | refine blk_drewN ?_ _ | refine blk_drew ?_ | refine blk_alloc ?_ _)); exact BK146.out)) : gb165 ≠ gb146)); have n12_ := Aside0.mk ((by rw [hg]; exact Nat.ne_of_lt (blk_lt (g := gb155) (o := .cells #[.int .i64 a1, .int .i64 a2, u156002] 67 (0, 0)) (by (with_reducible repeat (first | refine blk_drewN ?_ _ | refine blk_drew ?_ | refine blk_alloc ?_ _)); exact BK155.out)) : gb155 ≠ gb165)); have n13_ := Aside0.mk ((by rw [hg]; exact Nat.ne_of_gt (blk_lt (g := gb155) (o := .cells #[.int .i64 a1, .int .i64 a2, u156002] 67 (0, 0)) (by (with_reducible repeat (first | refine blk_drewN ?_ _ | refine blk_drew ?_ | refine blk_alloc ?_ _)); exact BK155.out)) : gb165 ≠ gb155)); clear HO_10; clear HO_15; clear HO_84; clear HO_156002; clear BK146; clear BK155; clear HB; have HO_10 := n0_; have HO_15 := n1_; have HO_84 := n2_; have HO_156002 := n3_; have BK146 := n4_; have BK155 := n5_; have HB := n6_; have BK165 := n7_; have GW165 := n8_; have GE165 := n9_; have NB146_165 := n10_; have NB165_146 := n11_; have NB155_165 := n12_; have NB165_155 := n13_; clear n0_ n1_ n2_ n3_ n4_ n5_ n6_ n7_ n8_ n9_ n10_ n11_ n12_ n13_; clear hb hbox hg; have hnb54 := NB165_146.out; have hnc54 := NB146_165.out; have hnb55 := NB165_155.out; have hnc55 := NB155_165.out; have hcz56_0 : w53.cell? ⟨gb165, 0, none⟩ = some (.int .i64 0) := (blk_cell BK165.out 0).trans rfl; have hcz56_1 : w53.cell? ⟨gb165, 1, none⟩ = some (.int .i64 0) := (blk_cell BK165.out 1).trans rfl; have hcz56_2 : w53.cell? ⟨gb165, 2, none⟩ = some (.int .i64 0) := (blk_cell BK165.out 2).trans rfl; have hcz56_3 : w53.cell? ⟨gb165, 3, none⟩ = some (.int .i64 0) := (blk_cell BK165.out 3).trans rfl; have hfz56_0 := blk_frozen BK165.out 0; have hfz56_1 := blk_frozen BK165.out 1; have hfz56_2 := blk_frozen BK165.out 2; have hfz56_3 := blk_frozen BK165.out 3) | ((with_reducible refine gate_callee (f := 130) rfl ?_); refine goesL_ (some 96) rfl rfl Try.func130 (by kernel_rfl) rfl #[.agg #[.int .i64 ((rd_T175 x15_3 x86_5).f0), .int .i64 ((rd_T175 x15_3 x86_5).f1), .int .i64 ((rd_T175 x15_3 x86_5).f2), .int .i64 ((rd_T175 x15_3 x86_5).f3)], .int .i64 (wrap64 ((wrap64 (4 * x81_4)) + 2)), .int .i64 (wrap64 ((wrap64 (4 * x45_2)) + 2))] rfl (by (try simp only [List.map_toArray, List.map_cons, List.map_nil]); first | done | rfl | (simp only [List.length_drop, List.length_take]; rfl)) ?_; (with_reducible refine (impl_edge_winds.calls k5 ((rd_T175 x15_3 x86_5).f0) ((rd_T175 x15_3 x86_5).f1) ((rd_T175 x15_3 x86_5).f2) ((rd_T175 x15_3 x86_5).f3) (wrap64 ((wrap64 (4 * x81_4)) + 2)) (wrap64 ((wrap64 (4 * x45_2)) + 2)) t166 _ A52.out).mono ?_); rintro e w57 ⟨rfl, hb⟩; refine ⟨_, rfl, ?_⟩; have n0_ := Aside0.mk (Kd.R_below (by (with_reducible repeat (first | apply Kd.R_alloc | apply Kd.R_drewN | apply Kd.R_drew)); exact (Kd.R_mono (Kd.R_far (p := ⟨gb165, 3, none⟩) (Kd.R_far (p := ⟨gb165, 2, none⟩) (Kd.R_far (p := ⟨gb165, 1, none⟩) (Kd.R_far (p := ⟨gb165, 0, none⟩) (Kd.R_mono HO_10.out (fun k_ hk => (⟨hk, hk.2⟩ : _ ∧ k_ ≠ gb165))) (fun _ hk => hk.2) (.int .i64 ((rd_T175 x15_3 x86_5).f0))) (fun _ hk => hk.2) (.int .i64 ((rd_T175 x15_3 x86_5).f1))) (fun _ hk => hk.2) (.int .i64 ((rd_T175 x15_3 x86_5).f2))) (fun _ hk => hk.2) (.int .i64 ((rd_T175 x15_3 x86_5).f3))) (fun _ h_ => h_.1))) hb); have n1_ := Aside0.mk (Kd.R_below (by (with_reducible repeat (first | apply Kd.R_alloc | apply Kd.R_drewN | apply Kd.R_drew)); exact (Kd.R_mono (Kd.R_far (p := ⟨gb165, 3, none⟩) (Kd.R_far (p := ⟨gb165, 2, none⟩) (Kd.R_far (p := ⟨gb165, 1, none⟩) (Kd.R_far (p := ⟨gb165, 0, none⟩) (Kd.R_mono HO_15.out (fun k_ hk => (⟨hk, hk.2⟩ : _ ∧ k_ ≠ gb165))) (fun _ hk => hk.2) (.int .i64 ((rd_T175 x15_3 x86_5).f0))) (fun _ hk => hk.2) (.int .i64 ((rd_T175 x15_3 x86_5).f1))) (fun _ hk => hk.2) (.int .i64 ((rd_T175 x15_3 x86_5).f2))) (fun _ hk => hk.2) (.int .i64 ((rd_T175 x15_3 x86_5).f3))) (fun _ h_ => h_.1))) hb); have n2_ := Aside0.mk (Kd.R_below (by (with_reducible repeat (first | apply Kd.R_alloc | apply Kd.R_drewN | apply Kd.R_drew)); exact (Kd.R_mono (Kd.R_far (p := ⟨gb165, 3, none⟩) (Kd.R_far (p := ⟨gb165, 2, none⟩) (Kd.R_far (p := ⟨gb165, 1, none⟩) (Kd.R_far (p := ⟨gb165, 0, none⟩) (Kd.R_mono HO_84.out (fun k_ hk => (⟨hk, hk.2⟩ : _ ∧ k_ ≠ gb165))) (fun _ hk => hk.2) (.int .i64 ((rd_T175 x15_3 x86_5).f0))) (fun _ hk => hk.2) (.int .i64 ((rd_T175 x15_3 x86_5).f1))) (fun _ hk => hk.2) (.int .i64 ((rd_T175 x15_3 x86_5).f2))) (fun _ hk => hk.2) (.int .i64 ((rd_T175 x15_3 x86_5).f3))) (fun _ h_ => h_.1))) hb); have n3_ := Aside0.mk (Kd.R_below (by (with_reducible repeat (first | apply Kd.R_alloc | apply Kd.R_drewN | apply Kd.R_drew)); exact (Kd.R_mono (Kd.R_far (p := ⟨gb165, 3, none⟩) (Kd.R_far (p := ⟨gb165, 2, none⟩) (Kd.R_far (p := ⟨gb165, 1, none⟩) (Kd.R_far (p := ⟨gb165, 0, none⟩) (Kd.R_types HO_156002.out BK165.out (by decide)) (fun _ hk => hk.2) (.int .i64 ((rd_T175 x15_3 x86_5).f0))) (fun _ hk => hk.2) (.int .i64 ((rd_T175 x15_3 x86_5).f1))) (fun _ hk => hk.2) (.int .i64 ((rd_T175 x15_3 x86_5).f2))) (fun _ hk => hk.2) (.int .i64 ((rd_T175 x15_3 x86_5).f3))) (fun _ h_ => h_.1))) hb); have n4_ := Aside0.mk (blk_below (g := gb146) (o := .cells #[.int .i64 0, .int .i64 0, .slice none 0 0] 67 (0, 0)) (by (with_reducible repeat (first | refine blk_drewN ?_ _ | refine blk_drew ?_ | refine blk_alloc ?_ _)); refine blk_far ?_ NB146_165.out _; (with_reducible repeat (first | refine blk_drewN ?_ _ | refine blk_drew ?_ | refine blk_alloc ?_ _)); refine blk_far ?_ NB146_165.out _; (with_reducible repeat (first | refine blk_drewN ?_ _ | refine blk_drew ?_ | refine blk_alloc ?_ _)); refine blk_far ?_ NB146_165.out _; (with_reducible repeat (first | refine blk_drewN ?_ _ | refine blk_drew ?_ | refine blk_alloc ?_ _)); refine blk_far ?_ NB146_165.out _; (with_reducible repeat (first | refine blk_drewN ?_ _ | refine blk_drew ?_ | refine blk_alloc ?_ _)); exact BK146.out) hb); have n5_ := Aside0.mk (blk_below (g := gb155) (o := .cells #[.int .i64 a1, .int .i64 a2, u156002] 67 (0, 0)) (by (with_reducible repeat (first | refine blk_drewN ?_ _ | refine blk_drew ?_ | refine blk_alloc ?_ _)); refine blk_far ?_ NB155_165.out _; (with_reducible repeat (first | refine blk_drewN ?_ _ | refine blk_drew ?_ | refine blk_alloc ?_ _)); refine blk_far ?_ NB155_165.out _; (with_reducible repeat (first | refine blk_drewN ?_ _ | refine blk_drew ?_ | refine blk_alloc ?_ _)); refine blk_far ?_ NB155_165.out _; (with_reducible repeat (first | refine blk_drewN ?_ _ | refine blk_drew ?_ | refine blk_alloc ?_ _)); refine blk_far ?_ NB155_165.out _; (with_reducible repeat (first | refine blk_drewN ?_ _ | refine blk_drew ?_ | refine blk_alloc ?_ _)); exact BK155.out) hb); have n6_ := Aside0.mk (blk_below (g := gb165) (o := .cells #[.int .i64 ((rd_T175 x15_3 x86_5).f0), .int .i64 ((rd_T175 x15_3 x86_5).f1), .int .i64 ((rd_T175 x15_3 x86_5).f2), .int .i64 ((rd_T175 x15_3 x86_5).f3)] 175 (0, 0)) (by (with_reducible repeat (first | refine blk_drewN ?_ _ | refine blk_drew ?_ | refine blk_alloc ?_ _)); refine blk_put (cs := #[.int .i64 ((rd_T175 x15_3 x86_5).f0), .int .i64 ((rd_T175 x15_3 x86_5).f1), .int .i64 ((rd_T175 x15_3 x86_5).f2), .int .i64 0]) ?_ 3 _ rfl; (with_reducible repeat (first | refine blk_drewN ?_ _ | refine blk_drew ?_ | refine blk_alloc ?_ _)); refine blk_put (cs := #[.int .i64 ((rd_T175 x15_3 x86_5).f0), .int .i64 ((rd_T175 x15_3 x86_5).f1), .int .i64 0, .int .i64 0]) ?_ 2 _ rfl; (with_reducible repeat (first | refine blk_drewN ?_ _ | refine blk_drew ?_ | refine blk_alloc ?_ _)); refine blk_put (cs := #[.int .i64 ((rd_T175 x15_3 x86_5).f0), .int .i64 0, .int .i64 0, .int .i64 0]) ?_ 1 _ rfl; (with_reducible repeat (first | refine blk_drewN ?_ _ | refine blk_drew ?_ | refine blk_alloc ?_ _)); refine blk_put (cs := #[.int .i64 0, .int .i64 0, .int .i64 0, .int .i64 0]) ?_ 0 _ rfl; (with_reducible repeat (first | refine blk_drewN ?_ _ | refine blk_drew ?_ | refine blk_alloc ?_ _)); exact BK165.out) hb); have n7_ := Aside0.mk (below_step (by repeat (first | (with_reducible first | exact HB.out | apply below_alloc | apply pw_below_drewN | apply below_drew1 | refine below_set ?_ GE146.out | refine below_set ?_ GE155.out | refine below_set ?_ GE165.out) | exact HB.out)) hb); clear HO_10; clear HO_15; clear HO_84; clear HO_156002; clear BK146; clear BK155; clear BK165; clear HB; have HO_10 := n0_; have HO_15 := n1_; have HO_84 := n2_; have HO_156002 := n3_; have BK146 := n4_; have BK155 := n5_; have BK165 := n6_; have HB := n7_; clear n0_ n1_ n2_ n3_ n4_ n5_ n6_ n7_; (try clear hb); (try clear hb2); (try clear hk); (try clear hi)))
                                        go_roundg k5
                                        case measure => have := HJ5.out; have := HK2.out; have := HK3.out; have := HK4.out; have := HK5.out; omega
                                        case rel => exact ⟨(wrap64 (x19_5 + t166)), (wrap64 (x86_5 + 1)), (by first | rfl | (simp; done) | (simp [*]; done)), (by first | rfl | (simp; done) | (simp [*]; done)), H', ⟨by have := HJ5.out; have := HK2.out; have := HK3.out; have := HK4.out; have := HK5.out; omega⟩, ⟨by (with_reducible repeat (first | apply Kd.R_alloc | apply Kd.R_drewN | apply Kd.R_drew)); exact Kd.R_mono HO_10.out (fun _ hk => ⟨hk.1.1, hk.1.2⟩)⟩, ⟨by (with_reducible repeat (first | apply Kd.R_alloc | apply Kd.R_drewN | apply Kd.R_drew)); exact Kd.R_mono HO_15.out (fun _ hk => hk.1)⟩, ⟨by (with_reducible repeat (first | apply Kd.R_alloc | apply Kd.R_drewN | apply Kd.R_drew)); exact Kd.R_mono HO_84.out (fun _ hk => hk.1)⟩, ⟨by (with_reducible repeat (first | apply Kd.R_alloc | apply Kd.R_drewN | apply Kd.R_drew)); exact HO_156002.out⟩, ⟨by (with_reducible repeat (first | refine blk_drewN ?_ _ | refine blk_drew ?_ | refine blk_alloc ?_ _)); exact BK146.out⟩, ⟨by (with_reducible repeat (first | refine blk_drewN ?_ _ | refine blk_drew ?_ | refine blk_alloc ?_ _)); exact BK155.out⟩, ⟨by repeat (first | (with_reducible first | exact HB.out | apply below_alloc | apply pw_below_drewN | apply below_drew1 | refine below_set ?_ GE146.out | refine below_set ?_ GE155.out | refine below_set ?_ GE165.out) | exact HB.out)⟩⟩
                                      · rw [if_neg c51] at H
                                        exact absurd H (by simp)
                                    · rw [if_neg c50] at H
                                      exact absurd H (by simp)
                                  · rw [if_neg c49] at H
                                    have c49b0 : decide (x86_5 < (x15_3.length : Int)) = false := decide_eq_false c49
                                    clear c49
                                    by_cases c58 : x19_5 = 0
                                    · rw [if_pos c58] at H
                                      have c58b0 : (x19_5 == 0) = true := beq_iff_eq.mpr c58
                                      have c58b1 : (x19_5 != 0) = false := bne_eq_false_iff_eq.mpr c58
                                      clear c58
                                      by_cases c59 : (Int.tmod x19_5 2) = 0
                                      · rw [if_pos c59] at H
                                        have c59b0 : ((Int.tmod x19_5 2) == 0) = true := beq_iff_eq.mpr c59
                                        have c59b1 : ((Int.tmod x19_5 2) != 0) = false := bne_eq_false_iff_eq.mpr c59
                                        clear c59
                                        have H' := Aside0.mk H
                                        clear H
                                        go_wp2
                                        go_roundg k5
                                        case measure => have := HJ5.out; have := HK2.out; have := HK3.out; have := HK4.out; have := HK5.out; omega
                                        case rel => exact ⟨(wrap64 (x81_4 + 1)), (x156002_4), (u156002), (by first | rfl | (simp; done) | (simp [*]; done)), H', ⟨by have := HJ5.out; have := HK2.out; have := HK3.out; have := HK4.out; have := HK5.out; omega⟩, ⟨by (with_reducible repeat (first | apply Kd.R_alloc | apply Kd.R_drewN | apply Kd.R_drew)); exact Kd.R_mono HO_10.out (fun _ hk => hk.1)⟩, ⟨by (with_reducible repeat (first | apply Kd.R_alloc | apply Kd.R_drewN | apply Kd.R_drew)); exact HO_15.out⟩, ⟨by (with_reducible repeat (first | apply Kd.R_alloc | apply Kd.R_drewN | apply Kd.R_drew)); exact HO_156002.out⟩, ⟨by (with_reducible repeat (first | refine blk_drewN ?_ _ | refine blk_drew ?_ | refine blk_alloc ?_ _)); exact BK146.out⟩, ⟨by (with_reducible repeat (first | refine blk_drewN ?_ _ | refine blk_drew ?_ | refine blk_alloc ?_ _)); exact BK155.out⟩, ⟨by repeat (first | (with_reducible first | exact HB.out | apply below_alloc | apply pw_below_drewN | apply below_drew1 | refine below_set ?_ GE146.out | refine below_set ?_ GE155.out) | exact HB.out)⟩⟩
                                      · rw [if_neg c59] at H
                                        have c59b0 : ((Int.tmod x19_5 2) == 0) = false := beq_eq_false_iff_ne.mpr c59
                                        have c59b1 : ((Int.tmod x19_5 2) != 0) = true := bne_iff_ne.mpr c59
                                        obtain ⟨ji60, hji60⟩ : ∃ j_ : Int, (wrap64 ((wrap64 ((wrap64 (Int.tdiv x45_2 4)) * a1)) + (wrap64 (Int.tdiv x81_4 4)))) = j_ := ⟨_, rfl⟩
                                        replace H : (if 0 ≤ (ji60) then (if (ji60) < (x156002_4.length : Int) then (impl_CoverOf.l2 k5 a1 a3 t147 x45_2 (wrap64 ((wrap64 (4 * x45_2)) + 2)) x15_3 (wrap64 (4 * a2)) x45_2 (wrap64 (4 * a1)) (wrap64 (x81_4 + 1)) a1 a2 (x156002_4.set ((ji60) : Int).toNat (wrap64 ((rd x156002_4 (ji60)) + 1)))) else (none)) else (none)) = some (r1, r2, r3, r4) := by first | (rw [hji60] at H; exact H) | (simp only [hji60] at H ⊢; exact H)
                                        have hji60w : (IntKind.i64.wrap ((wrap64 ((wrap64 (Int.tdiv x45_2 4)) * a1)) + (wrap64 (Int.tdiv x81_4 4)))) = ji60 := (i64_w _).trans hji60
                                        by_cases c61 : 0 ≤ (ji60)
                                        · rw [if_pos c61] at H
                                          have c61b0 : decide (0 ≤ (ji60)) = true := decide_eq_true c61
                                          clear c61
                                          by_cases c62 : (ji60) < (x156002_4.length : Int)
                                          · rw [if_pos c62] at H
                                            have c62b0 : decide ((ji60) < (x156002_4.length : Int)) = true := decide_eq_true c62
                                            clear c62
                                            obtain ⟨y168, hy168⟩ : ∃ y_ : List Int, y_ = (x156002_4.set ((ji60) : Int).toNat (wrap64 ((rd x156002_4 (ji60)) + 1))) := ⟨_, rfl⟩
                                            replace H : (impl_CoverOf.l2 k5 a1 a3 t147 x45_2 (wrap64 ((wrap64 (4 * x45_2)) + 2)) x15_3 (wrap64 (4 * a2)) x45_2 (wrap64 (4 * a1)) (wrap64 (x81_4 + 1)) a1 a2 y168) = some (r1, r2, r3, r4) := by first | (rw [hy168]; with_reducible exact H) | (have H2_ := (Option.bind_some _ _).symm.trans H; rw [hy168]; with_reducible exact H2_) | (have H2_ := (Option.bind_some _ _).symm.trans H; with_reducible exact H2_) | with_reducible exact H | (rw [hy168]; exact H) | exact H
                                            have Ny168 := Aside0.mk hy168
                                            clear hy168
                                            have H' := Aside0.mk H
                                            clear H
                                            have hnb64 := NB155_146.out
                                            have hnc64 := NB146_155.out
                                            have hcz65_0 : wr.cell? ⟨gb155, 0, none⟩ = some (.int .i64 a1) := (blk_cell BK155.out 0).trans rfl
                                            have hcz65_1 : wr.cell? ⟨gb155, 1, none⟩ = some (.int .i64 a2) := (blk_cell BK155.out 1).trans rfl
                                            have hcz65_2 : wr.cell? ⟨gb155, 2, none⟩ = some (u156002) := (blk_cell BK155.out 2).trans rfl
                                            have hfz65_0 := blk_frozen BK155.out 0
                                            have hfz65_1 := blk_frozen BK155.out 1
                                            have hfz65_2 := blk_frozen BK155.out 2
                                            obtain ⟨Ao66, co66, eo66⟩ := Kd.R_slice HO_156002.out
                                            subst eo66
                                            have p167 : 0 ≤ ((ji60) : Int) := of_decide_eq_true (by first | (with_reducible assumption) | assumption)
                                            have q167 : (ji60) < (x156002_4.length : Int) := of_decide_eq_true (by first | (with_reducible assumption) | assumption)
                                            obtain ⟨ad167, e167, hx167_0⟩ := Kd.at_int (Kd.R_reads' HO_156002.out).2.2 (ji60) p167 q167
                                            cases e167
                                            replace p167 := eq_true p167
                                            replace q167 := eq_true q167
                                            have p63 : 0 ≤ ((ji60) : Int) := of_decide_eq_true (by first | (with_reducible assumption) | assumption)
                                            have q63 : ((ji60) : Int) < ((x156002_4.length : Int) : Int) := of_decide_eq_true (by first | (with_reducible assumption) | assumption)
                                            obtain ⟨go63, co63, eo63, gb63, gl63, cl63, HG63⟩ := Kd.R_form HO_156002.out (by omega)
                                            (first | cases eo63 | (injection eo63 with ea_ en_ ec_; (first | subst ea_ | (injection ea_ with ea_; subst ea_)); subst ec_; clear en_))
                                            have GB63 := Aside0.mk gb63
                                            have GG63 := Aside0.mk HG63
                                            clear gb63 gl63 HG63
                                            (first | simp only [add_plain] at hx167_0 | skip)
                                            obtain ⟨hx63_0, hf63_0⟩ := Kd.R_celln 0 HO_156002.out ((ji60) : Int) p63 q63
                                            replace p63 := eq_true p63
                                            replace q63 := eq_true q63
                                            have HP67 := Kd.R_putg HO_156002.out ((ji60) : Int) (wrap64 ((rd x156002_4 (ji60)) + 1))
                                            go_wp2_with (first | ((with_reducible refine gate_store (t := 3) (p := 122) rfl ?_); refine store_event (t := 3) (p := 122) (v := ?vo_w68) (w1 := (wr.setCell ⟨go63, ((ji60) : Int).toNat, none⟩ (.int .i64 (wrap64 ((rd x156002_4 (ji60)) + 1))))) ?hg ?ho ?hn ?hr ?_; (case ho => rfl); (case hg => rfl); (case hn => rfl); (case hr => first | (go_simp; done) | (go_simp; rfl)); intro w68 hw; have hg : wr.grownBy w68 (some go63) := (by rw [hw]; exact HP67.2); have hp_ : Kd.R (Kd.int .i64) 3 w68 w.heap.size (fun _ => True) (.slice (some ⟨go63, 0, none⟩) x156002_4.length co66) y168 := (by rw [hw, Ny168.out]; exact HP67.1); clear HP67; have n0_ := Aside0.mk (Kd.R_over' (v := (.slice (some ⟨go63, 0, none⟩) x156002_4.length co66)) (by (with_reducible repeat (first | apply Kd.R_alloc | apply Kd.R_drewN | apply Kd.R_drew)); exact HO_10.out) (Kd.R_typed HO_156002.out) (by decide) hg); have n1_ := Aside0.mk (Kd.R_over' (v := (.slice (some ⟨go63, 0, none⟩) x156002_4.length co66)) (by (with_reducible repeat (first | apply Kd.R_alloc | apply Kd.R_drewN | apply Kd.R_drew)); exact HO_15.out) (Kd.R_typed HO_156002.out) (by decide) hg); have n2_ := Aside0.mk (Kd.R_over' (v := (.slice (some ⟨go63, 0, none⟩) x156002_4.length co66)) (by (with_reducible repeat (first | apply Kd.R_alloc | apply Kd.R_drewN | apply Kd.R_drew)); exact HO_84.out) (Kd.R_typed HO_156002.out) (by decide) hg); have n3_ := Aside0.mk (hp_); have n4_ := Aside0.mk (blk_grown (g := gb146) (o := .cells #[.int .i64 0, .int .i64 0, .slice none 0 0] 67 (0, 0)) (by (with_reducible repeat (first | refine blk_drewN ?_ _ | refine blk_drew ?_ | refine blk_alloc ?_ _)); exact BK146.out) hg (Kd.R_ne HO_156002.out BK146.out (by decide))); have n5_ := Aside0.mk (blk_grown (g := gb155) (o := .cells #[.int .i64 a1, .int .i64 a2, .slice (some ⟨go63, 0, none⟩) x156002_4.length co66] 67 (0, 0)) (by (with_reducible repeat (first | refine blk_drewN ?_ _ | refine blk_drew ?_ | refine blk_alloc ?_ _)); exact BK155.out) hg (Kd.R_ne HO_156002.out BK155.out (by decide))); have n6_ := Aside0.mk ((by rw [hw]; exact below_set (HB.out) GB63.out : Below w.heap.size w w68)); clear HO_10; clear HO_15; clear HO_84; clear HO_156002; clear BK146; clear BK155; clear HB; have HO_10 := n0_; have HO_15 := n1_; have HO_84 := n2_; have HO_156002 := n3_; have BK146 := n4_; have BK155 := n5_; have HB := n6_; clear n0_ n1_ n2_ n3_ n4_ n5_ n6_; clear hg hw hp_))
                                            go_roundg k5
                                            case measure => have := HJ5.out; have := HK2.out; have := HK3.out; have := HK4.out; have := HK5.out; omega
                                            case rel => exact ⟨(wrap64 (x81_4 + 1)), (y168), (.slice (some ⟨go63, 0, none⟩) x156002_4.length co66), (by first | rfl | (simp; done) | (simp [*]; done)), H', ⟨by have := HJ5.out; have := HK2.out; have := HK3.out; have := HK4.out; have := HK5.out; omega⟩, ⟨by (with_reducible repeat (first | apply Kd.R_alloc | apply Kd.R_drewN | apply Kd.R_drew)); exact Kd.R_mono HO_10.out (fun _ hk => hk.1)⟩, ⟨by (with_reducible repeat (first | apply Kd.R_alloc | apply Kd.R_drewN | apply Kd.R_drew)); exact HO_15.out⟩, ⟨by (with_reducible repeat (first | apply Kd.R_alloc | apply Kd.R_drewN | apply Kd.R_drew)); exact HO_156002.out⟩, ⟨by (with_reducible repeat (first | refine blk_drewN ?_ _ | refine blk_drew ?_ | refine blk_alloc ?_ _)); exact BK146.out⟩, ⟨by (with_reducible repeat (first | refine blk_drewN ?_ _ | refine blk_drew ?_ | refine blk_alloc ?_ _)); exact BK155.out⟩, ⟨by repeat (first | (with_reducible first | exact HB.out | apply below_alloc | apply pw_below_drewN | apply below_drew1 | refine below_set ?_ GE146.out | refine below_set ?_ GE155.out) | exact HB.out)⟩⟩
                                          · rw [if_neg c62] at H
                                            exact absurd H (by simp)
                                        · rw [if_neg c61] at H
                                          exact absurd H (by simp)
                                    · rw [if_neg c58] at H
                                      have c58b0 : (x19_5 == 0) = false := beq_eq_false_iff_ne.mpr c58
                                      have c58b1 : (x19_5 != 0) = true := bne_iff_ne.mpr c58
                                      by_cases c69 : a3 = true
                                      · subst c69
                                        have H1 : (if (Int.tmod x19_5 2) = 0 then (impl_CoverOf.l2 k5 a1 true t147 x45_2 (wrap64 ((wrap64 (4 * x45_2)) + 2)) x15_3 (wrap64 (4 * a2)) x45_2 (wrap64 (4 * a1)) (wrap64 (x81_4 + 1)) a1 a2 x156002_4) else (if 0 ≤ (wrap64 ((wrap64 ((wrap64 (Int.tdiv x45_2 4)) * a1)) + (wrap64 (Int.tdiv x81_4 4)))) then (if (wrap64 ((wrap64 ((wrap64 (Int.tdiv x45_2 4)) * a1)) + (wrap64 (Int.tdiv x81_4 4)))) < (x156002_4.length : Int) then (impl_CoverOf.l2 k5 a1 true t147 x45_2 (wrap64 ((wrap64 (4 * x45_2)) + 2)) x15_3 (wrap64 (4 * a2)) x45_2 (wrap64 (4 * a1)) (wrap64 (x81_4 + 1)) a1 a2 (x156002_4.set ((wrap64 ((wrap64 ((wrap64 (Int.tdiv x45_2 4)) * a1)) + (wrap64 (Int.tdiv x81_4 4)))) : Int).toNat (wrap64 ((rd x156002_4 (wrap64 ((wrap64 ((wrap64 (Int.tdiv x45_2 4)) * a1)) + (wrap64 (Int.tdiv x81_4 4))))) + 1)))) else (none)) else (none))) = some (r1, r2, r3, r4) := by rw [if_pos rfl] at H; exact H
                                        clear H
                                        have H := H1
                                        clear H1
                                        by_cases c70 : (Int.tmod x19_5 2) = 0
                                        · rw [if_pos c70] at H
                                          have c70b0 : ((Int.tmod x19_5 2) == 0) = true := beq_iff_eq.mpr c70
                                          have c70b1 : ((Int.tmod x19_5 2) != 0) = false := bne_eq_false_iff_eq.mpr c70
                                          clear c70
                                          have H' := Aside0.mk H
                                          clear H
                                          go_wp2
                                          go_roundg k5
                                          case measure => have := HJ5.out; have := HK2.out; have := HK3.out; have := HK4.out; have := HK5.out; omega
                                          case rel => exact ⟨(wrap64 (x81_4 + 1)), (x156002_4), (u156002), (by first | rfl | (simp; done) | (simp [*]; done)), H', ⟨by have := HJ5.out; have := HK2.out; have := HK3.out; have := HK4.out; have := HK5.out; omega⟩, ⟨by (with_reducible repeat (first | apply Kd.R_alloc | apply Kd.R_drewN | apply Kd.R_drew)); exact Kd.R_mono HO_10.out (fun _ hk => hk.1)⟩, ⟨by (with_reducible repeat (first | apply Kd.R_alloc | apply Kd.R_drewN | apply Kd.R_drew)); exact HO_15.out⟩, ⟨by (with_reducible repeat (first | apply Kd.R_alloc | apply Kd.R_drewN | apply Kd.R_drew)); exact HO_156002.out⟩, ⟨by (with_reducible repeat (first | refine blk_drewN ?_ _ | refine blk_drew ?_ | refine blk_alloc ?_ _)); exact BK146.out⟩, ⟨by (with_reducible repeat (first | refine blk_drewN ?_ _ | refine blk_drew ?_ | refine blk_alloc ?_ _)); exact BK155.out⟩, ⟨by repeat (first | (with_reducible first | exact HB.out | apply below_alloc | apply pw_below_drewN | apply below_drew1 | refine below_set ?_ GE146.out | refine below_set ?_ GE155.out) | exact HB.out)⟩⟩
                                        · rw [if_neg c70] at H
                                          have c70b0 : ((Int.tmod x19_5 2) == 0) = false := beq_eq_false_iff_ne.mpr c70
                                          have c70b1 : ((Int.tmod x19_5 2) != 0) = true := bne_iff_ne.mpr c70
                                          obtain ⟨ji71, hji71⟩ : ∃ j_ : Int, (wrap64 ((wrap64 ((wrap64 (Int.tdiv x45_2 4)) * a1)) + (wrap64 (Int.tdiv x81_4 4)))) = j_ := ⟨_, rfl⟩
                                          replace H : (if 0 ≤ (ji71) then (if (ji71) < (x156002_4.length : Int) then (impl_CoverOf.l2 k5 a1 true t147 x45_2 (wrap64 ((wrap64 (4 * x45_2)) + 2)) x15_3 (wrap64 (4 * a2)) x45_2 (wrap64 (4 * a1)) (wrap64 (x81_4 + 1)) a1 a2 (x156002_4.set ((ji71) : Int).toNat (wrap64 ((rd x156002_4 (ji71)) + 1)))) else (none)) else (none)) = some (r1, r2, r3, r4) := by first | (rw [hji71] at H; exact H) | (simp only [hji71] at H ⊢; exact H)
                                          have hji71w : (IntKind.i64.wrap ((wrap64 ((wrap64 (Int.tdiv x45_2 4)) * a1)) + (wrap64 (Int.tdiv x81_4 4)))) = ji71 := (i64_w _).trans hji71
                                          by_cases c72 : 0 ≤ (ji71)
                                          · rw [if_pos c72] at H
                                            have c72b0 : decide (0 ≤ (ji71)) = true := decide_eq_true c72
                                            clear c72
                                            by_cases c73 : (ji71) < (x156002_4.length : Int)
                                            · rw [if_pos c73] at H
                                              have c73b0 : decide ((ji71) < (x156002_4.length : Int)) = true := decide_eq_true c73
                                              clear c73
                                              obtain ⟨y170, hy170⟩ : ∃ y_ : List Int, y_ = (x156002_4.set ((ji71) : Int).toNat (wrap64 ((rd x156002_4 (ji71)) + 1))) := ⟨_, rfl⟩
                                              replace H : (impl_CoverOf.l2 k5 a1 true t147 x45_2 (wrap64 ((wrap64 (4 * x45_2)) + 2)) x15_3 (wrap64 (4 * a2)) x45_2 (wrap64 (4 * a1)) (wrap64 (x81_4 + 1)) a1 a2 y170) = some (r1, r2, r3, r4) := by first | (rw [hy170]; with_reducible exact H) | (have H2_ := (Option.bind_some _ _).symm.trans H; rw [hy170]; with_reducible exact H2_) | (have H2_ := (Option.bind_some _ _).symm.trans H; with_reducible exact H2_) | with_reducible exact H | (rw [hy170]; exact H) | exact H
                                              have Ny170 := Aside0.mk hy170
                                              clear hy170
                                              have H' := Aside0.mk H
                                              clear H
                                              have hnb75 := NB155_146.out
                                              have hnc75 := NB146_155.out
                                              have hcz76_0 : wr.cell? ⟨gb155, 0, none⟩ = some (.int .i64 a1) := (blk_cell BK155.out 0).trans rfl
                                              have hcz76_1 : wr.cell? ⟨gb155, 1, none⟩ = some (.int .i64 a2) := (blk_cell BK155.out 1).trans rfl
                                              have hcz76_2 : wr.cell? ⟨gb155, 2, none⟩ = some (u156002) := (blk_cell BK155.out 2).trans rfl
                                              have hfz76_0 := blk_frozen BK155.out 0
                                              have hfz76_1 := blk_frozen BK155.out 1
                                              have hfz76_2 := blk_frozen BK155.out 2
                                              obtain ⟨Ao77, co77, eo77⟩ := Kd.R_slice HO_156002.out
                                              subst eo77
                                              have p169 : 0 ≤ ((ji71) : Int) := of_decide_eq_true (by first | (with_reducible assumption) | assumption)
                                              have q169 : (ji71) < (x156002_4.length : Int) := of_decide_eq_true (by first | (with_reducible assumption) | assumption)
                                              obtain ⟨ad169, e169, hx169_0⟩ := Kd.at_int (Kd.R_reads' HO_156002.out).2.2 (ji71) p169 q169
                                              cases e169
                                              replace p169 := eq_true p169
                                              replace q169 := eq_true q169
                                              have p74 : 0 ≤ ((ji71) : Int) := of_decide_eq_true (by first | (with_reducible assumption) | assumption)
                                              have q74 : ((ji71) : Int) < ((x156002_4.length : Int) : Int) := of_decide_eq_true (by first | (with_reducible assumption) | assumption)
                                              obtain ⟨go74, co74, eo74, gb74, gl74, cl74, HG74⟩ := Kd.R_form HO_156002.out (by omega)
                                              (first | cases eo74 | (injection eo74 with ea_ en_ ec_; (first | subst ea_ | (injection ea_ with ea_; subst ea_)); subst ec_; clear en_))
                                              have GB74 := Aside0.mk gb74
                                              have GG74 := Aside0.mk HG74
                                              clear gb74 gl74 HG74
                                              (first | simp only [add_plain] at hx169_0 | skip)
                                              obtain ⟨hx74_0, hf74_0⟩ := Kd.R_celln 0 HO_156002.out ((ji71) : Int) p74 q74
                                              replace p74 := eq_true p74
                                              replace q74 := eq_true q74
                                              have HP78 := Kd.R_putg HO_156002.out ((ji71) : Int) (wrap64 ((rd x156002_4 (ji71)) + 1))
                                              go_wp2_with (first | ((with_reducible refine gate_store (t := 3) (p := 122) rfl ?_); refine store_event (t := 3) (p := 122) (v := ?vo_w79) (w1 := (wr.setCell ⟨go74, ((ji71) : Int).toNat, none⟩ (.int .i64 (wrap64 ((rd x156002_4 (ji71)) + 1))))) ?hg ?ho ?hn ?hr ?_; (case ho => rfl); (case hg => rfl); (case hn => rfl); (case hr => first | (go_simp; done) | (go_simp; rfl)); intro w79 hw; have hg : wr.grownBy w79 (some go74) := (by rw [hw]; exact HP78.2); have hp_ : Kd.R (Kd.int .i64) 3 w79 w.heap.size (fun _ => True) (.slice (some ⟨go74, 0, none⟩) x156002_4.length co77) y170 := (by rw [hw, Ny170.out]; exact HP78.1); clear HP78; have n0_ := Aside0.mk (Kd.R_over' (v := (.slice (some ⟨go74, 0, none⟩) x156002_4.length co77)) (by (with_reducible repeat (first | apply Kd.R_alloc | apply Kd.R_drewN | apply Kd.R_drew)); exact HO_10.out) (Kd.R_typed HO_156002.out) (by decide) hg); have n1_ := Aside0.mk (Kd.R_over' (v := (.slice (some ⟨go74, 0, none⟩) x156002_4.length co77)) (by (with_reducible repeat (first | apply Kd.R_alloc | apply Kd.R_drewN | apply Kd.R_drew)); exact HO_15.out) (Kd.R_typed HO_156002.out) (by decide) hg); have n2_ := Aside0.mk (Kd.R_over' (v := (.slice (some ⟨go74, 0, none⟩) x156002_4.length co77)) (by (with_reducible repeat (first | apply Kd.R_alloc | apply Kd.R_drewN | apply Kd.R_drew)); exact HO_84.out) (Kd.R_typed HO_156002.out) (by decide) hg); have n3_ := Aside0.mk (hp_); have n4_ := Aside0.mk (blk_grown (g := gb146) (o := .cells #[.int .i64 0, .int .i64 0, .slice none 0 0] 67 (0, 0)) (by (with_reducible repeat (first | refine blk_drewN ?_ _ | refine blk_drew ?_ | refine blk_alloc ?_ _)); exact BK146.out) hg (Kd.R_ne HO_156002.out BK146.out (by decide))); have n5_ := Aside0.mk (blk_grown (g := gb155) (o := .cells #[.int .i64 a1, .int .i64 a2, .slice (some ⟨go74, 0, none⟩) x156002_4.length co77] 67 (0, 0)) (by (with_reducible repeat (first | refine blk_drewN ?_ _ | refine blk_drew ?_ | refine blk_alloc ?_ _)); exact BK155.out) hg (Kd.R_ne HO_156002.out BK155.out (by decide))); have n6_ := Aside0.mk ((by rw [hw]; exact below_set (HB.out) GB74.out : Below w.heap.size w w79)); clear HO_10; clear HO_15; clear HO_84; clear HO_156002; clear BK146; clear BK155; clear HB; have HO_10 := n0_; have HO_15 := n1_; have HO_84 := n2_; have HO_156002 := n3_; have BK146 := n4_; have BK155 := n5_; have HB := n6_; clear n0_ n1_ n2_ n3_ n4_ n5_ n6_; clear hg hw hp_))
                                              go_roundg k5
                                              case measure => have := HJ5.out; have := HK2.out; have := HK3.out; have := HK4.out; have := HK5.out; omega
                                              case rel => exact ⟨(wrap64 (x81_4 + 1)), (y170), (.slice (some ⟨go74, 0, none⟩) x156002_4.length co77), (by first | rfl | (simp; done) | (simp [*]; done)), H', ⟨by have := HJ5.out; have := HK2.out; have := HK3.out; have := HK4.out; have := HK5.out; omega⟩, ⟨by (with_reducible repeat (first | apply Kd.R_alloc | apply Kd.R_drewN | apply Kd.R_drew)); exact Kd.R_mono HO_10.out (fun _ hk => hk.1)⟩, ⟨by (with_reducible repeat (first | apply Kd.R_alloc | apply Kd.R_drewN | apply Kd.R_drew)); exact HO_15.out⟩, ⟨by (with_reducible repeat (first | apply Kd.R_alloc | apply Kd.R_drewN | apply Kd.R_drew)); exact HO_156002.out⟩, ⟨by (with_reducible repeat (first | refine blk_drewN ?_ _ | refine blk_drew ?_ | refine blk_alloc ?_ _)); exact BK146.out⟩, ⟨by (with_reducible repeat (first | refine blk_drewN ?_ _ | refine blk_drew ?_ | refine blk_alloc ?_ _)); exact BK155.out⟩, ⟨by repeat (first | (with_reducible first | exact HB.out | apply below_alloc | apply pw_below_drewN | apply below_drew1 | refine below_set ?_ GE146.out | refine below_set ?_ GE155.out) | exact HB.out)⟩⟩
                                            · rw [if_neg c73] at H
                                              exact absurd H (by simp)
                                          · rw [if_neg c72] at H
                                            exact absurd H (by simp)
                                      · replace c69 := Bool.eq_false_iff.mpr c69
                                        subst c69
                                        have H1 : (if 0 ≤ (wrap64 ((wrap64 ((wrap64 (Int.tdiv x45_2 4)) * a1)) + (wrap64 (Int.tdiv x81_4 4)))) then (if (wrap64 ((wrap64 ((wrap64 (Int.tdiv x45_2 4)) * a1)) + (wrap64 (Int.tdiv x81_4 4)))) < (x156002_4.length : Int) then (impl_CoverOf.l2 k5 a1 false t147 x45_2 (wrap64 ((wrap64 (4 * x45_2)) + 2)) x15_3 (wrap64 (4 * a2)) x45_2 (wrap64 (4 * a1)) (wrap64 (x81_4 + 1)) a1 a2 (x156002_4.set ((wrap64 ((wrap64 ((wrap64 (Int.tdiv x45_2 4)) * a1)) + (wrap64 (Int.tdiv x81_4 4)))) : Int).toNat (wrap64 ((rd x156002_4 (wrap64 ((wrap64 ((wrap64 (Int.tdiv x45_2 4)) * a1)) + (wrap64 (Int.tdiv x81_4 4))))) + 1)))) else (none)) else (none)) = some (r1, r2, r3, r4) := by rw [if_neg (show ¬ (false = true) by decide)] at H; exact H
                                        clear H
                                        have H := H1
                                        clear H1
                                        obtain ⟨ji80, hji80⟩ : ∃ j_ : Int, (wrap64 ((wrap64 ((wrap64 (Int.tdiv x45_2 4)) * a1)) + (wrap64 (Int.tdiv x81_4 4)))) = j_ := ⟨_, rfl⟩
                                        replace H : (if 0 ≤ (ji80) then (if (ji80) < (x156002_4.length : Int) then (impl_CoverOf.l2 k5 a1 false t147 x45_2 (wrap64 ((wrap64 (4 * x45_2)) + 2)) x15_3 (wrap64 (4 * a2)) x45_2 (wrap64 (4 * a1)) (wrap64 (x81_4 + 1)) a1 a2 (x156002_4.set ((ji80) : Int).toNat (wrap64 ((rd x156002_4 (ji80)) + 1)))) else (none)) else (none)) = some (r1, r2, r3, r4) := by first | (rw [hji80] at H; exact H) | (simp only [hji80] at H ⊢; exact H)
                                        have hji80w : (IntKind.i64.wrap ((wrap64 ((wrap64 (Int.tdiv x45_2 4)) * a1)) + (wrap64 (Int.tdiv x81_4 4)))) = ji80 := (i64_w _).trans hji80
                                        by_cases c81 : 0 ≤ (ji80)
                                        · rw [if_pos c81] at H
                                          have c81b0 : decide (0 ≤ (ji80)) = true := decide_eq_true c81
                                          clear c81
                                          by_cases c82 : (ji80) < (x156002_4.length : Int)
                                          · rw [if_pos c82] at H
                                            have c82b0 : decide ((ji80) < (x156002_4.length : Int)) = true := decide_eq_true c82
                                            clear c82
                                            obtain ⟨y172, hy172⟩ : ∃ y_ : List Int, y_ = (x156002_4.set ((ji80) : Int).toNat (wrap64 ((rd x156002_4 (ji80)) + 1))) := ⟨_, rfl⟩
                                            replace H : (impl_CoverOf.l2 k5 a1 false t147 x45_2 (wrap64 ((wrap64 (4 * x45_2)) + 2)) x15_3 (wrap64 (4 * a2)) x45_2 (wrap64 (4 * a1)) (wrap64 (x81_4 + 1)) a1 a2 y172) = some (r1, r2, r3, r4) := by first | (rw [hy172]; with_reducible exact H) | (have H2_ := (Option.bind_some _ _).symm.trans H; rw [hy172]; with_reducible exact H2_) | (have H2_ := (Option.bind_some _ _).symm.trans H; with_reducible exact H2_) | with_reducible exact H | (rw [hy172]; exact H) | exact H
                                            have Ny172 := Aside0.mk hy172
                                            clear hy172
                                            have H' := Aside0.mk H
                                            clear H
                                            have hnb84 := NB155_146.out
                                            have hnc84 := NB146_155.out
                                            have hcz85_0 : wr.cell? ⟨gb155, 0, none⟩ = some (.int .i64 a1) := (blk_cell BK155.out 0).trans rfl
                                            have hcz85_1 : wr.cell? ⟨gb155, 1, none⟩ = some (.int .i64 a2) := (blk_cell BK155.out 1).trans rfl
                                            have hcz85_2 : wr.cell? ⟨gb155, 2, none⟩ = some (u156002) := (blk_cell BK155.out 2).trans rfl
                                            have hfz85_0 := blk_frozen BK155.out 0
                                            have hfz85_1 := blk_frozen BK155.out 1
                                            have hfz85_2 := blk_frozen BK155.out 2
                                            obtain ⟨Ao86, co86, eo86⟩ := Kd.R_slice HO_156002.out
                                            subst eo86
                                            have p171 : 0 ≤ ((ji80) : Int) := of_decide_eq_true (by first | (with_reducible assumption) | assumption)
                                            have q171 : (ji80) < (x156002_4.length : Int) := of_decide_eq_true (by first | (with_reducible assumption) | assumption)
                                            obtain ⟨ad171, e171, hx171_0⟩ := Kd.at_int (Kd.R_reads' HO_156002.out).2.2 (ji80) p171 q171
                                            cases e171
                                            replace p171 := eq_true p171
                                            replace q171 := eq_true q171
                                            have p83 : 0 ≤ ((ji80) : Int) := of_decide_eq_true (by first | (with_reducible assumption) | assumption)
                                            have q83 : ((ji80) : Int) < ((x156002_4.length : Int) : Int) := of_decide_eq_true (by first | (with_reducible assumption) | assumption)
                                            obtain ⟨go83, co83, eo83, gb83, gl83, cl83, HG83⟩ := Kd.R_form HO_156002.out (by omega)
                                            (first | cases eo83 | (injection eo83 with ea_ en_ ec_; (first | subst ea_ | (injection ea_ with ea_; subst ea_)); subst ec_; clear en_))
                                            have GB83 := Aside0.mk gb83
                                            have GG83 := Aside0.mk HG83
                                            clear gb83 gl83 HG83
                                            (first | simp only [add_plain] at hx171_0 | skip)
                                            obtain ⟨hx83_0, hf83_0⟩ := Kd.R_celln 0 HO_156002.out ((ji80) : Int) p83 q83
                                            replace p83 := eq_true p83
                                            replace q83 := eq_true q83
                                            have HP87 := Kd.R_putg HO_156002.out ((ji80) : Int) (wrap64 ((rd x156002_4 (ji80)) + 1))
                                            go_wp2_with (first | ((with_reducible refine gate_store (t := 3) (p := 122) rfl ?_); refine store_event (t := 3) (p := 122) (v := ?vo_w88) (w1 := (wr.setCell ⟨go83, ((ji80) : Int).toNat, none⟩ (.int .i64 (wrap64 ((rd x156002_4 (ji80)) + 1))))) ?hg ?ho ?hn ?hr ?_; (case ho => rfl); (case hg => rfl); (case hn => rfl); (case hr => first | (go_simp; done) | (go_simp; rfl)); intro w88 hw; have hg : wr.grownBy w88 (some go83) := (by rw [hw]; exact HP87.2); have hp_ : Kd.R (Kd.int .i64) 3 w88 w.heap.size (fun _ => True) (.slice (some ⟨go83, 0, none⟩) x156002_4.length co86) y172 := (by rw [hw, Ny172.out]; exact HP87.1); clear HP87; have n0_ := Aside0.mk (Kd.R_over' (v := (.slice (some ⟨go83, 0, none⟩) x156002_4.length co86)) (by (with_reducible repeat (first | apply Kd.R_alloc | apply Kd.R_drewN | apply Kd.R_drew)); exact HO_10.out) (Kd.R_typed HO_156002.out) (by decide) hg); have n1_ := Aside0.mk (Kd.R_over' (v := (.slice (some ⟨go83, 0, none⟩) x156002_4.length co86)) (by (with_reducible repeat (first | apply Kd.R_alloc | apply Kd.R_drewN | apply Kd.R_drew)); exact HO_15.out) (Kd.R_typed HO_156002.out) (by decide) hg); have n2_ := Aside0.mk (Kd.R_over' (v := (.slice (some ⟨go83, 0, none⟩) x156002_4.length co86)) (by (with_reducible repeat (first | apply Kd.R_alloc | apply Kd.R_drewN | apply Kd.R_drew)); exact HO_84.out) (Kd.R_typed HO_156002.out) (by decide) hg); have n3_ := Aside0.mk (hp_); have n4_ := Aside0.mk (blk_grown (g := gb146) (o := .cells #[.int .i64 0, .int .i64 0, .slice none 0 0] 67 (0, 0)) (by (with_reducible repeat (first | refine blk_drewN ?_ _ | refine blk_drew ?_ | refine blk_alloc ?_ _)); exact BK146.out) hg (Kd.R_ne HO_156002.out BK146.out (by decide))); have n5_ := Aside0.mk (blk_grown (g := gb155) (o := .cells #[.int .i64 a1, .int .i64 a2, .slice (some ⟨go83, 0, none⟩) x156002_4.length co86] 67 (0, 0)) (by (with_reducible repeat (first | refine blk_drewN ?_ _ | refine blk_drew ?_ | refine blk_alloc ?_ _)); exact BK155.out) hg (Kd.R_ne HO_156002.out BK155.out (by decide))); have n6_ := Aside0.mk ((by rw [hw]; exact below_set (HB.out) GB83.out : Below w.heap.size w w88)); clear HO_10; clear HO_15; clear HO_84; clear HO_156002; clear BK146; clear BK155; clear HB; have HO_10 := n0_; have HO_15 := n1_; have HO_84 := n2_; have HO_156002 := n3_; have BK146 := n4_; have BK155 := n5_; have HB := n6_; clear n0_ n1_ n2_ n3_ n4_ n5_ n6_; clear hg hw hp_))
                                            go_roundg k5
                                            case measure => have := HJ5.out; have := HK2.out; have := HK3.out; have := HK4.out; have := HK5.out; omega
                                            case rel => exact ⟨(wrap64 (x81_4 + 1)), (y172), (.slice (some ⟨go83, 0, none⟩) x156002_4.length co86), (by first | rfl | (simp; done) | (simp [*]; done)), H', ⟨by have := HJ5.out; have := HK2.out; have := HK3.out; have := HK4.out; have := HK5.out; omega⟩, ⟨by (with_reducible repeat (first | apply Kd.R_alloc | apply Kd.R_drewN | apply Kd.R_drew)); exact Kd.R_mono HO_10.out (fun _ hk => hk.1)⟩, ⟨by (with_reducible repeat (first | apply Kd.R_alloc | apply Kd.R_drewN | apply Kd.R_drew)); exact HO_15.out⟩, ⟨by (with_reducible repeat (first | apply Kd.R_alloc | apply Kd.R_drewN | apply Kd.R_drew)); exact HO_156002.out⟩, ⟨by (with_reducible repeat (first | refine blk_drewN ?_ _ | refine blk_drew ?_ | refine blk_alloc ?_ _)); exact BK146.out⟩, ⟨by (with_reducible repeat (first | refine blk_drewN ?_ _ | refine blk_drew ?_ | refine blk_alloc ?_ _)); exact BK155.out⟩, ⟨by repeat (first | (with_reducible first | exact HB.out | apply below_alloc | apply pw_below_drewN | apply below_drew1 | refine below_set ?_ GE146.out | refine below_set ?_ GE155.out) | exact HB.out)⟩⟩
                                          · rw [if_neg c82] at H
                                            exact absurd H (by simp)
                                        · rw [if_neg c81] at H
                                          exact absurd H (by simp)
                            · rw [if_neg c47] at H
                              have c47b0 : decide (x81_4 < (wrap64 (4 * a1))) = false := decide_eq_false c47
                              clear c47
                              have H' := Aside0.mk H
                              clear H
                              go_wp2
                              go_roundg k4
                              case measure => have := HJ5.out; have := HK2.out; have := HK3.out; have := HK4.out; omega
                              case rel => exact ⟨(wrap64 (x45_2 + 1)), (x156002_4), (u156002), (by first | rfl | (simp; done) | (simp [*]; done)), H', ⟨by have := HJ5.out; have := HK2.out; have := HK3.out; have := HK4.out; omega⟩, ⟨by (with_reducible repeat (first | apply Kd.R_alloc | apply Kd.R_drewN | apply Kd.R_drew)); exact Kd.R_mono HO_10.out (fun _ hk => trivial)⟩, ⟨by (with_reducible repeat (first | apply Kd.R_alloc | apply Kd.R_drewN | apply Kd.R_drew)); exact HO_156002.out⟩, ⟨by (with_reducible repeat (first | refine blk_drewN ?_ _ | refine blk_drew ?_ | refine blk_alloc ?_ _)); exact BK146.out⟩, ⟨by (with_reducible repeat (first | refine blk_drewN ?_ _ | refine blk_drew ?_ | refine blk_alloc ?_ _)); exact BK155.out⟩, ⟨by repeat (first | (with_reducible first | exact HB.out | apply below_alloc | apply pw_below_drewN | apply below_drew1 | refine below_set ?_ GE146.out | refine below_set ?_ GE155.out) | exact HB.out)⟩⟩
                · rw [if_neg c22] at H
                  have c22b0 : decide (x45_2 < (wrap64 (4 * a2))) = false := decide_eq_false c22
                  clear c22
                  simp only [Option.some.injEq, Prod.mk.injEq] at H
                  obtain ⟨rfl, rfl, rfl, rfl⟩ := H
                  have hnb89 := NB155_146.out
                  have hnc89 := NB146_155.out
                  have hcz90_0 : wr.cell? ⟨gb155, 0, none⟩ = some (.int .i64 a1) := (blk_cell BK155.out 0).trans rfl
                  have hcz90_1 : wr.cell? ⟨gb155, 1, none⟩ = some (.int .i64 a2) := (blk_cell BK155.out 1).trans rfl
                  have hcz90_2 : wr.cell? ⟨gb155, 2, none⟩ = some (u156002) := (blk_cell BK155.out 2).trans rfl
                  have hfz90_0 := blk_frozen BK155.out 0
                  have hfz90_1 := blk_frozen BK155.out 1
                  have hfz90_2 := blk_frozen BK155.out 2
                  have hcz91_0 : wr.cell? ⟨gb146, 0, none⟩ = some (.int .i64 0) := (blk_cell BK146.out 0).trans rfl
                  have hcz91_1 : wr.cell? ⟨gb146, 1, none⟩ = some (.int .i64 0) := (blk_cell BK146.out 1).trans rfl
                  have hcz91_2 : wr.cell? ⟨gb146, 2, none⟩ = some (.slice none 0 0) := (blk_cell BK146.out 2).trans rfl
                  have hfz91_0 := blk_frozen BK146.out 0
                  have hfz91_1 := blk_frozen BK146.out 1
                  have hfz91_2 := blk_frozen BK146.out 2
                  obtain ⟨Ao92, co92, eo92⟩ := Kd.R_slice HO_156002.out
                  subst eo92
                  go_wp2
                  refine bodyPost_ret (results_ct rfl _ _ gb146 67 #[.int .i64 a1, .int .i64 a2, .slice Ao92 x156002_2.length co92] (0, 0) _ rfl (by (with_reducible repeat (first | refine blk_drewN ?_ _ | refine blk_drew ?_ | refine blk_alloc ?_ _)); refine blk_put (cs := #[.int .i64 a1, .int .i64 a2, .slice none 0 0]) ?_ 2 _ rfl; (with_reducible repeat (first | refine blk_drewN ?_ _ | refine blk_drew ?_ | refine blk_alloc ?_ _)); refine blk_put (cs := #[.int .i64 a1, .int .i64 0, .slice none 0 0]) ?_ 1 _ rfl; (with_reducible repeat (first | refine blk_drewN ?_ _ | refine blk_drew ?_ | refine blk_alloc ?_ _)); refine blk_put (cs := #[.int .i64 0, .int .i64 0, .slice none 0 0]) ?_ 0 _ rfl; (with_reducible repeat (first | refine blk_drewN ?_ _ | refine blk_drew ?_ | refine blk_alloc ?_ _)); exact BK146.out) Try.underlying67 rfl (by kernel_rfl)) rfl ?_
                  exact ⟨_, by first | rfl | (simp [errW_none, errW_some] <;> rfl) | (simp only [← hji13]; first | rfl | (simp [errW_none, errW_some] <;> rfl)) | (simp [*, errW_none, errW_some] <;> rfl), by (with_reducible repeat (first | apply Kd.R_alloc | apply Kd.R_drewN | apply Kd.R_drew)); exact Kd.R_mono (Kd.R_far (p := ⟨gb146, 2, none⟩) (Kd.R_far (p := ⟨gb146, 1, none⟩) (Kd.R_far (p := ⟨gb146, 0, none⟩) (Kd.R_types HO_156002.out BK146.out (by decide)) (fun _ hk => hk.2) (.int .i64 a1)) (fun _ hk => hk.2) (.int .i64 a2)) (fun _ hk => hk.2) (.slice Ao92 x156002_2.length co92)) (fun _ hk => trivial), by repeat (first | (with_reducible first | exact HB.out | apply below_alloc | apply pw_below_drewN | apply below_drew1 | refine below_set ?_ GE146.out | refine below_set ?_ GE155.out) | exact HB.out)⟩
          · rw [if_neg c15] at H
            exact absurd H (by simp)
        · rw [if_neg c14] at H
          exact absurd H (by simp)
end Go.Proofs.Ytdbgnoolokfafaa.HFnExactCoverOf
