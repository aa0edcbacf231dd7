-- Printed by a program of this session over the kit's print; functions that the print does not take stand here by hand.
import Derived.Test.YtdbgnoolokfafaaZShort
import Derived.Test.YtdbgnoolokfafaaZHFnCoverx0
import Derived.Test.YtdbgnoolokfafaaZHFnCoverx7
import Derived.Test.YtdbgnoolokfafaaZHFnCoverx8
import Derived.Test.YtdbgnoolokfafaaZHFnCoverx9
namespace Go.Proofs.Ytdbgnoolokfafaa.HFnCover
open Go.RowKit Go.Proofs.YtdbgnoolokfafaaW.PrintWords Go.Proofs.YtdbgnoolokfafaaW.PrintLast Go.Proofs.YtdbgnoolokfafaaW.PrintMore
attribute [local go_sem] max2_int min2_int max_two min_two max_three min_three max_four min_four   -- for this text's walks alone
set_option linter.unusedVariables false
set_option linter.unusedSimpArgs false
/-! ### impl_edgesOf: function 128 -/
mutual
def impl_edgesOf.j0 : Nat → List (S83) → Bool → Option ((List (S175)) × Bool)
  | 0, _, _ => none
  | k + 1, x0, x23 => if x23 = true then (some (([] : List (S175)), false)) else (impl_edgesOf.l0 k (([] : List (S175))) x0 (x0.length : Int) 0)
def impl_edgesOf.l0 : Nat → List (S175) → List (S83) → Int → Int → Option ((List (S175)) × Bool)
  | 0, _, _, _, _ => none
  | k + 1, x4, x25, x26, x27 => if x27 < x26 then (if 0 ≤ x27 then (if x27 < (x25.length : Int) then (impl_edgesOf.l1 k x4 (((rd_T83 x25 x27).f0).length : Int) x25 x26 x27 ((rd_T83 x25 x27).f0) (((rd_T83 x25 x27).f0).length : Int) 0 ((rd_T83 x25 x27).f0) ((rd_T83 x25 x27).f1)) else (none)) else (none)) else (some (x4, true))
def impl_edgesOf.l1 : Nat → List (S175) → Int → List (S83) → Int → Int → List (S25) → Int → Int → List (S25) → Bool → Option ((List (S175)) × Bool)
  | 0, _, _, _, _, _, _, _, _, _, _ => none
  | k + 1, x4, x7, x25, x26, x27, x35, x36, x37, x243000, x243001 => if x37 < x36 then (if 0 ≤ x37 then (if x37 < (x35.length : Int) then ((impl_FineOf.f ((rd_T25 x35 x37).f0) ((rd_T25 x35 x37).f1)).bind fun bt245 => (if x7 = 0 then (none) else (if 0 ≤ (Int.tmod (wrap64 (x37 + 1)) x7) then (if (Int.tmod (wrap64 (x37 + 1)) x7) < (x243000.length : Int) then ((impl_FineOf.f ((rd_T25 x243000 (Int.tmod (wrap64 (x37 + 1)) x7)).f0) ((rd_T25 x243000 (Int.tmod (wrap64 (x37 + 1)) x7)).f1)).bind fun bt249 => (if x4.length < 4398046511104 then (impl_edgesOf.l1 k (x4 ++ [(⟨bt245.1, bt245.2.1, bt249.1, bt249.2.1⟩ : S175)]) x7 x25 x26 x27 x35 x36 (wrap64 (x37 + 1)) x243000 x243001) else (none))) else (none)) else (none)))) else (none)) else (none)) else (impl_edgesOf.l0 k x4 x25 x26 (wrap64 (x27 + 1)))
end
def impl_edgesOf.f (k : Nat) (l0 : List (S83)) : Option ((List (S175)) × Bool) := (impl_countPoints.f k l0).bind fun t236 => (if t236 > 4800 then (impl_edgesOf.j0 k l0 true) else ((impl_areNear.f k l0).bind fun t237 => (impl_edgesOf.j0 k l0 (!t237))))
theorem impl_edgesOf.mono_l : ∀ k, (∀ y0 y1, LeO (impl_edgesOf.j0 k y0 y1) (impl_edgesOf.j0 (k + 1) y0 y1)) ∧ (∀ y0 y1 y2 y3, LeO (impl_edgesOf.l0 k y0 y1 y2 y3) (impl_edgesOf.l0 (k + 1) y0 y1 y2 y3)) ∧ (∀ y0 y1 y2 y3 y4 y5 y6 y7 y8 y9, LeO (impl_edgesOf.l1 k y0 y1 y2 y3 y4 y5 y6 y7 y8 y9) (impl_edgesOf.l1 (k + 1) y0 y1 y2 y3 y4 y5 y6 y7 y8 y9))
  | 0 => ⟨fun _ _ r h => by simp [impl_edgesOf.j0] at h, fun _ _ _ _ r h => by simp [impl_edgesOf.l0] at h, fun _ _ _ _ _ _ _ _ _ _ r h => by simp [impl_edgesOf.l1] at h⟩
  | k + 1 => by
    obtain ⟨ih0, ih1, ih2⟩ := impl_edgesOf.mono_l k
    refine ⟨?_, ?_, ?_⟩
    · intro y0 y1
      unfold impl_edgesOf.j0
      repeat' first
    | with_reducible exact ih0 _ _
    | with_reducible exact ih1 _ _ _ _
    | with_reducible exact ih2 _ _ _ _ _ _ _ _ _ _
    | with_reducible exact impl_areNear.mono ..
    | with_reducible exact impl_countPoints.mono ..
    | with_reducible exact LeO.refl _
    | with_reducible exact LeO.none _
    | with_reducible refine LeO.ite ?_ ?_
    | with_reducible refine LeO.bind ?_ (fun _ => ?_)
    | exact ih0 _ _
    | exact ih1 _ _ _ _
    | exact ih2 _ _ _ _ _ _ _ _ _ _
    | exact LeO.none _
    | refine LeO.ite ?_ ?_
    | refine LeO.bind ?_ (fun _ => ?_)
    · intro y0 y1 y2 y3
      unfold impl_edgesOf.l0
      repeat' first
    | with_reducible exact ih0 _ _
    | with_reducible exact ih1 _ _ _ _
    | with_reducible exact ih2 _ _ _ _ _ _ _ _ _ _
    | with_reducible exact impl_areNear.mono ..
    | with_reducible exact impl_countPoints.mono ..
    | with_reducible exact LeO.refl _
    | with_reducible exact LeO.none _
    | with_reducible refine LeO.ite ?_ ?_
    | with_reducible refine LeO.bind ?_ (fun _ => ?_)
    | exact ih0 _ _
    | exact ih1 _ _ _ _
    | exact ih2 _ _ _ _ _ _ _ _ _ _
    | exact LeO.none _
    | refine LeO.ite ?_ ?_
    | refine LeO.bind ?_ (fun _ => ?_)
    · intro y0 y1 y2 y3 y4 y5 y6 y7 y8 y9
      unfold impl_edgesOf.l1
      repeat' first
    | with_reducible exact ih0 _ _
    | with_reducible exact ih1 _ _ _ _
    | with_reducible exact ih2 _ _ _ _ _ _ _ _ _ _
    | with_reducible exact impl_areNear.mono ..
    | with_reducible exact impl_countPoints.mono ..
    | with_reducible exact LeO.refl _
    | with_reducible exact LeO.none _
    | with_reducible refine LeO.ite ?_ ?_
    | with_reducible refine LeO.bind ?_ (fun _ => ?_)
    | exact ih0 _ _
    | exact ih1 _ _ _ _
    | exact ih2 _ _ _ _ _ _ _ _ _ _
    | exact LeO.none _
    | refine LeO.ite ?_ ?_
    | refine LeO.bind ?_ (fun _ => ?_)
theorem impl_edgesOf.mono : ∀ a0 k, LeO (impl_edgesOf.f k a0) (impl_edgesOf.f (k + 1) a0) := by
  intro a0 k
  obtain ⟨ih0, ih1, ih2⟩ := impl_edgesOf.mono_l k
  unfold impl_edgesOf.f
  repeat' first
    | with_reducible exact ih0 _ _
    | with_reducible exact ih1 _ _ _ _
    | with_reducible exact ih2 _ _ _ _ _ _ _ _ _ _
    | with_reducible exact impl_areNear.mono ..
    | with_reducible exact impl_countPoints.mono ..
    | with_reducible exact LeO.refl _
    | with_reducible exact LeO.none _
    | with_reducible refine LeO.ite ?_ ?_
    | with_reducible refine LeO.bind ?_ (fun _ => ?_)
    | exact ih0 _ _
    | exact ih1 _ _ _ _
    | exact ih2 _ _ _ _ _ _ _ _ _ _
    | exact LeO.none _
    | refine LeO.ite ?_ ?_
    | refine LeO.bind ?_ (fun _ => ?_)
def impl_edgesOf.T12 : Bool × List (List Nat × List Nat) := (true, [([], []), ([0], [0]), ([], []), ([2], [2]), ([], []), ([3, 4], [3, 4]), ([1, 5], [1, 5]), ([6], [6]), ([7], [7]), ([8], [8]), ([9], [9]), ([9], [9]), ([9], [9]), ([10, 8, 0, 1, 2, 3, 4, 5, 6, 7, 8, 9, 10], [10]), ([11, 13, 0, 1, 2, 3, 4, 5, 6, 7, 8, 9, 10, 11, 13], [11]), ([12, 14, 0, 1, 2, 3, 4, 5, 6, 7, 8, 9, 10, 11, 12, 13, 14], [12])])
def impl_edgesOf.B12 : List Nat := [0, 1, 0, 4, 0, 28, 63, 127, 255, 511, 1023, 1023, 1023, 2047, 12287, 32767]
theorem impl_edgesOf.tab12 : rtab .any (opsOf Try.f128 12) = impl_edgesOf.T12 := by kernel_rfl
theorem impl_edgesOf.bits12 : waitsOk impl_edgesOf.T12.2 impl_edgesOf.B12 = true := by kernel_rfl
set_option maxHeartbeats 8000000 in
set_option maxRecDepth 100000 in
theorem impl_edgesOf.calls (k : Nat) (A0 : Option Addr) (c0 : Nat) (l0 : List (S83)) (r1 : List (S175)) (r2 : Bool) (w : World) (hr0 : Kd.C k83 w A0 l0.length l0) (hc0 : l0.length ≤ c0) (h : impl_edgesOf.f k l0 = some (r1, r2)) :
    Calls Try.prog 128 #[.slice A0 l0.length c0] w fun e w' => ∃ v0_ : Value, e = .returned (.tuple #[v0_, .bool r2]) ∧ Kd.R k175 175 w' w.heap.size (fun _ => True) v0_ r1 ∧ Below w.heap.size w w' := by
 have hu83 := Try.underlying83
 have hu25 := Try.underlying25
 have hu175 := Try.underlying175
 have HR0 := Aside0.mk hr0
 have HC0 := Aside0.mk hc0
 clear hr0 hc0
 have HB := Aside0.mk (Below.refl w.heap.size w)
 have H : ((impl_countPoints.f k l0).bind fun t236 => (if t236 > 4800 then (impl_edgesOf.j0 k l0 true) else ((impl_areNear.f k l0).bind fun t237 => (impl_edgesOf.j0 k l0 (!t237))))) = some (r1, r2) := h
 clear h
 have HC2 := Aside0.mk H
 clear H
 go_enter Try.func128, Try.ntmps128
 go_upto_region 1 with (fail)
 go_cut [23] (fun v23 wc => ∃ (kq : Nat) (x23_1 : Bool), v23 = .bool x23_1 ∧ Aside0 (impl_edgesOf.j0 kq l0 x23_1 = some (r1, r2)) ∧ Aside0 (kq ≤ k) ∧ Aside0 (Below w.heap.size w wc))
 case first =>
  have H := HC2.out
  clear HC2
  replace H := Option.bind_eq_some_iff.mp H
  obtain ⟨t236, A30, H⟩ := H
  replace H : (if t236 > 4800 then (impl_edgesOf.j0 k l0 true) else ((impl_areNear.f k l0).bind fun t237 => (impl_edgesOf.j0 k l0 (!t237)))) = some (r1, r2) := H
  have A3 := Aside0.mk A30
  clear A30
  by_cases c4 : t236 > 4800
  ·rw [if_pos c4] at H
   have c4b0 : decide (4800 < t236) = true := decide_eq_true c4
   clear c4
   (first | rw [c4b0] | (simp only [i64_w, i32_w]; rw [c4b0]) | skip)
   have H' := Aside0.mk H
   clear H
   go_wp2_with (first | ((with_reducible refine gate_callee (f := 150) rfl ?_); refine z.gl (some 17) rfl rfl Try.func150 (by kernel_rfl) rfl #[.slice A0 l0.length c0] rfl ?_; (with_reducible refine (impl_countPoints.calls k _ _ l0 t236 _ ?side1 ?side2 A3.out).mono ?_); (case side1 => repeat (first | exact (Kd.C_below HR0.out HB.out) | (with_reducible refine Kd.C_alloc ?_ _) | (with_reducible refine Kd.C_drewN ?_ _) | (with_reducible refine Kd.C_drew ?_))); (case side2 => exact HC0.out); rintro e w5 ⟨rfl, hb⟩; refine ⟨_, rfl, ?_⟩; replace HB := Aside0.mk (below_step (z.bl HB) hb); (try clear hb); (try clear hb2); (try clear hk); (try clear hi)))
   go_meet
   case rel => exact ⟨_, (true), (by first | rfl | (simp; done) | (simp [*]; done)), H', ⟨by first | omega | exact Nat.le_refl _⟩, ⟨z.bl HB⟩⟩
  ·rw [if_neg c4] at H
   have c4b0 : decide (4800 < t236) = false := decide_eq_false c4
   clear c4
   (first | rw [c4b0] | (simp only [i64_w, i32_w]; rw [c4b0]) | skip)
   replace H := Option.bind_eq_some_iff.mp H
   obtain ⟨t237, A60, H⟩ := H
   replace H : (impl_edgesOf.j0 k l0 (!t237)) = some (r1, r2) := H
   have A6 := Aside0.mk A60
   clear A60
   have H' := Aside0.mk H
   clear H
   go_wp2_with (first | ((with_reducible refine gate_callee (f := 150) rfl ?_); refine z.gl (some 17) rfl rfl Try.func150 (by kernel_rfl) rfl #[.slice A0 l0.length c0] rfl ?_; (with_reducible refine (impl_countPoints.calls k _ _ l0 t236 _ ?side1 ?side2 A3.out).mono ?_); (case side1 => repeat (first | exact (Kd.C_below HR0.out HB.out) | (with_reducible refine Kd.C_alloc ?_ _) | (with_reducible refine Kd.C_drewN ?_ _) | (with_reducible refine Kd.C_drew ?_))); (case side2 => exact HC0.out); rintro e w7 ⟨rfl, hb⟩; refine ⟨_, rfl, ?_⟩; replace HB := Aside0.mk (below_step (z.bl HB) hb); (try clear hb); (try clear hb2); (try clear hk); (try clear hi)) | (go_at_call 155; (with_reducible refine (impl_areNear.calls k _ _ l0 t237 _ ?side1 ?side2 A6.out).mono ?_); (case side1 => repeat (first | exact (Kd.C_below HR0.out HB.out) | (with_reducible refine Kd.C_alloc ?_ _) | (with_reducible refine Kd.C_drewN ?_ _) | (with_reducible refine Kd.C_drew ?_))); (case side2 => exact HC0.out); rintro e w8 ⟨rfl, hb⟩; replace HB := Aside0.mk (below_step (z.bl HB) hb); (try clear hb); (try clear hb2); (try clear hk); (try clear hi)))
   go_meet
   case rel => exact ⟨_, (!t237), (by first | rfl | (simp; done) | (simp [*]; done)), H', ⟨by first | omega | exact Nat.le_refl _⟩, ⟨z.bl HB⟩⟩
 case rest =>
  clear HC2
  try clear c1
  try clear p2
  try clear c4
  try clear c4b0
  obtain ⟨kq, x23_1, rfl, HA, HJ1, HB⟩ := hcut
  cases kq with
  | zero => exact absurd HA.out (by simp [impl_edgesOf.j0])
  | succ kj1 =>
   have H := HA.out
   clear HA
   simp only [impl_edgesOf.j0] at H
   by_cases c9 : x23_1 = true
   ·subst c9
    have H1 : (some (([] : List (S175)), false)) = some (r1, r2) := by rw [if_pos rfl] at H; exact H
    clear H
    have H := H1
    clear H1
    simp only [Option.some.injEq, Prod.mk.injEq] at H
    obtain ⟨rfl, rfl⟩ := H
    go_wp2
    go_ret2
    exact ⟨_, by first | rfl | (simp [errW_none, errW_some] <;> rfl) | (simp [*, errW_none, errW_some] <;> rfl), by first | exact Kd.R_nil _ _ _ _ _ | exact Kd.N_nil _ _ _ _ _ | exact Kd.V_nil _ _ _ _ _ | exact Kd.Q_nil _ _ _ _ _ | exact Kd.S_nil _ _ _ _ _, z.bl HB⟩
   ·replace c9 := Bool.eq_false_iff.mpr c9
    subst c9
    have H1 : (impl_edgesOf.l0 kj1 (([] : List (S175))) l0 (l0.length : Int) 0) = some (r1, r2) := by rw [if_neg (show ¬ (false = true) by decide)] at H; exact H
    clear H
    have H := H1
    clear H1
    obtain ⟨y238, hy238⟩ : ∃ y_ : List (S175), y_ = (([] : List (S175))) := ⟨_, rfl⟩
    replace H : (impl_edgesOf.l0 kj1 y238 l0 (l0.length : Int) 0) = some (r1, r2) := by first | (rw [hy238]; with_reducible exact H) | (have H2_ := (Option.bind_some _ _).symm.trans H; rw [hy238]; with_reducible exact H2_) | (have H2_ := (Option.bind_some _ _).symm.trans H; with_reducible exact H2_) | with_reducible exact H | (rw [hy238]; exact H) | exact H
    have Ny238 := Aside0.mk hy238
    clear hy238
    have H' := Aside0.mk H
    clear H
    go_wp2_with (first | ((with_reducible refine gate_dst (N := 24) rfl ?_); refine Kd.R_lit k175 _ 175 ?hg (N := 24) ?hd (xs := ([] : List (S175))) (inner := []) (ok := fun _ => True) (okp := fun _ => True) ?hr ?hp (fun _ hk => hk) trivial (Below.refl _ _) (Nat.le_refl _) (by simp) ?_; (case hd => rfl); (case hg => rfl); (case hr => first | (go_simp; done) | (go_simp; rfl)); (case hp => exact (Reps.none _ _)); intro v239 w10 ho11 hb hg_ hnew_; clear hg_ hnew_; (first | rw [← Ny238.out] at ho11 | (simp only [Int.reduceToNat] at ho11; rw [← Ny238.out] at ho11)); have HO240 := Aside0.mk (Kd.R_lower ho11 (below_size (z.bl HB))); replace HB := Aside0.mk (below_step (z.bl HB) hb); clear hb ho11))
    go_loopg [4, 27] kj1 (fun kq v4 v27 w' => ∃ (x4_2 : List (S175)) (x27_2 : Int), v27 = .int .i64 x27_2 ∧ Aside0 (impl_edgesOf.l0 kq x4_2 l0 (l0.length : Int) x27_2 = some (r1, r2)) ∧ Aside0 (kq ≤ kj1) ∧ Aside0 (Kd.R k175 175 w' w.heap.size (fun _ => True) v4 x4_2) ∧ Aside0 (Below w.heap.size w w'))
    case atStart => exact ⟨(y238), (0), (by first | rfl | (simp; done) | (simp [*]; done)), H', ⟨Nat.le_refl _⟩, ⟨z.rl HO240.out⟩, ⟨z.bl HB⟩⟩
    case round =>
     clear H'
     try clear c1
     try clear p2
     try clear c4
     try clear c4b0
     try clear c9
     try clear p2
     obtain ⟨x4_2, x27_2, rfl, HA, HK2, HO_4, HB⟩ := hrel
     cases gk with
     | zero => exact absurd HA.out (by simp [impl_edgesOf.l0])
     | succ k2 =>
      have H := HA.out
      clear HA
      simp only [impl_edgesOf.l0] at H
      by_cases c12 : x27_2 < (l0.length : Int)
      ·rw [if_pos c12] at H
       have c12b0 : decide (x27_2 < (l0.length : Int)) = true := decide_eq_true c12
       clear c12
       by_cases c13 : 0 ≤ x27_2
       ·rw [if_pos c13] at H
        have c13b0 : decide (0 ≤ x27_2) = true := decide_eq_true c13
        clear c13
        by_cases c14 : x27_2 < (l0.length : Int)
        ·rw [if_pos c14] at H
         have c14b0 : decide (x27_2 < (l0.length : Int)) = true := decide_eq_true c14
         clear c14
         have H' := Aside0.mk H
         clear H
         have p241 : 0 ≤ (x27_2 : Int) := of_decide_eq_true (by first | (with_reducible assumption) | assumption)
         have q241 : x27_2 < (l0.length : Int) := of_decide_eq_true (by first | (with_reducible assumption) | assumption)
         obtain ⟨ad241, A241_0, c241_0, e241, hx241_0, hx241_1, hl241_0, hi241_0⟩ := at_T83 HR0.out x27_2 p241 q241
         cases e241
         replace hx241_0 := (HB.out.cell (World.block_lt_of_cell? w _ hx241_0)).trans hx241_0
         replace hx241_1 := (HB.out.cell (World.block_lt_of_cell? w _ hx241_1)).trans hx241_1
         have HR241_0 := Aside0.mk hi241_0
         have HC241_0 := Aside0.mk hl241_0
         clear hi241_0 hl241_0
         replace p241 := eq_true p241
         replace q241 := eq_true q241
         go_wp2_with (first | ((with_reducible refine gate_dst (N := 6) rfl ?_); refine box_event ?hg (N := 6) ?hd (cs := #[.slice none 0 0, .bool false]) (t := 83) ?hr ?_; (case hd => rfl); (case hg => rfl); (case hr => first | (go_simp; done) | (go_simp; rfl)); intro gb242 hg w15 hbox hb; replace HO_4 := z.rb HO_4 hb; have BK242 := Aside0.mk (hbox); have GW242 := Aside0.mk ((by rw [hg]; exact (below_size (z.bl HB)) : w.heap.size ≤ gb242)); have GE242 := Aside0.mk ((by rw [hg]; exact (below_size (z.bl HB)) : w.heap.size ≤ gb242)); replace HB := Aside0.mk (below_step (z.bl HB) hb); clear hb hbox hg; have hcz16_0 : w15.cell? ⟨gb242, 0, none⟩ = some (.slice none 0 0) := (blk_cell BK242.out 0).trans rfl; have hcz16_1 : w15.cell? ⟨gb242, 1, none⟩ = some (.bool false) := (blk_cell BK242.out 1).trans rfl; have hfz16_0 := blk_frozen BK242.out 0; have hfz16_1 := blk_frozen BK242.out 1))
         go_loopg [4, 37] k2 (fun kq v4 v37 w' => ∃ (x4_3 : List (S175)) (x37_3 : Int), v37 = .int .i64 x37_3 ∧ Aside0 (impl_edgesOf.l1 kq x4_3 (((rd_T83 l0 x27_2).f0).length : Int) l0 (l0.length : Int) x27_2 ((rd_T83 l0 x27_2).f0) (((rd_T83 l0 x27_2).f0).length : Int) x37_3 ((rd_T83 l0 x27_2).f0) ((rd_T83 l0 x27_2).f1) = some (r1, r2)) ∧ Aside0 (kq ≤ k2) ∧ Aside0 (Kd.R k175 175 w' w.heap.size (fun _ => True) v4 x4_3) ∧ Aside0 (w'.heap[gb242]? = some (.cells #[(.slice A241_0 ((rd_T83 l0 x27_2).f0).length c241_0), .bool ((rd_T83 l0 x27_2).f1)] 83 (0, 0))) ∧ Aside0 (Below w.heap.size w w'))
         case atStart => exact ⟨(x4_2), (0), (by first | rfl | (simp; done) | (simp [*]; done)), H', ⟨Nat.le_refl _⟩, ⟨z.rl (Kd.R_mono (Kd.R_far (p := ⟨gb242, 1, none⟩) (Kd.R_far (p := ⟨gb242, 0, none⟩) (Kd.R_types HO_4.out BK242.out (by decide)) (fun _ hk => hk.2) (.slice A241_0 ((rd_T83 l0 x27_2).f0).length c241_0)) (fun _ hk => hk.2) (.bool ((rd_T83 l0 x27_2).f1))) (fun _ hk => trivial))⟩, ⟨by (with_reducible repeat (first | refine blk_drewN ?_ _ | refine blk_drew ?_ | refine blk_alloc ?_ _)); refine blk_put (cs := #[.slice A241_0 ((rd_T83 l0 x27_2).f0).length c241_0, .bool false]) ?_ 1 _ rfl; (with_reducible repeat (first | refine blk_drewN ?_ _ | refine blk_drew ?_ | refine blk_alloc ?_ _)); refine blk_put (cs := #[.slice none 0 0, .bool false]) ?_ 0 _ rfl; (with_reducible repeat (first | refine blk_drewN ?_ _ | refine blk_drew ?_ | refine blk_alloc ?_ _)); exact BK242.out⟩, ⟨z.bl HB⟩⟩
         case round =>
          clear H'
          try clear c1
          try clear c2
          try clear p2
          try clear q2
          try clear hx2
          try clear c4
          try clear c4b0
          try clear c9
          try clear c12
          try clear c12b0
          try clear c13
          try clear c13b0
          try clear c14
          try clear c14b0
          try clear c15
          try clear hcz16_0
          try clear hcz16_1
          try clear hfz16_0
          try clear hfz16_1
          try clear hx241_0
          try clear hx241_1
          try clear p2
          try clear p241
          try clear q241
          obtain ⟨x4_3, x37_3, rfl, HA, HK3, HO_4, BK242, HB⟩ := hrel
          cases gk with
          | zero => exact absurd HA.out (by simp [impl_edgesOf.l1])
          | succ k3 =>
           have H := HA.out
           clear HA
           simp only [impl_edgesOf.l1] at H
           by_cases c17 : x37_3 < (((rd_T83 l0 x27_2).f0).length : Int)
           ·rw [if_pos c17] at H
            have c17b0 : decide (x37_3 < (((rd_T83 l0 x27_2).f0).length : Int)) = true := decide_eq_true c17
            clear c17
            by_cases c18 : 0 ≤ x37_3
            ·rw [if_pos c18] at H
             have c18b0 : decide (0 ≤ x37_3) = true := decide_eq_true c18
             clear c18
             by_cases c19 : x37_3 < (((rd_T83 l0 x27_2).f0).length : Int)
             ·rw [if_pos c19] at H
              have c19b0 : decide (x37_3 < (((rd_T83 l0 x27_2).f0).length : Int)) = true := decide_eq_true c19
              clear c19
              replace H := Option.bind_eq_some_iff.mp H
              obtain ⟨⟨t245, t246, t247⟩, A200, H⟩ := H
              replace H : (if (((rd_T83 l0 x27_2).f0).length : Int) = 0 then (none) else (if 0 ≤ (Int.tmod (wrap64 (x37_3 + 1)) (((rd_T83 l0 x27_2).f0).length : Int)) then (if (Int.tmod (wrap64 (x37_3 + 1)) (((rd_T83 l0 x27_2).f0).length : Int)) < (((rd_T83 l0 x27_2).f0).length : Int) then ((impl_FineOf.f ((rd_T25 ((rd_T83 l0 x27_2).f0) (Int.tmod (wrap64 (x37_3 + 1)) (((rd_T83 l0 x27_2).f0).length : Int))).f0) ((rd_T25 ((rd_T83 l0 x27_2).f0) (Int.tmod (wrap64 (x37_3 + 1)) (((rd_T83 l0 x27_2).f0).length : Int))).f1)).bind fun bt249 => (if x4_3.length < 4398046511104 then (impl_edgesOf.l1 k3 (x4_3 ++ [(⟨t245, t246, bt249.1, bt249.2.1⟩ : S175)]) (((rd_T83 l0 x27_2).f0).length : Int) l0 (l0.length : Int) x27_2 ((rd_T83 l0 x27_2).f0) (((rd_T83 l0 x27_2).f0).length : Int) (wrap64 (x37_3 + 1)) ((rd_T83 l0 x27_2).f0) ((rd_T83 l0 x27_2).f1)) else (none))) else (none)) else (none))) = some (r1, r2) := H
              have A20 := Aside0.mk A200
              clear A200
              by_cases c21 : (((rd_T83 l0 x27_2).f0).length : Int) = 0
              ·rw [if_pos c21] at H
               exact absurd H (by simp)
              ·rw [if_neg c21] at H
               have c21b0 : ((((rd_T83 l0 x27_2).f0).length : Int) == 0) = false := beq_eq_false_iff_ne.mpr c21
               have c21b1 : ((((rd_T83 l0 x27_2).f0).length : Int) != 0) = true := bne_iff_ne.mpr c21
               have c21b2 : ¬ (((rd_T83 l0 x27_2).f0) = []) := fun h_ => c21 (by rw [h_]; rfl)
               obtain ⟨ji22, hji22⟩ : ∃ j_ : Int, (Int.tmod (wrap64 (x37_3 + 1)) (((rd_T83 l0 x27_2).f0).length : Int)) = j_ := ⟨_, rfl⟩
               replace H : (if 0 ≤ (ji22) then (if (ji22) < (((rd_T83 l0 x27_2).f0).length : Int) then ((impl_FineOf.f ((rd_T25 ((rd_T83 l0 x27_2).f0) (ji22)).f0) ((rd_T25 ((rd_T83 l0 x27_2).f0) (ji22)).f1)).bind fun bt249 => (if x4_3.length < 4398046511104 then (impl_edgesOf.l1 k3 (x4_3 ++ [(⟨t245, t246, bt249.1, bt249.2.1⟩ : S175)]) (((rd_T83 l0 x27_2).f0).length : Int) l0 (l0.length : Int) x27_2 ((rd_T83 l0 x27_2).f0) (((rd_T83 l0 x27_2).f0).length : Int) (wrap64 (x37_3 + 1)) ((rd_T83 l0 x27_2).f0) ((rd_T83 l0 x27_2).f1)) else (none))) else (none)) else (none)) = some (r1, r2) := by first | (rw [hji22] at H; exact H) | (simp only [hji22] at H ⊢; exact H)
               (try rw [hji22] at A20)
               by_cases c23 : 0 ≤ (ji22)
               ·rw [if_pos c23] at H
                have c23b0 : decide (0 ≤ (ji22)) = true := decide_eq_true c23
                clear c23
                by_cases c24 : (ji22) < (((rd_T83 l0 x27_2).f0).length : Int)
                ·rw [if_pos c24] at H
                 have c24b0 : decide ((ji22) < (((rd_T83 l0 x27_2).f0).length : Int)) = true := decide_eq_true c24
                 clear c24
                 replace H := Option.bind_eq_some_iff.mp H
                 obtain ⟨⟨t249, t250, t251⟩, A250, H⟩ := H
                 replace H : (if x4_3.length < 4398046511104 then (impl_edgesOf.l1 k3 (x4_3 ++ [(⟨t245, t246, t249, t250⟩ : S175)]) (((rd_T83 l0 x27_2).f0).length : Int) l0 (l0.length : Int) x27_2 ((rd_T83 l0 x27_2).f0) (((rd_T83 l0 x27_2).f0).length : Int) (wrap64 (x37_3 + 1)) ((rd_T83 l0 x27_2).f0) ((rd_T83 l0 x27_2).f1)) else (none)) = some (r1, r2) := H
                 have A25 := Aside0.mk A250
                 clear A250
                 by_cases c26 : x4_3.length < 4398046511104
                 ·rw [if_pos c26] at H
                  have LMc26 := Aside0.mk c26
                  clear c26
                  obtain ⟨y252, hy252⟩ : ∃ y_ : List (S175), y_ = (x4_3 ++ [(⟨t245, t246, t249, t250⟩ : S175)]) := ⟨_, rfl⟩
                  replace H : (impl_edgesOf.l1 k3 y252 (((rd_T83 l0 x27_2).f0).length : Int) l0 (l0.length : Int) x27_2 ((rd_T83 l0 x27_2).f0) (((rd_T83 l0 x27_2).f0).length : Int) (wrap64 (x37_3 + 1)) ((rd_T83 l0 x27_2).f0) ((rd_T83 l0 x27_2).f1)) = some (r1, r2) := by first | (rw [hy252]; with_reducible exact H) | (have H2_ := (Option.bind_some _ _).symm.trans H; rw [hy252]; with_reducible exact H2_) | (have H2_ := (Option.bind_some _ _).symm.trans H; with_reducible exact H2_) | with_reducible exact H | (rw [hy252]; exact H) | exact H
                  have Ny252 := Aside0.mk hy252
                  clear hy252
                  have H' := Aside0.mk H
                  clear H
                  have p243 : 0 ≤ (x37_3 : Int) := of_decide_eq_true (by first | (with_reducible assumption) | assumption)
                  have q243 : x37_3 < (((rd_T83 l0 x27_2).f0).length : Int) := of_decide_eq_true (by first | (with_reducible assumption) | assumption)
                  obtain ⟨ad243, e243, hx243_0, hx243_1⟩ := at_T25 HR241_0.out x37_3 p243 q243
                  cases e243
                  replace hx243_0 := (HB.out.cell (World.block_lt_of_cell? w _ hx243_0)).trans hx243_0
                  replace hx243_1 := (HB.out.cell (World.block_lt_of_cell? w _ hx243_1)).trans hx243_1
                  replace p243 := eq_true p243
                  replace q243 := eq_true q243
                  try go_wp2_with (first | ((with_reducible refine gate_dst (N := 9) rfl ?_); refine box_event ?hg (N := 9) ?hd (cs := #[.int .i64 0, .int .i64 0]) (t := 25) ?hr ?_; (case hd => rfl); (case hg => rfl); (case hr => first | (go_simp; done) | (go_simp; rfl)); intro gb244 hg w27 hbox hb; replace HO_4 := z.rb HO_4 hb; have BK244 := Aside0.mk (hbox); have GW244 := Aside0.mk ((by rw [hg]; exact (below_size (z.bl HB)) : w.heap.size ≤ gb244)); have GE244 := Aside0.mk ((by rw [hg]; exact (below_size (z.bl HB)) : w.heap.size ≤ gb244)); replace HB := Aside0.mk (below_step (z.bl HB) hb); have NB242_244 := z.ht BK242 hg; have NB244_242 := z.hu BK242 hg; replace BK242 := z.bb BK242 hb; clear hb hbox hg; have hnb28 := NB244_242.out; have hnc28 := NB242_244.out; have hcz29_0 : w27.cell? ⟨gb244, 0, none⟩ = some (.int .i64 0) := (blk_cell BK244.out 0).trans rfl; have hcz29_1 : w27.cell? ⟨gb244, 1, none⟩ = some (.int .i64 0) := (blk_cell BK244.out 1).trans rfl; have hfz29_0 := blk_frozen BK244.out 0; have hfz29_1 := blk_frozen BK244.out 1) | ((with_reducible refine gate_callee (f := 182) rfl ?_); refine z.gl (some 44) rfl rfl Try.func182 (by kernel_rfl) rfl #[.agg #[.int .i64 ((rd_T25 ((rd_T83 l0 x27_2).f0) x37_3).f0), .int .i64 ((rd_T25 ((rd_T83 l0 x27_2).f0) x37_3).f1)]] rfl ?_; (with_reducible refine (impl_FineOf.calls ((rd_T25 ((rd_T83 l0 x27_2).f0) x37_3).f0) ((rd_T25 ((rd_T83 l0 x27_2).f0) x37_3).f1) t245 t246 t247 _ A20.out).mono ?_); rintro e w30 ⟨rfl, hb⟩; refine ⟨_, rfl, ?_⟩; replace HO_4 := Aside0.mk (Kd.R_below (z.rl ((Kd.R_mono (Kd.R_far (p := ⟨gb244, 1, none⟩) (Kd.R_far (p := ⟨gb244, 0, none⟩) (Kd.R_types HO_4.out BK244.out (by decide)) (fun _ hk => hk.2) (.int .i64 ((rd_T25 ((rd_T83 l0 x27_2).f0) x37_3).f0))) (fun _ hk => hk.2) (.int .i64 ((rd_T25 ((rd_T83 l0 x27_2).f0) x37_3).f1))) (fun _ h_ => h_.1)))) hb); replace BK242 := Aside0.mk (blk_below (g := gb242) (o := .cells #[.slice (some ad243) ((rd_T83 l0 x27_2).f0).length c241_0, .bool ((rd_T83 l0 x27_2).f1)] 83 (0, 0)) (z.bf BK242) hb); replace BK244 := Aside0.mk (blk_below (g := gb244) (o := .cells #[.int .i64 ((rd_T25 ((rd_T83 l0 x27_2).f0) x37_3).f0), .int .i64 ((rd_T25 ((rd_T83 l0 x27_2).f0) x37_3).f1)] 25 (0, 0)) (by (with_reducible repeat (first | refine blk_drewN ?_ _ | refine blk_drew ?_ | refine blk_alloc ?_ _)); refine blk_put (cs := #[.int .i64 ((rd_T25 ((rd_T83 l0 x27_2).f0) x37_3).f0), .int .i64 0]) ?_ 1 _ rfl; (with_reducible repeat (first | refine blk_drewN ?_ _ | refine blk_drew ?_ | refine blk_alloc ?_ _)); refine blk_put (cs := #[.int .i64 0, .int .i64 0]) ?_ 0 _ rfl; (with_reducible repeat (first | refine blk_drewN ?_ _ | refine blk_drew ?_ | refine blk_alloc ?_ _)); exact BK244.out) hb); replace HB := Aside0.mk (below_step (z.bl HB) hb); (try clear hb); (try clear hb2); (try clear hk); (try clear hi)))
                  replace HO_4 := Aside0.mk (Kd.R_drew HO_4.out)
                  replace BK242 := Aside0.mk (blk_drew BK242.out)
                  replace BK244 := Aside0.mk (blk_drew BK244.out)
                  replace HB := Aside0.mk (below_drew1 HB.out)
                  have p248 : 0 ≤ ((ji22) : Int) := of_decide_eq_true (by first | (with_reducible assumption) | assumption)
                  have q248 : (ji22) < (((rd_T83 l0 x27_2).f0).length : Int) := of_decide_eq_true (by first | (with_reducible assumption) | assumption)
                  obtain ⟨ad248, e248, hx248_0, hx248_1⟩ := at_T25 HR241_0.out (ji22) p248 q248
                  have hw248_1 := hx248_1
                  have hw248_0 := hx248_0
                  obtain rfl : ad243 = ad248 := (by injection e248)
                  replace hx248_0 := (HB.out.cell (World.block_lt_of_cell? w _ hx248_0)).trans hx248_0
                  replace hx248_1 := (HB.out.cell (World.block_lt_of_cell? w _ hx248_1)).trans hx248_1
                  replace p248 := eq_true p248
                  replace q248 := eq_true q248
                  refine start_ (n := 16) (S := fun w' => w'.cell? ⟨gb242, 0, none⟩ = some (.slice (some ad243) ((rd_T83 l0 x27_2).f0).length c241_0) ∧ w'.cell? ⟨gb242, 1, none⟩ = some (.bool ((rd_T83 l0 x27_2).f1)) ∧ w'.cell? (ad243.add (((ji22)).toNat * 2)) = some (.int .i64 ((rd_T25 ((rd_T83 l0 x27_2).f0) (ji22)).f0)) ∧ w'.cell? ⟨(ad243.add (((ji22)).toNat * 2)).block, (ad243.add (((ji22)).toNat * 2)).off + 1, none⟩ = some (.int .i64 ((rd_T25 ((rd_T83 l0 x27_2).f0) (ji22)).f1))) (ds := []) #[false, false, false, false, false, false, false, false, false, false, false, false, false, false, false, false] (by kernel_rfl) rfl rfl ⟨(blk_cell BK242.out 0).trans rfl, (blk_cell BK242.out 1).trans rfl, ((HB.out.cell (World.block_lt_of_cell? w _ hw248_0)).trans hw248_0), ((HB.out.cell (World.block_lt_of_cell? w _ hw248_1)).trans hw248_1)⟩ (fun hHeld => ?_); refine with_tabW impl_edgesOf.tab12 impl_edgesOf.bits12 (fun HT_ HW_ => ?_)
                  generalize w30.drew = w31 at HO_4 BK242 BK244 HB hx248_0 hx248_1 hHeld ⊢
                  refine pure_ (i := 0) (N := some 49) (v := ?_) (a' := ?_) #[true, false, false, false, false, false, false, false, false, false, false, false, false, false, false, false] rfl rfl (any_of HT_.out (by kernel_rfl)) (fun _ _ _ h => h) (Or.inl ⟨by rfl, ?_⟩) ?_ ?_
                  rotate_left
                  ·intro w'
                   go_simp
                   with_reducible rfl
                  rotate_left
                  ·simp only [Act.put, List.setIfInBounds_toArray, List.set_cons_zero, List.set_cons_succ, i64_w, i32_w]
                   rfl
                  refine pure_ (i := 2) (N := some 51) (v := ?_) (a' := ?_) #[true, false, true, false, false, false, false, false, false, false, false, false, false, false, false, false] rfl rfl (any_of HT_.out (by kernel_rfl)) (fun _ _ _ h => h) (Or.inl ⟨by rfl, ?_⟩) ?_ ?_
                  rotate_left
                  ·intro w'
                   go_simp
                   with_reducible rfl
                  rotate_left
                  ·simp only [Act.put, List.setIfInBounds_toArray, List.set_cons_zero, List.set_cons_succ, i64_w, i32_w]
                   rfl
                  refine pure_ (i := 3) (N := some 52) (v := ?_) (a' := ?_) #[true, false, true, true, false, false, false, false, false, false, false, false, false, false, false, false] rfl rfl (any_of HT_.out (by kernel_rfl)) (fun _ _ _ h => h) (Or.inl ⟨by rfl, ?_⟩) ?_ ?_
                  rotate_left
                  ·intro w'
                   go_simp
                   with_reducible rfl
                  rotate_left
                  ·simp only [Act.put, List.setIfInBounds_toArray, List.set_cons_zero, List.set_cons_succ, i64_w, i32_w]
                   rfl
                  refine pure_ (i := 4) (N := some 53) (v := ?_) (a' := ?_) #[true, false, true, true, true, false, false, false, false, false, false, false, false, false, false, false] rfl rfl (any_of HT_.out (by kernel_rfl)) (fun _ _ _ h => h) (Or.inl ⟨by rfl, ?_⟩) ?_ ?_
                  rotate_left
                  ·intro w'
                   go_simp
                   with_reducible rfl
                  rotate_left
                  ·simp only [Act.put, List.setIfInBounds_toArray, List.set_cons_zero, List.set_cons_succ, i64_w, i32_w]
                   rfl
                  refine pure_ (i := 5) (N := some 54) (v := ?_) (a' := ?_) #[true, false, true, true, true, true, false, false, false, false, false, false, false, false, false, false] rfl rfl (any_of HT_.out (by kernel_rfl)) (fun _ _ _ h => h) (Or.inl ⟨by rfl, ?_⟩) ?_ ?_
                  rotate_left
                  ·intro w'
                   go_simp
                   with_reducible rfl
                  rotate_left
                  ·simp only [Act.put, List.setIfInBounds_toArray, List.set_cons_zero, List.set_cons_succ, i64_w, i32_w]
                   rfl
                  refine take_ (i := 1) (N := some 50) (v := ?_) (a' := ?_) #[true, true, true, true, true, true, false, false, false, false, false, false, false, false, false, false] rfl rfl (take_ofW HT_.out HW_.out (by kernel_rfl)) (fun _ _ _ h => h) (Or.inl ⟨by rfl, ?_⟩) hHeld ?_ ?_
                  rotate_left
                  ·rintro w' ⟨s0, s1, s2, s3⟩
                   go_simp
                   with_reducible rfl
                  rotate_left
                  ·simp only [Act.put, List.setIfInBounds_toArray, List.set_cons_zero, List.set_cons_succ, i64_w, i32_w]
                   rfl
                  refine pure_ (i := 6) (N := some 55) (v := ?_) (a' := ?_) #[true, true, true, true, true, true, true, false, false, false, false, false, false, false, false, false] rfl rfl (any_of HT_.out (by kernel_rfl)) (fun _ _ _ h => h) (Or.inl ⟨by rfl, ?_⟩) ?_ ?_
                  rotate_left
                  ·intro w'
                   go_simp
                   with_reducible rfl
                  rotate_left
                  ·simp only [Act.put, List.setIfInBounds_toArray, List.set_cons_zero, List.set_cons_succ, i64_w, i32_w]
                   rfl
                  refine take_ (i := 7) (N := some 56) (v := ?_) (a' := ?_) #[true, true, true, true, true, true, true, true, false, false, false, false, false, false, false, false] rfl rfl (take_ofW HT_.out HW_.out (by kernel_rfl)) (fun _ _ _ h => h) (Or.inl ⟨by rfl, ?_⟩) hHeld ?_ ?_
                  rotate_left
                  ·rintro w' ⟨s0, s1, s2, s3⟩
                   go_simp
                   with_reducible rfl
                  rotate_left
                  ·simp only [Act.put, List.setIfInBounds_toArray, List.set_cons_zero, List.set_cons_succ, i64_w, i32_w]
                   rfl
                  refine one_ (i := 8) (N := some 57) #[true, true, true, true, true, true, true, true, true, false, false, false, false, false, false, false] rfl rfl (one_of HT_.out (by kernel_rfl)) (by decide) (fun K hK => ?_)
                  refine goes_ Try.func182 (by kernel_rfl) rfl #[.agg #[.int .i64 ((rd_T25 ((rd_T83 l0 x27_2).f0) (ji22)).f0), .int .i64 ((rd_T25 ((rd_T83 l0 x27_2).f0) (ji22)).f1)]] (by rfl) rfl rfl (by (try simp only [List.map_toArray, List.map_cons, List.map_nil]); first | done | (simp only [hji22]; rfl) | rfl | (simp only [List.length_drop, List.length_take]; rfl)) ?_
                  with_reducible refine (impl_FineOf.calls ((rd_T25 ((rd_T83 l0 x27_2).f0) (ji22)).f0) ((rd_T25 ((rd_T83 l0 x27_2).f0) (ji22)).f1) t249 t250 t251 _ A25.out).mono ?_
                  rintro e w32 ⟨rfl, hb⟩
                  refine ⟨_, rfl, ?_⟩
                  replace HO_4 := z.rb HO_4 hb
                  replace BK242 := z.bb BK242 hb
                  replace BK244 := z.bb BK244 hb
                  replace HB := Aside0.mk (below_step (z.bl HB) hb)
                  (try clear hb)
                  (try clear hb2)
                  (try clear hk)
                  (try clear hi)
                  refine hK.out _ _ ⟨(blk_cell BK242.out 0).trans rfl, (blk_cell BK242.out 1).trans rfl, ((HB.out.cell (World.block_lt_of_cell? w _ hw248_0)).trans hw248_0), ((HB.out.cell (World.block_lt_of_cell? w _ hw248_1)).trans hw248_1)⟩ (fun hHeld => ?_)
                  clear hK K
                  refine norm_ (a' := ?_) ?_ ?_
                  rotate_left
                  ·show Act.put _ (some 57) _ = _
                   simp only [Act.put, List.setIfInBounds_toArray, List.set_cons_zero, List.set_cons_succ, i64_w, i32_w]
                   rfl
                  refine pure_ (i := 9) (N := some 48) (v := ?_) (a' := ?_) #[true, true, true, true, true, true, true, true, true, true, false, false, false, false, false, false] rfl rfl (any_of HT_.out (by kernel_rfl)) (fun _ _ _ h => h) (Or.inl ⟨by rfl, ?_⟩) ?_ ?_
                  rotate_left
                  ·intro w'
                   go_simp
                   with_reducible rfl
                  rotate_left
                  ·simp only [Act.put, List.setIfInBounds_toArray, List.set_cons_zero, List.set_cons_succ, i64_w, i32_w]
                   rfl
                  refine pure_ (i := 10) (N := some 58) (v := ?_) (a' := ?_) #[true, true, true, true, true, true, true, true, true, true, true, false, false, false, false, false] rfl rfl (any_of HT_.out (by kernel_rfl)) (fun _ _ _ h => h) (Or.inl ⟨by rfl, ?_⟩) ?_ ?_
                  rotate_left
                  ·intro w'
                   go_simp
                   with_reducible rfl
                  rotate_left
                  ·simp only [Act.put, List.setIfInBounds_toArray, List.set_cons_zero, List.set_cons_succ, i64_w, i32_w]
                   rfl
                  refine pure_ (i := 11) (N := some 59) (v := ?_) (a' := ?_) #[true, true, true, true, true, true, true, true, true, true, true, true, false, false, false, false] rfl rfl (any_of HT_.out (by kernel_rfl)) (fun _ _ _ h => h) (Or.inl ⟨by rfl, ?_⟩) ?_ ?_
                  rotate_left
                  ·intro w'
                   go_simp
                   with_reducible rfl
                  rotate_left
                  ·simp only [Act.put, List.setIfInBounds_toArray, List.set_cons_zero, List.set_cons_succ, i64_w, i32_w]
                   rfl
                  refine pure_ (i := 12) (N := some 60) (v := ?_) (a' := ?_) #[true, true, true, true, true, true, true, true, true, true, true, true, true, false, false, false] rfl rfl (any_of HT_.out (by kernel_rfl)) (fun _ _ _ h => h) (Or.inl ⟨by rfl, ?_⟩) ?_ ?_
                  rotate_left
                  ·intro w'
                   go_simp
                   with_reducible rfl
                  rotate_left
                  ·simp only [Act.put, List.setIfInBounds_toArray, List.set_cons_zero, List.set_cons_succ, i64_w, i32_w]
                   rfl
                  refine pure_ (i := 13) (N := some 13) (v := ?_) (a' := ?_) #[true, true, true, true, true, true, true, true, true, true, true, true, true, true, false, false] rfl rfl (any_of HT_.out (by kernel_rfl)) (fun _ _ _ h => h) (Or.inl ⟨by rfl, ?_⟩) ?_ ?_
                  rotate_left
                  ·intro w'
                   go_simp
                   with_reducible rfl
                  rotate_left
                  ·simp only [Act.put, List.setIfInBounds_toArray, List.set_cons_zero, List.set_cons_succ, i64_w, i32_w]
                   rfl
                  refine pure_ (i := 14) (N := some 14) (v := ?_) (a' := ?_) #[true, true, true, true, true, true, true, true, true, true, true, true, true, true, true, false] rfl rfl (any_of HT_.out (by kernel_rfl)) (fun _ _ _ h => h) (Or.inl ⟨by rfl, ?_⟩) ?_ ?_
                  rotate_left
                  ·intro w'
                   go_simp
                   with_reducible rfl
                  rotate_left
                  ·simp only [Act.put, List.setIfInBounds_toArray, List.set_cons_zero, List.set_cons_succ, i64_w, i32_w]
                   rfl
                  refine pure_ (i := 15) (N := some 15) (v := ?_) (a' := ?_) #[true, true, true, true, true, true, true, true, true, true, true, true, true, true, true, true] rfl rfl (any_of HT_.out (by kernel_rfl)) (fun _ _ _ h => h) (Or.inl ⟨by rfl, ?_⟩) ?_ ?_
                  rotate_left
                  ·intro w'
                   go_simp
                   with_reducible rfl
                  rotate_left
                  ·simp only [Act.put, List.setIfInBounds_toArray, List.set_cons_zero, List.set_cons_succ, i64_w, i32_w]
                   rfl
                  refine done_ (done_of HT_.out (by kernel_rfl)) ?_
                  try go_wp2_with (first | ((with_reducible refine gate_builtin (b := .append) (xs := #[.tmp 61, .tmp 67]) rfl ?_); at_builtin; refine Kd.R_append k175 (w0 := w) w.heap.size rfl (.tmp 61) (.tmp 67) 170 175 (.agg #[(.int .i64 0), (.int .i64 0), (.int .i64 0), (.int .i64 0)]) 32 rfl Try.underlying170 info175 rfl (by decide) (by omega) u4 x4_3 (⟨t245, t246, t249, t250⟩ : S175) [.int .i64 t245, .int .i64 t246, .int .i64 t249, .int .i64 t250] (fun _ => True) (fun _ => False) rfl rfl ?aP (fun _ hk => hk.elim) ?aF ?aO ?aB ?aS ?aL ?_; (case aP => exact k175_mkM _ _ _ (⟨t245, t246, t249, t250⟩ : S175)); (case aB => exact (z.bl HB)); (case aF => exact (fun _ _ => trivial)); (case aO => exact (z.rl HO_4.out)); (case aS => exact (below_size (z.bl HB))); (case aL => have := LMc26.out; omega); intro v253 w33 ho hb hg hat; rw [← Ny252.out] at ho; replace BK242 := Aside0.mk (blk_grown (g := gb242) (z.bk BK242) hg (Kd.R_ne HO_4.out BK242.out (by decide))); replace BK244 := Aside0.mk (blk_grown (g := gb244) (z.bk BK244) hg (Kd.R_ne HO_4.out BK244.out (by decide))); replace HB := Aside0.mk (hb); have HO254 := Aside0.mk (ho); clear HO_4; clear ho hb hg hat))
                  go_roundg k3
                  case measure => have := HJ1.out; have := HK2.out; have := HK3.out; omega
                  case rel => exact ⟨(y252), (wrap64 (x37_3 + 1)), (by first | rfl | (simp; done) | (simp [*]; done)), H', ⟨by have := HJ1.out; have := HK2.out; have := HK3.out; omega⟩, ⟨z.rl HO254.out⟩, ⟨z.bk BK242⟩, ⟨z.bl HB⟩⟩
                 ·rw [if_neg c26] at H
                  exact absurd H (by simp)
                ·rw [if_neg c24] at H
                 exact absurd H (by simp)
               ·rw [if_neg c23] at H
                exact absurd H (by simp)
             ·rw [if_neg c19] at H
              exact absurd H (by simp)
            ·rw [if_neg c18] at H
             exact absurd H (by simp)
           ·rw [if_neg c17] at H
            have c17b0 : decide (x37_3 < (((rd_T83 l0 x27_2).f0).length : Int)) = false := decide_eq_false c17
            clear c17
            have H' := Aside0.mk H
            clear H
            go_wp2
            go_roundg k3
            case measure => have := HJ1.out; have := HK2.out; have := HK3.out; omega
            case rel => exact ⟨(x4_3), (wrap64 (x27_2 + 1)), (by first | rfl | (simp; done) | (simp [*]; done)), H', ⟨by have := HJ1.out; have := HK2.out; have := HK3.out; omega⟩, ⟨z.rl HO_4.out⟩, ⟨z.bl HB⟩⟩
        ·rw [if_neg c14] at H
         exact absurd H (by simp)
       ·rw [if_neg c13] at H
        exact absurd H (by simp)
      ·rw [if_neg c12] at H
       have c12b0 : decide (x27_2 < (l0.length : Int)) = false := decide_eq_false c12
       clear c12
       simp only [Option.some.injEq, Prod.mk.injEq] at H
       obtain ⟨rfl, rfl⟩ := H
       go_wp2
       go_ret2
       exact ⟨_, by first | rfl | (simp [errW_none, errW_some] <;> rfl) | (simp [*, errW_none, errW_some] <;> rfl), z.rl HO_4.out, z.bl HB⟩
end Go.Proofs.Ytdbgnoolokfafaa.HFnCover
