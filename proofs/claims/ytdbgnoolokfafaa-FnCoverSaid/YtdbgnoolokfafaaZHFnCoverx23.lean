-- Printed by a program of this session over the kit's print; functions that the print does not take stand here by hand.
import Derived.Test.YtdbgnoolokfafaaZShort
import Derived.Test.YtdbgnoolokfafaaZHFnCoverx0
import Derived.Test.YtdbgnoolokfafaaZHFnCoverx7
import Derived.Test.YtdbgnoolokfafaaZHFnCoverx11
namespace Go.Proofs.Ytdbgnoolokfafaa.HFnCover
open Go.RowKit Go.Proofs.YtdbgnoolokfafaaW.PrintWords Go.Proofs.YtdbgnoolokfafaaW.PrintLast Go.Proofs.YtdbgnoolokfafaaW.PrintMore
attribute [local go_sem] max2_int min2_int max_two min_two max_three min_three max_four min_four   -- for this text's walks alone
set_option linter.unusedVariables false
set_option linter.unusedSimpArgs false
/-! ### impl_GoodMask: function 121 -/
mutual
def impl_GoodMask.j0 : Nat → Bool → Int → Int → List Int → Option (Bool)
  | 0, _, _, _, _ => none
  | k + 1, x21, x351000, x351001, x351002 => if x21 = true then (some false) else (impl_GoodMask.l0 k x351002 (x351002.length : Int) 0)
def impl_GoodMask.l0 : Nat → List Int → Int → Int → Option (Bool)
  | 0, _, _, _ => none
  | k + 1, x23, x24, x25 => if x25 < x24 then (if 0 ≤ x25 then (if x25 < (x23.length : Int) then ((impl_within.f (rd x23 x25) 0 16).bind fun t353 => (if t353 = true then (impl_GoodMask.l0 k x23 x24 (wrap64 (x25 + 1))) else (some false))) else (none)) else (none)) else (some true)
end
def impl_GoodMask.f (k : Nat) (a0_0 : Int) (a0_1 : Int) (l0_2 : List Int) : Option (Bool) := (impl_areSides.f a0_0 a0_1).bind fun t351 => (if t351 = true then (impl_GoodMask.j0 k ((l0_2.length : Int) != (wrap64 (a0_0 * a0_1))) a0_0 a0_1 l0_2) else (impl_GoodMask.j0 k true a0_0 a0_1 l0_2))
theorem impl_GoodMask.mono_l : ∀ k, (∀ y0 y1 y2 y3, LeO (impl_GoodMask.j0 k y0 y1 y2 y3) (impl_GoodMask.j0 (k + 1) y0 y1 y2 y3)) ∧ (∀ y0 y1 y2, LeO (impl_GoodMask.l0 k y0 y1 y2) (impl_GoodMask.l0 (k + 1) y0 y1 y2))
  | 0 => ⟨fun _ _ _ _ r h => by simp [impl_GoodMask.j0] at h, fun _ _ _ r h => by simp [impl_GoodMask.l0] at h⟩
  | k + 1 => by
    obtain ⟨ih0, ih1⟩ := impl_GoodMask.mono_l k
    refine ⟨?_, ?_⟩
    · intro y0 y1 y2 y3
      unfold impl_GoodMask.j0
      repeat' first
    | with_reducible exact ih0 _ _ _ _
    | with_reducible exact ih1 _ _ _
    | with_reducible exact LeO.refl _
    | with_reducible exact LeO.none _
    | with_reducible refine LeO.ite ?_ ?_
    | with_reducible refine LeO.bind ?_ (fun _ => ?_)
    | exact ih0 _ _ _ _
    | exact ih1 _ _ _
    | exact LeO.none _
    | refine LeO.ite ?_ ?_
    | refine LeO.bind ?_ (fun _ => ?_)
    · intro y0 y1 y2
      unfold impl_GoodMask.l0
      repeat' first
    | with_reducible exact ih0 _ _ _ _
    | with_reducible exact ih1 _ _ _
    | with_reducible exact LeO.refl _
    | with_reducible exact LeO.none _
    | with_reducible refine LeO.ite ?_ ?_
    | with_reducible refine LeO.bind ?_ (fun _ => ?_)
    | exact ih0 _ _ _ _
    | exact ih1 _ _ _
    | exact LeO.none _
    | refine LeO.ite ?_ ?_
    | refine LeO.bind ?_ (fun _ => ?_)
theorem impl_GoodMask.mono : ∀ a0 a1 a2 k, LeO (impl_GoodMask.f k a0 a1 a2) (impl_GoodMask.f (k + 1) a0 a1 a2) := by
  intro a0 a1 a2 k
  obtain ⟨ih0, ih1⟩ := impl_GoodMask.mono_l k
  unfold impl_GoodMask.f
  repeat' first
    | with_reducible exact ih0 _ _ _ _
    | with_reducible exact ih1 _ _ _
    | with_reducible exact LeO.refl _
    | with_reducible exact LeO.none _
    | with_reducible refine LeO.ite ?_ ?_
    | with_reducible refine LeO.bind ?_ (fun _ => ?_)
    | exact ih0 _ _ _ _
    | exact ih1 _ _ _
    | exact LeO.none _
    | refine LeO.ite ?_ ?_
    | refine LeO.bind ?_ (fun _ => ?_)
set_option maxHeartbeats 8000000 in
set_option maxRecDepth 100000 in
theorem impl_GoodMask.calls (k : Nat) (a0_0 : Int) (a0_1 : Int) (A0_2 : Option Addr) (c0_2 : Nat) (l0_2 : List Int) (r : Bool) (w : World) (hr0_2 : Kd.C (Kd.int .i64) w A0_2 l0_2.length l0_2) (hc0_2 : l0_2.length ≤ c0_2) (h : impl_GoodMask.f k a0_0 a0_1 l0_2 = some r) :
    Calls Try.prog 121 #[.agg #[.int .i64 a0_0, .int .i64 a0_1, .slice A0_2 l0_2.length c0_2]] w fun e w' => e = .returned (.bool r) ∧ Below w.heap.size w w' := by
 have hu67 := Try.underlying67
 have HR0_2 := Aside0.mk hr0_2
 have HC0_2 := Aside0.mk hc0_2
 clear hr0_2 hc0_2
 have HB := Aside0.mk (Below.refl w.heap.size w)
 have H : ((impl_areSides.f a0_0 a0_1).bind fun t351 => (if t351 = true then (impl_GoodMask.j0 k ((l0_2.length : Int) != (wrap64 (a0_0 * a0_1))) a0_0 a0_1 l0_2) else (impl_GoodMask.j0 k true a0_0 a0_1 l0_2))) = some r := h
 clear h
 have HC2 := Aside0.mk H
 clear H
 go_enter Try.func121, Try.ntmps121
 go_upto_region 1 with (first | ((with_reducible refine gate_dst (N := 1) rfl ?_); (try (refine gate_guard (by rfl) ?_; dsimp only)); refine box_event ?hg (N := 1) ?hd (cs := #[.int .i64 a0_0, .int .i64 a0_1, .slice A0_2 l0_2.length c0_2]) (t := 67) ?hr ?_; (case hd => rfl); (case hg => rfl); (case hr => first | (go_simp; done) | (go_simp; rfl)); intro gb350 hg w3 hbox hb; have BK350 := Aside0.mk (hbox); have GW350 := Aside0.mk ((by rw [hg]; exact (below_size (z.bl HB)) : w.heap.size ≤ gb350)); have GE350 := Aside0.mk ((by rw [hg]; exact (below_size (z.bl HB)) : w.heap.size ≤ gb350)); replace HB := Aside0.mk (below_step (z.bl HB) hb); clear hb hbox hg))
 (try simp only [Act.put, List.setIfInBounds_toArray, List.set_cons_zero, List.set_cons_succ])
 go_cut [21] (fun v21 wc => ∃ (kq : Nat) (x21_1 : Bool), v21 = .bool x21_1 ∧ Aside0 (impl_GoodMask.j0 kq x21_1 a0_0 a0_1 l0_2 = some r) ∧ Aside0 (kq ≤ k) ∧ Aside0 (wc.heap[gb350]? = some (.cells #[.int .i64 a0_0, .int .i64 a0_1, (.slice A0_2 l0_2.length c0_2)] 67 (0, 0))) ∧ Aside0 (Below w.heap.size w wc))
 case first =>
  have H := HC2.out
  clear HC2
  replace H := Option.bind_eq_some_iff.mp H
  obtain ⟨t351, A40, H⟩ := H
  replace H : (if t351 = true then (impl_GoodMask.j0 k ((l0_2.length : Int) != (wrap64 (a0_0 * a0_1))) a0_0 a0_1 l0_2) else (impl_GoodMask.j0 k true a0_0 a0_1 l0_2)) = some r := H
  have A4 := Aside0.mk A40
  clear A40
  by_cases c5 : t351 = true
  ·subst c5
   have H1 : (impl_GoodMask.j0 k ((l0_2.length : Int) != (wrap64 (a0_0 * a0_1))) a0_0 a0_1 l0_2) = some r := by rw [if_pos rfl] at H; exact H
   clear H
   have H := H1
   clear H1
   have H' := Aside0.mk H
   clear H
   have hcz6_0 : w3.cell? ⟨gb350, 0, none⟩ = some (.int .i64 a0_0) := (blk_cell BK350.out 0).trans rfl
   have hcz6_1 : w3.cell? ⟨gb350, 1, none⟩ = some (.int .i64 a0_1) := (blk_cell BK350.out 1).trans rfl
   have hcz6_2 : w3.cell? ⟨gb350, 2, none⟩ = some (.slice A0_2 l0_2.length c0_2) := (blk_cell BK350.out 2).trans rfl
   have hfz6_0 := blk_frozen BK350.out 0
   have hfz6_1 := blk_frozen BK350.out 1
   have hfz6_2 := blk_frozen BK350.out 2
   go_wp2_with (first | ((with_reducible refine gate_callee (f := 129) rfl ?_); refine z.gl (some 9) rfl rfl Try.func129 (by kernel_rfl) rfl #[.int .i64 a0_0, .int .i64 a0_1] rfl ?_; (with_reducible refine (impl_areSides.calls a0_0 a0_1 true _ A4.out).mono ?_); rintro e w' ⟨rfl, ⟨nd, rfl⟩⟩; refine ⟨_, rfl, ?_⟩))
   go_meet
   case rel => exact ⟨_, (((l0_2.length : Int) != (wrap64 (a0_0 * a0_1)))), (by first | rfl | (simp; done) | (simp [*]; done)), H', ⟨by first | omega | exact Nat.le_refl _⟩, ⟨z.bk BK350⟩, ⟨z.bl HB⟩⟩
  ·replace c5 := Bool.eq_false_iff.mpr c5
   subst c5
   have H1 : (impl_GoodMask.j0 k true a0_0 a0_1 l0_2) = some r := by rw [if_neg (show ¬ (false = true) by decide)] at H; exact H
   clear H
   have H := H1
   clear H1
   have H' := Aside0.mk H
   clear H
   have hcz7_0 : w3.cell? ⟨gb350, 0, none⟩ = some (.int .i64 a0_0) := (blk_cell BK350.out 0).trans rfl
   have hcz7_1 : w3.cell? ⟨gb350, 1, none⟩ = some (.int .i64 a0_1) := (blk_cell BK350.out 1).trans rfl
   have hcz7_2 : w3.cell? ⟨gb350, 2, none⟩ = some (.slice A0_2 l0_2.length c0_2) := (blk_cell BK350.out 2).trans rfl
   have hfz7_0 := blk_frozen BK350.out 0
   have hfz7_1 := blk_frozen BK350.out 1
   have hfz7_2 := blk_frozen BK350.out 2
   go_wp2_with (first | ((with_reducible refine gate_callee (f := 129) rfl ?_); refine z.gl (some 9) rfl rfl Try.func129 (by kernel_rfl) rfl #[.int .i64 a0_0, .int .i64 a0_1] rfl ?_; (with_reducible refine (impl_areSides.calls a0_0 a0_1 false _ A4.out).mono ?_); rintro e w' ⟨rfl, ⟨nd, rfl⟩⟩; refine ⟨_, rfl, ?_⟩))
   go_meet
   case rel => exact ⟨_, (true), (by first | rfl | (simp; done) | (simp [*]; done)), H', ⟨by first | omega | exact Nat.le_refl _⟩, ⟨z.bk BK350⟩, ⟨z.bl HB⟩⟩
 case rest =>
  clear HC2
  try clear c1
  try clear p2
  try clear c5
  try clear p6
  try clear hcz6_0
  try clear hcz6_1
  try clear hcz6_2
  try clear hcz7_0
  try clear hcz7_1
  try clear hcz7_2
  try clear hfz6_0
  try clear hfz6_1
  try clear hfz6_2
  try clear hfz7_0
  try clear hfz7_1
  try clear hfz7_2
  obtain ⟨kq, x21_1, rfl, HA, HJ1, BK350, HB⟩ := hcut
  cases kq with
  | zero => exact absurd HA.out (by simp [impl_GoodMask.j0])
  | succ kj1 =>
   have H := HA.out
   clear HA
   simp only [impl_GoodMask.j0] at H
   by_cases c8 : x21_1 = true
   ·subst c8
    have H1 : (some false) = some r := by rw [if_pos rfl] at H; exact H
    clear H
    have H := H1
    clear H1
    obtain rfl := Option.some.inj H
    go_wp2
    go_ret
    exact ⟨by first | rfl | (simp [errW_none, errW_some] <;> rfl) | (simp [*, errW_none, errW_some] <;> rfl), z.bl HB⟩
   ·replace c8 := Bool.eq_false_iff.mpr c8
    subst c8
    have H1 : (impl_GoodMask.l0 kj1 l0_2 (l0_2.length : Int) 0) = some r := by rw [if_neg (show ¬ (false = true) by decide)] at H; exact H
    clear H
    have H := H1
    clear H1
    have H' := Aside0.mk H
    clear H
    have hcz9_0 : wc.cell? ⟨gb350, 0, none⟩ = some (.int .i64 a0_0) := (blk_cell BK350.out 0).trans rfl
    have hcz9_1 : wc.cell? ⟨gb350, 1, none⟩ = some (.int .i64 a0_1) := (blk_cell BK350.out 1).trans rfl
    have hcz9_2 : wc.cell? ⟨gb350, 2, none⟩ = some (.slice A0_2 l0_2.length c0_2) := (blk_cell BK350.out 2).trans rfl
    have hfz9_0 := blk_frozen BK350.out 0
    have hfz9_1 := blk_frozen BK350.out 1
    have hfz9_2 := blk_frozen BK350.out 2
    go_wp2
    go_loopg [25] kj1 (fun kq v25 w' => ∃ (x25_2 : Int), v25 = .int .i64 x25_2 ∧ Aside0 (impl_GoodMask.l0 kq l0_2 (l0_2.length : Int) x25_2 = some r) ∧ Aside0 (kq ≤ kj1) ∧ Aside0 (w'.heap[gb350]? = some (.cells #[.int .i64 a0_0, .int .i64 a0_1, (.slice A0_2 l0_2.length c0_2)] 67 (0, 0))) ∧ Aside0 (Below w.heap.size w w'))
    case atStart => exact ⟨(0), (by first | rfl | (simp; done) | (simp [*]; done)), H', ⟨Nat.le_refl _⟩, ⟨z.bk BK350⟩, ⟨z.bl HB⟩⟩
    case round =>
     clear H'
     try clear c1
     try clear p2
     try clear c5
     try clear p6
     try clear c8
     try clear hcz6_0
     try clear hcz6_1
     try clear hcz6_2
     try clear hcz7_0
     try clear hcz7_1
     try clear hcz7_2
     try clear hcz9_0
     try clear hcz9_1
     try clear hcz9_2
     try clear hfz6_0
     try clear hfz6_1
     try clear hfz6_2
     try clear hfz7_0
     try clear hfz7_1
     try clear hfz7_2
     try clear hfz9_0
     try clear hfz9_1
     try clear hfz9_2
     try clear p2
     try clear p6
     obtain ⟨x25_2, rfl, HA, HK2, BK350, HB⟩ := hrel
     cases gk with
     | zero => exact absurd HA.out (by simp [impl_GoodMask.l0])
     | succ k2 =>
      have H := HA.out
      clear HA
      simp only [impl_GoodMask.l0] at H
      by_cases c10 : x25_2 < (l0_2.length : Int)
      ·rw [if_pos c10] at H
       have c10b0 : decide (x25_2 < (l0_2.length : Int)) = true := decide_eq_true c10
       clear c10
       by_cases c11 : 0 ≤ x25_2
       ·rw [if_pos c11] at H
        have c11b0 : decide (0 ≤ x25_2) = true := decide_eq_true c11
        clear c11
        by_cases c12 : x25_2 < (l0_2.length : Int)
        ·rw [if_pos c12] at H
         have c12b0 : decide (x25_2 < (l0_2.length : Int)) = true := decide_eq_true c12
         clear c12
         replace H := Option.bind_eq_some_iff.mp H
         obtain ⟨t353, A130, H⟩ := H
         replace H : (if t353 = true then (impl_GoodMask.l0 k2 l0_2 (l0_2.length : Int) (wrap64 (x25_2 + 1))) else (some false)) = some r := H
         have A13 := Aside0.mk A130
         clear A130
         by_cases c14 : t353 = true
         ·subst c14
          have H1 : (impl_GoodMask.l0 k2 l0_2 (l0_2.length : Int) (wrap64 (x25_2 + 1))) = some r := by rw [if_pos rfl] at H; exact H
          clear H
          have H := H1
          clear H1
          have H' := Aside0.mk H
          clear H
          have p352 : 0 ≤ (x25_2 : Int) := of_decide_eq_true (by first | (with_reducible assumption) | assumption)
          have q352 : x25_2 < (l0_2.length : Int) := of_decide_eq_true (by first | (with_reducible assumption) | assumption)
          obtain ⟨ad352, e352, hx352_0⟩ := Kd.at_int HR0_2.out x25_2 p352 q352
          cases e352
          replace hx352_0 := (HB.out.cell (World.block_lt_of_cell? w _ hx352_0)).trans hx352_0
          replace p352 := eq_true p352
          replace q352 := eq_true q352
          go_wp2_with (first | ((with_reducible refine gate_callee (f := 91) rfl ?_); refine z.gl (some 30) rfl rfl Try.func91 (by kernel_rfl) rfl #[.int .i64 (rd l0_2 x25_2), .int .i64 0, .int .i64 16] rfl ?_; (with_reducible refine (impl_within.calls (rd l0_2 x25_2) 0 16 true _ A13.out).mono ?_); rintro e w' ⟨rfl, ⟨nd, rfl⟩⟩; refine ⟨_, rfl, ?_⟩))
          go_roundg k2
          case measure => have := HJ1.out; have := HK2.out; omega
          case rel => exact ⟨(wrap64 (x25_2 + 1)), (by first | rfl | (simp; done) | (simp [*]; done)), H', ⟨by have := HJ1.out; have := HK2.out; omega⟩, ⟨z.bk BK350⟩, ⟨z.bl HB⟩⟩
         ·replace c14 := Bool.eq_false_iff.mpr c14
          subst c14
          have H1 : (some false) = some r := by rw [if_neg (show ¬ (false = true) by decide)] at H; exact H
          clear H
          have H := H1
          clear H1
          obtain rfl := Option.some.inj H
          have p352 : 0 ≤ (x25_2 : Int) := of_decide_eq_true (by first | (with_reducible assumption) | assumption)
          have q352 : x25_2 < (l0_2.length : Int) := of_decide_eq_true (by first | (with_reducible assumption) | assumption)
          obtain ⟨ad352, e352, hx352_0⟩ := Kd.at_int HR0_2.out x25_2 p352 q352
          cases e352
          replace hx352_0 := (HB.out.cell (World.block_lt_of_cell? w _ hx352_0)).trans hx352_0
          replace p352 := eq_true p352
          replace q352 := eq_true q352
          go_wp2_with (first | ((with_reducible refine gate_callee (f := 91) rfl ?_); refine z.gl (some 30) rfl rfl Try.func91 (by kernel_rfl) rfl #[.int .i64 (rd l0_2 x25_2), .int .i64 0, .int .i64 16] rfl ?_; (with_reducible refine (impl_within.calls (rd l0_2 x25_2) 0 16 false _ A13.out).mono ?_); rintro e w' ⟨rfl, ⟨nd, rfl⟩⟩; refine ⟨_, rfl, ?_⟩))
          go_ret
          exact ⟨by first | rfl | (simp [errW_none, errW_some] <;> rfl) | (simp [*, errW_none, errW_some] <;> rfl), z.bl HB⟩
        ·rw [if_neg c12] at H
         exact absurd H (by simp)
       ·rw [if_neg c11] at H
        exact absurd H (by simp)
      ·rw [if_neg c10] at H
       have c10b0 : decide (x25_2 < (l0_2.length : Int)) = false := decide_eq_false c10
       clear c10
       obtain rfl := Option.some.inj H
       go_wp2
       go_ret
       exact ⟨by first | rfl | (simp [errW_none, errW_some] <;> rfl) | (simp [*, errW_none, errW_some] <;> rfl), z.bl HB⟩
end Go.Proofs.Ytdbgnoolokfafaa.HFnCover
