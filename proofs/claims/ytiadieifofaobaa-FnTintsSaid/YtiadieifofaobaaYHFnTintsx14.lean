-- Printed by a program of this session over the kit's print; functions that the print does not take stand here by hand.
import Derived.Test.YtiadieifofaobaaYHFnTintsx0
import Derived.Test.YtiadieifofaobaaYHFnTintsx6
import Derived.Test.YtiadieifofaobaaYHFnTintsx7
namespace Go.Proofs.Ytiadieifofaobaa.HFnTints
open Go.RowKit Go.Proofs.YtiadieifofaobaaW.PrintWords Go.Proofs.YtiadieifofaobaaW.PrintLast Go.Proofs.YtiadieifofaobaaW.PrintMore
attribute [local go_sem] max2_int min2_int max_two min_two max_three min_three max_four min_four   -- for this text's walks alone
set_option linter.unusedVariables false
set_option linter.unusedSimpArgs false
/-! ### impl_OverTint: function 16 -/
theorem below_set4 {B : Nat} {w W : World} (h : Below B w W) {g : Nat} (hg : B ≤ g) (v0 v1 v2 v3 : Value) : Below B w ((((W.setCell ⟨g, 0, none⟩ v0).setCell ⟨g, 1, none⟩ v1).setCell ⟨g, 2, none⟩ v2).setCell ⟨g, 3, none⟩ v3) :=
  (((h.setCell hg _).setCell hg _).setCell hg _).setCell hg _
theorem three_blocks {w W : World} {o1 o2 o3 : Obj} (h : ((w.alloc o1).alloc o2).alloc o3 = W) : W.heap[w.heap.size]? = some o1 ∧ W.heap[w.heap.size + 1]? = some o2 ∧ W.heap[w.heap.size + 1 + 1]? = some o3 := by
  subst h
  have e1 := (MapKept.heap_alloc w o1).1
  have s1 : (w.alloc o1).heap.size = w.heap.size + 1 := by simp
  have s2 : ((w.alloc o1).alloc o2).heap.size = w.heap.size + 1 + 1 := by simp
  have e2 := (MapKept.heap_alloc (w.alloc o1) o2).1
  have e3 := (MapKept.heap_alloc ((w.alloc o1).alloc o2) o3).1
  rw [s1] at e2
  rw [s2] at e3
  refine ⟨?_, ?_, e3⟩
  · rw [(MapKept.heap_alloc _ o3).2 _ (by simp; omega), (MapKept.heap_alloc _ o2).2 _ (by simp)]; exact e1
  · rw [(MapKept.heap_alloc _ o3).2 _ (by simp)]; exact e2
theorem good_bounds {a b c d : Int} (h : impl_GoodTint.f a b c d = some true) : (0 ≤ d ∧ d ≤ 255) ∧ (0 ≤ a ∧ a ≤ d) ∧ (0 ≤ b ∧ b ≤ d) ∧ 0 ≤ c ∧ c ≤ d := by
  have hw : ∀ a b c : Int, impl_within.f a b c = some (decide (b ≤ a ∧ a ≤ c)) := by
    intro a b c
    unfold impl_within.f
    by_cases h : b ≤ a
    · rw [if_pos h]; simp [h]
    · rw [if_neg h]; simp [h]
  unfold impl_GoodTint.f at h
  simp only [hw, Option.bind_some, decide_eq_true_eq] at h
  by_cases h1 : 0 ≤ d ∧ d ≤ 255
  · rw [if_pos h1] at h
    by_cases h2 : 0 ≤ a ∧ a ≤ d
    · rw [if_pos h2] at h
      by_cases h3 : 0 ≤ b ∧ b ≤ d
      · rw [if_pos h3] at h
        exact ⟨h1, h2, h3, by simpa using h⟩
      · rw [if_neg h3] at h; simp at h
    · rw [if_neg h2] at h; simp at h
  · rw [if_neg h1] at h; simp at h
set_option maxHeartbeats 400000 in
theorem over_close (x y d : Int) (B : Nat) (w : World) (hd : w.cell? ⟨B, 3, none⟩ = some (.int .i64 d)) (h1 : 0 ≤ d) (h2 : d ≤ 255) (h3 : 0 ≤ x) (h4 : x ≤ 255) (h5 : 0 ≤ y) (h6 : y ≤ 255) :
    Calls Try.prog 69 #[.int .i64 x, .int .i64 y, .pointer (some ⟨B, 0, none⟩)] w fun e w' => e = .returned (.int .i64 (x + (y * (255 - d) + 127) / 255)) ∧ w' = w := by
  have ha1 : 0 ≤ y * (255 - d) := Int.mul_nonneg h5 (by omega)
  have ha2 : y * (255 - d) ≤ 255 * 255 := Int.mul_le_mul (by omega) (by omega) (by omega) (by omega)
  go_enter Try.func69, Try.ntmps69
  go_wp2
  go_ret
  exact ⟨rfl, rfl⟩
set_option maxHeartbeats 1000000 in
set_option maxRecDepth 100000 in
theorem each_over (p : Value) (x0 x1 x2 x3 y0 y1 y2 y3 r0 r1 r2 r3 : Int) (w : World)
    (h0 : ∀ W', Below w.heap.size w W' → Calls Try.prog 69 #[.int .i64 x0, .int .i64 y0, p] W' fun e w' => e = .returned (.int .i64 r0) ∧ w' = W')
    (h1 : ∀ W', Below w.heap.size w W' → Calls Try.prog 69 #[.int .i64 x1, .int .i64 y1, p] W' fun e w' => e = .returned (.int .i64 r1) ∧ w' = W')
    (h2 : ∀ W', Below w.heap.size w W' → Calls Try.prog 69 #[.int .i64 x2, .int .i64 y2, p] W' fun e w' => e = .returned (.int .i64 r2) ∧ w' = W')
    (h3 : ∀ W', Below w.heap.size w W' → Calls Try.prog 69 #[.int .i64 x3, .int .i64 y3, p] W' fun e w' => e = .returned (.int .i64 r3) ∧ w' = W') :
    Calls Try.prog 65 #[.agg #[.int .i64 x0, .int .i64 x1, .int .i64 x2, .int .i64 x3], .agg #[.int .i64 y0, .int .i64 y1, .int .i64 y2, .int .i64 y3], .func (.func 69) #[] #[p]] w fun e w' => e = .returned (.agg #[.int .i64 r0, .int .i64 r1, .int .i64 r2, .int .i64 r3]) ∧ Below w.heap.size w w' := by
  have H0 := Lib.hid h0; have H1 := Lib.hid h1; have H2 := Lib.hid h2; have H3 := Lib.hid h3
  clear h0 h1 h2 h3
  go_enter Try.func65, Try.ntmps65
  go_wp2_with fail
  obtain ⟨W, hW⟩ : ∃ W : World, ((w.alloc (.cells #[.int .i64 x0, .int .i64 x1, .int .i64 x2, .int .i64 x3] 25)).alloc (.cells #[.int .i64 y0, .int .i64 y1, .int .i64 y2, .int .i64 y3] 25)).alloc (.cells #[.int .i64 0, .int .i64 0, .int .i64 0, .int .i64 0] 25) = W := ⟨_, rfl⟩
  rw [hW]
  have HB : Hid (Below w.heap.size w W.drew) := by rw [← hW]; exact Lib.hid ((((Below.refl _ _).alloc (Nat.le_refl _) _).alloc (by simp) _).alloc (by simp; omega) _).drew
  have b0 := Lib.hid (three_blocks hW).1
  have b1 := Lib.hid (three_blocks hW).2.1
  have b2 := Lib.hid (three_blocks hW).2.2
  have HW := Lib.hid hW
  clear hW
  have c00 : W.cell? ⟨w.heap.size, 0, none⟩ = some (.int .i64 x0) := (blk_cell b0.out 0).trans rfl
  have c01 : W.cell? ⟨w.heap.size, 1, none⟩ = some (.int .i64 x1) := (blk_cell b0.out 1).trans rfl
  have c02 : W.cell? ⟨w.heap.size, 2, none⟩ = some (.int .i64 x2) := (blk_cell b0.out 2).trans rfl
  have c03 : W.cell? ⟨w.heap.size, 3, none⟩ = some (.int .i64 x3) := (blk_cell b0.out 3).trans rfl
  have c10 : W.cell? ⟨w.heap.size + 1, 0, none⟩ = some (.int .i64 y0) := (blk_cell b1.out 0).trans rfl
  have c11 : W.cell? ⟨w.heap.size + 1, 1, none⟩ = some (.int .i64 y1) := (blk_cell b1.out 1).trans rfl
  have c12 : W.cell? ⟨w.heap.size + 1, 2, none⟩ = some (.int .i64 y2) := (blk_cell b1.out 2).trans rfl
  have c13 : W.cell? ⟨w.heap.size + 1, 3, none⟩ = some (.int .i64 y3) := (blk_cell b1.out 3).trans rfl
  have c20 : W.cell? ⟨w.heap.size + 1 + 1, 0, none⟩ = some (.int .i64 0) := (blk_cell b2.out 0).trans rfl
  have f20 : W.frozen? ⟨w.heap.size + 1 + 1, 0, none⟩ = false := blk_frozen b2.out 0
  have c21 : W.cell? ⟨w.heap.size + 1 + 1, 1, none⟩ = some (.int .i64 0) := (blk_cell b2.out 1).trans rfl
  have f21 : W.frozen? ⟨w.heap.size + 1 + 1, 1, none⟩ = false := blk_frozen b2.out 1
  have c22 : W.cell? ⟨w.heap.size + 1 + 1, 2, none⟩ = some (.int .i64 0) := (blk_cell b2.out 2).trans rfl
  have f22 : W.frozen? ⟨w.heap.size + 1 + 1, 2, none⟩ = false := blk_frozen b2.out 2
  have c23 : W.cell? ⟨w.heap.size + 1 + 1, 3, none⟩ = some (.int .i64 0) := (blk_cell b2.out 3).trans rfl
  have f23 : W.frozen? ⟨w.heap.size + 1 + 1, 3, none⟩ = false := blk_frozen b2.out 3
  refine wp_region_still_tail 25 (by kernel_rfl) (by kernel_rfl) ?_
  simp only [List.take_succ_cons, List.take_zero, List.drop_succ_cons, List.drop_zero]
  repeat still_step
  refine wpStill_step (fun K hK => ?_)
  go_simp
  refine ⟨_, H0.out _ HB.out, hK _ ?_⟩
  clear hK K
  repeat still_step
  refine wpStill_step (fun K hK => ?_)
  go_simp
  refine ⟨_, H1.out _ HB.out, hK _ ?_⟩
  clear hK K
  repeat still_step
  refine wpStill_step (fun K hK => ?_)
  go_simp
  refine ⟨_, H2.out _ HB.out, hK _ ?_⟩
  clear hK K
  repeat still_step
  refine wpStill_step (fun K hK => ?_)
  go_simp
  refine ⟨_, H3.out _ HB.out, hK _ ?_⟩
  clear hK K
  repeat still_step
  refine wpStill_nil ?_
  change wpList _ _ _ _ _ W.drew
  have f20' : W.drew.frozen? ⟨w.heap.size + 1 + 1, 0, none⟩ = false := f20
  have HB2 := Lib.hid (below_set4 HB.out (g := w.heap.size + 1 + 1) (by omega) (.int .i64 r0) (.int .i64 r1) (.int .i64 r2) (.int .i64 r3))
  go_wp2
  exact bodyPost_ret (results_cell_row rfl _ _ (w.heap.size + 1 + 1) 25 #[.int .i64 r0, .int .i64 r1, .int .i64 r2, .int .i64 r3] (0, 0) _ rfl (blk_put (blk_put (blk_put (blk_put (blk_drew b2.out) 0 _ rfl) 1 _ rfl) 2 _ rfl) 3 _ rfl) Try.underlying25 rfl (by kernel_rfl)) rfl ⟨rfl, HB2.out⟩
def impl_OverTint.f (a0_0 : Int) (a0_1 : Int) (a0_2 : Int) (a0_3 : Int) (a1_0 : Int) (a1_1 : Int) (a1_2 : Int) (a1_3 : Int) : Option (Int × Int × Int × Int × Bool) :=
  (impl_GoodTint.f a0_0 a0_1 a0_2 a0_3).bind fun t1 => if t1 = true then (impl_GoodTint.f a1_0 a1_1 a1_2 a1_3).bind fun t2 => if t2 = true then some (a0_0 + (a1_0 * (255 - a0_3) + 127) / 255, a0_1 + (a1_1 * (255 - a0_3) + 127) / 255, a0_2 + (a1_2 * (255 - a0_3) + 127) / 255, a0_3 + (a1_3 * (255 - a0_3) + 127) / 255, true) else some (0, 0, 0, 0, false) else some (0, 0, 0, 0, false)
set_option maxHeartbeats 1000000 in
set_option maxRecDepth 100000 in
theorem impl_OverTint.calls (a0_0 : Int) (a0_1 : Int) (a0_2 : Int) (a0_3 : Int) (a1_0 : Int) (a1_1 : Int) (a1_2 : Int) (a1_3 : Int) (r1 : Int) (r2 : Int) (r3 : Int) (r4 : Int) (r5 : Bool) (w : World) (h : impl_OverTint.f a0_0 a0_1 a0_2 a0_3 a1_0 a1_1 a1_2 a1_3 = some (r1, r2, r3, r4, r5)) :
    Calls Try.prog 16 #[.agg #[.int .i64 a0_0, .int .i64 a0_1, .int .i64 a0_2, .int .i64 a0_3], .agg #[.int .i64 a1_0, .int .i64 a1_1, .int .i64 a1_2, .int .i64 a1_3]] w fun e w' => e = .returned (.tuple #[.agg #[.int .i64 r1, .int .i64 r2, .int .i64 r3, .int .i64 r4], .bool r5]) ∧ Below w.heap.size w w' := by
  unfold impl_OverTint.f at h
  obtain ⟨t1, e1, h⟩ := Option.bind_eq_some_iff.mp h
  have E1 := Lib.hid e1
  cases t1
  · simp only [Bool.false_eq_true, if_false, Option.some.injEq, Prod.mk.injEq] at h
    obtain ⟨rfl, rfl, rfl, rfl, rfl⟩ := h
    clear e1
    go_enter Try.func16, Try.ntmps16
    go_wp2_with fail
    refine (impl_GoodTint.calls a0_0 a0_1 a0_2 a0_3 false _ E1.out).mono ?_
    rintro e w1 ⟨rfl, hb⟩
    have b10 := Lib.hid (blk_below (three_blocks (w := w) (o1 := .cells #[.int .i64 a0_0, .int .i64 a0_1, .int .i64 a0_2, .int .i64 a0_3] 25 (0, 0)) (o2 := .cells #[.int .i64 a1_0, .int .i64 a1_1, .int .i64 a1_2, .int .i64 a1_3] 25 (0, 0)) (o3 := .cells #[.int .i64 0, .int .i64 0, .int .i64 0, .int .i64 0] 25 (0, 0)) rfl).1 hb)
    have b11 := Lib.hid (blk_below (three_blocks (w := w) (o1 := .cells #[.int .i64 a0_0, .int .i64 a0_1, .int .i64 a0_2, .int .i64 a0_3] 25 (0, 0)) (o2 := .cells #[.int .i64 a1_0, .int .i64 a1_1, .int .i64 a1_2, .int .i64 a1_3] 25 (0, 0)) (o3 := .cells #[.int .i64 0, .int .i64 0, .int .i64 0, .int .i64 0] 25 (0, 0)) rfl).2.1 hb)
    have b12 := Lib.hid (blk_below (three_blocks (w := w) (o1 := .cells #[.int .i64 a0_0, .int .i64 a0_1, .int .i64 a0_2, .int .i64 a0_3] 25 (0, 0)) (o2 := .cells #[.int .i64 a1_0, .int .i64 a1_1, .int .i64 a1_2, .int .i64 a1_3] 25 (0, 0)) (o3 := .cells #[.int .i64 0, .int .i64 0, .int .i64 0, .int .i64 0] 25 (0, 0)) rfl).2.2 hb)
    have HB1 := Lib.hid (below_step ((((Below.refl w.heap.size w).alloc (Nat.le_refl _) _).alloc (by simp) _).alloc (by simp; omega) _) hb)
    clear hb
    have c100 : w1.cell? ⟨w.heap.size, 0, none⟩ = some (.int .i64 a0_0) := (blk_cell b10.out 0).trans rfl
    have c101 : w1.cell? ⟨w.heap.size, 1, none⟩ = some (.int .i64 a0_1) := (blk_cell b10.out 1).trans rfl
    have c102 : w1.cell? ⟨w.heap.size, 2, none⟩ = some (.int .i64 a0_2) := (blk_cell b10.out 2).trans rfl
    have c103 : w1.cell? ⟨w.heap.size, 3, none⟩ = some (.int .i64 a0_3) := (blk_cell b10.out 3).trans rfl
    have c110 : w1.cell? ⟨w.heap.size + 1, 0, none⟩ = some (.int .i64 a1_0) := (blk_cell b11.out 0).trans rfl
    have c111 : w1.cell? ⟨w.heap.size + 1, 1, none⟩ = some (.int .i64 a1_1) := (blk_cell b11.out 1).trans rfl
    have c112 : w1.cell? ⟨w.heap.size + 1, 2, none⟩ = some (.int .i64 a1_2) := (blk_cell b11.out 2).trans rfl
    have c113 : w1.cell? ⟨w.heap.size + 1, 3, none⟩ = some (.int .i64 a1_3) := (blk_cell b11.out 3).trans rfl
    have c120 : w1.cell? ⟨w.heap.size + 1 + 1, 0, none⟩ = some (.int .i64 0) := (blk_cell b12.out 0).trans rfl
    have f120 : w1.frozen? ⟨w.heap.size + 1 + 1, 0, none⟩ = false := blk_frozen b12.out 0
    have c121 : w1.cell? ⟨w.heap.size + 1 + 1, 1, none⟩ = some (.int .i64 0) := (blk_cell b12.out 1).trans rfl
    have f121 : w1.frozen? ⟨w.heap.size + 1 + 1, 1, none⟩ = false := blk_frozen b12.out 1
    have c122 : w1.cell? ⟨w.heap.size + 1 + 1, 2, none⟩ = some (.int .i64 0) := (blk_cell b12.out 2).trans rfl
    have f122 : w1.frozen? ⟨w.heap.size + 1 + 1, 2, none⟩ = false := blk_frozen b12.out 2
    have c123 : w1.cell? ⟨w.heap.size + 1 + 1, 3, none⟩ = some (.int .i64 0) := (blk_cell b12.out 3).trans rfl
    have f123 : w1.frozen? ⟨w.heap.size + 1 + 1, 3, none⟩ = false := blk_frozen b12.out 3
    have HF := Lib.hid (below_set4 HB1.out (g := w.heap.size + 1 + 1) (by omega) (.int .i64 (0)) (.int .i64 (0)) (.int .i64 (0)) (.int .i64 (0)))
    go_wp2
    exact bodyPost_ret (results_ct rfl _ _ (w.heap.size + 1 + 1) 25 #[.int .i64 (0), .int .i64 (0), .int .i64 (0), .int .i64 (0)] (0, 0) _ rfl (blk_put (blk_put (blk_put (blk_put b12.out 0 _ rfl) 1 _ rfl) 2 _ rfl) 3 _ rfl) Try.underlying25 rfl (by kernel_rfl)) rfl ⟨rfl, HF.out⟩
  · simp only [if_true] at h
    obtain ⟨t2, e2, h⟩ := Option.bind_eq_some_iff.mp h
    have E2 := Lib.hid e2
    obtain ⟨⟨h1, h2⟩, ⟨h3, h4⟩, ⟨h5, h6⟩, h7, h8⟩ := good_bounds e1
    clear e1
    cases t2
    · simp only [Bool.false_eq_true, if_false, Option.some.injEq, Prod.mk.injEq] at h
      obtain ⟨rfl, rfl, rfl, rfl, rfl⟩ := h
      clear e2
      go_enter Try.func16, Try.ntmps16
      go_wp2_with fail
      refine (impl_GoodTint.calls a0_0 a0_1 a0_2 a0_3 true _ E1.out).mono ?_
      rintro e w1 ⟨rfl, hb⟩
      have b10 := Lib.hid (blk_below (three_blocks (w := w) (o1 := .cells #[.int .i64 a0_0, .int .i64 a0_1, .int .i64 a0_2, .int .i64 a0_3] 25 (0, 0)) (o2 := .cells #[.int .i64 a1_0, .int .i64 a1_1, .int .i64 a1_2, .int .i64 a1_3] 25 (0, 0)) (o3 := .cells #[.int .i64 0, .int .i64 0, .int .i64 0, .int .i64 0] 25 (0, 0)) rfl).1 hb)
      have b11 := Lib.hid (blk_below (three_blocks (w := w) (o1 := .cells #[.int .i64 a0_0, .int .i64 a0_1, .int .i64 a0_2, .int .i64 a0_3] 25 (0, 0)) (o2 := .cells #[.int .i64 a1_0, .int .i64 a1_1, .int .i64 a1_2, .int .i64 a1_3] 25 (0, 0)) (o3 := .cells #[.int .i64 0, .int .i64 0, .int .i64 0, .int .i64 0] 25 (0, 0)) rfl).2.1 hb)
      have b12 := Lib.hid (blk_below (three_blocks (w := w) (o1 := .cells #[.int .i64 a0_0, .int .i64 a0_1, .int .i64 a0_2, .int .i64 a0_3] 25 (0, 0)) (o2 := .cells #[.int .i64 a1_0, .int .i64 a1_1, .int .i64 a1_2, .int .i64 a1_3] 25 (0, 0)) (o3 := .cells #[.int .i64 0, .int .i64 0, .int .i64 0, .int .i64 0] 25 (0, 0)) rfl).2.2 hb)
      have HB1 := Lib.hid (below_step ((((Below.refl w.heap.size w).alloc (Nat.le_refl _) _).alloc (by simp) _).alloc (by simp; omega) _) hb)
      clear hb
      have c100 : w1.cell? ⟨w.heap.size, 0, none⟩ = some (.int .i64 a0_0) := (blk_cell b10.out 0).trans rfl
      have c101 : w1.cell? ⟨w.heap.size, 1, none⟩ = some (.int .i64 a0_1) := (blk_cell b10.out 1).trans rfl
      have c102 : w1.cell? ⟨w.heap.size, 2, none⟩ = some (.int .i64 a0_2) := (blk_cell b10.out 2).trans rfl
      have c103 : w1.cell? ⟨w.heap.size, 3, none⟩ = some (.int .i64 a0_3) := (blk_cell b10.out 3).trans rfl
      have c110 : w1.cell? ⟨w.heap.size + 1, 0, none⟩ = some (.int .i64 a1_0) := (blk_cell b11.out 0).trans rfl
      have c111 : w1.cell? ⟨w.heap.size + 1, 1, none⟩ = some (.int .i64 a1_1) := (blk_cell b11.out 1).trans rfl
      have c112 : w1.cell? ⟨w.heap.size + 1, 2, none⟩ = some (.int .i64 a1_2) := (blk_cell b11.out 2).trans rfl
      have c113 : w1.cell? ⟨w.heap.size + 1, 3, none⟩ = some (.int .i64 a1_3) := (blk_cell b11.out 3).trans rfl
      have c120 : w1.cell? ⟨w.heap.size + 1 + 1, 0, none⟩ = some (.int .i64 0) := (blk_cell b12.out 0).trans rfl
      have f120 : w1.frozen? ⟨w.heap.size + 1 + 1, 0, none⟩ = false := blk_frozen b12.out 0
      have c121 : w1.cell? ⟨w.heap.size + 1 + 1, 1, none⟩ = some (.int .i64 0) := (blk_cell b12.out 1).trans rfl
      have f121 : w1.frozen? ⟨w.heap.size + 1 + 1, 1, none⟩ = false := blk_frozen b12.out 1
      have c122 : w1.cell? ⟨w.heap.size + 1 + 1, 2, none⟩ = some (.int .i64 0) := (blk_cell b12.out 2).trans rfl
      have f122 : w1.frozen? ⟨w.heap.size + 1 + 1, 2, none⟩ = false := blk_frozen b12.out 2
      have c123 : w1.cell? ⟨w.heap.size + 1 + 1, 3, none⟩ = some (.int .i64 0) := (blk_cell b12.out 3).trans rfl
      have f123 : w1.frozen? ⟨w.heap.size + 1 + 1, 3, none⟩ = false := blk_frozen b12.out 3
      go_wp2_with fail
      refine (impl_GoodTint.calls a1_0 a1_1 a1_2 a1_3 false _ E2.out).mono ?_
      rintro e w2 ⟨rfl, hb⟩
      have b20 := Lib.hid (blk_below b10.out hb)
      have b21 := Lib.hid (blk_below b11.out hb)
      have b22 := Lib.hid (blk_below b12.out hb)
      have HB2 := Lib.hid (below_step HB1.out hb)
      clear hb c100 c101 c102 c103 c110 c111 c112 c113 c120 c121 c122 c123 f120 f121 f122 f123
      have c200 : w2.cell? ⟨w.heap.size, 0, none⟩ = some (.int .i64 a0_0) := (blk_cell b20.out 0).trans rfl
      have c201 : w2.cell? ⟨w.heap.size, 1, none⟩ = some (.int .i64 a0_1) := (blk_cell b20.out 1).trans rfl
      have c202 : w2.cell? ⟨w.heap.size, 2, none⟩ = some (.int .i64 a0_2) := (blk_cell b20.out 2).trans rfl
      have c203 : w2.cell? ⟨w.heap.size, 3, none⟩ = some (.int .i64 a0_3) := (blk_cell b20.out 3).trans rfl
      have c210 : w2.cell? ⟨w.heap.size + 1, 0, none⟩ = some (.int .i64 a1_0) := (blk_cell b21.out 0).trans rfl
      have c211 : w2.cell? ⟨w.heap.size + 1, 1, none⟩ = some (.int .i64 a1_1) := (blk_cell b21.out 1).trans rfl
      have c212 : w2.cell? ⟨w.heap.size + 1, 2, none⟩ = some (.int .i64 a1_2) := (blk_cell b21.out 2).trans rfl
      have c213 : w2.cell? ⟨w.heap.size + 1, 3, none⟩ = some (.int .i64 a1_3) := (blk_cell b21.out 3).trans rfl
      have c220 : w2.cell? ⟨w.heap.size + 1 + 1, 0, none⟩ = some (.int .i64 0) := (blk_cell b22.out 0).trans rfl
      have f220 : w2.frozen? ⟨w.heap.size + 1 + 1, 0, none⟩ = false := blk_frozen b22.out 0
      have c221 : w2.cell? ⟨w.heap.size + 1 + 1, 1, none⟩ = some (.int .i64 0) := (blk_cell b22.out 1).trans rfl
      have f221 : w2.frozen? ⟨w.heap.size + 1 + 1, 1, none⟩ = false := blk_frozen b22.out 1
      have c222 : w2.cell? ⟨w.heap.size + 1 + 1, 2, none⟩ = some (.int .i64 0) := (blk_cell b22.out 2).trans rfl
      have f222 : w2.frozen? ⟨w.heap.size + 1 + 1, 2, none⟩ = false := blk_frozen b22.out 2
      have c223 : w2.cell? ⟨w.heap.size + 1 + 1, 3, none⟩ = some (.int .i64 0) := (blk_cell b22.out 3).trans rfl
      have f223 : w2.frozen? ⟨w.heap.size + 1 + 1, 3, none⟩ = false := blk_frozen b22.out 3
      have HF := Lib.hid (below_set4 HB2.out (g := w.heap.size + 1 + 1) (by omega) (.int .i64 (0)) (.int .i64 (0)) (.int .i64 (0)) (.int .i64 (0)))
      go_wp2
      exact bodyPost_ret (results_ct rfl _ _ (w.heap.size + 1 + 1) 25 #[.int .i64 (0), .int .i64 (0), .int .i64 (0), .int .i64 (0)] (0, 0) _ rfl (blk_put (blk_put (blk_put (blk_put b22.out 0 _ rfl) 1 _ rfl) 2 _ rfl) 3 _ rfl) Try.underlying25 rfl (by kernel_rfl)) rfl ⟨rfl, HF.out⟩
    · simp only [if_true, Option.some.injEq, Prod.mk.injEq] at h
      obtain ⟨rfl, rfl, rfl, rfl, rfl⟩ := h
      obtain ⟨⟨k1, k2⟩, ⟨k3, k4⟩, ⟨k5, k6⟩, k7, k8⟩ := good_bounds e2
      clear e2
      go_enter Try.func16, Try.ntmps16
      go_wp2_with fail
      refine (impl_GoodTint.calls a0_0 a0_1 a0_2 a0_3 true _ E1.out).mono ?_
      rintro e w1 ⟨rfl, hb⟩
      have b10 := Lib.hid (blk_below (three_blocks (w := w) (o1 := .cells #[.int .i64 a0_0, .int .i64 a0_1, .int .i64 a0_2, .int .i64 a0_3] 25 (0, 0)) (o2 := .cells #[.int .i64 a1_0, .int .i64 a1_1, .int .i64 a1_2, .int .i64 a1_3] 25 (0, 0)) (o3 := .cells #[.int .i64 0, .int .i64 0, .int .i64 0, .int .i64 0] 25 (0, 0)) rfl).1 hb)
      have b11 := Lib.hid (blk_below (three_blocks (w := w) (o1 := .cells #[.int .i64 a0_0, .int .i64 a0_1, .int .i64 a0_2, .int .i64 a0_3] 25 (0, 0)) (o2 := .cells #[.int .i64 a1_0, .int .i64 a1_1, .int .i64 a1_2, .int .i64 a1_3] 25 (0, 0)) (o3 := .cells #[.int .i64 0, .int .i64 0, .int .i64 0, .int .i64 0] 25 (0, 0)) rfl).2.1 hb)
      have b12 := Lib.hid (blk_below (three_blocks (w := w) (o1 := .cells #[.int .i64 a0_0, .int .i64 a0_1, .int .i64 a0_2, .int .i64 a0_3] 25 (0, 0)) (o2 := .cells #[.int .i64 a1_0, .int .i64 a1_1, .int .i64 a1_2, .int .i64 a1_3] 25 (0, 0)) (o3 := .cells #[.int .i64 0, .int .i64 0, .int .i64 0, .int .i64 0] 25 (0, 0)) rfl).2.2 hb)
      have HB1 := Lib.hid (below_step ((((Below.refl w.heap.size w).alloc (Nat.le_refl _) _).alloc (by simp) _).alloc (by simp; omega) _) hb)
      clear hb
      have c100 : w1.cell? ⟨w.heap.size, 0, none⟩ = some (.int .i64 a0_0) := (blk_cell b10.out 0).trans rfl
      have c101 : w1.cell? ⟨w.heap.size, 1, none⟩ = some (.int .i64 a0_1) := (blk_cell b10.out 1).trans rfl
      have c102 : w1.cell? ⟨w.heap.size, 2, none⟩ = some (.int .i64 a0_2) := (blk_cell b10.out 2).trans rfl
      have c103 : w1.cell? ⟨w.heap.size, 3, none⟩ = some (.int .i64 a0_3) := (blk_cell b10.out 3).trans rfl
      have c110 : w1.cell? ⟨w.heap.size + 1, 0, none⟩ = some (.int .i64 a1_0) := (blk_cell b11.out 0).trans rfl
      have c111 : w1.cell? ⟨w.heap.size + 1, 1, none⟩ = some (.int .i64 a1_1) := (blk_cell b11.out 1).trans rfl
      have c112 : w1.cell? ⟨w.heap.size + 1, 2, none⟩ = some (.int .i64 a1_2) := (blk_cell b11.out 2).trans rfl
      have c113 : w1.cell? ⟨w.heap.size + 1, 3, none⟩ = some (.int .i64 a1_3) := (blk_cell b11.out 3).trans rfl
      have c120 : w1.cell? ⟨w.heap.size + 1 + 1, 0, none⟩ = some (.int .i64 0) := (blk_cell b12.out 0).trans rfl
      have f120 : w1.frozen? ⟨w.heap.size + 1 + 1, 0, none⟩ = false := blk_frozen b12.out 0
      have c121 : w1.cell? ⟨w.heap.size + 1 + 1, 1, none⟩ = some (.int .i64 0) := (blk_cell b12.out 1).trans rfl
      have f121 : w1.frozen? ⟨w.heap.size + 1 + 1, 1, none⟩ = false := blk_frozen b12.out 1
      have c122 : w1.cell? ⟨w.heap.size + 1 + 1, 2, none⟩ = some (.int .i64 0) := (blk_cell b12.out 2).trans rfl
      have f122 : w1.frozen? ⟨w.heap.size + 1 + 1, 2, none⟩ = false := blk_frozen b12.out 2
      have c123 : w1.cell? ⟨w.heap.size + 1 + 1, 3, none⟩ = some (.int .i64 0) := (blk_cell b12.out 3).trans rfl
      have f123 : w1.frozen? ⟨w.heap.size + 1 + 1, 3, none⟩ = false := blk_frozen b12.out 3
      go_wp2_with fail
      refine (impl_GoodTint.calls a1_0 a1_1 a1_2 a1_3 true _ E2.out).mono ?_
      rintro e w2 ⟨rfl, hb⟩
      have b20 := Lib.hid (blk_below b10.out hb)
      have b21 := Lib.hid (blk_below b11.out hb)
      have b22 := Lib.hid (blk_below b12.out hb)
      have HB2 := Lib.hid (below_step HB1.out hb)
      clear hb c100 c101 c102 c103 c110 c111 c112 c113 c120 c121 c122 c123 f120 f121 f122 f123
      have c200 : w2.cell? ⟨w.heap.size, 0, none⟩ = some (.int .i64 a0_0) := (blk_cell b20.out 0).trans rfl
      have c201 : w2.cell? ⟨w.heap.size, 1, none⟩ = some (.int .i64 a0_1) := (blk_cell b20.out 1).trans rfl
      have c202 : w2.cell? ⟨w.heap.size, 2, none⟩ = some (.int .i64 a0_2) := (blk_cell b20.out 2).trans rfl
      have c203 : w2.cell? ⟨w.heap.size, 3, none⟩ = some (.int .i64 a0_3) := (blk_cell b20.out 3).trans rfl
      have c210 : w2.cell? ⟨w.heap.size + 1, 0, none⟩ = some (.int .i64 a1_0) := (blk_cell b21.out 0).trans rfl
      have c211 : w2.cell? ⟨w.heap.size + 1, 1, none⟩ = some (.int .i64 a1_1) := (blk_cell b21.out 1).trans rfl
      have c212 : w2.cell? ⟨w.heap.size + 1, 2, none⟩ = some (.int .i64 a1_2) := (blk_cell b21.out 2).trans rfl
      have c213 : w2.cell? ⟨w.heap.size + 1, 3, none⟩ = some (.int .i64 a1_3) := (blk_cell b21.out 3).trans rfl
      have c220 : w2.cell? ⟨w.heap.size + 1 + 1, 0, none⟩ = some (.int .i64 0) := (blk_cell b22.out 0).trans rfl
      have f220 : w2.frozen? ⟨w.heap.size + 1 + 1, 0, none⟩ = false := blk_frozen b22.out 0
      have c221 : w2.cell? ⟨w.heap.size + 1 + 1, 1, none⟩ = some (.int .i64 0) := (blk_cell b22.out 1).trans rfl
      have f221 : w2.frozen? ⟨w.heap.size + 1 + 1, 1, none⟩ = false := blk_frozen b22.out 1
      have c222 : w2.cell? ⟨w.heap.size + 1 + 1, 2, none⟩ = some (.int .i64 0) := (blk_cell b22.out 2).trans rfl
      have f222 : w2.frozen? ⟨w.heap.size + 1 + 1, 2, none⟩ = false := blk_frozen b22.out 2
      have c223 : w2.cell? ⟨w.heap.size + 1 + 1, 3, none⟩ = some (.int .i64 0) := (blk_cell b22.out 3).trans rfl
      have f223 : w2.frozen? ⟨w.heap.size + 1 + 1, 3, none⟩ = false := blk_frozen b22.out 3
      have hcl : Hid (∀ (x y : Int), 0 ≤ x → x ≤ 255 → 0 ≤ y → y ≤ 255 → ∀ W', Below w2.heap.size w2 W' → Calls Try.prog 69 #[.int .i64 x, .int .i64 y, .pointer (some ⟨w.heap.size, 0, none⟩)] W' fun e w' => e = .returned (.int .i64 (x + (y * (255 - a0_3) + 127) / 255)) ∧ w' = W') :=
        Lib.hid (fun x y x0 x1 y0 y1 W' hb => over_close x y a0_3 w.heap.size W' ((blk_cell (blk_below b20.out hb) 3).trans rfl) h1 h2 x0 x1 y0 y1)
      go_wp2_with fail
      refine (each_over (.pointer (some ⟨w.heap.size, 0, none⟩)) a0_0 a0_1 a0_2 a0_3 a1_0 a1_1 a1_2 a1_3 _ _ _ _ w2 (hcl.out _ _ h3 (by omega) k3 (by omega)) (hcl.out _ _ h5 (by omega) k5 (by omega)) (hcl.out _ _ h7 (by omega) k7 (by omega)) (hcl.out _ _ h1 (by omega) k1 (by omega))).mono ?_
      rintro e w3 ⟨rfl, hb⟩
      have b30 := Lib.hid (blk_below b20.out hb)
      have b31 := Lib.hid (blk_below b21.out hb)
      have b32 := Lib.hid (blk_below b22.out hb)
      have HB3 := Lib.hid (below_step HB2.out hb)
      clear hb c200 c201 c202 c203 c210 c211 c212 c213 c220 c221 c222 c223 f220 f221 f222 f223
      have c300 : w3.cell? ⟨w.heap.size, 0, none⟩ = some (.int .i64 a0_0) := (blk_cell b30.out 0).trans rfl
      have c301 : w3.cell? ⟨w.heap.size, 1, none⟩ = some (.int .i64 a0_1) := (blk_cell b30.out 1).trans rfl
      have c302 : w3.cell? ⟨w.heap.size, 2, none⟩ = some (.int .i64 a0_2) := (blk_cell b30.out 2).trans rfl
      have c303 : w3.cell? ⟨w.heap.size, 3, none⟩ = some (.int .i64 a0_3) := (blk_cell b30.out 3).trans rfl
      have c310 : w3.cell? ⟨w.heap.size + 1, 0, none⟩ = some (.int .i64 a1_0) := (blk_cell b31.out 0).trans rfl
      have c311 : w3.cell? ⟨w.heap.size + 1, 1, none⟩ = some (.int .i64 a1_1) := (blk_cell b31.out 1).trans rfl
      have c312 : w3.cell? ⟨w.heap.size + 1, 2, none⟩ = some (.int .i64 a1_2) := (blk_cell b31.out 2).trans rfl
      have c313 : w3.cell? ⟨w.heap.size + 1, 3, none⟩ = some (.int .i64 a1_3) := (blk_cell b31.out 3).trans rfl
      have c320 : w3.cell? ⟨w.heap.size + 1 + 1, 0, none⟩ = some (.int .i64 0) := (blk_cell b32.out 0).trans rfl
      have f320 : w3.frozen? ⟨w.heap.size + 1 + 1, 0, none⟩ = false := blk_frozen b32.out 0
      have c321 : w3.cell? ⟨w.heap.size + 1 + 1, 1, none⟩ = some (.int .i64 0) := (blk_cell b32.out 1).trans rfl
      have f321 : w3.frozen? ⟨w.heap.size + 1 + 1, 1, none⟩ = false := blk_frozen b32.out 1
      have c322 : w3.cell? ⟨w.heap.size + 1 + 1, 2, none⟩ = some (.int .i64 0) := (blk_cell b32.out 2).trans rfl
      have f322 : w3.frozen? ⟨w.heap.size + 1 + 1, 2, none⟩ = false := blk_frozen b32.out 2
      have c323 : w3.cell? ⟨w.heap.size + 1 + 1, 3, none⟩ = some (.int .i64 0) := (blk_cell b32.out 3).trans rfl
      have f323 : w3.frozen? ⟨w.heap.size + 1 + 1, 3, none⟩ = false := blk_frozen b32.out 3
      have HF := Lib.hid (below_set4 HB3.out (g := w.heap.size + 1 + 1) (by omega) (.int .i64 (a0_0 + (a1_0 * (255 - a0_3) + 127) / 255)) (.int .i64 (a0_1 + (a1_1 * (255 - a0_3) + 127) / 255)) (.int .i64 (a0_2 + (a1_2 * (255 - a0_3) + 127) / 255)) (.int .i64 (a0_3 + (a1_3 * (255 - a0_3) + 127) / 255)))
      go_wp2
      exact bodyPost_ret (results_ct rfl _ _ (w.heap.size + 1 + 1) 25 #[.int .i64 (a0_0 + (a1_0 * (255 - a0_3) + 127) / 255), .int .i64 (a0_1 + (a1_1 * (255 - a0_3) + 127) / 255), .int .i64 (a0_2 + (a1_2 * (255 - a0_3) + 127) / 255), .int .i64 (a0_3 + (a1_3 * (255 - a0_3) + 127) / 255)] (0, 0) _ rfl (blk_put (blk_put (blk_put (blk_put b32.out 0 _ rfl) 1 _ rfl) 2 _ rfl) 3 _ rfl) Try.underlying25 rfl (by kernel_rfl)) rfl ⟨rfl, HF.out⟩
end Go.Proofs.Ytiadieifofaobaa.HFnTints
