-- Printed by a program of this session over the kit's print; functions that the print does not take stand here by hand.
import Derived.Test.YtiadieifofaobaaYHFnTintsx0
import Derived.Test.YtiadieifofaobaaYHFnTintsx6
import Derived.Test.YtiadieifofaobaaYHFnTintsx8
import Derived.Test.YtiadieifofaobaaYHFnTintsx9
namespace Go.Proofs.Ytiadieifofaobaa.HFnTints
open Go.RowKit Go.Proofs.YtiadieifofaobaaW.PrintWords Go.Proofs.YtiadieifofaobaaW.PrintLast Go.Proofs.YtiadieifofaobaaW.PrintMore
attribute [local go_sem] max2_int min2_int max_two min_two max_three min_three max_four min_four   -- for this text's walks alone
set_option linter.unusedVariables false
set_option linter.unusedSimpArgs false
/-! ### impl_RunAt: function 12 -/
theorem run_set4 {B : Nat} {w W : World} (h : Below B w W) {g : Nat} (hg : B ≤ g) (v0 v1 v2 v3 : Value) : Below B w ((((W.setCell ⟨g, 0, none⟩ v0).setCell ⟨g, 1, none⟩ v1).setCell ⟨g, 2, none⟩ v2).setCell ⟨g, 3, none⟩ v3) :=
  (((h.setCell hg _).setCell hg _).setCell hg _).setCell hg _
theorem run_blocks {w W : World} {o1 o2 o3 : Obj} (h : ((w.alloc o1).alloc o2).alloc o3 = W) : W.heap[w.heap.size]? = some o1 ∧ W.heap[w.heap.size + 1]? = some o2 ∧ W.heap[w.heap.size + 1 + 1]? = some o3 := by
  subst h
  have e1 := (MapKept.heap_alloc w o1).1
  have s1 : (w.alloc o1).heap.size = w.heap.size + 1 := by simp
  have s2 : ((w.alloc o1).alloc o2).heap.size = w.heap.size + 1 + 1 := by simp
  have e2 := (MapKept.heap_alloc (w.alloc o1) o2).1
  have e3 := (MapKept.heap_alloc ((w.alloc o1).alloc o2) o3).1
  rw [s1] at e2
  rw [s2] at e3
  refine ⟨?_, ?_, e3⟩
  · rw [(MapKept.heap_alloc _ o3).2 _ (by simp; omega), (MapKept.heap_alloc _ o2).2 _ (by simp)]; exact e1
  · rw [(MapKept.heap_alloc _ o3).2 _ (by simp)]; exact e2
set_option maxHeartbeats 1000000 in
set_option maxRecDepth 100000 in
theorem run_each (p q r : Value) (x0 x1 x2 x3 y0 y1 y2 y3 r0 r1 r2 r3 : Int) (w : World)
    (h0 : ∀ W', Below w.heap.size w W' → Calls Try.prog 66 #[.int .i64 x0, .int .i64 y0, p, q, r] W' fun e w' => e = .returned (.int .i64 r0) ∧ w' = W')
    (h1 : ∀ W', Below w.heap.size w W' → Calls Try.prog 66 #[.int .i64 x1, .int .i64 y1, p, q, r] W' fun e w' => e = .returned (.int .i64 r1) ∧ w' = W')
    (h2 : ∀ W', Below w.heap.size w W' → Calls Try.prog 66 #[.int .i64 x2, .int .i64 y2, p, q, r] W' fun e w' => e = .returned (.int .i64 r2) ∧ w' = W')
    (h3 : ∀ W', Below w.heap.size w W' → Calls Try.prog 66 #[.int .i64 x3, .int .i64 y3, p, q, r] W' fun e w' => e = .returned (.int .i64 r3) ∧ w' = W') :
    Calls Try.prog 65 #[.agg #[.int .i64 x0, .int .i64 x1, .int .i64 x2, .int .i64 x3], .agg #[.int .i64 y0, .int .i64 y1, .int .i64 y2, .int .i64 y3], .func (.func 66) #[] #[p, q, r]] w fun e w' => e = .returned (.agg #[.int .i64 r0, .int .i64 r1, .int .i64 r2, .int .i64 r3]) ∧ Below w.heap.size w w' := by
  have H0 := Lib.hid h0; have H1 := Lib.hid h1; have H2 := Lib.hid h2; have H3 := Lib.hid h3
  clear h0 h1 h2 h3
  go_enter Try.func65, Try.ntmps65
  go_wp2_with fail
  obtain ⟨W, hW⟩ : ∃ W : World, ((w.alloc (.cells #[.int .i64 x0, .int .i64 x1, .int .i64 x2, .int .i64 x3] 25)).alloc (.cells #[.int .i64 y0, .int .i64 y1, .int .i64 y2, .int .i64 y3] 25)).alloc (.cells #[.int .i64 0, .int .i64 0, .int .i64 0, .int .i64 0] 25) = W := ⟨_, rfl⟩
  rw [hW]
  have HB : Hid (Below w.heap.size w W.drew) := by rw [← hW]; exact Lib.hid ((((Below.refl _ _).alloc (Nat.le_refl _) _).alloc (by simp) _).alloc (by simp; omega) _).drew
  have b0 := Lib.hid (run_blocks hW).1
  have b1 := Lib.hid (run_blocks hW).2.1
  have b2 := Lib.hid (run_blocks hW).2.2
  have HW := Lib.hid hW
  clear hW
  have c00 : W.cell? ⟨w.heap.size, 0, none⟩ = some (.int .i64 x0) := (blk_cell b0.out 0).trans rfl
  have c01 : W.cell? ⟨w.heap.size, 1, none⟩ = some (.int .i64 x1) := (blk_cell b0.out 1).trans rfl
  have c02 : W.cell? ⟨w.heap.size, 2, none⟩ = some (.int .i64 x2) := (blk_cell b0.out 2).trans rfl
  have c03 : W.cell? ⟨w.heap.size, 3, none⟩ = some (.int .i64 x3) := (blk_cell b0.out 3).trans rfl
  have c10 : W.cell? ⟨w.heap.size + 1, 0, none⟩ = some (.int .i64 y0) := (blk_cell b1.out 0).trans rfl
  have c11 : W.cell? ⟨w.heap.size + 1, 1, none⟩ = some (.int .i64 y1) := (blk_cell b1.out 1).trans rfl
  have c12 : W.cell? ⟨w.heap.size + 1, 2, none⟩ = some (.int .i64 y2) := (blk_cell b1.out 2).trans rfl
  have c13 : W.cell? ⟨w.heap.size + 1, 3, none⟩ = some (.int .i64 y3) := (blk_cell b1.out 3).trans rfl
  have c20 : W.cell? ⟨w.heap.size + 1 + 1, 0, none⟩ = some (.int .i64 0) := (blk_cell b2.out 0).trans rfl
  have f20 : W.frozen? ⟨w.heap.size + 1 + 1, 0, none⟩ = false := blk_frozen b2.out 0
  have c21 : W.cell? ⟨w.heap.size + 1 + 1, 1, none⟩ = some (.int .i64 0) := (blk_cell b2.out 1).trans rfl
  have f21 : W.frozen? ⟨w.heap.size + 1 + 1, 1, none⟩ = false := blk_frozen b2.out 1
  have c22 : W.cell? ⟨w.heap.size + 1 + 1, 2, none⟩ = some (.int .i64 0) := (blk_cell b2.out 2).trans rfl
  have f22 : W.frozen? ⟨w.heap.size + 1 + 1, 2, none⟩ = false := blk_frozen b2.out 2
  have c23 : W.cell? ⟨w.heap.size + 1 + 1, 3, none⟩ = some (.int .i64 0) := (blk_cell b2.out 3).trans rfl
  have f23 : W.frozen? ⟨w.heap.size + 1 + 1, 3, none⟩ = false := blk_frozen b2.out 3
  refine wp_region_still_tail 25 (by kernel_rfl) (by kernel_rfl) ?_
  simp only [List.take_succ_cons, List.take_zero, List.drop_succ_cons, List.drop_zero]
  repeat still_step
  refine wpStill_step (fun K hK => ?_)
  go_simp
  refine ⟨_, H0.out _ HB.out, hK _ ?_⟩
  clear hK K
  repeat still_step
  refine wpStill_step (fun K hK => ?_)
  go_simp
  refine ⟨_, H1.out _ HB.out, hK _ ?_⟩
  clear hK K
  repeat still_step
  refine wpStill_step (fun K hK => ?_)
  go_simp
  refine ⟨_, H2.out _ HB.out, hK _ ?_⟩
  clear hK K
  repeat still_step
  refine wpStill_step (fun K hK => ?_)
  go_simp
  refine ⟨_, H3.out _ HB.out, hK _ ?_⟩
  clear hK K
  repeat still_step
  refine wpStill_nil ?_
  change wpList _ _ _ _ _ W.drew
  have f20' : W.drew.frozen? ⟨w.heap.size + 1 + 1, 0, none⟩ = false := f20
  have HB2 := Lib.hid (run_set4 HB.out (g := w.heap.size + 1 + 1) (by omega) (.int .i64 r0) (.int .i64 r1) (.int .i64 r2) (.int .i64 r3))
  go_wp2
  exact bodyPost_ret (results_cell_row rfl _ _ (w.heap.size + 1 + 1) 25 #[.int .i64 r0, .int .i64 r1, .int .i64 r2, .int .i64 r3] (0, 0) _ rfl (blk_put (blk_put (blk_put (blk_put (blk_drew b2.out) 0 _ rfl) 1 _ rfl) 2 _ rfl) 3 _ rfl) Try.underlying25 rfl (by kernel_rfl)) rfl ⟨rfl, HB2.out⟩
def runMix (x y bA aA at_ : Int) : Int := wrap64 (Int.tdiv (wrap64 ((wrap64 (x * (wrap64 (bA - at_)))) + (wrap64 (y * (wrap64 (at_ - aA)))))) (wrap64 (bA - aA)))
set_option maxHeartbeats 8000000 in
set_option maxRecDepth 100000 in
theorem run_close (x y bA aA at_ : Int) (B T A : Nat) (w : World) (hB : w.cell? ⟨B, 0, none⟩ = some (.int .i64 bA)) (hT : w.cell? ⟨T, 0, none⟩ = some (.int .i64 at_)) (hA : w.cell? ⟨A, 0, none⟩ = some (.int .i64 aA)) (hne : ¬ wrap64 (bA - aA) = 0) :
    Calls Try.prog 66 #[.int .i64 x, .int .i64 y, .pointer (some ⟨B, 0, none⟩), .pointer (some ⟨T, 0, none⟩), .pointer (some ⟨A, 0, none⟩)] w fun e w' => e = .returned (.int .i64 (runMix x y bA aA at_)) ∧ w' = w := by
  have c0 : (wrap64 (bA - aA) == 0) = false := beq_eq_false_iff_ne.mpr hne
  have c1 : (wrap64 (bA - aA) != 0) = true := bne_iff_ne.mpr hne
  go_enter Try.func66, Try.ntmps66
  go_wp2
  go_ret
  exact ⟨rfl, rfl⟩
def runPlace (s a : Int) : Int := if s = 1 then mx 0 (mn a 65536) else if s = 2 then Int.tmod (wrap64 ((Int.tmod a 65536) + 65536)) 65536 else if Int.tmod (wrap64 ((Int.tmod a 131072) + 131072)) 131072 ≥ 65536 then wrap64 (131072 - Int.tmod (wrap64 ((Int.tmod a 131072) + 131072)) 131072) else Int.tmod (wrap64 ((Int.tmod a 131072) + 131072)) 131072
def runTint (l : List S103) (p i : Int) : Int × Int × Int × Int × Bool :=
  (runMix (rd_T103 l i).f1.f0 (rd_T103 l (wrap64 (i + 1))).f1.f0 (rd_T103 l (wrap64 (i + 1))).f0 (rd_T103 l i).f0 p, runMix (rd_T103 l i).f1.f1 (rd_T103 l (wrap64 (i + 1))).f1.f1 (rd_T103 l (wrap64 (i + 1))).f0 (rd_T103 l i).f0 p, runMix (rd_T103 l i).f1.f2 (rd_T103 l (wrap64 (i + 1))).f1.f2 (rd_T103 l (wrap64 (i + 1))).f0 (rd_T103 l i).f0 p, runMix (rd_T103 l i).f1.f3 (rd_T103 l (wrap64 (i + 1))).f1.f3 (rd_T103 l (wrap64 (i + 1))).f0 (rd_T103 l i).f0 p, true)
def impl_RunAt.l0 : Nat → List S103 → Int → Int → Option (Int × Int × Int × Int × Bool)
  | 0, _, _, _ => none
  | k + 1, l, p, i => if 0 ≤ wrap64 (i + 1) then (if wrap64 (i + 1) < (l.length : Int) then (if (rd_T103 l (wrap64 (i + 1))).f0 ≤ p then impl_RunAt.l0 k l p (wrap64 (i + 1)) else (if 0 ≤ i then (if i < (l.length : Int) then (if wrap64 ((rd_T103 l (wrap64 (i + 1))).f0 - (rd_T103 l i).f0) = 0 then none else some (runTint l p i)) else none) else none)) else none) else none
def impl_RunAt.g (k : Nat) (l : List S103) (p : Int) : Option (Int × Int × Int × Int × Bool) :=
  if 0 < (l.length : Int) then
    if p ≤ (rd_T103 l 0).f0 then some ((rd_T103 l 0).f1.f0, (rd_T103 l 0).f1.f1, (rd_T103 l 0).f1.f2, (rd_T103 l 0).f1.f3, true)
    else if (rd_T103 l (wrap64 ((l.length : Int) - 1))).f0 ≤ p then some ((rd_T103 l (wrap64 ((l.length : Int) - 1))).f1.f0, (rd_T103 l (wrap64 ((l.length : Int) - 1))).f1.f1, (rd_T103 l (wrap64 ((l.length : Int) - 1))).f1.f2, (rd_T103 l (wrap64 ((l.length : Int) - 1))).f1.f3, true)
    else impl_RunAt.l0 k l p 0
  else none
def impl_RunAt.f (k : Nat) (l0 : List S103) (a1 a2 : Int) : Option (Int × Int × Int × Int × Bool) :=
  (impl_StopsGood.f k l0).bind fun t1 => if t1 = true then (impl_GoodFixed.f a1).bind fun t2 => if t2 = true then (impl_within.f a2 1 3).bind fun t3 => if t3 = true then impl_RunAt.g k l0 (runPlace a2 a1) else some (0, 0, 0, 0, false) else some (0, 0, 0, 0, false) else some (0, 0, 0, 0, false)
theorem impl_RunAt.mono_l : ∀ k, ∀ y0 y1 y2, LeO (impl_RunAt.l0 k y0 y1 y2) (impl_RunAt.l0 (k + 1) y0 y1 y2)
  | 0 => fun _ _ _ r h => by simp [impl_RunAt.l0] at h
  | k + 1 => by
    have ih0 := impl_RunAt.mono_l k
    intro y0 y1 y2
    unfold impl_RunAt.l0
    repeat' first
    | with_reducible exact ih0 _ _ _
    | with_reducible exact LeO.refl _
    | with_reducible exact LeO.none _
    | with_reducible refine LeO.ite ?_ ?_
    | with_reducible refine LeO.bind ?_ (fun _ => ?_)
theorem impl_RunAt.mono : ∀ a0 a1 a2 k, LeO (impl_RunAt.f k a0 a1 a2) (impl_RunAt.f (k + 1) a0 a1 a2) := by
  intro a0 a1 a2 k
  unfold impl_RunAt.f impl_RunAt.g
  repeat' first
    | with_reducible exact impl_StopsGood.mono ..
    | with_reducible exact impl_RunAt.mono_l _ _ _ _
    | with_reducible exact LeO.refl _
    | with_reducible exact LeO.none _
    | with_reducible refine LeO.ite ?_ ?_
    | with_reducible refine LeO.bind ?_ (fun _ => ?_)
theorem run_at {w W : World} {A : Option Addr} {n : Nat} {xs : List S103} (h : Kd.C k103 w A n xs) (hb : Below w.heap.size w W) (i : Int) (h0 : 0 ≤ i) (h1 : i < n) : ∃ ad : Addr, A = some ad ∧ W.cell? (ad.add (i.toNat * 5)) = some (.int .i64 (rd_T103 xs i).f0) ∧
    W.cell? ⟨(ad.add (i.toNat * 5)).block, (ad.add (i.toNat * 5)).off + 1, none⟩ = some (.int .i64 (rd_T103 xs i).f1.f0) ∧ W.cell? ⟨(ad.add (i.toNat * 5)).block, (ad.add (i.toNat * 5)).off + 2, none⟩ = some (.int .i64 (rd_T103 xs i).f1.f1) ∧
    W.cell? ⟨(ad.add (i.toNat * 5)).block, (ad.add (i.toNat * 5)).off + 3, none⟩ = some (.int .i64 (rd_T103 xs i).f1.f2) ∧ W.cell? ⟨(ad.add (i.toNat * 5)).block, (ad.add (i.toNat * 5)).off + 4, none⟩ = some (.int .i64 (rd_T103 xs i).f1.f3) := by
  obtain ⟨ad, e, x0, x1, x2, x3, x4⟩ := at_T103 h i h0 h1
  exact ⟨ad, e, (hb.cell (World.block_lt_of_cell? w _ x0)).trans x0, (hb.cell (World.block_lt_of_cell? w _ x1)).trans x1, (hb.cell (World.block_lt_of_cell? w _ x2)).trans x2, (hb.cell (World.block_lt_of_cell? w _ x3)).trans x3, (hb.cell (World.block_lt_of_cell? w _ x4)).trans x4⟩
theorem run_cells {w W : World} {ad : Addr} {n : Nat} {xs : List S103} (h : Kd.C k103 w (some ad) n xs) (hb : Below w.heap.size w W) (i : Int) (h0 : 0 ≤ i) (h1 : i < n) : W.cell? (ad.add (i.toNat * 5)) = some (.int .i64 (rd_T103 xs i).f0) ∧
    W.cell? ⟨(ad.add (i.toNat * 5)).block, (ad.add (i.toNat * 5)).off + 1, none⟩ = some (.int .i64 (rd_T103 xs i).f1.f0) ∧ W.cell? ⟨(ad.add (i.toNat * 5)).block, (ad.add (i.toNat * 5)).off + 2, none⟩ = some (.int .i64 (rd_T103 xs i).f1.f1) ∧
    W.cell? ⟨(ad.add (i.toNat * 5)).block, (ad.add (i.toNat * 5)).off + 3, none⟩ = some (.int .i64 (rd_T103 xs i).f1.f2) ∧ W.cell? ⟨(ad.add (i.toNat * 5)).block, (ad.add (i.toNat * 5)).off + 4, none⟩ = some (.int .i64 (rd_T103 xs i).f1.f3) := by
  obtain ⟨ad', e, hh⟩ := run_at h hb i h0 h1
  obtain rfl : ad = ad' := by injection e
  exact hh
theorem run_blk2 {w W : World} {o1 o2 : Obj} (h : (w.alloc o1).alloc o2 = W) : W.heap[w.heap.size]? = some o1 ∧ W.heap[w.heap.size + 1]? = some o2 ∧ Below w.heap.size w W := by
  subst h
  have e1 := (MapKept.heap_alloc w o1).1
  have s1 : (w.alloc o1).heap.size = w.heap.size + 1 := by simp
  have e2 := (MapKept.heap_alloc (w.alloc o1) o2).1
  rw [s1] at e2
  refine ⟨?_, e2, ((Below.refl _ _).alloc (Nat.le_refl _) _).alloc (by simp) _⟩
  rw [(MapKept.heap_alloc _ o2).2 _ (by simp)]; exact e1
set_option maxHeartbeats 8000000 in
set_option maxRecDepth 100000 in
theorem impl_RunAt.calls (k : Nat) (A0 : Option Addr) (c0 : Nat) (l0 : List (S103)) (a1 a2 : Int) (r1 : Int) (r2 : Int) (r3 : Int) (r4 : Int) (r5 : Bool) (w : World) (hr0 : Kd.C k103 w A0 l0.length l0) (hc0 : l0.length ≤ c0) (h : impl_RunAt.f k l0 a1 a2 = some (r1, r2, r3, r4, r5)) :
    Calls Try.prog 12 #[.slice A0 l0.length c0, .int .i64 a1, .int .i64 a2] w fun e w' => e = .returned (.tuple #[.agg #[.int .i64 r1, .int .i64 r2, .int .i64 r3, .int .i64 r4], .bool r5]) ∧ Below w.heap.size w w' := by
  have hu := Try.underlying25
  have hu2 := Try.underlying103
  have HR := Aside0.mk hr0
  have HC := Aside0.mk hc0
  clear hr0 hc0
  unfold impl_RunAt.f at h
  obtain ⟨t1, e1, h⟩ := Option.bind_eq_some_iff.mp h
  have E1 := Aside0.mk e1
  have Hf := Aside0.mk h
  clear e1 h
  go_enter Try.func12, Try.ntmps12
  go_wp2_with fail
  obtain ⟨W, hW⟩ : ∃ W : World, (w.alloc (.cells #[.int .i64 a1] 3)).alloc (.cells #[.int .i64 0, .int .i64 0, .int .i64 0, .int .i64 0] 25) = W := ⟨_, rfl⟩
  rw [hW]
  have b0 := Aside0.mk (run_blk2 hW).1
  have b1 := Aside0.mk (run_blk2 hW).2.1
  have HB := Aside0.mk (run_blk2 hW).2.2
  clear hW
  refine (impl_StopsGood.calls k A0 c0 l0 t1 _ (Kd.C_below HR.out HB.out) HC.out E1.out).mono ?_
  rintro e w1 ⟨rfl, hb⟩
  replace b0 := Aside0.mk (blk_below b0.out hb)
  replace b1 := Aside0.mk (blk_below b1.out hb)
  replace HB := Aside0.mk (below_step HB.out hb)
  clear hb
  have c00 : w1.cell? ⟨w.heap.size, 0, none⟩ = some (.int .i64 a1) := (blk_cell b0.out 0).trans rfl
  have c10 : w1.cell? ⟨w.heap.size + 1, 0, none⟩ = some (.int .i64 0) := (blk_cell b1.out 0).trans rfl
  have c11 : w1.cell? ⟨w.heap.size + 1, 1, none⟩ = some (.int .i64 0) := (blk_cell b1.out 1).trans rfl
  have c12 : w1.cell? ⟨w.heap.size + 1, 2, none⟩ = some (.int .i64 0) := (blk_cell b1.out 2).trans rfl
  have c13 : w1.cell? ⟨w.heap.size + 1, 3, none⟩ = some (.int .i64 0) := (blk_cell b1.out 3).trans rfl
  have f10 := blk_frozen b1.out 0
  have f11 := blk_frozen b1.out 1
  have f12 := blk_frozen b1.out 2
  have f13 := blk_frozen b1.out 3
  cases t1
  · have h := Hf.out
    simp only [Bool.false_eq_true, if_false, Option.some.injEq, Prod.mk.injEq] at h
    obtain ⟨rfl, rfl, rfl, rfl, rfl⟩ := h
    clear Hf
    have HF := Aside0.mk (run_set4 HB.out (g := w.heap.size + 1) (by omega) (.int .i64 0) (.int .i64 0) (.int .i64 0) (.int .i64 0))
    go_wp2
    exact bodyPost_ret (results_ct rfl _ _ (w.heap.size + 1) 25 #[.int .i64 0, .int .i64 0, .int .i64 0, .int .i64 0] (0, 0) _ rfl (blk_put (blk_put (blk_put (blk_put b1.out 0 _ rfl) 1 _ rfl) 2 _ rfl) 3 _ rfl) Try.underlying25 rfl (by kernel_rfl)) rfl ⟨rfl, HF.out⟩
  · have h := Hf.out
    simp only [if_true] at h
    obtain ⟨t2, e2, h⟩ := Option.bind_eq_some_iff.mp h
    have E2 := Aside0.mk e2
    replace Hf := Aside0.mk h
    clear e2 h
    clear c00 c10 c11 c12 c13 f10 f11 f12 f13
    have c10 : w1.cell? ⟨w.heap.size, 0, none⟩ = some (.int .i64 a1) := (blk_cell b0.out 0).trans rfl
    have d10 : w1.cell? ⟨w.heap.size + 1, 0, none⟩ = some (.int .i64 0) := (blk_cell b1.out 0).trans rfl
    have e10 := blk_frozen b1.out 0
    have d11 : w1.cell? ⟨w.heap.size + 1, 1, none⟩ = some (.int .i64 0) := (blk_cell b1.out 1).trans rfl
    have e11 := blk_frozen b1.out 1
    have d12 : w1.cell? ⟨w.heap.size + 1, 2, none⟩ = some (.int .i64 0) := (blk_cell b1.out 2).trans rfl
    have e12 := blk_frozen b1.out 2
    have d13 : w1.cell? ⟨w.heap.size + 1, 3, none⟩ = some (.int .i64 0) := (blk_cell b1.out 3).trans rfl
    have e13 := blk_frozen b1.out 3
    have g10 := blk_frozen b0.out 0
    go_wp2_with fail
    refine (impl_GoodFixed.calls a1 t2 _ E2.out).mono ?_
    rintro e w2 ⟨rfl, hd⟩
    have hb := hd.below
    clear hd
    replace b0 := Aside0.mk (blk_below b0.out hb)
    replace b1 := Aside0.mk (blk_below b1.out hb)
    replace HB := Aside0.mk (below_step HB.out hb)
    clear hb c10 d10 d11 d12 d13 e10 e11 e12 e13 g10
    have c20 : w2.cell? ⟨w.heap.size, 0, none⟩ = some (.int .i64 a1) := (blk_cell b0.out 0).trans rfl
    have d20 : w2.cell? ⟨w.heap.size + 1, 0, none⟩ = some (.int .i64 0) := (blk_cell b1.out 0).trans rfl
    have e20 := blk_frozen b1.out 0
    have d21 : w2.cell? ⟨w.heap.size + 1, 1, none⟩ = some (.int .i64 0) := (blk_cell b1.out 1).trans rfl
    have e21 := blk_frozen b1.out 1
    have d22 : w2.cell? ⟨w.heap.size + 1, 2, none⟩ = some (.int .i64 0) := (blk_cell b1.out 2).trans rfl
    have e22 := blk_frozen b1.out 2
    have d23 : w2.cell? ⟨w.heap.size + 1, 3, none⟩ = some (.int .i64 0) := (blk_cell b1.out 3).trans rfl
    have e23 := blk_frozen b1.out 3
    have g20 := blk_frozen b0.out 0
    cases t2
    · have h := Hf.out
      simp only [Bool.false_eq_true, if_false, Option.some.injEq, Prod.mk.injEq] at h
      obtain ⟨rfl, rfl, rfl, rfl, rfl⟩ := h
      clear Hf
      have HF := Aside0.mk (run_set4 (HB.out) (g := w.heap.size + 1) (by omega) (.int .i64 0) (.int .i64 0) (.int .i64 0) (.int .i64 0))
      go_wp2
      exact bodyPost_ret (results_ct rfl _ _ (w.heap.size + 1) 25 #[.int .i64 0, .int .i64 0, .int .i64 0, .int .i64 0] (0, 0) _ rfl (blk_put (blk_put (blk_put (blk_put (b1.out) 0 _ rfl) 1 _ rfl) 2 _ rfl) 3 _ rfl) Try.underlying25 rfl (by kernel_rfl)) rfl ⟨rfl, HF.out⟩
    · have h := Hf.out
      simp only [if_true] at h
      obtain ⟨t3, e3, h⟩ := Option.bind_eq_some_iff.mp h
      have E3 := Aside0.mk e3
      replace Hf := Aside0.mk h
      clear e3 h
      go_wp2_with fail
      refine (impl_within.calls a2 1 3 t3 _ E3.out).mono ?_
      rintro e w3 ⟨rfl, hd⟩
      have hb := hd.below
      clear hd
      replace b0 := Aside0.mk (blk_below b0.out hb)
      replace b1 := Aside0.mk (blk_below b1.out hb)
      replace HB := Aside0.mk (below_step HB.out hb)
      clear hb c20 d20 d21 d22 d23 e20 e21 e22 e23 g20
      have c30 : w3.cell? ⟨w.heap.size, 0, none⟩ = some (.int .i64 a1) := (blk_cell b0.out 0).trans rfl
      have d30 : w3.cell? ⟨w.heap.size + 1, 0, none⟩ = some (.int .i64 0) := (blk_cell b1.out 0).trans rfl
      have e30 := blk_frozen b1.out 0
      have d31 : w3.cell? ⟨w.heap.size + 1, 1, none⟩ = some (.int .i64 0) := (blk_cell b1.out 1).trans rfl
      have e31 := blk_frozen b1.out 1
      have d32 : w3.cell? ⟨w.heap.size + 1, 2, none⟩ = some (.int .i64 0) := (blk_cell b1.out 2).trans rfl
      have e32 := blk_frozen b1.out 2
      have d33 : w3.cell? ⟨w.heap.size + 1, 3, none⟩ = some (.int .i64 0) := (blk_cell b1.out 3).trans rfl
      have e33 := blk_frozen b1.out 3
      have g30 := blk_frozen b0.out 0
      cases t3
      · have h := Hf.out
        simp only [Bool.false_eq_true, if_false, Option.some.injEq, Prod.mk.injEq] at h
        obtain ⟨rfl, rfl, rfl, rfl, rfl⟩ := h
        clear Hf
        have HF := Aside0.mk (run_set4 (HB.out) (g := w.heap.size + 1) (by omega) (.int .i64 0) (.int .i64 0) (.int .i64 0) (.int .i64 0))
        go_wp2
        exact bodyPost_ret (results_ct rfl _ _ (w.heap.size + 1) 25 #[.int .i64 0, .int .i64 0, .int .i64 0, .int .i64 0] (0, 0) _ rfl (blk_put (blk_put (blk_put (blk_put (b1.out) 0 _ rfl) 1 _ rfl) 2 _ rfl) 3 _ rfl) Try.underlying25 rfl (by kernel_rfl)) rfl ⟨rfl, HF.out⟩
      · replace Hf := Aside0.mk (show impl_RunAt.g k l0 (runPlace a2 a1) = some (r1, r2, r3, r4, r5) from Hf.out)
        go_upto_block 0 with fail
        (try simp only [Act.put, List.setIfInBounds_toArray, List.set_cons_zero, List.set_cons_succ])
        go_cut [] (fun wc => ∃ p : Int, Aside0 (impl_RunAt.g k l0 p = some (r1, r2, r3, r4, r5)) ∧ Aside0 (wc.heap[w.heap.size]? = some (.cells #[.int .i64 p] 3 (0, 0))) ∧ Aside0 (wc.heap[w.heap.size + 1]? = some (.cells #[.int .i64 0, .int .i64 0, .int .i64 0, .int .i64 0] 25 (0, 0))) ∧ Aside0 (Below w.heap.size w wc))
        case first =>
          have hne : Aside0 (w.heap.size + 1 ≠ w.heap.size) := ⟨by omega⟩
          by_cases s1 : a2 = 1
          · have s1b : (a2 == 1) = true := beq_iff_eq.mpr s1
            have S1 := Aside0.mk s1
            clear s1
            go_wp2_with fail
            refine (impl_cut.calls a1 0 65536 (mx 0 (mn a1 65536)) _ rfl).mono ?_
            rintro e w4 ⟨rfl, hb⟩
            replace b0 := Aside0.mk (blk_below b0.out hb)
            replace b1 := Aside0.mk (blk_below b1.out hb)
            replace HB := Aside0.mk (below_step HB.out hb)
            clear hb c30 d30 d31 d32 d33 e30 e31 e32 e33 g30
            have c40 : w4.cell? ⟨w.heap.size, 0, none⟩ = some (.int .i64 a1) := (blk_cell b0.out 0).trans rfl
            have g40 := blk_frozen b0.out 0
            go_wp2
            go_meet
            case rel => exact ⟨_, ⟨by have h := Hf.out; unfold runPlace at h; rw [if_pos S1.out] at h; exact h⟩, ⟨blk_put b0.out 0 _ rfl⟩, ⟨blk_far b1.out hne.out _⟩, ⟨below_set HB.out (Nat.le_refl _)⟩⟩
          · have s1b : (a2 == 1) = false := beq_eq_false_iff_ne.mpr s1
            have S1 := Aside0.mk s1
            clear s1
            by_cases s2 : a2 = 2
            · have s2b : (a2 == 2) = true := beq_iff_eq.mpr s2
              have S2 := Aside0.mk s2
              clear s2
              go_wp2
              go_meet
              case rel => exact ⟨_, ⟨by have h := Hf.out; unfold runPlace at h; rw [if_neg S1.out, if_pos S2.out] at h; exact h⟩, ⟨blk_put b0.out 0 _ rfl⟩, ⟨blk_far b1.out hne.out _⟩, ⟨below_set HB.out (Nat.le_refl _)⟩⟩
            · have s2b : (a2 == 2) = false := beq_eq_false_iff_ne.mpr s2
              have S2 := Aside0.mk s2
              clear s2
              obtain ⟨m, hm⟩ : ∃ m, Int.tmod (wrap64 ((Int.tmod a1 131072) + 131072)) 131072 = m := ⟨_, rfl⟩
              by_cases s3 : m ≥ 65536
              · have S3 := Aside0.mk s3
                have s3b : decide (65536 ≤ m) = true := decide_eq_true s3
                clear s3
                go_wp2
                go_meet
                case rel => exact ⟨_, ⟨by have h := Hf.out; unfold runPlace at h; rw [if_neg S1.out, if_neg S2.out, hm, if_pos S3.out] at h; exact h⟩, ⟨blk_put (blk_put b0.out 0 _ rfl) 0 _ rfl⟩, ⟨blk_far (blk_far b1.out hne.out _) hne.out _⟩, ⟨below_set (below_set HB.out (Nat.le_refl _)) (Nat.le_refl _)⟩⟩
              · have S3 := Aside0.mk s3
                have s3b : decide (65536 ≤ m) = false := decide_eq_false s3
                clear s3
                go_wp2
                go_meet
                case rel => exact ⟨_, ⟨by have h := Hf.out; unfold runPlace at h; rw [if_neg S1.out, if_neg S2.out, hm, if_neg (Int.not_le.mpr S3.out)] at h; exact h⟩, ⟨blk_put b0.out 0 _ rfl⟩, ⟨blk_far b1.out hne.out _⟩, ⟨below_set HB.out (Nat.le_refl _)⟩⟩
        case rest =>
          clear Hf c30 d30 d31 d32 d33 e30 e31 e32 e33 g30 b0 b1 HB
          obtain ⟨p, HG, b0, b1, HB⟩ := hcut
          have h := HG.out
          clear HG
          unfold impl_RunAt.g at h
          by_cases n0 : 0 < (l0.length : Int)
          · rw [if_pos n0] at h
            have hlen : (l0.length : Int) ≤ 9223372036854775807 := by have := HR.out.2.1; omega
            have hl1 : wrap64 ((l0.length : Int) - 1) = (l0.length : Int) - 1 := by unfold wrap64; omega
            have hlast0 : 0 ≤ wrap64 ((l0.length : Int) - 1) := by rw [hl1]; omega
            have hlast1 : wrap64 ((l0.length : Int) - 1) < (l0.length : Int) := by rw [hl1]; omega
            clear hl1
            have k0 : wc.cell? ⟨w.heap.size, 0, none⟩ = some (.int .i64 p) := (blk_cell b0.out 0).trans rfl
            have d0 : wc.cell? ⟨w.heap.size + 1, 0, none⟩ = some (.int .i64 0) := (blk_cell b1.out 0).trans rfl
            have d1 : wc.cell? ⟨w.heap.size + 1, 1, none⟩ = some (.int .i64 0) := (blk_cell b1.out 1).trans rfl
            have d2 : wc.cell? ⟨w.heap.size + 1, 2, none⟩ = some (.int .i64 0) := (blk_cell b1.out 2).trans rfl
            have d3 : wc.cell? ⟨w.heap.size + 1, 3, none⟩ = some (.int .i64 0) := (blk_cell b1.out 3).trans rfl
            have f0 := blk_frozen b1.out 0
            have f1 := blk_frozen b1.out 1
            have f2 := blk_frozen b1.out 2
            have f3 := blk_frozen b1.out 3
            obtain ⟨ad, eA, x0, x1, x2, x3, x4⟩ := run_at HR.out HB.out 0 (by omega) n0
            rw [show ((0 : Int)).toNat * 5 = 0 from rfl, Addr.add_zero'] at x0 x1 x2 x3 x4
            obtain ⟨ad', eA', y0, y1, y2, y3, y4⟩ := run_at HR.out HB.out (wrap64 ((l0.length : Int) - 1)) hlast0 hlast1
            subst eA
            obtain rfl : ad = ad' := by injection eA'
            clear eA'
            have q0 : (0 < (l0.length : Int)) = True := eq_true n0
            have u0 : (0 < l0.length) = True := eq_true (by omega)
            have q1 : (0 ≤ wrap64 ((l0.length : Int) - 1)) = True := eq_true hlast0
            have q2 : (wrap64 ((l0.length : Int) - 1) < (l0.length : Int)) = True := eq_true hlast1
            have u2 : ((wrap64 ((l0.length : Int) - 1)).toNat < l0.length) = True := eq_true (by omega)
            have N0 := Aside0.mk n0
            clear n0 hlast0 hlast1 hlen
            by_cases p1 : p ≤ (rd_T103 l0 0).f0
            · rw [if_pos p1] at h
              have p1b : decide (p ≤ (rd_T103 l0 0).f0) = true := decide_eq_true p1
              clear p1
              simp only [Option.some.injEq, Prod.mk.injEq] at h
              obtain ⟨rfl, rfl, rfl, rfl, rfl⟩ := h
              go_wp2_with fail
              go_quiet (fail)
              generalize nq = n1 at *
              have HF := Aside0.mk (run_set4 (pw_below_drewN (HB.out) n1) (g := w.heap.size + 1) (by omega) (.int .i64 (rd_T103 l0 0).f1.f0) (.int .i64 (rd_T103 l0 0).f1.f1) (.int .i64 (rd_T103 l0 0).f1.f2) (.int .i64 (rd_T103 l0 0).f1.f3))
              go_wp2_with fail
              exact bodyPost_ret (results_ct rfl _ _ (w.heap.size + 1) 25 #[.int .i64 (rd_T103 l0 0).f1.f0, .int .i64 (rd_T103 l0 0).f1.f1, .int .i64 (rd_T103 l0 0).f1.f2, .int .i64 (rd_T103 l0 0).f1.f3] (0, 0) _ rfl (blk_put (blk_put (blk_put (blk_put (blk_drewN (b1.out) n1) 0 _ rfl) 1 _ rfl) 2 _ rfl) 3 _ rfl) Try.underlying25 rfl (by kernel_rfl)) rfl ⟨rfl, HF.out⟩
            · rw [if_neg p1] at h
              have p1b : decide (p ≤ (rd_T103 l0 0).f0) = false := decide_eq_false p1
              clear p1
              by_cases p2 : (rd_T103 l0 (wrap64 ((l0.length : Int) - 1))).f0 ≤ p
              · rw [if_pos p2] at h
                have p2b : decide ((rd_T103 l0 (wrap64 ((l0.length : Int) - 1))).f0 ≤ p) = true := decide_eq_true p2
                clear p2
                simp only [Option.some.injEq, Prod.mk.injEq] at h
                obtain ⟨rfl, rfl, rfl, rfl, rfl⟩ := h
                go_wp2_with fail
                go_quiet (fail)
                generalize nq = n1 at *
                go_wp2_with fail
                go_quiet (fail)
                generalize nq = n2 at *
                have HF := Aside0.mk (run_set4 (pw_below_drewN HB.out (n1 + n2)) (g := w.heap.size + 1) (by omega) (.int .i64 (rd_T103 l0 (wrap64 ((l0.length : Int) - 1))).f1.f0) (.int .i64 (rd_T103 l0 (wrap64 ((l0.length : Int) - 1))).f1.f1) (.int .i64 (rd_T103 l0 (wrap64 ((l0.length : Int) - 1))).f1.f2) (.int .i64 (rd_T103 l0 (wrap64 ((l0.length : Int) - 1))).f1.f3))
                go_wp2_with fail
                exact bodyPost_ret (results_ct rfl _ _ (w.heap.size + 1) 25 #[.int .i64 (rd_T103 l0 (wrap64 ((l0.length : Int) - 1))).f1.f0, .int .i64 (rd_T103 l0 (wrap64 ((l0.length : Int) - 1))).f1.f1, .int .i64 (rd_T103 l0 (wrap64 ((l0.length : Int) - 1))).f1.f2, .int .i64 (rd_T103 l0 (wrap64 ((l0.length : Int) - 1))).f1.f3] (0, 0) _ rfl (blk_put (blk_put (blk_put (blk_put (blk_drewN b1.out (n1 + n2)) 0 _ rfl) 1 _ rfl) 2 _ rfl) 3 _ rfl) Try.underlying25 rfl (by kernel_rfl)) rfl ⟨rfl, HF.out⟩
              · rw [if_neg p2] at h
                have p2b : decide ((rd_T103 l0 (wrap64 ((l0.length : Int) - 1))).f0 ≤ p) = false := decide_eq_false p2
                clear p2
                have HH := Aside0.mk h
                clear h
                go_wp2_with fail
                go_quiet (fail)
                generalize nq = n1 at *
                go_wp2_with fail
                go_quiet (fail)
                generalize nq = n2 at *
                go_wp2_with fail
                go_loopg [9] k (fun kq v9 w' => ∃ i : Int, v9 = .int .i64 i ∧ Aside0 (impl_RunAt.l0 kq l0 p i = some (r1, r2, r3, r4, r5)) ∧ Aside0 (kq ≤ k) ∧ Aside0 (w'.heap[w.heap.size]? = some (.cells #[.int .i64 p] 3 (0, 0))) ∧ Aside0 (w'.heap[w.heap.size + 1]? = some (.cells #[.int .i64 0, .int .i64 0, .int .i64 0, .int .i64 0] 25 (0, 0))) ∧ Aside0 (Below w.heap.size w w'))
                case atStart => exact ⟨0, rfl, HH, ⟨Nat.le_refl _⟩, ⟨blk_drewN b0.out (n1 + n2)⟩, ⟨blk_drewN b1.out (n1 + n2)⟩, ⟨pw_below_drewN (pw_below_drewN HB.out n1) n2⟩⟩
                case round =>
                  clear HH b0 b1 HB k0 d0 d1 d2 d3 f0 f1 f2 f3 x0 x1 x2 x3 x4 y0 y1 y2 y3 y4 q0 u0 q1 q2 u2 p1b p2b
                  obtain ⟨i, rfl, HA, HK2, b0, b1, HB⟩ := hrel
                  cases gk with
                  | zero => exact absurd HA.out (by simp [impl_RunAt.l0])
                  | succ k2 =>
                    have H := HA.out
                    clear HA
                    simp only [impl_RunAt.l0] at H
                    obtain ⟨j, hj⟩ : ∃ j : Int, wrap64 (i + 1) = j := ⟨_, rfl⟩
                    rw [hj] at H
                    have hjw : (IntKind.i64.wrap (i + 1)) = j := (i64_w _).trans hj
                    by_cases j0 : 0 ≤ j
                    · rw [if_pos j0] at H
                      by_cases j1 : j < (l0.length : Int)
                      · rw [if_pos j1] at H
                        obtain ⟨ad', eA', x0, x1, x2, x3, x4⟩ := run_at HR.out HB.out j j0 j1
                        obtain rfl : ad = ad' := by injection eA'
                        clear eA'
                        have k0 := (blk_cell b0.out 0).trans (rfl : _ = some (Value.int .i64 p))
                        have q1 : (0 ≤ j) = True := eq_true j0
                        have q2 : (j < (l0.length : Int)) = True := eq_true j1
                        have u2 : (j.toNat < l0.length) = True := eq_true (by omega)
                        have J0 := Aside0.mk j0
                        have J1 := Aside0.mk j1
                        clear j0 j1
                        by_cases p3 : (rd_T103 l0 j).f0 ≤ p
                        · rw [if_pos p3] at H
                          have p3b : decide ((rd_T103 l0 j).f0 ≤ p) = true := decide_eq_true p3
                          have HN := Aside0.mk H
                          clear p3 H
                          go_wp2_with fail
                          go_quiet (fail)
                          go_wp2_with fail
                          go_roundg k2
                          case measure => have := HK2.out; omega
                          case rel => exact ⟨j, (by first | rfl | (simp; done) | (simp only [← hj] <;> (first | rfl | simp)) | (simp [*]; done)), HN, ⟨by have := HK2.out; omega⟩, ⟨blk_drewN b0.out nq⟩, ⟨blk_drewN b1.out nq⟩, ⟨pw_below_drewN HB.out nq⟩⟩
                        · rw [if_neg p3] at H
                          have p3b : decide ((rd_T103 l0 j).f0 ≤ p) = false := decide_eq_false p3
                          clear p3
                          have HN := Aside0.mk H
                          clear H
                          go_wp2_with fail
                          go_quiet (fail)
                          generalize nq = n3 at *
                          go_wp2_with fail
                          have H := HN.out
                          clear HN
                          by_cases i0 : 0 ≤ i
                          · rw [if_pos i0] at H
                            by_cases i1 : i < (l0.length : Int)
                            · rw [if_pos i1] at H
                              by_cases dn : wrap64 ((rd_T103 l0 j).f0 - (rd_T103 l0 i).f0) = 0
                              · rw [if_pos dn] at H
                                cases H
                              · rw [if_neg dn] at H
                                have HT := Aside0.mk H
                                have DN := Aside0.mk dn
                                have I0 := Aside0.mk i0
                                have I1 := Aside0.mk i1
                                have r1' : (0 ≤ i) = True := eq_true i0
                                have r2' : (i < (l0.length : Int)) = True := eq_true i1
                                have r3' : (i.toNat < l0.length) = True := eq_true (by omega)
                                clear H dn i0 i1 x0 x1 x2 x3 x4 k0
                                obtain ⟨U, hU⟩ : ∃ U : World, wr.drewN n3 = U := ⟨_, rfl⟩
                                rw [hU]
                                replace b0 : Aside0 (U.heap[w.heap.size]? = some (.cells #[.int .i64 p] 3 (0, 0))) := ⟨hU ▸ blk_drewN b0.out n3⟩
                                replace b1 : Aside0 (U.heap[w.heap.size + 1]? = some (.cells #[.int .i64 0, .int .i64 0, .int .i64 0, .int .i64 0] 25 (0, 0))) := ⟨hU ▸ blk_drewN b1.out n3⟩
                                replace HB : Aside0 (Below w.heap.size w U) := ⟨hU ▸ pw_below_drewN HB.out n3⟩
                                clear hU
                                have HU := Aside0.mk (below_drew1 HB.out)
                                have HU1 : Aside0 (Below w.heap.size w (U.drew.alloc (.cells #[.int .i64 0, .int .i64 0, .int .i64 0, .int .i64 0, .int .i64 0] 103))) := ⟨below_alloc HU.out _⟩
                                have HVu : Aside0 (Below w.heap.size w ((U.drew.alloc (.cells #[.int .i64 0, .int .i64 0, .int .i64 0, .int .i64 0, .int .i64 0] 103)).alloc (.cells #[.int .i64 0, .int .i64 0, .int .i64 0, .int .i64 0, .int .i64 0] 103))) := ⟨below_alloc HU1.out _⟩
                                obtain ⟨V, eV⟩ : ∃ V : World, (U.drew.alloc (.cells #[.int .i64 0, .int .i64 0, .int .i64 0, .int .i64 0, .int .i64 0] 103)).alloc (.cells #[.int .i64 0, .int .i64 0, .int .i64 0, .int .i64 0, .int .i64 0] 103) = V := ⟨_, rfl⟩
                                have HV : Aside0 (Below w.heap.size w V) := ⟨eV ▸ below_alloc HU1.out _⟩
                                have bZ0 : Aside0 (V.heap[U.heap.size]? = some (.cells #[.int .i64 0, .int .i64 0, .int .i64 0, .int .i64 0, .int .i64 0] 103 (0, 0))) := ⟨eV ▸ blk_alloc (blk_new U.drew _) _⟩
                                have sZ : (U.drew.alloc (.cells #[.int .i64 0, .int .i64 0, .int .i64 0, .int .i64 0, .int .i64 0] 103)).heap.size = U.heap.size + 1 := by simp
                                have bZ1 : Aside0 (V.heap[U.heap.size + 1]? = some (.cells #[.int .i64 0, .int .i64 0, .int .i64 0, .int .i64 0, .int .i64 0] 103 (0, 0))) := ⟨eV ▸ sZ ▸ blk_new (U.drew.alloc _) _⟩
                                have lU : w.heap.size + 1 < U.heap.size := blk_lt b1.out
                                have LU := Aside0.mk lU
                                clear lU sZ
                                -- region
                                refine start_ (n := 13) (S := fun w' => w'.cell? (ad.add (i.toNat * 5)) = some (.int .i64 (rd_T103 l0 i).f0) ∧ w'.cell? ⟨(ad.add (i.toNat * 5)).block, (ad.add (i.toNat * 5)).off + 1, none⟩ = some (.int .i64 (rd_T103 l0 i).f1.f0) ∧ w'.cell? ⟨(ad.add (i.toNat * 5)).block, (ad.add (i.toNat * 5)).off + 2, none⟩ = some (.int .i64 (rd_T103 l0 i).f1.f1) ∧ w'.cell? ⟨(ad.add (i.toNat * 5)).block, (ad.add (i.toNat * 5)).off + 3, none⟩ = some (.int .i64 (rd_T103 l0 i).f1.f2) ∧ w'.cell? ⟨(ad.add (i.toNat * 5)).block, (ad.add (i.toNat * 5)).off + 4, none⟩ = some (.int .i64 (rd_T103 l0 i).f1.f3) ∧ w'.cell? (ad.add (j.toNat * 5)) = some (.int .i64 (rd_T103 l0 j).f0) ∧ w'.cell? ⟨(ad.add (j.toNat * 5)).block, (ad.add (j.toNat * 5)).off + 1, none⟩ = some (.int .i64 (rd_T103 l0 j).f1.f0) ∧ w'.cell? ⟨(ad.add (j.toNat * 5)).block, (ad.add (j.toNat * 5)).off + 2, none⟩ = some (.int .i64 (rd_T103 l0 j).f1.f1) ∧ w'.cell? ⟨(ad.add (j.toNat * 5)).block, (ad.add (j.toNat * 5)).off + 3, none⟩ = some (.int .i64 (rd_T103 l0 j).f1.f2) ∧ w'.cell? ⟨(ad.add (j.toNat * 5)).block, (ad.add (j.toNat * 5)).off + 4, none⟩ = some (.int .i64 (rd_T103 l0 j).f1.f3)) (ds := [12]) #[false, false, false, false, false, false, false, false, false, false, false, false, false] (by kernel_rfl) rfl rfl ⟨(run_cells HR.out HU.out i I0.out I1.out).1, (run_cells HR.out HU.out i I0.out I1.out).2.1, (run_cells HR.out HU.out i I0.out I1.out).2.2.1, (run_cells HR.out HU.out i I0.out I1.out).2.2.2.1, (run_cells HR.out HU.out i I0.out I1.out).2.2.2.2, (run_cells HR.out HU.out j J0.out J1.out).1, (run_cells HR.out HU.out j J0.out J1.out).2.1, (run_cells HR.out HU.out j J0.out J1.out).2.2.1, (run_cells HR.out HU.out j J0.out J1.out).2.2.2.1, (run_cells HR.out HU.out j J0.out J1.out).2.2.2.2⟩ (fun hHeld => ?_)
                                refine pure_ (i := 0) (N := some 82) (v := ?_) (a' := ?_) #[true, false, false, false, false, false, false, false, false, false, false, false, false] rfl rfl (by kernel_rfl) (fun _ _ _ h => h) (Or.inl ⟨by rfl, ?_⟩) ?_ ?_
                                rotate_left
                                · intro w'
                                  go_simp
                                  with_reducible rfl
                                rotate_left
                                · simp only [Act.put, List.setIfInBounds_toArray, List.set_cons_zero, List.set_cons_succ, i64_w, i32_w]
                                  rfl
                                refine pure_ (i := 1) (N := some 83) (v := ?_) (a' := ?_) #[true, true, false, false, false, false, false, false, false, false, false, false, false] rfl rfl (by kernel_rfl) (fun _ _ _ h => h) (Or.inl ⟨by rfl, ?_⟩) ?_ ?_
                                rotate_left
                                · intro w'
                                  go_simp
                                  with_reducible rfl
                                rotate_left
                                · simp only [Act.put, List.setIfInBounds_toArray, List.set_cons_zero, List.set_cons_succ, i64_w, i32_w]
                                  rfl
                                refine pure_ (i := 2) (N := some 84) (v := ?_) (a' := ?_) #[true, true, true, false, false, false, false, false, false, false, false, false, false] rfl rfl (by kernel_rfl) (fun _ _ _ h => h) (Or.inl ⟨by rfl, ?_⟩) ?_ ?_
                                rotate_left
                                · intro w'
                                  go_simp
                                  with_reducible rfl
                                rotate_left
                                · simp only [Act.put, List.setIfInBounds_toArray, List.set_cons_zero, List.set_cons_succ, i64_w, i32_w]
                                  rfl
                                refine pure_ (i := 4) (N := some 86) (v := ?_) (a' := ?_) #[true, true, true, false, true, false, false, false, false, false, false, false, false] rfl rfl (by kernel_rfl) (fun _ _ _ h => h) (Or.inl ⟨by rfl, ?_⟩) ?_ ?_
                                rotate_left
                                · intro w'
                                  go_simp
                                  with_reducible rfl
                                rotate_left
                                · simp only [Act.put, List.setIfInBounds_toArray, List.set_cons_zero, List.set_cons_succ, i64_w, i32_w]
                                  rfl
                                refine pure_ (i := 5) (N := some 87) (v := ?_) (a' := ?_) #[true, true, true, false, true, true, false, false, false, false, false, false, false] rfl rfl (by kernel_rfl) (fun _ _ _ h => h) (Or.inl ⟨by rfl, ?_⟩) ?_ ?_
                                rotate_left
                                · intro w'
                                  go_simp
                                  with_reducible rfl
                                rotate_left
                                · simp only [Act.put, List.setIfInBounds_toArray, List.set_cons_zero, List.set_cons_succ, i64_w, i32_w]
                                  rfl
                                refine pure_ (i := 6) (N := some 88) (v := ?_) (a' := ?_) #[true, true, true, false, true, true, true, false, false, false, false, false, false] rfl rfl (by kernel_rfl) (fun _ _ _ h => h) (Or.inl ⟨by rfl, ?_⟩) ?_ ?_
                                rotate_left
                                · intro w'
                                  go_simp
                                  with_reducible rfl
                                rotate_left
                                · simp only [Act.put, List.setIfInBounds_toArray, List.set_cons_zero, List.set_cons_succ, i64_w, i32_w]
                                  rfl
                                refine pure_ (i := 7) (N := some 89) (v := ?_) (a' := ?_) #[true, true, true, false, true, true, true, true, false, false, false, false, false] rfl rfl (by kernel_rfl) (fun _ _ _ h => h) (Or.inl ⟨by rfl, ?_⟩) ?_ ?_
                                rotate_left
                                · intro w'
                                  go_simp
                                  with_reducible rfl
                                rotate_left
                                · simp only [Act.put, List.setIfInBounds_toArray, List.set_cons_zero, List.set_cons_succ, i64_w, i32_w]
                                  rfl
                                refine take_ (i := 3) (N := some 85) (v := ?_) (a' := ?_) #[true, true, true, true, true, true, true, true, false, false, false, false, false] rfl rfl (by kernel_rfl) (fun _ _ _ h => h) (Or.inl ⟨by rfl, ?_⟩) hHeld ?_ ?_
                                rotate_left
                                · rintro w' ⟨s0, s1, s2, s3, s4, s5, s6, s7, s8, s9⟩
                                  go_simp
                                  with_reducible rfl
                                rotate_left
                                · simp only [Act.put, List.setIfInBounds_toArray, List.set_cons_zero, List.set_cons_succ, i64_w, i32_w]
                                  rfl
                                refine take_ (i := 8) (N := some 90) (v := ?_) (a' := ?_) #[true, true, true, true, true, true, true, true, true, false, false, false, false] rfl rfl (by kernel_rfl) (fun _ _ _ h => h) (Or.inl ⟨by rfl, ?_⟩) hHeld ?_ ?_
                                rotate_left
                                · rintro w' ⟨s0, s1, s2, s3, s4, s5, s6, s7, s8, s9⟩
                                  go_simp
                                  with_reducible rfl
                                rotate_left
                                · simp only [Act.put, List.setIfInBounds_toArray, List.set_cons_zero, List.set_cons_succ, i64_w, i32_w]
                                  rfl
                                refine join_ (σ := Nat × Nat) 2 #[true, true, true, true, true, true, true, true, true, true, true, false, false] (fun s => [(10, .pointer (some ⟨s.1, 0, none⟩)), (11, .pointer (some ⟨s.2, 0, none⟩))]) (fun s w' => w' = V ∧ ((s.1 = U.heap.size ∧ s.2 = U.heap.size + 1) ∨ (s.1 = U.heap.size + 1 ∧ s.2 = U.heap.size))) ?_ ?_
                                rotate_left
                                · intro hCont
                                  refine two_ (i := 9) (j := 10) (Ni := some 10) (Nj := some 11) #[true, true, true, true, true, true, true, true, true, true, false, false, false] #[true, true, true, true, true, true, true, true, true, false, true, false, false] rfl rfl rfl rfl (by kernel_rfl) (by decide) (by decide) (fun K hK => ?_) (fun K hK => ?_)
                                  · skip
                                    refine value_ (w1 := ?_) (v := ?_) (by rfl) rfl ?_ ?_
                                    rotate_left 2
                                    · go_simp
                                      constructor
                                      · rfl
                                      · rfl
                                    refine hK.out _ _ ⟨(run_cells HR.out HU1.out i I0.out I1.out).1, (run_cells HR.out HU1.out i I0.out I1.out).2.1, (run_cells HR.out HU1.out i I0.out I1.out).2.2.1, (run_cells HR.out HU1.out i I0.out I1.out).2.2.2.1, (run_cells HR.out HU1.out i I0.out I1.out).2.2.2.2, (run_cells HR.out HU1.out j J0.out J1.out).1, (run_cells HR.out HU1.out j J0.out J1.out).2.1, (run_cells HR.out HU1.out j J0.out J1.out).2.2.1, (run_cells HR.out HU1.out j J0.out J1.out).2.2.2.1, (run_cells HR.out HU1.out j J0.out J1.out).2.2.2.2⟩ (fun hHeld => ?_)
                                    clear hK K
                                    refine norm_ (a' := ?_) ?_ ?_
                                    rotate_left
                                    · show Act.put _ (some 10) _ = _
                                      simp only [Act.put, List.setIfInBounds_toArray, List.set_cons_zero, List.set_cons_succ, i64_w, i32_w]
                                      rfl
                                    refine one_ (i := 10) (N := some 11) #[true, true, true, true, true, true, true, true, true, true, true, false, false] rfl rfl (by kernel_rfl) (by decide) (fun K hK => ?_)
                                    refine value_ (w1 := ?_) (v := ?_) (by rfl) rfl ?_ ?_
                                    rotate_left 2
                                    · go_simp
                                      constructor
                                      · rfl
                                      · rfl
                                    refine hK.out _ _ ⟨(run_cells HR.out HVu.out i I0.out I1.out).1, (run_cells HR.out HVu.out i I0.out I1.out).2.1, (run_cells HR.out HVu.out i I0.out I1.out).2.2.1, (run_cells HR.out HVu.out i I0.out I1.out).2.2.2.1, (run_cells HR.out HVu.out i I0.out I1.out).2.2.2.2, (run_cells HR.out HVu.out j J0.out J1.out).1, (run_cells HR.out HVu.out j J0.out J1.out).2.1, (run_cells HR.out HVu.out j J0.out J1.out).2.2.1, (run_cells HR.out HVu.out j J0.out J1.out).2.2.2.1, (run_cells HR.out HVu.out j J0.out J1.out).2.2.2.2⟩ (fun hHeld => ?_)
                                    clear hK K
                                    refine norm_ (a' := ?_) ?_ ?_
                                    rotate_left
                                    · show Act.put _ (some 11) _ = _
                                      simp only [Act.put, List.setIfInBounds_toArray, List.set_cons_zero, List.set_cons_succ, i64_w, i32_w]
                                      rfl
                                    exact norm_ (by simp only [putAll, Act.put, List.setIfInBounds_toArray, List.set_cons_zero, List.set_cons_succ]) (hCont (U.heap.size, U.heap.size + 1) _ ⟨eV, .inl ⟨rfl, rfl⟩⟩)
                                  · skip
                                    refine value_ (w1 := ?_) (v := ?_) (by rfl) rfl ?_ ?_
                                    rotate_left 2
                                    · go_simp
                                      constructor
                                      · rfl
                                      · rfl
                                    refine hK.out _ _ ⟨(run_cells HR.out HU1.out i I0.out I1.out).1, (run_cells HR.out HU1.out i I0.out I1.out).2.1, (run_cells HR.out HU1.out i I0.out I1.out).2.2.1, (run_cells HR.out HU1.out i I0.out I1.out).2.2.2.1, (run_cells HR.out HU1.out i I0.out I1.out).2.2.2.2, (run_cells HR.out HU1.out j J0.out J1.out).1, (run_cells HR.out HU1.out j J0.out J1.out).2.1, (run_cells HR.out HU1.out j J0.out J1.out).2.2.1, (run_cells HR.out HU1.out j J0.out J1.out).2.2.2.1, (run_cells HR.out HU1.out j J0.out J1.out).2.2.2.2⟩ (fun hHeld => ?_)
                                    clear hK K
                                    refine norm_ (a' := ?_) ?_ ?_
                                    rotate_left
                                    · show Act.put _ (some 11) _ = _
                                      simp only [Act.put, List.setIfInBounds_toArray, List.set_cons_zero, List.set_cons_succ, i64_w, i32_w]
                                      rfl
                                    refine one_ (i := 9) (N := some 10) #[true, true, true, true, true, true, true, true, true, true, true, false, false] rfl rfl (by kernel_rfl) (by decide) (fun K hK => ?_)
                                    refine value_ (w1 := ?_) (v := ?_) (by rfl) rfl ?_ ?_
                                    rotate_left 2
                                    · go_simp
                                      constructor
                                      · rfl
                                      · rfl
                                    refine hK.out _ _ ⟨(run_cells HR.out HVu.out i I0.out I1.out).1, (run_cells HR.out HVu.out i I0.out I1.out).2.1, (run_cells HR.out HVu.out i I0.out I1.out).2.2.1, (run_cells HR.out HVu.out i I0.out I1.out).2.2.2.1, (run_cells HR.out HVu.out i I0.out I1.out).2.2.2.2, (run_cells HR.out HVu.out j J0.out J1.out).1, (run_cells HR.out HVu.out j J0.out J1.out).2.1, (run_cells HR.out HVu.out j J0.out J1.out).2.2.1, (run_cells HR.out HVu.out j J0.out J1.out).2.2.2.1, (run_cells HR.out HVu.out j J0.out J1.out).2.2.2.2⟩ (fun hHeld => ?_)
                                    clear hK K
                                    refine norm_ (a' := ?_) ?_ ?_
                                    rotate_left
                                    · show Act.put _ (some 10) _ = _
                                      simp only [Act.put, List.setIfInBounds_toArray, List.set_cons_zero, List.set_cons_succ, i64_w, i32_w]
                                      rfl
                                    exact norm_ (by simp only [putAll, Act.put, List.setIfInBounds_toArray, List.set_cons_zero, List.set_cons_succ]) (hCont (U.heap.size + 1, U.heap.size) _ ⟨eV, .inr ⟨rfl, rfl⟩⟩)
                                rintro ⟨s1, s2⟩ w' ⟨hw', hs⟩
                                rw [hw']
                                clear hw' w'
                                have bA : Aside0 (V.heap[s1]? = some (.cells #[.int .i64 0, .int .i64 0, .int .i64 0, .int .i64 0, .int .i64 0] 103 (0, 0))) := ⟨by rcases hs with ⟨h1, h2⟩ | ⟨h1, h2⟩ <;> (have h1 : s1 = _ := h1; rw [h1]; first | exact bZ0.out | exact bZ1.out)⟩
                                have bB : Aside0 (V.heap[s2]? = some (.cells #[.int .i64 0, .int .i64 0, .int .i64 0, .int .i64 0, .int .i64 0] 103 (0, 0))) := ⟨by rcases hs with ⟨h1, h2⟩ | ⟨h1, h2⟩ <;> (have h2 : s2 = _ := h2; rw [h2]; first | exact bZ0.out | exact bZ1.out)⟩
                                have lA : Aside0 (w.heap.size + 1 < s1) := ⟨by have := LU.out; rcases hs with ⟨h1, h2⟩ | ⟨h1, h2⟩ <;> (have h1 : s1 = _ := h1; omega)⟩
                                have lB : Aside0 (w.heap.size + 1 < s2) := ⟨by have := LU.out; rcases hs with ⟨h1, h2⟩ | ⟨h1, h2⟩ <;> (have h2 : s2 = _ := h2; omega)⟩
                                have nAB : Aside0 (s1 ≠ s2) := ⟨by rcases hs with ⟨h1, h2⟩ | ⟨h1, h2⟩ <;> (have h1 : s1 = _ := h1; have h2 : s2 = _ := h2; omega)⟩
                                clear hs
                                have hHeld : V.cell? (ad.add (i.toNat * 5)) = some (.int .i64 (rd_T103 l0 i).f0) ∧ V.cell? ⟨(ad.add (i.toNat * 5)).block, (ad.add (i.toNat * 5)).off + 1, none⟩ = some (.int .i64 (rd_T103 l0 i).f1.f0) ∧ V.cell? ⟨(ad.add (i.toNat * 5)).block, (ad.add (i.toNat * 5)).off + 2, none⟩ = some (.int .i64 (rd_T103 l0 i).f1.f1) ∧ V.cell? ⟨(ad.add (i.toNat * 5)).block, (ad.add (i.toNat * 5)).off + 3, none⟩ = some (.int .i64 (rd_T103 l0 i).f1.f2) ∧ V.cell? ⟨(ad.add (i.toNat * 5)).block, (ad.add (i.toNat * 5)).off + 4, none⟩ = some (.int .i64 (rd_T103 l0 i).f1.f3) ∧ V.cell? (ad.add (j.toNat * 5)) = some (.int .i64 (rd_T103 l0 j).f0) ∧ V.cell? ⟨(ad.add (j.toNat * 5)).block, (ad.add (j.toNat * 5)).off + 1, none⟩ = some (.int .i64 (rd_T103 l0 j).f1.f0) ∧ V.cell? ⟨(ad.add (j.toNat * 5)).block, (ad.add (j.toNat * 5)).off + 2, none⟩ = some (.int .i64 (rd_T103 l0 j).f1.f1) ∧ V.cell? ⟨(ad.add (j.toNat * 5)).block, (ad.add (j.toNat * 5)).off + 3, none⟩ = some (.int .i64 (rd_T103 l0 j).f1.f2) ∧ V.cell? ⟨(ad.add (j.toNat * 5)).block, (ad.add (j.toNat * 5)).off + 4, none⟩ = some (.int .i64 (rd_T103 l0 j).f1.f3) := ⟨(run_cells HR.out HV.out i I0.out I1.out).1, (run_cells HR.out HV.out i I0.out I1.out).2.1, (run_cells HR.out HV.out i I0.out I1.out).2.2.1, (run_cells HR.out HV.out i I0.out I1.out).2.2.2.1, (run_cells HR.out HV.out i I0.out I1.out).2.2.2.2, (run_cells HR.out HV.out j J0.out J1.out).1, (run_cells HR.out HV.out j J0.out J1.out).2.1, (run_cells HR.out HV.out j J0.out J1.out).2.2.1, (run_cells HR.out HV.out j J0.out J1.out).2.2.2.1, (run_cells HR.out HV.out j J0.out J1.out).2.2.2.2⟩
                                refine norm_ (a' := ?_) ?_ ?_
                                rotate_left
                                · simp only [putAll, Act.put, List.setIfInBounds_toArray, List.set_cons_zero, List.set_cons_succ]
                                  rfl
                                refine one_ (i := 11) (N := none) #[true, true, true, true, true, true, true, true, true, true, true, true, false] rfl rfl (by kernel_rfl) (by decide) (fun K hK => ?_)
                                have gA : w.heap.size ≤ s1 := by have := lA.out; omega
                                have ca0 : V.cell? ⟨s1, 0, none⟩ = some (.int .i64 0) := (blk_cell bA.out 0).trans rfl
                                have ca1 : V.cell? ⟨s1, 1, none⟩ = some (.int .i64 0) := (blk_cell bA.out 1).trans rfl
                                have ca2 : V.cell? ⟨s1, 2, none⟩ = some (.int .i64 0) := (blk_cell bA.out 2).trans rfl
                                have ca3 : V.cell? ⟨s1, 3, none⟩ = some (.int .i64 0) := (blk_cell bA.out 3).trans rfl
                                have ca4 : V.cell? ⟨s1, 4, none⟩ = some (.int .i64 0) := (blk_cell bA.out 4).trans rfl
                                have caf0 := blk_frozen bA.out 0
                                have caf1 := blk_frozen bA.out 1
                                have caf2 := blk_frozen bA.out 2
                                have caf3 := blk_frozen bA.out 3
                                have caf4 := blk_frozen bA.out 4
                                have HX : Aside0 (Below w.heap.size w (((((V.setCell ⟨s1, 0, none⟩ (.int .i64 ((rd_T103 l0 i).f0))).setCell ⟨s1, 1, none⟩ (.int .i64 ((rd_T103 l0 i).f1.f0))).setCell ⟨s1, 2, none⟩ (.int .i64 ((rd_T103 l0 i).f1.f1))).setCell ⟨s1, 3, none⟩ (.int .i64 ((rd_T103 l0 i).f1.f2))).setCell ⟨s1, 4, none⟩ (.int .i64 ((rd_T103 l0 i).f1.f3)))) := ⟨(below_set (below_set (below_set (below_set (below_set HV.out gA) gA) gA) gA) gA)⟩
                                clear gA
                                refine skip_ (w1 := ?_) (by rfl) rfl ?_ ?_
                                rotate_left
                                · go_simp
                                  rfl
                                refine hK.out _ _ ⟨(run_cells HR.out HX.out i I0.out I1.out).1, (run_cells HR.out HX.out i I0.out I1.out).2.1, (run_cells HR.out HX.out i I0.out I1.out).2.2.1, (run_cells HR.out HX.out i I0.out I1.out).2.2.2.1, (run_cells HR.out HX.out i I0.out I1.out).2.2.2.2, (run_cells HR.out HX.out j J0.out J1.out).1, (run_cells HR.out HX.out j J0.out J1.out).2.1, (run_cells HR.out HX.out j J0.out J1.out).2.2.1, (run_cells HR.out HX.out j J0.out J1.out).2.2.2.1, (run_cells HR.out HX.out j J0.out J1.out).2.2.2.2⟩ (fun hHeld => ?_)
                                clear hK K
                                refine last_ (i := 12) (N := none) #[true, true, true, true, true, true, true, true, true, true, true, true, true] rfl rfl (by kernel_rfl) (by decide) (fun K hK => ?_)
                                have bB1 : Aside0 ((((((V.setCell ⟨s1, 0, none⟩ (.int .i64 ((rd_T103 l0 i).f0))).setCell ⟨s1, 1, none⟩ (.int .i64 ((rd_T103 l0 i).f1.f0))).setCell ⟨s1, 2, none⟩ (.int .i64 ((rd_T103 l0 i).f1.f1))).setCell ⟨s1, 3, none⟩ (.int .i64 ((rd_T103 l0 i).f1.f2))).setCell ⟨s1, 4, none⟩ (.int .i64 ((rd_T103 l0 i).f1.f3))).heap[s2]? = some (.cells #[.int .i64 0, .int .i64 0, .int .i64 0, .int .i64 0, .int .i64 0] 103 (0, 0))) := ⟨(blk_far (blk_far (blk_far (blk_far (blk_far bB.out (Ne.symm nAB.out) _) (Ne.symm nAB.out) _) (Ne.symm nAB.out) _) (Ne.symm nAB.out) _) (Ne.symm nAB.out) _)⟩
                                have cb0 : (((((V.setCell ⟨s1, 0, none⟩ (.int .i64 ((rd_T103 l0 i).f0))).setCell ⟨s1, 1, none⟩ (.int .i64 ((rd_T103 l0 i).f1.f0))).setCell ⟨s1, 2, none⟩ (.int .i64 ((rd_T103 l0 i).f1.f1))).setCell ⟨s1, 3, none⟩ (.int .i64 ((rd_T103 l0 i).f1.f2))).setCell ⟨s1, 4, none⟩ (.int .i64 ((rd_T103 l0 i).f1.f3))).cell? ⟨s2, 0, none⟩ = some (.int .i64 0) := (blk_cell bB1.out 0).trans rfl
                                have cb1 : (((((V.setCell ⟨s1, 0, none⟩ (.int .i64 ((rd_T103 l0 i).f0))).setCell ⟨s1, 1, none⟩ (.int .i64 ((rd_T103 l0 i).f1.f0))).setCell ⟨s1, 2, none⟩ (.int .i64 ((rd_T103 l0 i).f1.f1))).setCell ⟨s1, 3, none⟩ (.int .i64 ((rd_T103 l0 i).f1.f2))).setCell ⟨s1, 4, none⟩ (.int .i64 ((rd_T103 l0 i).f1.f3))).cell? ⟨s2, 1, none⟩ = some (.int .i64 0) := (blk_cell bB1.out 1).trans rfl
                                have cb2 : (((((V.setCell ⟨s1, 0, none⟩ (.int .i64 ((rd_T103 l0 i).f0))).setCell ⟨s1, 1, none⟩ (.int .i64 ((rd_T103 l0 i).f1.f0))).setCell ⟨s1, 2, none⟩ (.int .i64 ((rd_T103 l0 i).f1.f1))).setCell ⟨s1, 3, none⟩ (.int .i64 ((rd_T103 l0 i).f1.f2))).setCell ⟨s1, 4, none⟩ (.int .i64 ((rd_T103 l0 i).f1.f3))).cell? ⟨s2, 2, none⟩ = some (.int .i64 0) := (blk_cell bB1.out 2).trans rfl
                                have cb3 : (((((V.setCell ⟨s1, 0, none⟩ (.int .i64 ((rd_T103 l0 i).f0))).setCell ⟨s1, 1, none⟩ (.int .i64 ((rd_T103 l0 i).f1.f0))).setCell ⟨s1, 2, none⟩ (.int .i64 ((rd_T103 l0 i).f1.f1))).setCell ⟨s1, 3, none⟩ (.int .i64 ((rd_T103 l0 i).f1.f2))).setCell ⟨s1, 4, none⟩ (.int .i64 ((rd_T103 l0 i).f1.f3))).cell? ⟨s2, 3, none⟩ = some (.int .i64 0) := (blk_cell bB1.out 3).trans rfl
                                have cb4 : (((((V.setCell ⟨s1, 0, none⟩ (.int .i64 ((rd_T103 l0 i).f0))).setCell ⟨s1, 1, none⟩ (.int .i64 ((rd_T103 l0 i).f1.f0))).setCell ⟨s1, 2, none⟩ (.int .i64 ((rd_T103 l0 i).f1.f1))).setCell ⟨s1, 3, none⟩ (.int .i64 ((rd_T103 l0 i).f1.f2))).setCell ⟨s1, 4, none⟩ (.int .i64 ((rd_T103 l0 i).f1.f3))).cell? ⟨s2, 4, none⟩ = some (.int .i64 0) := (blk_cell bB1.out 4).trans rfl
                                have cbf0 := blk_frozen bB1.out 0
                                have cbf1 := blk_frozen bB1.out 1
                                have cbf2 := blk_frozen bB1.out 2
                                have cbf3 := blk_frozen bB1.out 3
                                have cbf4 := blk_frozen bB1.out 4
                                refine skip_ (w1 := ?_) (by rfl) rfl ?_ ?_
                                rotate_left
                                · go_simp
                                  rfl
                                refine hK.out _ _ ?_
                                clear hK K
                                refine done_ (by kernel_rfl) ?_
                                -- end of region
                                have hne0 : w.heap.size ≠ s1 := by have := lA.out; omega
                                have hne1 : w.heap.size + 1 ≠ s1 := by have := lA.out; omega
                                have hme0 : w.heap.size ≠ s2 := by have := lB.out; omega
                                have hme1 : w.heap.size + 1 ≠ s2 := by have := lB.out; omega
                                have gA : w.heap.size ≤ s1 := by have := lA.out; omega
                                have gB : w.heap.size ≤ s2 := by have := lB.out; omega
                                have v0 : V.heap[w.heap.size]? = some (.cells #[.int .i64 p] 3 (0, 0)) := (eV ▸ blk_alloc (blk_alloc (blk_drew b0.out) _) _)
                                have v1 : V.heap[w.heap.size + 1]? = some (.cells #[.int .i64 0, .int .i64 0, .int .i64 0, .int .i64 0] 25 (0, 0)) := (eV ▸ blk_alloc (blk_alloc (blk_drew b1.out) _) _)
                                obtain ⟨X, hX⟩ : ∃ X : World, ((((((((((V.setCell ⟨s1, 0, none⟩ (.int .i64 ((rd_T103 l0 i).f0))).setCell ⟨s1, 1, none⟩ (.int .i64 ((rd_T103 l0 i).f1.f0))).setCell ⟨s1, 2, none⟩ (.int .i64 ((rd_T103 l0 i).f1.f1))).setCell ⟨s1, 3, none⟩ (.int .i64 ((rd_T103 l0 i).f1.f2))).setCell ⟨s1, 4, none⟩ (.int .i64 ((rd_T103 l0 i).f1.f3))).setCell ⟨s2, 0, none⟩ (.int .i64 ((rd_T103 l0 j).f0))).setCell ⟨s2, 1, none⟩ (.int .i64 ((rd_T103 l0 j).f1.f0))).setCell ⟨s2, 2, none⟩ (.int .i64 ((rd_T103 l0 j).f1.f1))).setCell ⟨s2, 3, none⟩ (.int .i64 ((rd_T103 l0 j).f1.f2))).setCell ⟨s2, 4, none⟩ (.int .i64 ((rd_T103 l0 j).f1.f3))) = X := ⟨_, rfl⟩
                                rw [hX]
                                have xA : Aside0 (X.heap[s1]? = some (.cells #[.int .i64 ((rd_T103 l0 i).f0), .int .i64 ((rd_T103 l0 i).f1.f0), .int .i64 ((rd_T103 l0 i).f1.f1), .int .i64 ((rd_T103 l0 i).f1.f2), .int .i64 ((rd_T103 l0 i).f1.f3)] 103 (0, 0))) := ⟨hX ▸ (blk_far (blk_far (blk_far (blk_far (blk_far (blk_put (blk_put (blk_put (blk_put (blk_put bA.out 0 _ rfl) 1 _ rfl) 2 _ rfl) 3 _ rfl) 4 _ rfl) nAB.out _) nAB.out _) nAB.out _) nAB.out _) nAB.out _)⟩
                                have xB : Aside0 (X.heap[s2]? = some (.cells #[.int .i64 ((rd_T103 l0 j).f0), .int .i64 ((rd_T103 l0 j).f1.f0), .int .i64 ((rd_T103 l0 j).f1.f1), .int .i64 ((rd_T103 l0 j).f1.f2), .int .i64 ((rd_T103 l0 j).f1.f3)] 103 (0, 0))) := ⟨hX ▸ (blk_put (blk_put (blk_put (blk_put (blk_put (blk_far (blk_far (blk_far (blk_far (blk_far bB.out (Ne.symm nAB.out) _) (Ne.symm nAB.out) _) (Ne.symm nAB.out) _) (Ne.symm nAB.out) _) (Ne.symm nAB.out) _) 0 _ rfl) 1 _ rfl) 2 _ rfl) 3 _ rfl) 4 _ rfl)⟩
                                replace b0 : Aside0 (X.heap[w.heap.size]? = some (.cells #[.int .i64 p] 3 (0, 0))) := ⟨hX ▸ (blk_far (blk_far (blk_far (blk_far (blk_far (blk_far (blk_far (blk_far (blk_far (blk_far v0 hne0 _) hne0 _) hne0 _) hne0 _) hne0 _) hme0 _) hme0 _) hme0 _) hme0 _) hme0 _)⟩
                                replace b1 : Aside0 (X.heap[w.heap.size + 1]? = some (.cells #[.int .i64 0, .int .i64 0, .int .i64 0, .int .i64 0] 25 (0, 0))) := ⟨hX ▸ (blk_far (blk_far (blk_far (blk_far (blk_far (blk_far (blk_far (blk_far (blk_far (blk_far v1 hne1 _) hne1 _) hne1 _) hne1 _) hne1 _) hme1 _) hme1 _) hme1 _) hme1 _) hme1 _)⟩
                                replace HB : Aside0 (Below w.heap.size w X) := ⟨hX ▸ (below_set (below_set (below_set (below_set (below_set (below_set (below_set (below_set (below_set (below_set HV.out gA) gA) gA) gA) gA) gB) gB) gB) gB) gB)⟩
                                clear hX hne0 hne1 hme0 hme1 gA gB v0 v1
                                have ca0 : X.cell? ⟨s1, 0, none⟩ = some (.int .i64 ((rd_T103 l0 i).f0)) := (blk_cell xA.out 0).trans rfl
                                have ca1 : X.cell? ⟨s1, 1, none⟩ = some (.int .i64 ((rd_T103 l0 i).f1.f0)) := (blk_cell xA.out 1).trans rfl
                                have ca2 : X.cell? ⟨s1, 2, none⟩ = some (.int .i64 ((rd_T103 l0 i).f1.f1)) := (blk_cell xA.out 2).trans rfl
                                have ca3 : X.cell? ⟨s1, 3, none⟩ = some (.int .i64 ((rd_T103 l0 i).f1.f2)) := (blk_cell xA.out 3).trans rfl
                                have ca4 : X.cell? ⟨s1, 4, none⟩ = some (.int .i64 ((rd_T103 l0 i).f1.f3)) := (blk_cell xA.out 4).trans rfl
                                have cb0 : X.cell? ⟨s2, 0, none⟩ = some (.int .i64 ((rd_T103 l0 j).f0)) := (blk_cell xB.out 0).trans rfl
                                have cb1 : X.cell? ⟨s2, 1, none⟩ = some (.int .i64 ((rd_T103 l0 j).f1.f0)) := (blk_cell xB.out 1).trans rfl
                                have cb2 : X.cell? ⟨s2, 2, none⟩ = some (.int .i64 ((rd_T103 l0 j).f1.f1)) := (blk_cell xB.out 2).trans rfl
                                have cb3 : X.cell? ⟨s2, 3, none⟩ = some (.int .i64 ((rd_T103 l0 j).f1.f2)) := (blk_cell xB.out 3).trans rfl
                                have cb4 : X.cell? ⟨s2, 4, none⟩ = some (.int .i64 ((rd_T103 l0 j).f1.f3)) := (blk_cell xB.out 4).trans rfl
                                go_wp2_with fail
                                have hXA : Aside0 (X.cell? ⟨s1, 0, none⟩ = some (.int .i64 (rd_T103 l0 i).f0)) := ⟨ca0⟩
                                have hXB : Aside0 (X.cell? ⟨s2, 0, none⟩ = some (.int .i64 (rd_T103 l0 j).f0)) := ⟨cb0⟩
                                have hXT : Aside0 (X.cell? ⟨w.heap.size, 0, none⟩ = some (.int .i64 p)) := ⟨(blk_cell b0.out 0).trans rfl⟩
                                clear ca0 ca1 ca2 ca3 ca4 cb0 cb1 cb2 cb3 cb4
                                have hcl : ∀ (x y : Int) (W' : World), Below X.heap.size X W' → Calls Try.prog 66 #[.int .i64 x, .int .i64 y, .pointer (some ⟨s2, 0, none⟩), .pointer (some ⟨w.heap.size, 0, none⟩), .pointer (some ⟨s1, 0, none⟩)] W' fun e w' => e = .returned (.int .i64 (runMix x y (rd_T103 l0 j).f0 (rd_T103 l0 i).f0 p)) ∧ w' = W' :=
                                  fun x y W' hb => run_close x y _ _ _ _ _ _ W' ((hb.cell (World.block_lt_of_cell? X _ hXB.out)).trans hXB.out) ((hb.cell (World.block_lt_of_cell? X _ hXT.out)).trans hXT.out) ((hb.cell (World.block_lt_of_cell? X _ hXA.out)).trans hXA.out) DN.out
                                refine (run_each _ _ _ (rd_T103 l0 i).f1.f0 (rd_T103 l0 i).f1.f1 (rd_T103 l0 i).f1.f2 (rd_T103 l0 i).f1.f3 (rd_T103 l0 j).f1.f0 (rd_T103 l0 j).f1.f1 (rd_T103 l0 j).f1.f2 (rd_T103 l0 j).f1.f3 _ _ _ _ X (hcl _ _) (hcl _ _) (hcl _ _) (hcl _ _)).mono ?_
                                rintro e w9 ⟨rfl, hb⟩
                                clear hcl
                                replace b1 := Aside0.mk (blk_below b1.out hb)
                                replace HB := Aside0.mk (below_step HB.out hb)
                                clear hb
                                have ht := HT.out
                                clear HT
                                simp only [runTint, hj, Option.some.injEq, Prod.mk.injEq] at ht
                                obtain ⟨rfl, rfl, rfl, rfl, rfl⟩ := ht
                                have d0 : w9.cell? ⟨w.heap.size + 1, 0, none⟩ = some (.int .i64 0) := (blk_cell b1.out 0).trans rfl
                                have d1 : w9.cell? ⟨w.heap.size + 1, 1, none⟩ = some (.int .i64 0) := (blk_cell b1.out 1).trans rfl
                                have d2 : w9.cell? ⟨w.heap.size + 1, 2, none⟩ = some (.int .i64 0) := (blk_cell b1.out 2).trans rfl
                                have d3 : w9.cell? ⟨w.heap.size + 1, 3, none⟩ = some (.int .i64 0) := (blk_cell b1.out 3).trans rfl
                                have f0 := blk_frozen b1.out 0
                                have f1 := blk_frozen b1.out 1
                                have f2 := blk_frozen b1.out 2
                                have f3 := blk_frozen b1.out 3
                                have HF := Aside0.mk (run_set4 HB.out (g := w.heap.size + 1) (by omega) (.int .i64 (runMix (rd_T103 l0 i).f1.f0 (rd_T103 l0 j).f1.f0 (rd_T103 l0 j).f0 (rd_T103 l0 i).f0 p)) (.int .i64 (runMix (rd_T103 l0 i).f1.f1 (rd_T103 l0 j).f1.f1 (rd_T103 l0 j).f0 (rd_T103 l0 i).f0 p)) (.int .i64 (runMix (rd_T103 l0 i).f1.f2 (rd_T103 l0 j).f1.f2 (rd_T103 l0 j).f0 (rd_T103 l0 i).f0 p)) (.int .i64 (runMix (rd_T103 l0 i).f1.f3 (rd_T103 l0 j).f1.f3 (rd_T103 l0 j).f0 (rd_T103 l0 i).f0 p)))
                                go_wp2_with fail
                                exact bodyPost_ret (results_ct rfl _ _ (w.heap.size + 1) 25 #[.int .i64 (runMix (rd_T103 l0 i).f1.f0 (rd_T103 l0 j).f1.f0 (rd_T103 l0 j).f0 (rd_T103 l0 i).f0 p), .int .i64 (runMix (rd_T103 l0 i).f1.f1 (rd_T103 l0 j).f1.f1 (rd_T103 l0 j).f0 (rd_T103 l0 i).f0 p), .int .i64 (runMix (rd_T103 l0 i).f1.f2 (rd_T103 l0 j).f1.f2 (rd_T103 l0 j).f0 (rd_T103 l0 i).f0 p), .int .i64 (runMix (rd_T103 l0 i).f1.f3 (rd_T103 l0 j).f1.f3 (rd_T103 l0 j).f0 (rd_T103 l0 i).f0 p)] (0, 0) _ rfl (blk_put (blk_put (blk_put (blk_put (b1.out) 0 _ rfl) 1 _ rfl) 2 _ rfl) 3 _ rfl) Try.underlying25 rfl (by kernel_rfl)) rfl ⟨rfl, HF.out⟩
                            · rw [if_neg i1] at H
                              cases H
                          · rw [if_neg i0] at H
                            cases H
                      · rw [if_neg j1] at H
                        cases H
                    · rw [if_neg j0] at H
                      cases H
          · rw [if_neg n0] at h
            cases h
end Go.Proofs.Ytiadieifofaobaa.HFnTints
