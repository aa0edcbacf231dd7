-- Printed by a program of this session over the kit's print; functions that the print does not take stand here by hand.
import Derived.Test.YtdbgnoolokfafaaHFnExactCurveAtx0
import Derived.Test.YtdbgnoolokfafaaHFnExactCurveAtx4
import Derived.Test.YtdbgnoolokfafaaHFnExactCurveAtx5
namespace Go.Proofs.Ytdbgnoolokfafaa.HFnExactCurveAt
open Go.RowKit Go.Proofs.YtdbgnoolokfafaaW.PrintWords Go.Proofs.YtdbgnoolokfafaaW.PrintLast Go.Proofs.YtdbgnoolokfafaaW.PrintMore
attribute [local go_sem] max2_int min2_int max_two min_two max_three min_three max_four min_four   -- for this text's walks alone
set_option linter.unusedVariables false
set_option linter.unusedSimpArgs false

/-! ### impl_CurveAt: function 18 -/
theorem goesC_ {P : Program} {ops : Array Oper} {Q : Exit → Act → World → Prop} {oi : Oper} {N : Option Tmp} {a : Act} {w : World} {K : Act → World → Prop} {f : FuncId} {fn : Func} {av : Array Operand} {ts : Array TypeId} {t : Tmp} (hf : P.funcs[f]? = some fn) (hname : (fn.name == "runtime.NumGoroutine") = false) (hb : fn.body.isSome = true) (args caps : Array Value)
    (hw : Region.wanted oi (yielded ops a.tmps) = true) (hN : oi.dst = N) (hop : oi.op = .call { callee := .value (.tmp t), args := av, argTypes := ts }) (hev : a.eval (.tmp t) = .func (.func f) #[] caps) (hargs : av.map a.eval = args)
    (h : Calls P f (args ++ caps) w fun e w' => ∃ v, e = .returned v ∧ K (a.put N v) w') : if Region.wanted oi (yielded ops a.tmps) = true then Oper.wp P oi a w K Q else K (a.put N undef) w := by
  refine call_ f (args ++ caps) hw hN ?_ h
  have he := enters_ hf hname hb (args ++ caps) w
  unfold execOp
  simp [hop, resolve, Deferred.ofValue, invoke, hev, hargs, he]
def curveDn (s : Int) : Int := if (Int.tmod s 512) < 0 then (wrap64 ((wrap64 (Int.tdiv s 512)) - 1)) else (wrap64 (Int.tdiv s 512))
def curveSum (a b c d j k : Int) : Int := wrap64 ((wrap64 ((wrap64 ((wrap64 ((wrap64 ((wrap64 ((wrap64 (a * j)) * j)) * j)) + (wrap64 ((wrap64 ((wrap64 ((wrap64 (3 * b)) * j)) * j)) * k)))) + (wrap64 ((wrap64 ((wrap64 ((wrap64 (3 * c)) * j)) * k)) * k)))) + (wrap64 ((wrap64 ((wrap64 (d * k)) * k)) * k)))) + 256)
set_option maxHeartbeats 8000000 in
set_option maxRecDepth 100000 in
theorem curve_down (s : Int) (w : World) : Calls Try.prog 93 #[.int .i64 s, .int .i64 512] w fun e w' => e = .returned (.int .i64 (curveDn s)) ∧ w' = w := by
  unfold curveDn
  by_cases c4 : (Int.tmod s 512) < 0
  · rw [if_pos c4]
    have c4b0 : decide ((Int.tmod s 512) < 0) = true := decide_eq_true c4
    clear c4
    go_enter Try.func93, Try.ntmps93
    go_wp2
    go_ret
    exact ⟨rfl, rfl⟩
  · rw [if_neg c4]
    have c4b0 : decide ((Int.tmod s 512) < 0) = false := decide_eq_false c4
    clear c4
    go_enter Try.func93, Try.ntmps93
    go_wp2
    go_ret
    exact ⟨rfl, rfl⟩
set_option maxHeartbeats 8000000 in
set_option maxRecDepth 100000 in
theorem curve_close (a b c d j k : Int) (B C : Nat) (w : World) (hj : w.cell? ⟨B, 0, none⟩ = some (.int .i64 j)) (hk : w.cell? ⟨C, 0, none⟩ = some (.int .i64 k)) :
    Calls Try.prog 92 #[.int .i64 a, .int .i64 b, .int .i64 c, .int .i64 d, .pointer (some ⟨B, 0, none⟩), .pointer (some ⟨C, 0, none⟩)] w fun e w' => e = .returned (.int .i64 (curveDn (curveSum a b c d j k))) ∧ w' = w := by
  go_enter Try.func92, Try.ntmps92
  go_wp2_with fail
  refine (curve_down (curveSum a b c d j k) _).mono ?_
  rintro e w' ⟨rfl, rfl⟩
  go_wp2
  go_ret
  exact ⟨rfl, rfl⟩
theorem curve_lit {W : World} {g : Nat} {t : TypeId} (x y : Int) (h : W.heap[g]? = some (.cells #[.int .i64 x, .int .i64 y] t (0, 0))) : Kd.C (Kd.int .i64) W (some ⟨g, 0, none⟩) 2 [x, y] := by
  refine Kd.C_of_reads (enc := fun x => .int .i64 x) (d := 0) ⟨rfl, by decide, fun _ => ⟨_, rfl, fun j hj => ?_⟩⟩
  match j, hj with
  | 0, _ => exact (blk_cell h 0).trans rfl
  | 1, _ => exact (blk_cell h 1).trans rfl
theorem curve_blocks {w W : World} {o1 o2 : Obj} (h : (w.alloc o1).alloc o2 = W) : W.heap[w.heap.size]? = some o1 ∧ W.heap[w.heap.size + 1]? = some o2 ∧ Below w.heap.size w W := by
  subst h
  have e1 := (MapKept.heap_alloc w o1).1
  have s1 : (w.alloc o1).heap.size = w.heap.size + 1 := by simp
  have e2 := (MapKept.heap_alloc (w.alloc o1) o2).1
  rw [s1] at e2
  refine ⟨?_, e2, ((Below.refl _ _).alloc (Nat.le_refl _) _).alloc (by simp) _⟩
  rw [(MapKept.heap_alloc _ o2).2 _ (by simp)]; exact e1
theorem curve_at {w W : World} {A : Option Addr} {n : Nat} {xs : List S25} (h : Kd.C k25 w A n xs) (hb : Below w.heap.size w W) (hn : n = 4) : ∃ ad : Addr, A = some ad ∧
    W.cell? ad = some (.int .i64 (rd_T25 xs 0).f0) ∧ W.cell? ⟨ad.block, ad.off + 1, none⟩ = some (.int .i64 (rd_T25 xs 0).f1) ∧ W.cell? ⟨ad.block, ad.off + 2, none⟩ = some (.int .i64 (rd_T25 xs 1).f0) ∧ W.cell? ⟨ad.block, ad.off + 2 + 1, none⟩ = some (.int .i64 (rd_T25 xs 1).f1) ∧ W.cell? ⟨ad.block, ad.off + 4, none⟩ = some (.int .i64 (rd_T25 xs 2).f0) ∧ W.cell? ⟨ad.block, ad.off + 4 + 1, none⟩ = some (.int .i64 (rd_T25 xs 2).f1) ∧ W.cell? ⟨ad.block, ad.off + 6, none⟩ = some (.int .i64 (rd_T25 xs 3).f0) ∧ W.cell? ⟨ad.block, ad.off + 6 + 1, none⟩ = some (.int .i64 (rd_T25 xs 3).f1) := by
  subst hn
  obtain ⟨ad0, e0, x0, y0⟩ := at_T25 h 0 (by omega) (by omega)
  obtain ⟨ad1, e1, x1, y1⟩ := at_T25 h 1 (by omega) (by omega)
  obtain ⟨ad2, e2, x2, y2⟩ := at_T25 h 2 (by omega) (by omega)
  obtain ⟨ad3, e3, x3, y3⟩ := at_T25 h 3 (by omega) (by omega)
  obtain rfl : ad0 = ad1 := by rw [e0] at e1; injection e1
  obtain rfl : ad0 = ad2 := by rw [e0] at e2; injection e2
  obtain rfl : ad0 = ad3 := by rw [e0] at e3; injection e3
  rw [show ((0 : Int)).toNat * 2 = 0 from rfl, Addr.add_zero'] at x0 y0
  simp only [show (1 : Int).toNat = 1 from rfl, Nat.reduceMul, Nat.reduceEqDiff, Go.Addr.add, ↓reduceIte] at x1 y1
  simp only [show (2 : Int).toNat = 2 from rfl, Nat.reduceMul, Nat.reduceEqDiff, Go.Addr.add, ↓reduceIte] at x2 y2
  simp only [show (3 : Int).toNat = 3 from rfl, Nat.reduceMul, Nat.reduceEqDiff, Go.Addr.add, ↓reduceIte] at x3 y3
  exact ⟨ad0, e0, (hb.cell (World.block_lt_of_cell? w _ x0)).trans x0, (hb.cell (World.block_lt_of_cell? w _ y0)).trans y0, (hb.cell (World.block_lt_of_cell? w _ x1)).trans x1, (hb.cell (World.block_lt_of_cell? w _ y1)).trans y1, (hb.cell (World.block_lt_of_cell? w _ x2)).trans x2, (hb.cell (World.block_lt_of_cell? w _ y2)).trans y2, (hb.cell (World.block_lt_of_cell? w _ x3)).trans x3, (hb.cell (World.block_lt_of_cell? w _ y3)).trans y3⟩
def impl_CurveAt.f (k : Nat) (l0 : List S25) (a1 : Int) : Option (Int × Int × Bool) :=
  if l0.length = 4 then (impl_arePoints.f k l0).bind fun t1 => if t1 = true then (impl_within.f a1 0 8).bind fun t2 => if t2 = true then
    (impl_areFixed.f k [curveDn (curveSum (rd_T25 l0 0).f0 (rd_T25 l0 1).f0 (rd_T25 l0 2).f0 (rd_T25 l0 3).f0 (wrap64 (8 - a1)) a1), curveDn (curveSum (rd_T25 l0 0).f1 (rd_T25 l0 1).f1 (rd_T25 l0 2).f1 (rd_T25 l0 3).f1 (wrap64 (8 - a1)) a1)]).bind fun t3 =>
      if t3 = true then some (curveDn (curveSum (rd_T25 l0 0).f0 (rd_T25 l0 1).f0 (rd_T25 l0 2).f0 (rd_T25 l0 3).f0 (wrap64 (8 - a1)) a1), curveDn (curveSum (rd_T25 l0 0).f1 (rd_T25 l0 1).f1 (rd_T25 l0 2).f1 (rd_T25 l0 3).f1 (wrap64 (8 - a1)) a1), true)
      else some (0, 0, false)
    else some (0, 0, false) else some (0, 0, false) else some (0, 0, false)
theorem impl_CurveAt.mono : ∀ a0 a1 k, LeO (impl_CurveAt.f k a0 a1) (impl_CurveAt.f (k + 1) a0 a1) := by
  intro a0 a1 k
  unfold impl_CurveAt.f
  repeat' first
      | (with_reducible exact impl_arePoints.mono _ _)
      | (with_reducible exact impl_areFixed.mono _ _)
      | (with_reducible exact LeO.refl _)
      | (with_reducible exact LeO.none _)
      | (with_reducible refine LeO.ite ?_ ?_)
      | (with_reducible refine LeO.bind ?_ (fun _ => ?_))
      | exact impl_arePoints.mono _ _
      | exact impl_areFixed.mono _ _
      | exact LeO.none _
      | refine LeO.ite ?_ ?_
      | refine LeO.bind ?_ (fun _ => ?_)
set_option maxHeartbeats 8000000 in
set_option maxRecDepth 100000 in
theorem impl_CurveAt.calls (k : Nat) (A0 : Option Addr) (c0 : Nat) (l0 : List (S25)) (a1 : Int) (r1 : Int) (r2 : Int) (r3 : Bool) (w : World) (hr0 : Kd.C k25 w A0 l0.length l0) (hc0 : l0.length ≤ c0) (h : impl_CurveAt.f k l0 a1 = some (r1, r2, r3)) :
    Calls Try.prog 18 #[.slice A0 l0.length c0, .int .i64 a1] w fun e w' => e = .returned (.tuple #[.agg #[.int .i64 r1, .int .i64 r2], .bool r3]) ∧ Below w.heap.size w w' := by
  unfold impl_CurveAt.f at h
  have HR := Aside0.mk hr0
  have HC := Aside0.mk hc0
  clear hr0 hc0
  have hu := Try.underlying25
  by_cases c1 : l0.length = 4
  · rw [if_pos c1] at h
    have C1 := Aside0.mk c1
    have c1b : ((l0.length : Int) != 4) = false := bne_eq_false_iff_eq.mpr (by omega)
    clear c1
    obtain ⟨t1, e1, h⟩ := Option.bind_eq_some_iff.mp h
    have E1 := Aside0.mk e1
    clear e1
    go_enter Try.func18, Try.ntmps18
    go_wp2_with fail
    obtain ⟨W, hW⟩ : ∃ W : World, (w.alloc (.cells #[.int .i64 a1] 3)).alloc (.cells #[.int .i64 0, .int .i64 0] 25) = W := ⟨_, rfl⟩
    rw [hW]
    have b0 := Aside0.mk (curve_blocks hW).1
    have b1 := Aside0.mk (curve_blocks hW).2.1
    have HB := Aside0.mk (curve_blocks hW).2.2
    clear hW
    refine (impl_arePoints.calls k A0 c0 l0 t1 _ (Kd.C_below HR.out HB.out) HC.out E1.out).mono ?_
    rintro e w1 ⟨rfl, hb⟩
    replace b0 := Aside0.mk (blk_below b0.out hb)
    replace b1 := Aside0.mk (blk_below b1.out hb)
    replace HB := Aside0.mk (below_step HB.out hb)
    clear hb
    have c00 : w1.cell? ⟨w.heap.size, 0, none⟩ = some (.int .i64 a1) := (blk_cell b0.out 0).trans rfl
    have c10 : w1.cell? ⟨w.heap.size + 1, 0, none⟩ = some (.int .i64 0) := (blk_cell b1.out 0).trans rfl
    have c11 : w1.cell? ⟨w.heap.size + 1, 1, none⟩ = some (.int .i64 0) := (blk_cell b1.out 1).trans rfl
    have f10 : w1.frozen? ⟨w.heap.size + 1, 0, none⟩ = false := blk_frozen b1.out 0
    have f11 : w1.frozen? ⟨w.heap.size + 1, 1, none⟩ = false := blk_frozen b1.out 1
    cases t1
    · simp only [Bool.false_eq_true, if_false, Option.some.injEq, Prod.mk.injEq] at h
      obtain ⟨rfl, rfl, rfl⟩ := h
      have HF := Aside0.mk (below_set (j := 1) (v := .int .i64 0) (below_set (j := 0) (v := .int .i64 0) HB.out (g := w.heap.size + 1) (by omega)) (g := w.heap.size + 1) (by omega))
      go_wp2
      exact bodyPost_ret (results_ct rfl _ _ (w.heap.size + 1) 25 #[.int .i64 0, .int .i64 0] (0, 0) _ rfl (blk_put (blk_put b1.out 0 _ rfl) 1 _ rfl) Try.underlying25 rfl (by kernel_rfl)) rfl ⟨rfl, HF.out⟩
    · simp only [if_true] at h
      obtain ⟨t2, e2, h⟩ := Option.bind_eq_some_iff.mp h
      have E2 := Aside0.mk e2
      clear e2
      go_wp2_with fail
      refine (impl_within.calls a1 0 8 t2 _ E2.out).mono ?_
      rintro e w2 ⟨rfl, ⟨nd, rfl⟩⟩
      cases t2
      · simp only [Bool.false_eq_true, if_false, Option.some.injEq, Prod.mk.injEq] at h
        obtain ⟨rfl, rfl, rfl⟩ := h
        have HF := Aside0.mk (below_set (j := 1) (v := .int .i64 0) (below_set (j := 0) (v := .int .i64 0) (pw_below_drewN HB.out nd) (g := w.heap.size + 1) (by omega)) (g := w.heap.size + 1) (by omega))
        go_wp2
        exact bodyPost_ret (results_ct rfl _ _ (w.heap.size + 1) 25 #[.int .i64 0, .int .i64 0] (0, 0) _ rfl (blk_put (blk_put (blk_drewN b1.out nd) 0 _ rfl) 1 _ rfl) Try.underlying25 rfl (by kernel_rfl)) rfl ⟨rfl, HF.out⟩
      · simp only [if_true] at h
        obtain ⟨t3, e3, h⟩ := Option.bind_eq_some_iff.mp h
        have E3 := Aside0.mk e3
        clear e3
        have bn : ((w1.drewN nd).alloc (.cells #[.int .i64 0] 3)).heap[w1.heap.size]? = some (.cells #[.int .i64 0] 3 (0, 0)) := blk_new (w1.drewN nd) _
        have cn := (blk_cell bn 0).trans (rfl : _ = some (Value.int .i64 0))
        have fn := blk_frozen bn 0
        have Bn := Aside0.mk bn
        clear bn
        have hne0 : Aside0 (w.heap.size ≠ w1.heap.size) := ⟨Nat.ne_of_lt (blk_lt b0.out)⟩
        have hne1 : Aside0 (w.heap.size + 1 ≠ w1.heap.size) := ⟨Nat.ne_of_lt (blk_lt b1.out)⟩
        go_wp2_with fail
        obtain ⟨W5, hW⟩ : ∃ W5 : World, ((w1.drewN nd).alloc (.cells #[.int .i64 0] 3)).setCell ⟨w1.heap.size, 0, none⟩ (.int .i64 (wrap64 (8 - a1))) = W5 := ⟨_, rfl⟩
        rw [hW]
        have b2 : Aside0 (W5.heap[w1.heap.size]? = some (.cells #[.int .i64 (wrap64 (8 - a1))] 3 (0, 0))) := ⟨hW ▸ blk_put Bn.out 0 _ rfl⟩
        replace b0 : Aside0 (W5.heap[w.heap.size]? = some (.cells #[.int .i64 a1] 3 (0, 0))) := ⟨hW ▸ blk_far (blk_alloc (blk_drewN b0.out nd) _) hne0.out _⟩
        replace b1 : Aside0 (W5.heap[w.heap.size + 1]? = some (.cells #[.int .i64 0, .int .i64 0] 25 (0, 0))) := ⟨hW ▸ blk_far (blk_alloc (blk_drewN b1.out nd) _) hne1.out _⟩
        replace HB : Aside0 (Below w.heap.size w W5) := ⟨hW ▸ below_set (below_alloc (pw_below_drewN HB.out nd) _) HB.out.size⟩
        clear hW cn fn Bn c00 c10 c11 f10 f11
        have q0 : decide (0 < (l0.length : Int)) = true := decide_eq_true (by have := C1.out; omega)
        have q1 : decide (1 < (l0.length : Int)) = true := decide_eq_true (by have := C1.out; omega)
        have q2 : decide (2 < (l0.length : Int)) = true := decide_eq_true (by have := C1.out; omega)
        have q3 : decide (3 < (l0.length : Int)) = true := decide_eq_true (by have := C1.out; omega)
        have v0 : (0 < (l0.length : Int)) = True := eq_true (by have := C1.out; omega)
        have u0 : (0 < l0.length) = True := eq_true (by have := C1.out; omega)
        have v1 : (1 < (l0.length : Int)) = True := eq_true (by have := C1.out; omega)
        have u1 : (1 < l0.length) = True := eq_true (by have := C1.out; omega)
        have v2 : (2 < (l0.length : Int)) = True := eq_true (by have := C1.out; omega)
        have u2 : (2 < l0.length) = True := eq_true (by have := C1.out; omega)
        have v3 : (3 < (l0.length : Int)) = True := eq_true (by have := C1.out; omega)
        have u3 : (3 < l0.length) = True := eq_true (by have := C1.out; omega)
        obtain ⟨x, hx⟩ : ∃ x, curveDn (curveSum (rd_T25 l0 0).f0 (rd_T25 l0 1).f0 (rd_T25 l0 2).f0 (rd_T25 l0 3).f0 (wrap64 (8 - a1)) a1) = x := ⟨_, rfl⟩
        obtain ⟨y, hy⟩ : ∃ y, curveDn (curveSum (rd_T25 l0 0).f1 (rd_T25 l0 1).f1 (rd_T25 l0 2).f1 (rd_T25 l0 3).f1 (wrap64 (8 - a1)) a1) = y := ⟨_, rfl⟩
        simp only [hx, hy] at E3 h
        have bV2 : Aside0 ((W5.drew.alloc (.cells #[.int .i64 0, .int .i64 0] 25)).heap[w1.heap.size]? = some (.cells #[.int .i64 (wrap64 (8 - a1))] 3 (0, 0))) := ⟨blk_alloc (blk_drew b2.out) _⟩
        have bV0 : Aside0 ((W5.drew.alloc (.cells #[.int .i64 0, .int .i64 0] 25)).heap[w.heap.size]? = some (.cells #[.int .i64 a1] 3 (0, 0))) := ⟨blk_alloc (blk_drew b0.out) _⟩
        have bV1 : Aside0 ((W5.drew.alloc (.cells #[.int .i64 0, .int .i64 0] 25)).heap[w.heap.size + 1]? = some (.cells #[.int .i64 0, .int .i64 0] 25 (0, 0))) := ⟨blk_alloc (blk_drew b1.out) _⟩
        have bV3 : Aside0 ((W5.drew.alloc (.cells #[.int .i64 0, .int .i64 0] 25)).heap[W5.heap.size]? = some (.cells #[.int .i64 0, .int .i64 0] 25 (0, 0))) := ⟨blk_new W5.drew _⟩
        have HV : Aside0 (Below w.heap.size w (W5.drew.alloc (.cells #[.int .i64 0, .int .i64 0] 25))) := ⟨below_alloc (below_drew1 HB.out) _⟩
        obtain ⟨ad, rfl, xV0, yV0, xV1, yV1, xV2, yV2, xV3, yV3⟩ := curve_at HR.out HV.out C1.out
        have HR' := HR
        obtain ⟨ad', ea, x0, y0, x1, y1, x2, y2, x3, y3⟩ := curve_at HR.out HB.out C1.out
        obtain rfl : ad = ad' := by injection ea
        have HXD : Aside0 (Calls Try.prog 92 (#[.int .i64 ((rd_T25 l0 0).f0), .int .i64 ((rd_T25 l0 1).f0), .int .i64 ((rd_T25 l0 2).f0), .int .i64 ((rd_T25 l0 3).f0)] ++ #[.pointer (some ⟨w1.heap.size, 0, none⟩), .pointer (some ⟨w.heap.size, 0, none⟩)]) W5.drew fun e w' => e = .returned (.int .i64 x) ∧ w' = W5.drew) := ⟨hx ▸ curve_close _ _ _ _ _ _ _ _ _ ((blk_cell (blk_drew b2.out) 0).trans rfl) ((blk_cell (blk_drew b0.out) 0).trans rfl)⟩
        have HYD : Aside0 (Calls Try.prog 92 (#[.int .i64 ((rd_T25 l0 0).f1), .int .i64 ((rd_T25 l0 1).f1), .int .i64 ((rd_T25 l0 2).f1), .int .i64 ((rd_T25 l0 3).f1)] ++ #[.pointer (some ⟨w1.heap.size, 0, none⟩), .pointer (some ⟨w.heap.size, 0, none⟩)]) W5.drew fun e w' => e = .returned (.int .i64 y) ∧ w' = W5.drew) := ⟨hy ▸ curve_close _ _ _ _ _ _ _ _ _ ((blk_cell (blk_drew b2.out) 0).trans rfl) ((blk_cell (blk_drew b0.out) 0).trans rfl)⟩
        obtain ⟨V, eV⟩ : ∃ V : World, W5.drew.alloc (.cells #[.int .i64 0, .int .i64 0] 25) = V := ⟨_, rfl⟩
        simp only [eV] at bV0 bV1 bV2 bV3 HV xV0 yV0 xV1 yV1 xV2 yV2 xV3 yV3
        have HXV : Aside0 (Calls Try.prog 92 (#[.int .i64 ((rd_T25 l0 0).f0), .int .i64 ((rd_T25 l0 1).f0), .int .i64 ((rd_T25 l0 2).f0), .int .i64 ((rd_T25 l0 3).f0)] ++ #[.pointer (some ⟨w1.heap.size, 0, none⟩), .pointer (some ⟨w.heap.size, 0, none⟩)]) V fun e w' => e = .returned (.int .i64 x) ∧ w' = V) := ⟨hx ▸ curve_close _ _ _ _ _ _ _ _ _ ((blk_cell (bV2.out) 0).trans rfl) ((blk_cell (bV0.out) 0).trans rfl)⟩
        have HYV : Aside0 (Calls Try.prog 92 (#[.int .i64 ((rd_T25 l0 0).f1), .int .i64 ((rd_T25 l0 1).f1), .int .i64 ((rd_T25 l0 2).f1), .int .i64 ((rd_T25 l0 3).f1)] ++ #[.pointer (some ⟨w1.heap.size, 0, none⟩), .pointer (some ⟨w.heap.size, 0, none⟩)]) V fun e w' => e = .returned (.int .i64 y) ∧ w' = V) := ⟨hy ▸ curve_close _ _ _ _ _ _ _ _ _ ((blk_cell (bV2.out) 0).trans rfl) ((blk_cell (bV0.out) 0).trans rfl)⟩
        clear hx hy
        have cV0 : V.cell? ⟨W5.heap.size, 0, none⟩ = some (.int .i64 0) := (blk_cell bV3.out 0).trans rfl
        have cV1 : V.cell? ⟨W5.heap.size, 1, none⟩ = some (.int .i64 0) := (blk_cell bV3.out 1).trans rfl
        have fV0 : V.frozen? ⟨W5.heap.size, 0, none⟩ = false := blk_frozen bV3.out 0
        have fV1 : V.frozen? ⟨W5.heap.size, 1, none⟩ = false := blk_frozen bV3.out 1
        -- region
        refine start_ (n := 39) (S := fun w' => w'.cell? ad = some (.int .i64 ((rd_T25 l0 0).f0)) ∧ w'.cell? ⟨ad.block, ad.off + 1, none⟩ = some (.int .i64 ((rd_T25 l0 0).f1)) ∧ w'.cell? ⟨ad.block, ad.off + 2, none⟩ = some (.int .i64 ((rd_T25 l0 1).f0)) ∧ w'.cell? ⟨ad.block, ad.off + 2 + 1, none⟩ = some (.int .i64 ((rd_T25 l0 1).f1)) ∧ w'.cell? ⟨ad.block, ad.off + 4, none⟩ = some (.int .i64 ((rd_T25 l0 2).f0)) ∧ w'.cell? ⟨ad.block, ad.off + 4 + 1, none⟩ = some (.int .i64 ((rd_T25 l0 2).f1)) ∧ w'.cell? ⟨ad.block, ad.off + 6, none⟩ = some (.int .i64 ((rd_T25 l0 3).f0)) ∧ w'.cell? ⟨ad.block, ad.off + 6 + 1, none⟩ = some (.int .i64 ((rd_T25 l0 3).f1))) (ds := [38]) #[false, false, false, false, false, false, false, false, false, false, false, false, false, false, false, false, false, false, false, false, false, false, false, false, false, false, false, false, false, false, false, false, false, false, false, false, false, false, false] (by kernel_rfl) rfl rfl ⟨x0, y0, x1, y1, x2, y2, x3, y3⟩ (fun hHeld => ?_)
        refine pure_ (i := 0) (N := some 26) (v := ?_) (a' := ?_) #[true, false, false, false, false, false, false, false, false, false, false, false, false, false, false, false, false, false, false, false, false, false, false, false, false, false, false, false, false, false, false, false, false, false, false, false, false, false, false] rfl rfl (by kernel_rfl) (fun _ _ _ h => h) (Or.inl ⟨by rfl, ?_⟩) ?_ ?_
        rotate_left
        · intro w'
          go_simp
          with_reducible rfl
        rotate_left
        · simp only [Act.put, List.setIfInBounds_toArray, List.set_cons_zero, List.set_cons_succ, i64_w, i32_w]
          rfl
        refine pure_ (i := 1) (N := some 27) (v := ?_) (a' := ?_) #[true, true, false, false, false, false, false, false, false, false, false, false, false, false, false, false, false, false, false, false, false, false, false, false, false, false, false, false, false, false, false, false, false, false, false, false, false, false, false] rfl rfl (by kernel_rfl) (fun _ _ _ h => h) (Or.inl ⟨by rfl, ?_⟩) ?_ ?_
        rotate_left
        · intro w'
          go_simp
          with_reducible rfl
        rotate_left
        · simp only [Act.put, List.setIfInBounds_toArray, List.set_cons_zero, List.set_cons_succ, i64_w, i32_w]
          rfl
        refine pure_ (i := 2) (N := some 28) (v := ?_) (a' := ?_) #[true, true, true, false, false, false, false, false, false, false, false, false, false, false, false, false, false, false, false, false, false, false, false, false, false, false, false, false, false, false, false, false, false, false, false, false, false, false, false] rfl rfl (by kernel_rfl) (fun _ _ _ h => h) (Or.inl ⟨by rfl, ?_⟩) ?_ ?_
        rotate_left
        · intro w'
          go_simp
          with_reducible rfl
        rotate_left
        · simp only [Act.put, List.setIfInBounds_toArray, List.set_cons_zero, List.set_cons_succ, i64_w, i32_w]
          rfl
        refine pure_ (i := 3) (N := some 29) (v := ?_) (a' := ?_) #[true, true, true, true, false, false, false, false, false, false, false, false, false, false, false, false, false, false, false, false, false, false, false, false, false, false, false, false, false, false, false, false, false, false, false, false, false, false, false] rfl rfl (by kernel_rfl) (fun _ _ _ h => h) (Or.inl ⟨by rfl, ?_⟩) ?_ ?_
        rotate_left
        · intro w'
          go_simp
          with_reducible rfl
        rotate_left
        · simp only [Act.put, List.setIfInBounds_toArray, List.set_cons_zero, List.set_cons_succ, i64_w, i32_w]
          rfl
        refine pure_ (i := 5) (N := some 31) (v := ?_) (a' := ?_) #[true, true, true, true, false, true, false, false, false, false, false, false, false, false, false, false, false, false, false, false, false, false, false, false, false, false, false, false, false, false, false, false, false, false, false, false, false, false, false] rfl rfl (by kernel_rfl) (fun _ _ _ h => h) (Or.inl ⟨by rfl, ?_⟩) ?_ ?_
        rotate_left
        · intro w'
          go_simp
          with_reducible rfl
        rotate_left
        · simp only [Act.put, List.setIfInBounds_toArray, List.set_cons_zero, List.set_cons_succ, i64_w, i32_w]
          rfl
        refine pure_ (i := 6) (N := some 32) (v := ?_) (a' := ?_) #[true, true, true, true, false, true, true, false, false, false, false, false, false, false, false, false, false, false, false, false, false, false, false, false, false, false, false, false, false, false, false, false, false, false, false, false, false, false, false] rfl rfl (by kernel_rfl) (fun _ _ _ h => h) (Or.inl ⟨by rfl, ?_⟩) ?_ ?_
        rotate_left
        · intro w'
          go_simp
          with_reducible rfl
        rotate_left
        · simp only [Act.put, List.setIfInBounds_toArray, List.set_cons_zero, List.set_cons_succ, i64_w, i32_w]
          rfl
        refine pure_ (i := 7) (N := some 33) (v := ?_) (a' := ?_) #[true, true, true, true, false, true, true, true, false, false, false, false, false, false, false, false, false, false, false, false, false, false, false, false, false, false, false, false, false, false, false, false, false, false, false, false, false, false, false] rfl rfl (by kernel_rfl) (fun _ _ _ h => h) (Or.inl ⟨by rfl, ?_⟩) ?_ ?_
        rotate_left
        · intro w'
          go_simp
          with_reducible rfl
        rotate_left
        · simp only [Act.put, List.setIfInBounds_toArray, List.set_cons_zero, List.set_cons_succ, i64_w, i32_w]
          rfl
        refine pure_ (i := 9) (N := some 35) (v := ?_) (a' := ?_) #[true, true, true, true, false, true, true, true, false, true, false, false, false, false, false, false, false, false, false, false, false, false, false, false, false, false, false, false, false, false, false, false, false, false, false, false, false, false, false] rfl rfl (by kernel_rfl) (fun _ _ _ h => h) (Or.inl ⟨by rfl, ?_⟩) ?_ ?_
        rotate_left
        · intro w'
          go_simp
          with_reducible rfl
        rotate_left
        · simp only [Act.put, List.setIfInBounds_toArray, List.set_cons_zero, List.set_cons_succ, i64_w, i32_w]
          rfl
        refine pure_ (i := 10) (N := some 36) (v := ?_) (a' := ?_) #[true, true, true, true, false, true, true, true, false, true, true, false, false, false, false, false, false, false, false, false, false, false, false, false, false, false, false, false, false, false, false, false, false, false, false, false, false, false, false] rfl rfl (by kernel_rfl) (fun _ _ _ h => h) (Or.inl ⟨by rfl, ?_⟩) ?_ ?_
        rotate_left
        · intro w'
          go_simp
          with_reducible rfl
        rotate_left
        · simp only [Act.put, List.setIfInBounds_toArray, List.set_cons_zero, List.set_cons_succ, i64_w, i32_w]
          rfl
        refine pure_ (i := 11) (N := some 37) (v := ?_) (a' := ?_) #[true, true, true, true, false, true, true, true, false, true, true, true, false, false, false, false, false, false, false, false, false, false, false, false, false, false, false, false, false, false, false, false, false, false, false, false, false, false, false] rfl rfl (by kernel_rfl) (fun _ _ _ h => h) (Or.inl ⟨by rfl, ?_⟩) ?_ ?_
        rotate_left
        · intro w'
          go_simp
          with_reducible rfl
        rotate_left
        · simp only [Act.put, List.setIfInBounds_toArray, List.set_cons_zero, List.set_cons_succ, i64_w, i32_w]
          rfl
        refine pure_ (i := 13) (N := some 39) (v := ?_) (a' := ?_) #[true, true, true, true, false, true, true, true, false, true, true, true, false, true, false, false, false, false, false, false, false, false, false, false, false, false, false, false, false, false, false, false, false, false, false, false, false, false, false] rfl rfl (by kernel_rfl) (fun _ _ _ h => h) (Or.inl ⟨by rfl, ?_⟩) ?_ ?_
        rotate_left
        · intro w'
          go_simp
          with_reducible rfl
        rotate_left
        · simp only [Act.put, List.setIfInBounds_toArray, List.set_cons_zero, List.set_cons_succ, i64_w, i32_w]
          rfl
        refine pure_ (i := 14) (N := some 40) (v := ?_) (a' := ?_) #[true, true, true, true, false, true, true, true, false, true, true, true, false, true, true, false, false, false, false, false, false, false, false, false, false, false, false, false, false, false, false, false, false, false, false, false, false, false, false] rfl rfl (by kernel_rfl) (fun _ _ _ h => h) (Or.inl ⟨by rfl, ?_⟩) ?_ ?_
        rotate_left
        · intro w'
          go_simp
          with_reducible rfl
        rotate_left
        · simp only [Act.put, List.setIfInBounds_toArray, List.set_cons_zero, List.set_cons_succ, i64_w, i32_w]
          rfl
        refine pure_ (i := 15) (N := some 41) (v := ?_) (a' := ?_) #[true, true, true, true, false, true, true, true, false, true, true, true, false, true, true, true, false, false, false, false, false, false, false, false, false, false, false, false, false, false, false, false, false, false, false, false, false, false, false] rfl rfl (by kernel_rfl) (fun _ _ _ h => h) (Or.inl ⟨by rfl, ?_⟩) ?_ ?_
        rotate_left
        · intro w'
          go_simp
          with_reducible rfl
        rotate_left
        · simp only [Act.put, List.setIfInBounds_toArray, List.set_cons_zero, List.set_cons_succ, i64_w, i32_w]
          rfl
        refine pure_ (i := 18) (N := some 44) (v := ?_) (a' := ?_) #[true, true, true, true, false, true, true, true, false, true, true, true, false, true, true, true, false, false, true, false, false, false, false, false, false, false, false, false, false, false, false, false, false, false, false, false, false, false, false] rfl rfl (by kernel_rfl) (fun _ _ _ h => h) (Or.inl ⟨by rfl, ?_⟩) ?_ ?_
        rotate_left
        · intro w'
          go_simp
          with_reducible rfl
        rotate_left
        · simp only [Act.put, List.setIfInBounds_toArray, List.set_cons_zero, List.set_cons_succ, i64_w, i32_w]
          rfl
        refine pure_ (i := 19) (N := some 45) (v := ?_) (a' := ?_) #[true, true, true, true, false, true, true, true, false, true, true, true, false, true, true, true, false, false, true, true, false, false, false, false, false, false, false, false, false, false, false, false, false, false, false, false, false, false, false] rfl rfl (by kernel_rfl) (fun _ _ _ h => h) (Or.inl ⟨by rfl, ?_⟩) ?_ ?_
        rotate_left
        · intro w'
          go_simp
          with_reducible rfl
        rotate_left
        · simp only [Act.put, List.setIfInBounds_toArray, List.set_cons_zero, List.set_cons_succ, i64_w, i32_w]
          rfl
        refine pure_ (i := 20) (N := some 46) (v := ?_) (a' := ?_) #[true, true, true, true, false, true, true, true, false, true, true, true, false, true, true, true, false, false, true, true, true, false, false, false, false, false, false, false, false, false, false, false, false, false, false, false, false, false, false] rfl rfl (by kernel_rfl) (fun _ _ _ h => h) (Or.inl ⟨by rfl, ?_⟩) ?_ ?_
        rotate_left
        · intro w'
          go_simp
          with_reducible rfl
        rotate_left
        · simp only [Act.put, List.setIfInBounds_toArray, List.set_cons_zero, List.set_cons_succ, i64_w, i32_w]
          rfl
        refine pure_ (i := 21) (N := some 47) (v := ?_) (a' := ?_) #[true, true, true, true, false, true, true, true, false, true, true, true, false, true, true, true, false, false, true, true, true, true, false, false, false, false, false, false, false, false, false, false, false, false, false, false, false, false, false] rfl rfl (by kernel_rfl) (fun _ _ _ h => h) (Or.inl ⟨by rfl, ?_⟩) ?_ ?_
        rotate_left
        · intro w'
          go_simp
          with_reducible rfl
        rotate_left
        · simp only [Act.put, List.setIfInBounds_toArray, List.set_cons_zero, List.set_cons_succ, i64_w, i32_w]
          rfl
        refine pure_ (i := 23) (N := some 49) (v := ?_) (a' := ?_) #[true, true, true, true, false, true, true, true, false, true, true, true, false, true, true, true, false, false, true, true, true, true, false, true, false, false, false, false, false, false, false, false, false, false, false, false, false, false, false] rfl rfl (by kernel_rfl) (fun _ _ _ h => h) (Or.inl ⟨by rfl, ?_⟩) ?_ ?_
        rotate_left
        · intro w'
          go_simp
          with_reducible rfl
        rotate_left
        · simp only [Act.put, List.setIfInBounds_toArray, List.set_cons_zero, List.set_cons_succ, i64_w, i32_w]
          rfl
        refine pure_ (i := 24) (N := some 50) (v := ?_) (a' := ?_) #[true, true, true, true, false, true, true, true, false, true, true, true, false, true, true, true, false, false, true, true, true, true, false, true, true, false, false, false, false, false, false, false, false, false, false, false, false, false, false] rfl rfl (by kernel_rfl) (fun _ _ _ h => h) (Or.inl ⟨by rfl, ?_⟩) ?_ ?_
        rotate_left
        · intro w'
          go_simp
          with_reducible rfl
        rotate_left
        · simp only [Act.put, List.setIfInBounds_toArray, List.set_cons_zero, List.set_cons_succ, i64_w, i32_w]
          rfl
        refine pure_ (i := 25) (N := some 51) (v := ?_) (a' := ?_) #[true, true, true, true, false, true, true, true, false, true, true, true, false, true, true, true, false, false, true, true, true, true, false, true, true, true, false, false, false, false, false, false, false, false, false, false, false, false, false] rfl rfl (by kernel_rfl) (fun _ _ _ h => h) (Or.inl ⟨by rfl, ?_⟩) ?_ ?_
        rotate_left
        · intro w'
          go_simp
          with_reducible rfl
        rotate_left
        · simp only [Act.put, List.setIfInBounds_toArray, List.set_cons_zero, List.set_cons_succ, i64_w, i32_w]
          rfl
        refine pure_ (i := 27) (N := some 53) (v := ?_) (a' := ?_) #[true, true, true, true, false, true, true, true, false, true, true, true, false, true, true, true, false, false, true, true, true, true, false, true, true, true, false, true, false, false, false, false, false, false, false, false, false, false, false] rfl rfl (by kernel_rfl) (fun _ _ _ h => h) (Or.inl ⟨by rfl, ?_⟩) ?_ ?_
        rotate_left
        · intro w'
          go_simp
          with_reducible rfl
        rotate_left
        · simp only [Act.put, List.setIfInBounds_toArray, List.set_cons_zero, List.set_cons_succ, i64_w, i32_w]
          rfl
        refine pure_ (i := 28) (N := some 54) (v := ?_) (a' := ?_) #[true, true, true, true, false, true, true, true, false, true, true, true, false, true, true, true, false, false, true, true, true, true, false, true, true, true, false, true, true, false, false, false, false, false, false, false, false, false, false] rfl rfl (by kernel_rfl) (fun _ _ _ h => h) (Or.inl ⟨by rfl, ?_⟩) ?_ ?_
        rotate_left
        · intro w'
          go_simp
          with_reducible rfl
        rotate_left
        · simp only [Act.put, List.setIfInBounds_toArray, List.set_cons_zero, List.set_cons_succ, i64_w, i32_w]
          rfl
        refine pure_ (i := 29) (N := some 55) (v := ?_) (a' := ?_) #[true, true, true, true, false, true, true, true, false, true, true, true, false, true, true, true, false, false, true, true, true, true, false, true, true, true, false, true, true, true, false, false, false, false, false, false, false, false, false] rfl rfl (by kernel_rfl) (fun _ _ _ h => h) (Or.inl ⟨by rfl, ?_⟩) ?_ ?_
        rotate_left
        · intro w'
          go_simp
          with_reducible rfl
        rotate_left
        · simp only [Act.put, List.setIfInBounds_toArray, List.set_cons_zero, List.set_cons_succ, i64_w, i32_w]
          rfl
        refine pure_ (i := 31) (N := some 57) (v := ?_) (a' := ?_) #[true, true, true, true, false, true, true, true, false, true, true, true, false, true, true, true, false, false, true, true, true, true, false, true, true, true, false, true, true, true, false, true, false, false, false, false, false, false, false] rfl rfl (by kernel_rfl) (fun _ _ _ h => h) (Or.inl ⟨by rfl, ?_⟩) ?_ ?_
        rotate_left
        · intro w'
          go_simp
          with_reducible rfl
        rotate_left
        · simp only [Act.put, List.setIfInBounds_toArray, List.set_cons_zero, List.set_cons_succ, i64_w, i32_w]
          rfl
        refine pure_ (i := 32) (N := some 58) (v := ?_) (a' := ?_) #[true, true, true, true, false, true, true, true, false, true, true, true, false, true, true, true, false, false, true, true, true, true, false, true, true, true, false, true, true, true, false, true, true, false, false, false, false, false, false] rfl rfl (by kernel_rfl) (fun _ _ _ h => h) (Or.inl ⟨by rfl, ?_⟩) ?_ ?_
        rotate_left
        · intro w'
          go_simp
          with_reducible rfl
        rotate_left
        · simp only [Act.put, List.setIfInBounds_toArray, List.set_cons_zero, List.set_cons_succ, i64_w, i32_w]
          rfl
        refine pure_ (i := 33) (N := some 59) (v := ?_) (a' := ?_) #[true, true, true, true, false, true, true, true, false, true, true, true, false, true, true, true, false, false, true, true, true, true, false, true, true, true, false, true, true, true, false, true, true, true, false, false, false, false, false] rfl rfl (by kernel_rfl) (fun _ _ _ h => h) (Or.inl ⟨by rfl, ?_⟩) ?_ ?_
        rotate_left
        · intro w'
          go_simp
          with_reducible rfl
        rotate_left
        · simp only [Act.put, List.setIfInBounds_toArray, List.set_cons_zero, List.set_cons_succ, i64_w, i32_w]
          rfl
        refine take_ (i := 4) (N := some 30) (v := ?_) (a' := ?_) #[true, true, true, true, true, true, true, true, false, true, true, true, false, true, true, true, false, false, true, true, true, true, false, true, true, true, false, true, true, true, false, true, true, true, false, false, false, false, false] rfl rfl (by kernel_rfl) (fun _ _ _ h => h) (Or.inl ⟨by rfl, ?_⟩) hHeld ?_ ?_
        rotate_left
        · rintro w' ⟨s0, s1, s2, s3, s4, s5, s6, s7⟩
          go_simp
          with_reducible rfl
        rotate_left
        · simp only [Act.put, List.setIfInBounds_toArray, List.set_cons_zero, List.set_cons_succ, i64_w, i32_w]
          rfl
        refine take_ (i := 8) (N := some 34) (v := ?_) (a' := ?_) #[true, true, true, true, true, true, true, true, true, true, true, true, false, true, true, true, false, false, true, true, true, true, false, true, true, true, false, true, true, true, false, true, true, true, false, false, false, false, false] rfl rfl (by kernel_rfl) (fun _ _ _ h => h) (Or.inl ⟨by rfl, ?_⟩) hHeld ?_ ?_
        rotate_left
        · rintro w' ⟨s0, s1, s2, s3, s4, s5, s6, s7⟩
          go_simp
          with_reducible rfl
        rotate_left
        · simp only [Act.put, List.setIfInBounds_toArray, List.set_cons_zero, List.set_cons_succ, i64_w, i32_w]
          rfl
        refine take_ (i := 12) (N := some 38) (v := ?_) (a' := ?_) #[true, true, true, true, true, true, true, true, true, true, true, true, true, true, true, true, false, false, true, true, true, true, false, true, true, true, false, true, true, true, false, true, true, true, false, false, false, false, false] rfl rfl (by kernel_rfl) (fun _ _ _ h => h) (Or.inl ⟨by rfl, ?_⟩) hHeld ?_ ?_
        rotate_left
        · rintro w' ⟨s0, s1, s2, s3, s4, s5, s6, s7⟩
          go_simp
          with_reducible rfl
        rotate_left
        · simp only [Act.put, List.setIfInBounds_toArray, List.set_cons_zero, List.set_cons_succ, i64_w, i32_w]
          rfl
        refine take_ (i := 16) (N := some 42) (v := ?_) (a' := ?_) #[true, true, true, true, true, true, true, true, true, true, true, true, true, true, true, true, true, false, true, true, true, true, false, true, true, true, false, true, true, true, false, true, true, true, false, false, false, false, false] rfl rfl (by kernel_rfl) (fun _ _ _ h => h) (Or.inl ⟨by rfl, ?_⟩) hHeld ?_ ?_
        rotate_left
        · rintro w' ⟨s0, s1, s2, s3, s4, s5, s6, s7⟩
          go_simp
          with_reducible rfl
        rotate_left
        · simp only [Act.put, List.setIfInBounds_toArray, List.set_cons_zero, List.set_cons_succ, i64_w, i32_w]
          rfl
        refine take_ (i := 22) (N := some 48) (v := ?_) (a' := ?_) #[true, true, true, true, true, true, true, true, true, true, true, true, true, true, true, true, true, false, true, true, true, true, true, true, true, true, false, true, true, true, false, true, true, true, false, false, false, false, false] rfl rfl (by kernel_rfl) (fun _ _ _ h => h) (Or.inl ⟨by rfl, ?_⟩) hHeld ?_ ?_
        rotate_left
        · rintro w' ⟨s0, s1, s2, s3, s4, s5, s6, s7⟩
          go_simp
          with_reducible rfl
        rotate_left
        · simp only [Act.put, List.setIfInBounds_toArray, List.set_cons_zero, List.set_cons_succ, i64_w, i32_w]
          rfl
        refine take_ (i := 26) (N := some 52) (v := ?_) (a' := ?_) #[true, true, true, true, true, true, true, true, true, true, true, true, true, true, true, true, true, false, true, true, true, true, true, true, true, true, true, true, true, true, false, true, true, true, false, false, false, false, false] rfl rfl (by kernel_rfl) (fun _ _ _ h => h) (Or.inl ⟨by rfl, ?_⟩) hHeld ?_ ?_
        rotate_left
        · rintro w' ⟨s0, s1, s2, s3, s4, s5, s6, s7⟩
          go_simp
          with_reducible rfl
        rotate_left
        · simp only [Act.put, List.setIfInBounds_toArray, List.set_cons_zero, List.set_cons_succ, i64_w, i32_w]
          rfl
        refine take_ (i := 30) (N := some 56) (v := ?_) (a' := ?_) #[true, true, true, true, true, true, true, true, true, true, true, true, true, true, true, true, true, false, true, true, true, true, true, true, true, true, true, true, true, true, true, true, true, true, false, false, false, false, false] rfl rfl (by kernel_rfl) (fun _ _ _ h => h) (Or.inl ⟨by rfl, ?_⟩) hHeld ?_ ?_
        rotate_left
        · rintro w' ⟨s0, s1, s2, s3, s4, s5, s6, s7⟩
          go_simp
          with_reducible rfl
        rotate_left
        · simp only [Act.put, List.setIfInBounds_toArray, List.set_cons_zero, List.set_cons_succ, i64_w, i32_w]
          rfl
        refine take_ (i := 34) (N := some 60) (v := ?_) (a' := ?_) #[true, true, true, true, true, true, true, true, true, true, true, true, true, true, true, true, true, false, true, true, true, true, true, true, true, true, true, true, true, true, true, true, true, true, true, false, false, false, false] rfl rfl (by kernel_rfl) (fun _ _ _ h => h) (Or.inl ⟨by rfl, ?_⟩) hHeld ?_ ?_
        rotate_left
        · rintro w' ⟨s0, s1, s2, s3, s4, s5, s6, s7⟩
          go_simp
          with_reducible rfl
        rotate_left
        · simp only [Act.put, List.setIfInBounds_toArray, List.set_cons_zero, List.set_cons_succ, i64_w, i32_w]
          rfl
        refine join_ (σ := Unit) 1 #[true, true, true, true, true, true, true, true, true, true, true, true, true, true, true, true, true, true, true, true, true, true, true, true, true, true, true, true, true, true, true, true, true, true, true, true, true, true, false] (fun _ => [(43, .int .i64 x), (61, .int .i64 y), (62, .agg #[.int .i64 x, .int .i64 y]), (8, .pointer (some ⟨W5.heap.size, 0, none⟩))]) (fun _ w' => w' = V) ?_ ?_
        rotate_left
        · intro hCont
          refine two_ (i := 17) (j := 37) (Ni := some 43) (Nj := some 8) #[true, true, true, true, true, true, true, true, true, true, true, true, true, true, true, true, true, true, true, true, true, true, true, true, true, true, true, true, true, true, true, true, true, true, true, false, false, false, false] #[true, true, true, true, true, true, true, true, true, true, true, true, true, true, true, true, true, false, true, true, true, true, true, true, true, true, true, true, true, true, true, true, true, true, true, false, false, true, false] rfl rfl rfl rfl (by kernel_rfl) (by decide) (by decide) (fun K hK => ?_) (fun K hK => ?_)
          · skip
            refine goesC_ Try.func92 (by kernel_rfl) rfl #[.int .i64 ((rd_T25 l0 0).f0), .int .i64 ((rd_T25 l0 1).f0), .int .i64 ((rd_T25 l0 2).f0), .int .i64 ((rd_T25 l0 3).f0)] #[.pointer (some ⟨w1.heap.size, 0, none⟩), .pointer (some ⟨w.heap.size, 0, none⟩)] (by rfl) rfl rfl (by rfl) (by (try simp only [List.map_toArray, List.map_cons, List.map_nil]); first | done | rfl) ?_
            refine (HXD.out).mono ?_
            rintro e w3 ⟨rfl, rfl⟩
            refine ⟨_, rfl, ?_⟩
            refine hK.out _ _ ⟨x0, y0, x1, y1, x2, y2, x3, y3⟩ (fun hHeld => ?_)
            clear hK K
            refine norm_ (a' := ?_) ?_ ?_
            rotate_left
            · show Act.put _ (some 43) _ = _
              simp only [Act.put, List.setIfInBounds_toArray, List.set_cons_zero, List.set_cons_succ, i64_w, i32_w]
              rfl
            refine two_ (i := 35) (j := 37) (Ni := some 61) (Nj := some 8) #[true, true, true, true, true, true, true, true, true, true, true, true, true, true, true, true, true, true, true, true, true, true, true, true, true, true, true, true, true, true, true, true, true, true, true, true, false, false, false] #[true, true, true, true, true, true, true, true, true, true, true, true, true, true, true, true, true, true, true, true, true, true, true, true, true, true, true, true, true, true, true, true, true, true, true, false, false, true, false] rfl rfl rfl rfl (by kernel_rfl) (by decide) (by decide) (fun K hK => ?_) (fun K hK => ?_)
            · skip
              refine goesC_ Try.func92 (by kernel_rfl) rfl #[.int .i64 ((rd_T25 l0 0).f1), .int .i64 ((rd_T25 l0 1).f1), .int .i64 ((rd_T25 l0 2).f1), .int .i64 ((rd_T25 l0 3).f1)] #[.pointer (some ⟨w1.heap.size, 0, none⟩), .pointer (some ⟨w.heap.size, 0, none⟩)] (by rfl) rfl rfl (by rfl) (by (try simp only [List.map_toArray, List.map_cons, List.map_nil]); first | done | rfl) ?_
              refine (HYD.out).mono ?_
              rintro e w3 ⟨rfl, rfl⟩
              refine ⟨_, rfl, ?_⟩
              refine hK.out _ _ ⟨x0, y0, x1, y1, x2, y2, x3, y3⟩ (fun hHeld => ?_)
              clear hK K
              refine norm_ (a' := ?_) ?_ ?_
              rotate_left
              · show Act.put _ (some 61) _ = _
                simp only [Act.put, List.setIfInBounds_toArray, List.set_cons_zero, List.set_cons_succ, i64_w, i32_w]
                rfl
              refine pure_ (i := 36) (N := some 62) (v := ?_) (a' := ?_) #[true, true, true, true, true, true, true, true, true, true, true, true, true, true, true, true, true, true, true, true, true, true, true, true, true, true, true, true, true, true, true, true, true, true, true, true, true, false, false] rfl rfl (by kernel_rfl) (fun _ _ _ h => h) (Or.inl ⟨by rfl, ?_⟩) ?_ ?_
              rotate_left
              · intro w'
                go_simp
                with_reducible rfl
              rotate_left
              · simp only [Act.put, List.setIfInBounds_toArray, List.set_cons_zero, List.set_cons_succ, i64_w, i32_w]
                rfl
              refine one_ (i := 37) (N := some 8) #[true, true, true, true, true, true, true, true, true, true, true, true, true, true, true, true, true, true, true, true, true, true, true, true, true, true, true, true, true, true, true, true, true, true, true, true, true, true, false] rfl rfl (by kernel_rfl) (by decide) (fun K hK => ?_)
              refine value_ (w1 := ?_) (v := ?_) (by rfl) rfl ?_ ?_
              rotate_left 2
              · go_simp
                constructor
                · rfl
                · rfl
              refine hK.out _ _ ⟨xV0, yV0, xV1, yV1, xV2, yV2, xV3, yV3⟩ (fun hHeld => ?_)
              clear hK K
              refine norm_ (a' := ?_) ?_ ?_
              rotate_left
              · show Act.put _ (some 8) _ = _
                simp only [Act.put, List.setIfInBounds_toArray, List.set_cons_zero, List.set_cons_succ, i64_w, i32_w]
                rfl
              exact norm_ (by simp only [putAll, Act.put, List.setIfInBounds_toArray, List.set_cons_zero, List.set_cons_succ]) (hCont () _ rfl)
            · skip
              refine value_ (w1 := ?_) (v := ?_) (by rfl) rfl ?_ ?_
              rotate_left 2
              · go_simp
                constructor
                · rfl
                · rfl
              refine hK.out _ _ ⟨xV0, yV0, xV1, yV1, xV2, yV2, xV3, yV3⟩ (fun hHeld => ?_)
              clear hK K
              refine norm_ (a' := ?_) ?_ ?_
              rotate_left
              · show Act.put _ (some 8) _ = _
                simp only [Act.put, List.setIfInBounds_toArray, List.set_cons_zero, List.set_cons_succ, i64_w, i32_w]
                rfl
              refine one_ (i := 35) (N := some 61) #[true, true, true, true, true, true, true, true, true, true, true, true, true, true, true, true, true, true, true, true, true, true, true, true, true, true, true, true, true, true, true, true, true, true, true, true, false, true, false] rfl rfl (by kernel_rfl) (by decide) (fun K hK => ?_)
              refine goesC_ Try.func92 (by kernel_rfl) rfl #[.int .i64 ((rd_T25 l0 0).f1), .int .i64 ((rd_T25 l0 1).f1), .int .i64 ((rd_T25 l0 2).f1), .int .i64 ((rd_T25 l0 3).f1)] #[.pointer (some ⟨w1.heap.size, 0, none⟩), .pointer (some ⟨w.heap.size, 0, none⟩)] (by rfl) rfl rfl (by rfl) (by (try simp only [List.map_toArray, List.map_cons, List.map_nil]); first | done | rfl) ?_
              refine (HYV.out).mono ?_
              rintro e w3 ⟨rfl, rfl⟩
              refine ⟨_, rfl, ?_⟩
              refine hK.out _ _ ⟨xV0, yV0, xV1, yV1, xV2, yV2, xV3, yV3⟩ (fun hHeld => ?_)
              clear hK K
              refine norm_ (a' := ?_) ?_ ?_
              rotate_left
              · show Act.put _ (some 61) _ = _
                simp only [Act.put, List.setIfInBounds_toArray, List.set_cons_zero, List.set_cons_succ, i64_w, i32_w]
                rfl
              refine pure_ (i := 36) (N := some 62) (v := ?_) (a' := ?_) #[true, true, true, true, true, true, true, true, true, true, true, true, true, true, true, true, true, true, true, true, true, true, true, true, true, true, true, true, true, true, true, true, true, true, true, true, true, true, false] rfl rfl (by kernel_rfl) (fun _ _ _ h => h) (Or.inl ⟨by rfl, ?_⟩) ?_ ?_
              rotate_left
              · intro w'
                go_simp
                with_reducible rfl
              rotate_left
              · simp only [Act.put, List.setIfInBounds_toArray, List.set_cons_zero, List.set_cons_succ, i64_w, i32_w]
                rfl
              exact norm_ (by simp only [putAll, Act.put, List.setIfInBounds_toArray, List.set_cons_zero, List.set_cons_succ]) (hCont () _ rfl)
          · skip
            refine value_ (w1 := ?_) (v := ?_) (by rfl) rfl ?_ ?_
            rotate_left 2
            · go_simp
              constructor
              · rfl
              · rfl
            refine hK.out _ _ ⟨xV0, yV0, xV1, yV1, xV2, yV2, xV3, yV3⟩ (fun hHeld => ?_)
            clear hK K
            refine norm_ (a' := ?_) ?_ ?_
            rotate_left
            · show Act.put _ (some 8) _ = _
              simp only [Act.put, List.setIfInBounds_toArray, List.set_cons_zero, List.set_cons_succ, i64_w, i32_w]
              rfl
            refine one_ (i := 17) (N := some 43) #[true, true, true, true, true, true, true, true, true, true, true, true, true, true, true, true, true, true, true, true, true, true, true, true, true, true, true, true, true, true, true, true, true, true, true, false, false, true, false] rfl rfl (by kernel_rfl) (by decide) (fun K hK => ?_)
            refine goesC_ Try.func92 (by kernel_rfl) rfl #[.int .i64 ((rd_T25 l0 0).f0), .int .i64 ((rd_T25 l0 1).f0), .int .i64 ((rd_T25 l0 2).f0), .int .i64 ((rd_T25 l0 3).f0)] #[.pointer (some ⟨w1.heap.size, 0, none⟩), .pointer (some ⟨w.heap.size, 0, none⟩)] (by rfl) rfl rfl (by rfl) (by (try simp only [List.map_toArray, List.map_cons, List.map_nil]); first | done | rfl) ?_
            refine (HXV.out).mono ?_
            rintro e w3 ⟨rfl, rfl⟩
            refine ⟨_, rfl, ?_⟩
            refine hK.out _ _ ⟨xV0, yV0, xV1, yV1, xV2, yV2, xV3, yV3⟩ (fun hHeld => ?_)
            clear hK K
            refine norm_ (a' := ?_) ?_ ?_
            rotate_left
            · show Act.put _ (some 43) _ = _
              simp only [Act.put, List.setIfInBounds_toArray, List.set_cons_zero, List.set_cons_succ, i64_w, i32_w]
              rfl
            refine one_ (i := 35) (N := some 61) #[true, true, true, true, true, true, true, true, true, true, true, true, true, true, true, true, true, true, true, true, true, true, true, true, true, true, true, true, true, true, true, true, true, true, true, true, false, true, false] rfl rfl (by kernel_rfl) (by decide) (fun K hK => ?_)
            refine goesC_ Try.func92 (by kernel_rfl) rfl #[.int .i64 ((rd_T25 l0 0).f1), .int .i64 ((rd_T25 l0 1).f1), .int .i64 ((rd_T25 l0 2).f1), .int .i64 ((rd_T25 l0 3).f1)] #[.pointer (some ⟨w1.heap.size, 0, none⟩), .pointer (some ⟨w.heap.size, 0, none⟩)] (by rfl) rfl rfl (by rfl) (by (try simp only [List.map_toArray, List.map_cons, List.map_nil]); first | done | rfl) ?_
            refine (HYV.out).mono ?_
            rintro e w3 ⟨rfl, rfl⟩
            refine ⟨_, rfl, ?_⟩
            refine hK.out _ _ ⟨xV0, yV0, xV1, yV1, xV2, yV2, xV3, yV3⟩ (fun hHeld => ?_)
            clear hK K
            refine norm_ (a' := ?_) ?_ ?_
            rotate_left
            · show Act.put _ (some 61) _ = _
              simp only [Act.put, List.setIfInBounds_toArray, List.set_cons_zero, List.set_cons_succ, i64_w, i32_w]
              rfl
            refine pure_ (i := 36) (N := some 62) (v := ?_) (a' := ?_) #[true, true, true, true, true, true, true, true, true, true, true, true, true, true, true, true, true, true, true, true, true, true, true, true, true, true, true, true, true, true, true, true, true, true, true, true, true, true, false] rfl rfl (by kernel_rfl) (fun _ _ _ h => h) (Or.inl ⟨by rfl, ?_⟩) ?_ ?_
            rotate_left
            · intro w'
              go_simp
              with_reducible rfl
            rotate_left
            · simp only [Act.put, List.setIfInBounds_toArray, List.set_cons_zero, List.set_cons_succ, i64_w, i32_w]
              rfl
            exact norm_ (by simp only [putAll, Act.put, List.setIfInBounds_toArray, List.set_cons_zero, List.set_cons_succ]) (hCont () _ rfl)
        intro s w' hw'
        rw [hw']
        clear hw' w'
        have hHeld : V.cell? ad = some (.int .i64 ((rd_T25 l0 0).f0)) ∧ V.cell? ⟨ad.block, ad.off + 1, none⟩ = some (.int .i64 ((rd_T25 l0 0).f1)) ∧ V.cell? ⟨ad.block, ad.off + 2, none⟩ = some (.int .i64 ((rd_T25 l0 1).f0)) ∧ V.cell? ⟨ad.block, ad.off + 2 + 1, none⟩ = some (.int .i64 ((rd_T25 l0 1).f1)) ∧ V.cell? ⟨ad.block, ad.off + 4, none⟩ = some (.int .i64 ((rd_T25 l0 2).f0)) ∧ V.cell? ⟨ad.block, ad.off + 4 + 1, none⟩ = some (.int .i64 ((rd_T25 l0 2).f1)) ∧ V.cell? ⟨ad.block, ad.off + 6, none⟩ = some (.int .i64 ((rd_T25 l0 3).f0)) ∧ V.cell? ⟨ad.block, ad.off + 6 + 1, none⟩ = some (.int .i64 ((rd_T25 l0 3).f1)) := ⟨xV0, yV0, xV1, yV1, xV2, yV2, xV3, yV3⟩
        refine norm_ (a' := ?_) ?_ ?_
        rotate_left
        · simp only [putAll, Act.put, List.setIfInBounds_toArray, List.set_cons_zero, List.set_cons_succ]
          rfl
        refine last_ (i := 38) (N := none) #[true, true, true, true, true, true, true, true, true, true, true, true, true, true, true, true, true, true, true, true, true, true, true, true, true, true, true, true, true, true, true, true, true, true, true, true, true, true, true] rfl rfl (by kernel_rfl) (by decide) (fun K hK => ?_)
        refine skip_ (w1 := ?_) (by rfl) rfl ?_ ?_
        rotate_left
        · go_simp
          rfl
        refine hK.out _ _ ?_
        clear hK K
        refine done_ (by kernel_rfl) ?_
        -- end of region
        have hsz : ((V.setCell ⟨W5.heap.size, 0, none⟩ (.int .i64 x)).setCell ⟨W5.heap.size, 1, none⟩ (.int .i64 y)).heap.size = V.heap.size := by simp
        have hneR : w.heap.size + 1 ≠ W5.heap.size := Nat.ne_of_lt (blk_lt b1.out)
        have hge : w.heap.size ≤ W5.heap.size := HB.out.size
        go_wp2_with fail
        obtain ⟨W6, hW⟩ : ∃ W6 : World, ((V.setCell ⟨W5.heap.size, 0, none⟩ (.int .i64 x)).setCell ⟨W5.heap.size, 1, none⟩ (.int .i64 y)).alloc (.cells #[.int .i64 x, .int .i64 y] 3) = W6 := ⟨_, rfl⟩
        rw [hW]
        have b3 : Aside0 (W6.heap[W5.heap.size]? = some (.cells #[.int .i64 x, .int .i64 y] 25 (0, 0))) := ⟨hW ▸ blk_alloc (blk_put (blk_put bV3.out 0 _ rfl) 1 _ rfl) _⟩
        have b4 : Aside0 (W6.heap[V.heap.size]? = some (.cells #[.int .i64 x, .int .i64 y] 3 (0, 0))) := ⟨hW ▸ hsz ▸ blk_new _ _⟩
        replace b1 : Aside0 (W6.heap[w.heap.size + 1]? = some (.cells #[.int .i64 0, .int .i64 0] 25 (0, 0))) := ⟨hW ▸ blk_alloc (blk_far (blk_far bV1.out hneR _) hneR _) _⟩
        replace HB : Aside0 (Below w.heap.size w W6) := ⟨hW ▸ below_alloc (below_set (below_set HV.out hge) hge) _⟩
        clear hW hsz hge hneR cV0 cV1 fV0 fV1 xV0 yV0 xV1 yV1 xV2 yV2 xV3 yV3 x0 y0 x1 y1 x2 y2 x3 y3
        refine (impl_areFixed.calls k _ 2 [x, y] t3 _ (curve_lit x y b4.out) (Nat.le_refl _) E3.out).mono ?_
        rintro e w7 ⟨rfl, ⟨n7, rfl⟩⟩
        have d0 : (W6.drewN n7).cell? ⟨W5.heap.size, 0, none⟩ = some (.int .i64 x) := (blk_cell (blk_drewN b3.out n7) 0).trans rfl
        have d1 : (W6.drewN n7).cell? ⟨W5.heap.size, 1, none⟩ = some (.int .i64 y) := (blk_cell (blk_drewN b3.out n7) 1).trans rfl
        have g0 : (W6.drewN n7).cell? ⟨w.heap.size + 1, 0, none⟩ = some (.int .i64 0) := (blk_cell (blk_drewN b1.out n7) 0).trans rfl
        have g1 : (W6.drewN n7).cell? ⟨w.heap.size + 1, 1, none⟩ = some (.int .i64 0) := (blk_cell (blk_drewN b1.out n7) 1).trans rfl
        have f0 : (W6.drewN n7).frozen? ⟨w.heap.size + 1, 0, none⟩ = false := blk_frozen (blk_drewN b1.out n7) 0
        have f1 : (W6.drewN n7).frozen? ⟨w.heap.size + 1, 1, none⟩ = false := blk_frozen (blk_drewN b1.out n7) 1
        cases t3
        · simp only [Bool.false_eq_true, if_false, Option.some.injEq, Prod.mk.injEq] at h
          obtain ⟨rfl, rfl, rfl⟩ := h
          have HF := Aside0.mk (below_set (j := 1) (v := .int .i64 0) (below_set (j := 0) (v := .int .i64 0) (pw_below_drewN HB.out n7) (g := w.heap.size + 1) (by omega)) (g := w.heap.size + 1) (by omega))
          go_wp2
          exact bodyPost_ret (results_ct rfl _ _ (w.heap.size + 1) 25 #[.int .i64 0, .int .i64 0] (0, 0) _ rfl (blk_put (blk_put (blk_drewN b1.out n7) 0 _ rfl) 1 _ rfl) Try.underlying25 rfl (by kernel_rfl)) rfl ⟨rfl, HF.out⟩
        · simp only [if_true, Option.some.injEq, Prod.mk.injEq] at h
          obtain ⟨rfl, rfl, rfl⟩ := h
          have HF := Aside0.mk (below_set (j := 1) (v := .int .i64 y) (below_set (j := 0) (v := .int .i64 x) (pw_below_drewN HB.out n7) (g := w.heap.size + 1) (by omega)) (g := w.heap.size + 1) (by omega))
          go_wp2
          exact bodyPost_ret (results_ct rfl _ _ (w.heap.size + 1) 25 #[.int .i64 x, .int .i64 y] (0, 0) _ rfl (blk_put (blk_put (blk_drewN b1.out n7) 0 _ rfl) 1 _ rfl) Try.underlying25 rfl (by kernel_rfl)) rfl ⟨rfl, HF.out⟩
  · rw [if_neg c1] at h
    simp only [Option.some.injEq, Prod.mk.injEq] at h
    obtain ⟨rfl, rfl, rfl⟩ := h
    have c1b : ((l0.length : Int) != 4) = true := bne_iff_ne.mpr (by omega)
    have hB := Aside0.mk (curve_blocks (w := w) (o1 := .cells #[.int .i64 a1] 3 (0, 0)) (o2 := .cells #[.int .i64 0, .int .i64 0] 25 (0, 0)) rfl)
    go_enter Try.func18, Try.ntmps18
    go_wp2
    exact bodyPost_ret (results_ct rfl _ _ (w.heap.size + 1) 25 #[.int .i64 0, .int .i64 0] (0, 0) _ rfl hB.out.2.1 Try.underlying25 rfl (by kernel_rfl)) rfl ⟨rfl, hB.out.2.2⟩

end Go.Proofs.Ytdbgnoolokfafaa.HFnExactCurveAt
