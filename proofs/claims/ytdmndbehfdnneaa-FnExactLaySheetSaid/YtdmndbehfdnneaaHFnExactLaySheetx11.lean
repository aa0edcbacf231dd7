-- Printed by a program of this session over the kit's print; functions that the print does not take stand here by hand.
import Derived.Test.YtdmndbehfdnneaaHFnExactLaySheetx0
import Derived.Test.YtdmndbehfdnneaaHFnExactLaySheetx9
import Derived.Test.YtdmndbehfdnneaaHFnExactLaySheetx10
namespace Go.Proofs.Ytdmndbehfdnneaa.HFnExactLaySheet
open Go.RowKit Go.Proofs.YtdmndbehfdnneaaW.PrintWords Go.Proofs.YtdmndbehfdnneaaW.PrintLast Go.Proofs.YtdmndbehfdnneaaW.PrintMore
attribute [local go_sem] max2_int min2_int max_two min_two max_three min_three max_four min_four   -- for this text's walks alone
set_option linter.unusedVariables false
set_option linter.unusedSimpArgs false

/-! ### spec_LaySheet: function 47 -/
mutual
def spec_LaySheet.j0 : Nat → Int → Bool → Int → Int → List (S54) → Int → Int → List (S54) → Option (Int × Int × (List (S54)) × Bool)
  | 0, _, _, _, _, _, _, _, _ => none
  | k + 1, x2, x37, x155000, x155001, x155002, x156000, x156001, x156002 => if x37 = true then (some (0, 0, ([] : List (S54)), false)) else (spec_LaySheet.l0 k x2 x155002 (x155002.length : Int) 0 x156000 x156001 x156002 x155000 x155001 ([] : List (S54)))
def spec_LaySheet.l0 : Nat → Int → List (S54) → Int → Int → Int → Int → List (S54) → Int → Int → List (S54) → Option (Int × Int × (List (S54)) × Bool)
  | 0, _, _, _, _, _, _, _, _, _, _ => none
  | k + 1, x2, x45, x46, x47, x156000, x156001, x156002, x161000, x161001, x161002 => if x47 < x46 then (if 0 ≤ x47 then (if x47 < (x45.length : Int) then (if x47 < (x156002.length : Int) then ((spec_l12Thin.f ((rd_T54 x156002 x47).f0) ((rd_T54 x156002 x47).f1) ((rd_T54 x156002 x47).f2) ((rd_T54 x156002 x47).f3) x2).bind fun bt164 => ((spec_l12Over.f bt164.1 bt164.2.1 bt164.2.2.1 bt164.2.2.2 ((rd_T54 x45 x47).f0) ((rd_T54 x45 x47).f1) ((rd_T54 x45 x47).f2) ((rd_T54 x45 x47).f3)).bind fun bt168 => (if x161002.length < 4398046511104 then (spec_LaySheet.l0 k x2 x45 x46 (wrap64 (x47 + 1)) x156000 x156001 x156002 x161000 x161001 (x161002 ++ [(⟨bt168.1, bt168.2.1, bt168.2.2.1, bt168.2.2.2⟩ : S54)])) else (none)))) else (none)) else (none)) else (none)) else (some (x161000, x161001, x161002, true))
end
def spec_LaySheet.f (k : Nat) (a0_0 : Int) (a0_1 : Int) (l0_2 : List (S54)) (a1_0 : Int) (a1_1 : Int) (l1_2 : List (S54)) (a2 : Int) : Option (Int × Int × (List (S54)) × Bool) := (spec_GoodSheet.f k a0_0 a0_1 l0_2).bind fun t157 => (if t157 = true then ((spec_GoodSheet.f k a1_0 a1_1 l1_2).bind fun t158 => (if t158 = true then (if a0_0 = a1_0 then (if a0_1 = a1_1 then ((spec_l12Part.f a2).bind fun t159 => (spec_LaySheet.j0 k a2 (!t159) a0_0 a0_1 l0_2 a1_0 a1_1 l1_2)) else (spec_LaySheet.j0 k a2 true a0_0 a0_1 l0_2 a1_0 a1_1 l1_2)) else (spec_LaySheet.j0 k a2 true a0_0 a0_1 l0_2 a1_0 a1_1 l1_2)) else (spec_LaySheet.j0 k a2 true a0_0 a0_1 l0_2 a1_0 a1_1 l1_2))) else (spec_LaySheet.j0 k a2 true a0_0 a0_1 l0_2 a1_0 a1_1 l1_2))
theorem spec_LaySheet.mono_l : ∀ k, (∀ y0 y1 y2 y3 y4 y5 y6 y7, LeO (spec_LaySheet.j0 k y0 y1 y2 y3 y4 y5 y6 y7) (spec_LaySheet.j0 (k + 1) y0 y1 y2 y3 y4 y5 y6 y7)) ∧ (∀ y0 y1 y2 y3 y4 y5 y6 y7 y8 y9, LeO (spec_LaySheet.l0 k y0 y1 y2 y3 y4 y5 y6 y7 y8 y9) (spec_LaySheet.l0 (k + 1) y0 y1 y2 y3 y4 y5 y6 y7 y8 y9))
  | 0 => ⟨fun _ _ _ _ _ _ _ _ r h => by simp [spec_LaySheet.j0] at h, fun _ _ _ _ _ _ _ _ _ _ r h => by simp [spec_LaySheet.l0] at h⟩
  | k + 1 => by
    obtain ⟨ih0, ih1⟩ := spec_LaySheet.mono_l k
    refine ⟨?_, ?_⟩
    · intro y0 y1 y2 y3 y4 y5 y6 y7
      unfold spec_LaySheet.j0
      repeat' first
      | (with_reducible exact ih0 _ _ _ _ _ _ _ _)
      | (with_reducible exact ih1 _ _ _ _ _ _ _ _ _ _)
      | (with_reducible exact spec_GoodSheet.mono _ _ _ _)
      | (with_reducible exact LeO.refl _)
      | (with_reducible exact LeO.none _)
      | (with_reducible refine LeO.ite ?_ ?_)
      | (with_reducible refine LeO.bind ?_ (fun _ => ?_))
      | exact ih0 _ _ _ _ _ _ _ _
      | exact ih1 _ _ _ _ _ _ _ _ _ _
      | exact spec_GoodSheet.mono _ _ _ _
      | exact LeO.none _
      | refine LeO.ite ?_ ?_
      | refine LeO.bind ?_ (fun _ => ?_)
    · intro y0 y1 y2 y3 y4 y5 y6 y7 y8 y9
      unfold spec_LaySheet.l0
      repeat' first
      | (with_reducible exact ih0 _ _ _ _ _ _ _ _)
      | (with_reducible exact ih1 _ _ _ _ _ _ _ _ _ _)
      | (with_reducible exact spec_GoodSheet.mono _ _ _ _)
      | (with_reducible exact LeO.refl _)
      | (with_reducible exact LeO.none _)
      | (with_reducible refine LeO.ite ?_ ?_)
      | (with_reducible refine LeO.bind ?_ (fun _ => ?_))
      | exact ih0 _ _ _ _ _ _ _ _
      | exact ih1 _ _ _ _ _ _ _ _ _ _
      | exact spec_GoodSheet.mono _ _ _ _
      | exact LeO.none _
      | refine LeO.ite ?_ ?_
      | refine LeO.bind ?_ (fun _ => ?_)
theorem spec_LaySheet.mono : ∀ a0 a1 a2 a3 a4 a5 a6 k, LeO (spec_LaySheet.f k a0 a1 a2 a3 a4 a5 a6) (spec_LaySheet.f (k + 1) a0 a1 a2 a3 a4 a5 a6) := by
  intro a0 a1 a2 a3 a4 a5 a6 k
  obtain ⟨ih0, ih1⟩ := spec_LaySheet.mono_l k
  unfold spec_LaySheet.f
  repeat' first
      | (with_reducible exact ih0 _ _ _ _ _ _ _ _)
      | (with_reducible exact ih1 _ _ _ _ _ _ _ _ _ _)
      | (with_reducible exact spec_GoodSheet.mono _ _ _ _)
      | (with_reducible exact LeO.refl _)
      | (with_reducible exact LeO.none _)
      | (with_reducible refine LeO.ite ?_ ?_)
      | (with_reducible refine LeO.bind ?_ (fun _ => ?_))
      | exact ih0 _ _ _ _ _ _ _ _
      | exact ih1 _ _ _ _ _ _ _ _ _ _
      | exact spec_GoodSheet.mono _ _ _ _
      | exact LeO.none _
      | refine LeO.ite ?_ ?_
      | refine LeO.bind ?_ (fun _ => ?_)
def spec_LaySheet.T7 : Bool × List (List Nat × List Nat) := (true, [([], []), ([0], [0]), ([], []), ([2], [2]), ([], []), ([3, 4], [3, 4]), ([5], [5]), ([], []), ([6, 7], [6, 7]), ([], []), ([8, 9, 8], [8, 9]), ([10], [10]), ([1, 11, 10], [1, 11]), ([0, 1, 2, 3, 4, 5, 6, 7, 8, 9, 10, 11, 12], []), ([13, 12, 12, 0, 1, 2, 3, 4, 5, 6, 7, 8, 9, 10, 11, 12], [12, 13])])
def spec_LaySheet.B7 : List Nat := [0, 1, 0, 4, 0, 28, 60, 0, 252, 0, 1020, 2044, 4095, 8191, 16383]
theorem spec_LaySheet.tab7 : rtab .any (opsOf Try.f47 7) = spec_LaySheet.T7 := by kernel_rfl
theorem spec_LaySheet.bits7 : waitsOk spec_LaySheet.T7.2 spec_LaySheet.B7 = true := by kernel_rfl
theorem z5907.bk {g : Nat} {o : Obj} {W V : World} (h : Aside0 (W.heap[g]? = some o)) (k : W.heap[g]? = some o → V.heap[g]? = some o := by intro h_; (with_reducible repeat (first | refine blk_drewN ?_ _ | refine blk_drew ?_ | refine blk_alloc ?_ _)); exact h_) : V.heap[g]? = some o := k h.out
theorem z5907.bb {g : Nat} {o : Obj} {W V w1 : World} (h : Aside0 (W.heap[g]? = some o)) (hb : Below V.heap.size V w1) (k : W.heap[g]? = some o → V.heap[g]? = some o := by intro h_; (with_reducible repeat (first | refine blk_drewN ?_ _ | refine blk_drew ?_ | refine blk_alloc ?_ _)); exact h_) : Aside0 (w1.heap[g]? = some o) := ⟨blk_below (k h.out) hb⟩
theorem z5907.bf {g : Nat} {o : Obj} {W V : World} (h : Aside0 (W.heap[g]? = some o)) (k : W.heap[g]? = some o → V.heap[g]? = some o := by intro h_; (with_reducible repeat (first | refine blk_drewN ?_ _ | refine blk_drew ?_ | refine blk_alloc ?_ _ | refine blk_far ?_ (Aside0.out (by assumption)) _)); exact h_) : V.heap[g]? = some o := k h.out
theorem z5907.rl {T : Type} {d : Kd T} {e : TypeId} {base : Nat} {ok : Nat → Prop} {v : Value} {xs : List T} {W V : World} (h : d.R e W base ok v xs) (k : d.R e W base ok v xs → d.R e V base ok v xs := by intro h_; (with_reducible repeat (first | apply Kd.R_alloc | apply Kd.R_drewN | apply Kd.R_drew)); exact h_) : d.R e V base ok v xs := k h
theorem z5907.rb {T : Type} {d : Kd T} {e : TypeId} {base : Nat} {ok : Nat → Prop} {v : Value} {xs : List T} {W V w1 : World} (h : Aside0 (d.R e W base ok v xs)) (hb : Below V.heap.size V w1) (k : d.R e W base ok v xs → d.R e V base ok v xs := by intro h_; (with_reducible repeat (first | apply Kd.R_alloc | apply Kd.R_drewN | apply Kd.R_drew)); exact h_) : Aside0 (d.R e w1 base ok v xs) := ⟨Kd.R_below (k h.out) hb⟩
theorem z5907.ht {g : Nat} {o : Obj} {W V : World} {b : Nat} (h : Aside0 (W.heap[g]? = some o)) (hg : b = V.heap.size) (k : W.heap[g]? = some o → V.heap[g]? = some o := by intro h_; (with_reducible repeat (first | refine blk_drewN ?_ _ | refine blk_drew ?_ | refine blk_alloc ?_ _)); exact h_) : Aside0 (g ≠ b) := ⟨by rw [hg]; exact Nat.ne_of_lt (blk_lt (k h.out))⟩
theorem z5907.hu {g : Nat} {o : Obj} {W V : World} {b : Nat} (h : Aside0 (W.heap[g]? = some o)) (hg : b = V.heap.size) (k : W.heap[g]? = some o → V.heap[g]? = some o := by intro h_; (with_reducible repeat (first | refine blk_drewN ?_ _ | refine blk_drew ?_ | refine blk_alloc ?_ _)); exact h_) : Aside0 (b ≠ g) := ⟨by rw [hg]; exact Nat.ne_of_gt (blk_lt (k h.out))⟩
theorem z5907.gl {P : Program} {ops : Array Oper} {Q : Exit → Act → World → Prop} {rest : List Oper} {oi : Oper} {a : Act} {w : World} (N : Option Tmp) (hd : oi.dst = N) (hg : oi.guard = none) {f : FuncId} {fn : Func} {av : Array Operand} {ts : Array TypeId} (hf : P.funcs[f]? = some fn) (hname : (fn.name == "runtime.NumGoroutine") = false) (hb : fn.body.isSome = true) (args : Array Value) (hop : oi.op = .call { callee := .value (.func f), args := av, argTypes := ts }) (h : Calls P f args w fun e w' => ∃ v, e = .returned v ∧ wpList P ops Q rest (a.put N v) w') (hargs : av.map a.eval = args := by (try simp only [List.map_toArray, List.map_cons, List.map_nil]); first | done | rfl | (simp only [List.length_drop, List.length_take]; rfl)) : wpList P ops Q (oi :: rest) a w := goesL_ N hd hg hf hname hb args hop hargs h
theorem z5907.gs {P : Program} {ops : Array Oper} {Q : Exit → Act → World → Prop} {oi : Oper} {N : Option Tmp} {a : Act} {w : World} {K : Act → World → Prop} {f : FuncId} {fn : Func} {av : Array Operand} {ts : Array TypeId} (hf : P.funcs[f]? = some fn) (hname : (fn.name == "runtime.NumGoroutine") = false) (hb : fn.body.isSome = true) (args : Array Value) (hw : Region.wanted oi (yielded ops a.tmps) = true) (hN : oi.dst = N) (hop : oi.op = .call { callee := .value (.func f), args := av, argTypes := ts }) (h : Calls P f args w fun e w' => ∃ v, e = .returned v ∧ K (a.put N v) w') (hargs : av.map a.eval = args := by (try simp only [List.map_toArray, List.map_cons, List.map_nil]); first | done | rfl | (simp only [List.length_drop, List.length_take]; rfl)) : if Region.wanted oi (yielded ops a.tmps) = true then Oper.wp P oi a w K Q else K (a.put N undef) w := goes_ hf hname hb args hw hN hop hargs h
theorem z5907.bl {w W V : World} (h : Aside0 (Below w.heap.size w W)) (k : Below w.heap.size w W → Below w.heap.size w V := by intro h_; repeat (first | (with_reducible first | exact h_ | apply below_alloc | apply pw_below_drewN | apply below_drew1 | refine below_set ?_ (Aside0.out (by assumption))) | exact h_)) : Below w.heap.size w V := k h.out
set_option maxHeartbeats 8000000 in
set_option maxRecDepth 100000 in
theorem spec_LaySheet.calls (k : Nat) (a0_0 : Int) (a0_1 : Int) (A0_2 : Option Addr) (c0_2 : Nat) (l0_2 : List (S54)) (a1_0 : Int) (a1_1 : Int) (A1_2 : Option Addr) (c1_2 : Nat) (l1_2 : List (S54)) (a2 : Int) (r1 : Int) (r2 : Int) (r3 : List (S54)) (r4 : Bool) (w : World) (hr0_2 : Kd.C k54 w A0_2 l0_2.length l0_2) (hc0_2 : l0_2.length ≤ c0_2) (hr1_2 : Kd.C k54 w A1_2 l1_2.length l1_2) (hc1_2 : l1_2.length ≤ c1_2) (h : spec_LaySheet.f k a0_0 a0_1 l0_2 a1_0 a1_1 l1_2 a2 = some (r1, r2, r3, r4)) :
    Calls Try.prog 47 #[.agg #[.int .i64 a0_0, .int .i64 a0_1, .slice A0_2 l0_2.length c0_2], .agg #[.int .i64 a1_0, .int .i64 a1_1, .slice A1_2 l1_2.length c1_2], .int .i64 a2] w fun e w' => ∃ v2_ : Value, e = .returned (.tuple #[.agg #[.int .i64 r1, .int .i64 r2, v2_], .bool r4]) ∧ Kd.R k54 54 w' w.heap.size (fun _ => True) v2_ r3 ∧ Below w.heap.size w w' := by
 have hu70 := Try.underlying70
 have hu54 := Try.underlying54
 have HR0_2 := Aside0.mk hr0_2
 have HC0_2 := Aside0.mk hc0_2
 clear hr0_2 hc0_2
 have HR1_2 := Aside0.mk hr1_2
 have HC1_2 := Aside0.mk hc1_2
 clear hr1_2 hc1_2
 have HB := Aside0.mk (Below.refl w.heap.size w)
 have H : ((spec_GoodSheet.f k a0_0 a0_1 l0_2).bind fun t157 => (if t157 = true then ((spec_GoodSheet.f k a1_0 a1_1 l1_2).bind fun t158 => (if t158 = true then (if a0_0 = a1_0 then (if a0_1 = a1_1 then ((spec_l12Part.f a2).bind fun t159 => (spec_LaySheet.j0 k a2 (!t159) a0_0 a0_1 l0_2 a1_0 a1_1 l1_2)) else (spec_LaySheet.j0 k a2 true a0_0 a0_1 l0_2 a1_0 a1_1 l1_2)) else (spec_LaySheet.j0 k a2 true a0_0 a0_1 l0_2 a1_0 a1_1 l1_2)) else (spec_LaySheet.j0 k a2 true a0_0 a0_1 l0_2 a1_0 a1_1 l1_2))) else (spec_LaySheet.j0 k a2 true a0_0 a0_1 l0_2 a1_0 a1_1 l1_2))) = some (r1, r2, r3, r4) := h
 clear h
 have HC4 := Aside0.mk H
 clear H
 go_enter Try.func47, Try.ntmps47
 go_upto_region 1 with (first | ((with_reducible refine gate_dst (N := 3) rfl ?_); refine box_event ?hg (N := 3) ?hd (cs := #[.int .i64 a0_0, .int .i64 a0_1, .slice A0_2 l0_2.length c0_2]) (t := 70) ?hr ?_; (case hd => rfl); (case hg => rfl); (case hr => first | (go_simp; done) | (go_simp; rfl)); intro gb154 hg w5 hbox hb; have BK154 := Aside0.mk (hbox); have GW154 := Aside0.mk ((by rw [hg]; exact (below_size (z5907.bl HB)) : w.heap.size ≤ gb154)); have GE154 := Aside0.mk ((by rw [hg]; exact (below_size (z5907.bl HB)) : w.heap.size ≤ gb154)); replace HB := Aside0.mk (below_step (z5907.bl HB) hb); clear hb hbox hg) | ((with_reducible refine gate_dst (N := 4) rfl ?_); refine box_event ?hg (N := 4) ?hd (cs := #[.int .i64 a1_0, .int .i64 a1_1, .slice A1_2 l1_2.length c1_2]) (t := 70) ?hr ?_; (case hd => rfl); (case hg => rfl); (case hr => first | (go_simp; done) | (go_simp; rfl)); intro gb155 hg w6 hbox hb; have BK155 := Aside0.mk (hbox); have GW155 := Aside0.mk ((by rw [hg]; exact (below_size (z5907.bl HB)) : w.heap.size ≤ gb155)); have GE155 := Aside0.mk ((by rw [hg]; exact (below_size (z5907.bl HB)) : w.heap.size ≤ gb155)); replace HB := Aside0.mk (below_step (z5907.bl HB) hb); have NB154_155 := z5907.ht BK154 hg; have NB155_154 := z5907.hu BK154 hg; replace BK154 := z5907.bb BK154 hb; clear hb hbox hg) | ((with_reducible refine gate_dst (N := 6) rfl ?_); refine box_event ?hg (N := 6) ?hd (cs := #[.int .i64 0, .int .i64 0, .slice none 0 0]) (t := 70) ?hr ?_; (case hd => rfl); (case hg => rfl); (case hr => first | (go_simp; done) | (go_simp; rfl)); intro gb156 hg w7 hbox hb; have BK156 := Aside0.mk (hbox); have GW156 := Aside0.mk ((by rw [hg]; exact (below_size (z5907.bl HB)) : w.heap.size ≤ gb156)); have GE156 := Aside0.mk ((by rw [hg]; exact (below_size (z5907.bl HB)) : w.heap.size ≤ gb156)); replace HB := Aside0.mk (below_step (z5907.bl HB) hb); have NB154_156 := z5907.ht BK154 hg; have NB156_154 := z5907.hu BK154 hg; replace BK154 := z5907.bb BK154 hb; have NB155_156 := z5907.ht BK155 hg; have NB156_155 := z5907.hu BK155 hg; replace BK155 := z5907.bb BK155 hb; clear hb hbox hg))
 (try simp only [Act.put, List.setIfInBounds_toArray, List.set_cons_zero, List.set_cons_succ])
 go_cut [37] (fun v37 wc => ∃ (kq : Nat) (x37_3 : Bool), v37 = .bool x37_3 ∧ Aside0 (spec_LaySheet.j0 kq a2 x37_3 a0_0 a0_1 l0_2 a1_0 a1_1 l1_2 = some (r1, r2, r3, r4)) ∧ Aside0 (kq ≤ k) ∧ Aside0 (wc.heap[gb154]? = some (.cells #[.int .i64 a0_0, .int .i64 a0_1, (.slice A0_2 l0_2.length c0_2)] 70 (0, 0))) ∧ Aside0 (wc.heap[gb155]? = some (.cells #[.int .i64 a1_0, .int .i64 a1_1, (.slice A1_2 l1_2.length c1_2)] 70 (0, 0))) ∧ Aside0 (wc.heap[gb156]? = some (.cells #[.int .i64 0, .int .i64 0, (.slice none 0 0)] 70 (0, 0))) ∧ Aside0 (Below w.heap.size w wc))
 case first =>
  have H := HC4.out
  clear HC4
  replace H := Option.bind_eq_some_iff.mp H
  obtain ⟨t157, A80, H⟩ := H
  replace H : (if t157 = true then ((spec_GoodSheet.f k a1_0 a1_1 l1_2).bind fun t158 => (if t158 = true then (if a0_0 = a1_0 then (if a0_1 = a1_1 then ((spec_l12Part.f a2).bind fun t159 => (spec_LaySheet.j0 k a2 (!t159) a0_0 a0_1 l0_2 a1_0 a1_1 l1_2)) else (spec_LaySheet.j0 k a2 true a0_0 a0_1 l0_2 a1_0 a1_1 l1_2)) else (spec_LaySheet.j0 k a2 true a0_0 a0_1 l0_2 a1_0 a1_1 l1_2)) else (spec_LaySheet.j0 k a2 true a0_0 a0_1 l0_2 a1_0 a1_1 l1_2))) else (spec_LaySheet.j0 k a2 true a0_0 a0_1 l0_2 a1_0 a1_1 l1_2)) = some (r1, r2, r3, r4) := H
  have A8 := Aside0.mk A80
  clear A80
  by_cases c9 : t157 = true
  ·subst c9
   have H1 : ((spec_GoodSheet.f k a1_0 a1_1 l1_2).bind fun t158 => (if t158 = true then (if a0_0 = a1_0 then (if a0_1 = a1_1 then ((spec_l12Part.f a2).bind fun t159 => (spec_LaySheet.j0 k a2 (!t159) a0_0 a0_1 l0_2 a1_0 a1_1 l1_2)) else (spec_LaySheet.j0 k a2 true a0_0 a0_1 l0_2 a1_0 a1_1 l1_2)) else (spec_LaySheet.j0 k a2 true a0_0 a0_1 l0_2 a1_0 a1_1 l1_2)) else (spec_LaySheet.j0 k a2 true a0_0 a0_1 l0_2 a1_0 a1_1 l1_2))) = some (r1, r2, r3, r4) := by rw [if_pos rfl] at H; exact H
   clear H
   have H := H1
   clear H1
   replace H := Option.bind_eq_some_iff.mp H
   obtain ⟨t158, A100, H⟩ := H
   replace H : (if t158 = true then (if a0_0 = a1_0 then (if a0_1 = a1_1 then ((spec_l12Part.f a2).bind fun t159 => (spec_LaySheet.j0 k a2 (!t159) a0_0 a0_1 l0_2 a1_0 a1_1 l1_2)) else (spec_LaySheet.j0 k a2 true a0_0 a0_1 l0_2 a1_0 a1_1 l1_2)) else (spec_LaySheet.j0 k a2 true a0_0 a0_1 l0_2 a1_0 a1_1 l1_2)) else (spec_LaySheet.j0 k a2 true a0_0 a0_1 l0_2 a1_0 a1_1 l1_2)) = some (r1, r2, r3, r4) := H
   have A10 := Aside0.mk A100
   clear A100
   by_cases c11 : t158 = true
   ·subst c11
    have H1 : (if a0_0 = a1_0 then (if a0_1 = a1_1 then ((spec_l12Part.f a2).bind fun t159 => (spec_LaySheet.j0 k a2 (!t159) a0_0 a0_1 l0_2 a1_0 a1_1 l1_2)) else (spec_LaySheet.j0 k a2 true a0_0 a0_1 l0_2 a1_0 a1_1 l1_2)) else (spec_LaySheet.j0 k a2 true a0_0 a0_1 l0_2 a1_0 a1_1 l1_2)) = some (r1, r2, r3, r4) := by rw [if_pos rfl] at H; exact H
    clear H
    have H := H1
    clear H1
    by_cases c12 : a0_0 = a1_0
    ·rw [if_pos c12] at H
     have c12b0 : (a0_0 == a1_0) = true := beq_iff_eq.mpr c12
     have c12b1 : (a0_0 != a1_0) = false := bne_eq_false_iff_eq.mpr c12
     clear c12
     (first | rw [c12b0] | (simp only [i64_w, i32_w]; rw [c12b0]) | skip)
     by_cases c13 : a0_1 = a1_1
     ·rw [if_pos c13] at H
      have c13b0 : (a0_1 == a1_1) = true := beq_iff_eq.mpr c13
      have c13b1 : (a0_1 != a1_1) = false := bne_eq_false_iff_eq.mpr c13
      clear c13
      replace H := Option.bind_eq_some_iff.mp H
      obtain ⟨t159, A140, H⟩ := H
      replace H : (spec_LaySheet.j0 k a2 (!t159) a0_0 a0_1 l0_2 a1_0 a1_1 l1_2) = some (r1, r2, r3, r4) := H
      have A14 := Aside0.mk A140
      clear A140
      have H' := Aside0.mk H
      clear H
      have hnb15 := NB154_155.out
      have hnc15 := NB155_154.out
      have hnb16 := NB154_156.out
      have hnc16 := NB156_154.out
      have hcz17_0 : w7.cell? ⟨gb154, 0, none⟩ = some (.int .i64 a0_0) := (blk_cell BK154.out 0).trans rfl
      have hcz17_1 : w7.cell? ⟨gb154, 1, none⟩ = some (.int .i64 a0_1) := (blk_cell BK154.out 1).trans rfl
      have hcz17_2 : w7.cell? ⟨gb154, 2, none⟩ = some (.slice A0_2 l0_2.length c0_2) := (blk_cell BK154.out 2).trans rfl
      have hfz17_0 := blk_frozen BK154.out 0
      have hfz17_1 := blk_frozen BK154.out 1
      have hfz17_2 := blk_frozen BK154.out 2
      go_wp2_with (first | ((with_reducible refine gate_callee (f := 109) rfl ?_); refine z5907.gl (some 12) rfl rfl Try.func109 (by kernel_rfl) rfl #[.agg #[.int .i64 a0_0, .int .i64 a0_1, .slice A0_2 l0_2.length c0_2]] rfl ?_; (with_reducible refine (spec_GoodSheet.calls k a0_0 a0_1 _ _ l0_2 true _ ?side1 ?side2 A8.out).mono ?_); (case side1 => repeat (first | exact (Kd.C_below HR0_2.out HB.out) | (with_reducible refine Kd.C_alloc ?_ _) | (with_reducible refine Kd.C_drewN ?_ _) | (with_reducible refine Kd.C_drew ?_))); (case side2 => exact HC0_2.out); rintro e w18 ⟨rfl, hb⟩; refine ⟨_, rfl, ?_⟩; replace BK154 := z5907.bb BK154 hb; replace BK155 := z5907.bb BK155 hb; replace BK156 := z5907.bb BK156 hb; replace HB := Aside0.mk (below_step (z5907.bl HB) hb); (try clear hb); (try clear hb2); (try clear hk); (try clear hi); have hnb19 := NB155_156.out; have hnc19 := NB156_155.out; have hcz20_0 : w18.cell? ⟨gb155, 0, none⟩ = some (.int .i64 a1_0) := (blk_cell BK155.out 0).trans rfl; have hcz20_1 : w18.cell? ⟨gb155, 1, none⟩ = some (.int .i64 a1_1) := (blk_cell BK155.out 1).trans rfl; have hcz20_2 : w18.cell? ⟨gb155, 2, none⟩ = some (.slice A1_2 l1_2.length c1_2) := (blk_cell BK155.out 2).trans rfl; have hfz20_0 := blk_frozen BK155.out 0; have hfz20_1 := blk_frozen BK155.out 1; have hfz20_2 := blk_frozen BK155.out 2) | (go_at_call 109; (with_reducible refine (spec_GoodSheet.calls k a1_0 a1_1 _ _ l1_2 true _ ?side1 ?side2 A10.out).mono ?_); (case side1 => repeat (first | exact (Kd.C_below HR1_2.out HB.out) | (with_reducible refine Kd.C_alloc ?_ _) | (with_reducible refine Kd.C_drewN ?_ _) | (with_reducible refine Kd.C_drew ?_))); (case side2 => exact HC1_2.out); rintro e w21 ⟨rfl, hb⟩; replace BK154 := z5907.bb BK154 hb; replace BK155 := z5907.bb BK155 hb; replace BK156 := z5907.bb BK156 hb; replace HB := Aside0.mk (below_step (z5907.bl HB) hb); (try clear hb); (try clear hb2); (try clear hk); (try clear hi); have hcz22_0 : w21.cell? ⟨gb154, 0, none⟩ = some (.int .i64 a0_0) := (blk_cell BK154.out 0).trans rfl; have hcz22_1 : w21.cell? ⟨gb154, 1, none⟩ = some (.int .i64 a0_1) := (blk_cell BK154.out 1).trans rfl; have hcz22_2 : w21.cell? ⟨gb154, 2, none⟩ = some (.slice A0_2 l0_2.length c0_2) := (blk_cell BK154.out 2).trans rfl; have hfz22_0 := blk_frozen BK154.out 0; have hfz22_1 := blk_frozen BK154.out 1; have hfz22_2 := blk_frozen BK154.out 2; have hcz23_0 : w21.cell? ⟨gb155, 0, none⟩ = some (.int .i64 a1_0) := (blk_cell BK155.out 0).trans rfl; have hcz23_1 : w21.cell? ⟨gb155, 1, none⟩ = some (.int .i64 a1_1) := (blk_cell BK155.out 1).trans rfl; have hcz23_2 : w21.cell? ⟨gb155, 2, none⟩ = some (.slice A1_2 l1_2.length c1_2) := (blk_cell BK155.out 2).trans rfl; have hfz23_0 := blk_frozen BK155.out 0; have hfz23_1 := blk_frozen BK155.out 1; have hfz23_2 := blk_frozen BK155.out 2) | (go_at_call 115; (with_reducible refine (spec_l12Part.calls a2 t159 _ A14.out).mono ?_); rintro e w' ⟨rfl, ⟨nd, rfl⟩⟩))
      go_meet
      case rel => exact ⟨_, (!t159), (by first | rfl | (simp; done) | (simp [*]; done)), H', ⟨by first | omega | exact Nat.le_refl _⟩, ⟨z5907.bk BK154⟩, ⟨z5907.bk BK155⟩, ⟨z5907.bk BK156⟩, ⟨z5907.bl HB⟩⟩
     ·rw [if_neg c13] at H
      have c13b0 : (a0_1 == a1_1) = false := beq_eq_false_iff_ne.mpr c13
      have c13b1 : (a0_1 != a1_1) = true := bne_iff_ne.mpr c13
      have H' := Aside0.mk H
      clear H
      have hnb24 := NB154_155.out
      have hnc24 := NB155_154.out
      have hnb25 := NB154_156.out
      have hnc25 := NB156_154.out
      have hcz26_0 : w7.cell? ⟨gb154, 0, none⟩ = some (.int .i64 a0_0) := (blk_cell BK154.out 0).trans rfl
      have hcz26_1 : w7.cell? ⟨gb154, 1, none⟩ = some (.int .i64 a0_1) := (blk_cell BK154.out 1).trans rfl
      have hcz26_2 : w7.cell? ⟨gb154, 2, none⟩ = some (.slice A0_2 l0_2.length c0_2) := (blk_cell BK154.out 2).trans rfl
      have hfz26_0 := blk_frozen BK154.out 0
      have hfz26_1 := blk_frozen BK154.out 1
      have hfz26_2 := blk_frozen BK154.out 2
      go_wp2_with (first | ((with_reducible refine gate_callee (f := 109) rfl ?_); refine z5907.gl (some 12) rfl rfl Try.func109 (by kernel_rfl) rfl #[.agg #[.int .i64 a0_0, .int .i64 a0_1, .slice A0_2 l0_2.length c0_2]] rfl ?_; (with_reducible refine (spec_GoodSheet.calls k a0_0 a0_1 _ _ l0_2 true _ ?side1 ?side2 A8.out).mono ?_); (case side1 => repeat (first | exact (Kd.C_below HR0_2.out HB.out) | (with_reducible refine Kd.C_alloc ?_ _) | (with_reducible refine Kd.C_drewN ?_ _) | (with_reducible refine Kd.C_drew ?_))); (case side2 => exact HC0_2.out); rintro e w27 ⟨rfl, hb⟩; refine ⟨_, rfl, ?_⟩; replace BK154 := z5907.bb BK154 hb; replace BK155 := z5907.bb BK155 hb; replace BK156 := z5907.bb BK156 hb; replace HB := Aside0.mk (below_step (z5907.bl HB) hb); (try clear hb); (try clear hb2); (try clear hk); (try clear hi); have hnb28 := NB155_156.out; have hnc28 := NB156_155.out; have hcz29_0 : w27.cell? ⟨gb155, 0, none⟩ = some (.int .i64 a1_0) := (blk_cell BK155.out 0).trans rfl; have hcz29_1 : w27.cell? ⟨gb155, 1, none⟩ = some (.int .i64 a1_1) := (blk_cell BK155.out 1).trans rfl; have hcz29_2 : w27.cell? ⟨gb155, 2, none⟩ = some (.slice A1_2 l1_2.length c1_2) := (blk_cell BK155.out 2).trans rfl; have hfz29_0 := blk_frozen BK155.out 0; have hfz29_1 := blk_frozen BK155.out 1; have hfz29_2 := blk_frozen BK155.out 2) | (go_at_call 109; (with_reducible refine (spec_GoodSheet.calls k a1_0 a1_1 _ _ l1_2 true _ ?side1 ?side2 A10.out).mono ?_); (case side1 => repeat (first | exact (Kd.C_below HR1_2.out HB.out) | (with_reducible refine Kd.C_alloc ?_ _) | (with_reducible refine Kd.C_drewN ?_ _) | (with_reducible refine Kd.C_drew ?_))); (case side2 => exact HC1_2.out); rintro e w30 ⟨rfl, hb⟩; replace BK154 := z5907.bb BK154 hb; replace BK155 := z5907.bb BK155 hb; replace BK156 := z5907.bb BK156 hb; replace HB := Aside0.mk (below_step (z5907.bl HB) hb); (try clear hb); (try clear hb2); (try clear hk); (try clear hi); have hcz31_0 : w30.cell? ⟨gb154, 0, none⟩ = some (.int .i64 a0_0) := (blk_cell BK154.out 0).trans rfl; have hcz31_1 : w30.cell? ⟨gb154, 1, none⟩ = some (.int .i64 a0_1) := (blk_cell BK154.out 1).trans rfl; have hcz31_2 : w30.cell? ⟨gb154, 2, none⟩ = some (.slice A0_2 l0_2.length c0_2) := (blk_cell BK154.out 2).trans rfl; have hfz31_0 := blk_frozen BK154.out 0; have hfz31_1 := blk_frozen BK154.out 1; have hfz31_2 := blk_frozen BK154.out 2; have hcz32_0 : w30.cell? ⟨gb155, 0, none⟩ = some (.int .i64 a1_0) := (blk_cell BK155.out 0).trans rfl; have hcz32_1 : w30.cell? ⟨gb155, 1, none⟩ = some (.int .i64 a1_1) := (blk_cell BK155.out 1).trans rfl; have hcz32_2 : w30.cell? ⟨gb155, 2, none⟩ = some (.slice A1_2 l1_2.length c1_2) := (blk_cell BK155.out 2).trans rfl; have hfz32_0 := blk_frozen BK155.out 0; have hfz32_1 := blk_frozen BK155.out 1; have hfz32_2 := blk_frozen BK155.out 2))
      go_meet
      case rel => exact ⟨_, (true), (by first | rfl | (simp; done) | (simp [*]; done)), H', ⟨by first | omega | exact Nat.le_refl _⟩, ⟨z5907.bk BK154⟩, ⟨z5907.bk BK155⟩, ⟨z5907.bk BK156⟩, ⟨z5907.bl HB⟩⟩
    ·rw [if_neg c12] at H
     have c12b0 : (a0_0 == a1_0) = false := beq_eq_false_iff_ne.mpr c12
     have c12b1 : (a0_0 != a1_0) = true := bne_iff_ne.mpr c12
     (first | rw [c12b0] | (simp only [i64_w, i32_w]; rw [c12b0]) | skip)
     have H' := Aside0.mk H
     clear H
     have hnb33 := NB154_155.out
     have hnc33 := NB155_154.out
     have hnb34 := NB154_156.out
     have hnc34 := NB156_154.out
     have hcz35_0 : w7.cell? ⟨gb154, 0, none⟩ = some (.int .i64 a0_0) := (blk_cell BK154.out 0).trans rfl
     have hcz35_1 : w7.cell? ⟨gb154, 1, none⟩ = some (.int .i64 a0_1) := (blk_cell BK154.out 1).trans rfl
     have hcz35_2 : w7.cell? ⟨gb154, 2, none⟩ = some (.slice A0_2 l0_2.length c0_2) := (blk_cell BK154.out 2).trans rfl
     have hfz35_0 := blk_frozen BK154.out 0
     have hfz35_1 := blk_frozen BK154.out 1
     have hfz35_2 := blk_frozen BK154.out 2
     go_wp2_with (first | ((with_reducible refine gate_callee (f := 109) rfl ?_); refine z5907.gl (some 12) rfl rfl Try.func109 (by kernel_rfl) rfl #[.agg #[.int .i64 a0_0, .int .i64 a0_1, .slice A0_2 l0_2.length c0_2]] rfl ?_; (with_reducible refine (spec_GoodSheet.calls k a0_0 a0_1 _ _ l0_2 true _ ?side1 ?side2 A8.out).mono ?_); (case side1 => repeat (first | exact (Kd.C_below HR0_2.out HB.out) | (with_reducible refine Kd.C_alloc ?_ _) | (with_reducible refine Kd.C_drewN ?_ _) | (with_reducible refine Kd.C_drew ?_))); (case side2 => exact HC0_2.out); rintro e w36 ⟨rfl, hb⟩; refine ⟨_, rfl, ?_⟩; replace BK154 := z5907.bb BK154 hb; replace BK155 := z5907.bb BK155 hb; replace BK156 := z5907.bb BK156 hb; replace HB := Aside0.mk (below_step (z5907.bl HB) hb); (try clear hb); (try clear hb2); (try clear hk); (try clear hi); have hnb37 := NB155_156.out; have hnc37 := NB156_155.out; have hcz38_0 : w36.cell? ⟨gb155, 0, none⟩ = some (.int .i64 a1_0) := (blk_cell BK155.out 0).trans rfl; have hcz38_1 : w36.cell? ⟨gb155, 1, none⟩ = some (.int .i64 a1_1) := (blk_cell BK155.out 1).trans rfl; have hcz38_2 : w36.cell? ⟨gb155, 2, none⟩ = some (.slice A1_2 l1_2.length c1_2) := (blk_cell BK155.out 2).trans rfl; have hfz38_0 := blk_frozen BK155.out 0; have hfz38_1 := blk_frozen BK155.out 1; have hfz38_2 := blk_frozen BK155.out 2) | (go_at_call 109; (with_reducible refine (spec_GoodSheet.calls k a1_0 a1_1 _ _ l1_2 true _ ?side1 ?side2 A10.out).mono ?_); (case side1 => repeat (first | exact (Kd.C_below HR1_2.out HB.out) | (with_reducible refine Kd.C_alloc ?_ _) | (with_reducible refine Kd.C_drewN ?_ _) | (with_reducible refine Kd.C_drew ?_))); (case side2 => exact HC1_2.out); rintro e w39 ⟨rfl, hb⟩; replace BK154 := z5907.bb BK154 hb; replace BK155 := z5907.bb BK155 hb; replace BK156 := z5907.bb BK156 hb; replace HB := Aside0.mk (below_step (z5907.bl HB) hb); (try clear hb); (try clear hb2); (try clear hk); (try clear hi); have hcz40_0 : w39.cell? ⟨gb154, 0, none⟩ = some (.int .i64 a0_0) := (blk_cell BK154.out 0).trans rfl; have hcz40_1 : w39.cell? ⟨gb154, 1, none⟩ = some (.int .i64 a0_1) := (blk_cell BK154.out 1).trans rfl; have hcz40_2 : w39.cell? ⟨gb154, 2, none⟩ = some (.slice A0_2 l0_2.length c0_2) := (blk_cell BK154.out 2).trans rfl; have hfz40_0 := blk_frozen BK154.out 0; have hfz40_1 := blk_frozen BK154.out 1; have hfz40_2 := blk_frozen BK154.out 2; have hcz41_0 : w39.cell? ⟨gb155, 0, none⟩ = some (.int .i64 a1_0) := (blk_cell BK155.out 0).trans rfl; have hcz41_1 : w39.cell? ⟨gb155, 1, none⟩ = some (.int .i64 a1_1) := (blk_cell BK155.out 1).trans rfl; have hcz41_2 : w39.cell? ⟨gb155, 2, none⟩ = some (.slice A1_2 l1_2.length c1_2) := (blk_cell BK155.out 2).trans rfl; have hfz41_0 := blk_frozen BK155.out 0; have hfz41_1 := blk_frozen BK155.out 1; have hfz41_2 := blk_frozen BK155.out 2))
     go_meet
     case rel => exact ⟨_, (true), (by first | rfl | (simp; done) | (simp [*]; done)), H', ⟨by first | omega | exact Nat.le_refl _⟩, ⟨z5907.bk BK154⟩, ⟨z5907.bk BK155⟩, ⟨z5907.bk BK156⟩, ⟨z5907.bl HB⟩⟩
   ·replace c11 := Bool.eq_false_iff.mpr c11
    subst c11
    have H1 : (spec_LaySheet.j0 k a2 true a0_0 a0_1 l0_2 a1_0 a1_1 l1_2) = some (r1, r2, r3, r4) := by rw [if_neg (show ¬ (false = true) by decide)] at H; exact H
    clear H
    have H := H1
    clear H1
    have H' := Aside0.mk H
    clear H
    have hnb42 := NB154_155.out
    have hnc42 := NB155_154.out
    have hnb43 := NB154_156.out
    have hnc43 := NB156_154.out
    have hcz44_0 : w7.cell? ⟨gb154, 0, none⟩ = some (.int .i64 a0_0) := (blk_cell BK154.out 0).trans rfl
    have hcz44_1 : w7.cell? ⟨gb154, 1, none⟩ = some (.int .i64 a0_1) := (blk_cell BK154.out 1).trans rfl
    have hcz44_2 : w7.cell? ⟨gb154, 2, none⟩ = some (.slice A0_2 l0_2.length c0_2) := (blk_cell BK154.out 2).trans rfl
    have hfz44_0 := blk_frozen BK154.out 0
    have hfz44_1 := blk_frozen BK154.out 1
    have hfz44_2 := blk_frozen BK154.out 2
    go_wp2_with (first | ((with_reducible refine gate_callee (f := 109) rfl ?_); refine z5907.gl (some 12) rfl rfl Try.func109 (by kernel_rfl) rfl #[.agg #[.int .i64 a0_0, .int .i64 a0_1, .slice A0_2 l0_2.length c0_2]] rfl ?_; (with_reducible refine (spec_GoodSheet.calls k a0_0 a0_1 _ _ l0_2 true _ ?side1 ?side2 A8.out).mono ?_); (case side1 => repeat (first | exact (Kd.C_below HR0_2.out HB.out) | (with_reducible refine Kd.C_alloc ?_ _) | (with_reducible refine Kd.C_drewN ?_ _) | (with_reducible refine Kd.C_drew ?_))); (case side2 => exact HC0_2.out); rintro e w45 ⟨rfl, hb⟩; refine ⟨_, rfl, ?_⟩; replace BK154 := z5907.bb BK154 hb; replace BK155 := z5907.bb BK155 hb; replace BK156 := z5907.bb BK156 hb; replace HB := Aside0.mk (below_step (z5907.bl HB) hb); (try clear hb); (try clear hb2); (try clear hk); (try clear hi); have hnb46 := NB155_156.out; have hnc46 := NB156_155.out; have hcz47_0 : w45.cell? ⟨gb155, 0, none⟩ = some (.int .i64 a1_0) := (blk_cell BK155.out 0).trans rfl; have hcz47_1 : w45.cell? ⟨gb155, 1, none⟩ = some (.int .i64 a1_1) := (blk_cell BK155.out 1).trans rfl; have hcz47_2 : w45.cell? ⟨gb155, 2, none⟩ = some (.slice A1_2 l1_2.length c1_2) := (blk_cell BK155.out 2).trans rfl; have hfz47_0 := blk_frozen BK155.out 0; have hfz47_1 := blk_frozen BK155.out 1; have hfz47_2 := blk_frozen BK155.out 2) | (go_at_call 109; (with_reducible refine (spec_GoodSheet.calls k a1_0 a1_1 _ _ l1_2 false _ ?side1 ?side2 A10.out).mono ?_); (case side1 => repeat (first | exact (Kd.C_below HR1_2.out HB.out) | (with_reducible refine Kd.C_alloc ?_ _) | (with_reducible refine Kd.C_drewN ?_ _) | (with_reducible refine Kd.C_drew ?_))); (case side2 => exact HC1_2.out); rintro e w48 ⟨rfl, hb⟩; replace BK154 := z5907.bb BK154 hb; replace BK155 := z5907.bb BK155 hb; replace BK156 := z5907.bb BK156 hb; replace HB := Aside0.mk (below_step (z5907.bl HB) hb); (try clear hb); (try clear hb2); (try clear hk); (try clear hi)))
    go_meet
    case rel => exact ⟨_, (true), (by first | rfl | (simp; done) | (simp [*]; done)), H', ⟨by first | omega | exact Nat.le_refl _⟩, ⟨z5907.bk BK154⟩, ⟨z5907.bk BK155⟩, ⟨z5907.bk BK156⟩, ⟨z5907.bl HB⟩⟩
  ·replace c9 := Bool.eq_false_iff.mpr c9
   subst c9
   have H1 : (spec_LaySheet.j0 k a2 true a0_0 a0_1 l0_2 a1_0 a1_1 l1_2) = some (r1, r2, r3, r4) := by rw [if_neg (show ¬ (false = true) by decide)] at H; exact H
   clear H
   have H := H1
   clear H1
   have H' := Aside0.mk H
   clear H
   have hnb49 := NB154_155.out
   have hnc49 := NB155_154.out
   have hnb50 := NB154_156.out
   have hnc50 := NB156_154.out
   have hcz51_0 : w7.cell? ⟨gb154, 0, none⟩ = some (.int .i64 a0_0) := (blk_cell BK154.out 0).trans rfl
   have hcz51_1 : w7.cell? ⟨gb154, 1, none⟩ = some (.int .i64 a0_1) := (blk_cell BK154.out 1).trans rfl
   have hcz51_2 : w7.cell? ⟨gb154, 2, none⟩ = some (.slice A0_2 l0_2.length c0_2) := (blk_cell BK154.out 2).trans rfl
   have hfz51_0 := blk_frozen BK154.out 0
   have hfz51_1 := blk_frozen BK154.out 1
   have hfz51_2 := blk_frozen BK154.out 2
   go_wp2_with (first | ((with_reducible refine gate_callee (f := 109) rfl ?_); refine z5907.gl (some 12) rfl rfl Try.func109 (by kernel_rfl) rfl #[.agg #[.int .i64 a0_0, .int .i64 a0_1, .slice A0_2 l0_2.length c0_2]] rfl ?_; (with_reducible refine (spec_GoodSheet.calls k a0_0 a0_1 _ _ l0_2 false _ ?side1 ?side2 A8.out).mono ?_); (case side1 => repeat (first | exact (Kd.C_below HR0_2.out HB.out) | (with_reducible refine Kd.C_alloc ?_ _) | (with_reducible refine Kd.C_drewN ?_ _) | (with_reducible refine Kd.C_drew ?_))); (case side2 => exact HC0_2.out); rintro e w52 ⟨rfl, hb⟩; refine ⟨_, rfl, ?_⟩; replace BK154 := z5907.bb BK154 hb; replace BK155 := z5907.bb BK155 hb; replace BK156 := z5907.bb BK156 hb; replace HB := Aside0.mk (below_step (z5907.bl HB) hb); (try clear hb); (try clear hb2); (try clear hk); (try clear hi)))
   go_meet
   case rel => exact ⟨_, (true), (by first | rfl | (simp; done) | (simp [*]; done)), H', ⟨by first | omega | exact Nat.le_refl _⟩, ⟨z5907.bk BK154⟩, ⟨z5907.bk BK155⟩, ⟨z5907.bk BK156⟩, ⟨z5907.bl HB⟩⟩
 case rest =>
  clear HC4
  try clear c1
  try clear c2
  try clear p2
  try clear c3
  try clear c4
  try clear c5
  try clear c9
  try clear c10
  try clear c11
  try clear c12
  try clear c12b0
  try clear c12b1
  try clear c13
  try clear c13b0
  try clear c13b1
  try clear c15
  try clear c16
  try clear c19
  try clear c24
  try clear c25
  try clear c28
  try clear c33
  try clear c34
  try clear c37
  try clear c42
  try clear c43
  try clear c46
  try clear c47
  try clear c49
  try clear c50
  try clear hcz17_0
  try clear hcz17_1
  try clear hcz17_2
  try clear hcz20_0
  try clear hcz20_1
  try clear hcz20_2
  try clear hcz22_0
  try clear hcz22_1
  try clear hcz22_2
  try clear hcz23_0
  try clear hcz23_1
  try clear hcz23_2
  try clear hcz26_0
  try clear hcz26_1
  try clear hcz26_2
  try clear hcz29_0
  try clear hcz29_1
  try clear hcz29_2
  try clear hcz31_0
  try clear hcz31_1
  try clear hcz31_2
  try clear hcz32_0
  try clear hcz32_1
  try clear hcz32_2
  try clear hcz35_0
  try clear hcz35_1
  try clear hcz35_2
  try clear hcz38_0
  try clear hcz38_1
  try clear hcz38_2
  try clear hcz40_0
  try clear hcz40_1
  try clear hcz40_2
  try clear hcz41_0
  try clear hcz41_1
  try clear hcz41_2
  try clear hcz44_0
  try clear hcz44_1
  try clear hcz44_2
  try clear hcz47_0
  try clear hcz47_1
  try clear hcz47_2
  try clear hcz51_0
  try clear hcz51_1
  try clear hcz51_2
  try clear hfz17_0
  try clear hfz17_1
  try clear hfz17_2
  try clear hfz20_0
  try clear hfz20_1
  try clear hfz20_2
  try clear hfz22_0
  try clear hfz22_1
  try clear hfz22_2
  try clear hfz23_0
  try clear hfz23_1
  try clear hfz23_2
  try clear hfz26_0
  try clear hfz26_1
  try clear hfz26_2
  try clear hfz29_0
  try clear hfz29_1
  try clear hfz29_2
  try clear hfz31_0
  try clear hfz31_1
  try clear hfz31_2
  try clear hfz32_0
  try clear hfz32_1
  try clear hfz32_2
  try clear hfz35_0
  try clear hfz35_1
  try clear hfz35_2
  try clear hfz38_0
  try clear hfz38_1
  try clear hfz38_2
  try clear hfz40_0
  try clear hfz40_1
  try clear hfz40_2
  try clear hfz41_0
  try clear hfz41_1
  try clear hfz41_2
  try clear hfz44_0
  try clear hfz44_1
  try clear hfz44_2
  try clear hfz47_0
  try clear hfz47_1
  try clear hfz47_2
  try clear hfz51_0
  try clear hfz51_1
  try clear hfz51_2
  obtain ⟨kq, x37_3, rfl, HA, HJ3, BK154, BK155, BK156, HB⟩ := hcut
  cases kq with
  | zero => exact absurd HA.out (by simp [spec_LaySheet.j0])
  | succ kj3 =>
   have H := HA.out
   clear HA
   simp only [spec_LaySheet.j0] at H
   by_cases c53 : x37_3 = true
   ·subst c53
    have H1 : (some (0, 0, ([] : List (S54)), false)) = some (r1, r2, r3, r4) := by rw [if_pos rfl] at H; exact H
    clear H
    have H := H1
    clear H1
    simp only [Option.some.injEq, Prod.mk.injEq] at H
    obtain ⟨rfl, rfl, rfl, rfl⟩ := H
    have hnb54 := NB156_154.out
    have hnc54 := NB154_156.out
    have hnb55 := NB156_155.out
    have hnc55 := NB155_156.out
    have hcz56_0 : wc.cell? ⟨gb156, 0, none⟩ = some (.int .i64 0) := (blk_cell BK156.out 0).trans rfl
    have hcz56_1 : wc.cell? ⟨gb156, 1, none⟩ = some (.int .i64 0) := (blk_cell BK156.out 1).trans rfl
    have hcz56_2 : wc.cell? ⟨gb156, 2, none⟩ = some (.slice none 0 0) := (blk_cell BK156.out 2).trans rfl
    have hfz56_0 := blk_frozen BK156.out 0
    have hfz56_1 := blk_frozen BK156.out 1
    have hfz56_2 := blk_frozen BK156.out 2
    go_wp2
    refine bodyPost_ret (results_ct rfl _ _ gb156 70 #[.int .i64 0, .int .i64 0, .slice none 0 0] (0, 0) _ rfl (by (with_reducible repeat (first | refine blk_drewN ?_ _ | refine blk_drew ?_ | refine blk_alloc ?_ _)); refine blk_put (cs := #[.int .i64 0, .int .i64 0, .slice none 0 0]) ?_ 2 _ rfl; (with_reducible repeat (first | refine blk_drewN ?_ _ | refine blk_drew ?_ | refine blk_alloc ?_ _)); refine blk_put (cs := #[.int .i64 0, .int .i64 0, .slice none 0 0]) ?_ 1 _ rfl; (with_reducible repeat (first | refine blk_drewN ?_ _ | refine blk_drew ?_ | refine blk_alloc ?_ _)); refine blk_put (cs := #[.int .i64 0, .int .i64 0, .slice none 0 0]) ?_ 0 _ rfl; (with_reducible repeat (first | refine blk_drewN ?_ _ | refine blk_drew ?_ | refine blk_alloc ?_ _)); exact BK156.out) Try.underlying70 rfl (by kernel_rfl)) rfl ?_
    exact ⟨_, by first | rfl | (simp [errW_none, errW_some] <;> rfl) | (simp [*, errW_none, errW_some] <;> rfl), by first | exact Kd.R_nil _ _ _ _ _ | exact Kd.N_nil _ _ _ _ _ | exact Kd.V_nil _ _ _ _ _ | exact Kd.Q_nil _ _ _ _ _ | exact Kd.S_nil _ _ _ _ _, z5907.bl HB⟩
   ·replace c53 := Bool.eq_false_iff.mpr c53
    subst c53
    have H1 : (spec_LaySheet.l0 kj3 a2 l0_2 (l0_2.length : Int) 0 a1_0 a1_1 l1_2 a0_0 a0_1 ([] : List (S54))) = some (r1, r2, r3, r4) := by rw [if_neg (show ¬ (false = true) by decide)] at H; exact H
    clear H
    have H := H1
    clear H1
    have H' := Aside0.mk H
    clear H
    have hnb57 := NB154_155.out
    have hnc57 := NB155_154.out
    have hnb58 := NB154_156.out
    have hnc58 := NB156_154.out
    have hcz59_0 : wc.cell? ⟨gb154, 0, none⟩ = some (.int .i64 a0_0) := (blk_cell BK154.out 0).trans rfl
    have hcz59_1 : wc.cell? ⟨gb154, 1, none⟩ = some (.int .i64 a0_1) := (blk_cell BK154.out 1).trans rfl
    have hcz59_2 : wc.cell? ⟨gb154, 2, none⟩ = some (.slice A0_2 l0_2.length c0_2) := (blk_cell BK154.out 2).trans rfl
    have hfz59_0 := blk_frozen BK154.out 0
    have hfz59_1 := blk_frozen BK154.out 1
    have hfz59_2 := blk_frozen BK154.out 2
    go_wp2_with (first | ((with_reducible refine gate_dst (N := 8) rfl ?_); refine box_event ?hg (N := 8) ?hd (cs := #[.int .i64 0, .int .i64 0, .slice none 0 0]) (t := 70) ?hr ?_; (case hd => rfl); (case hg => rfl); (case hr => first | (go_simp; done) | (go_simp; rfl)); intro gb160 hg w60 hbox hb; have BK160 := Aside0.mk (hbox); have GW160 := Aside0.mk ((by rw [hg]; exact (below_size (z5907.bl HB)) : w.heap.size ≤ gb160)); have GE160 := Aside0.mk ((by rw [hg]; exact (below_size (z5907.bl HB)) : w.heap.size ≤ gb160)); replace HB := Aside0.mk (below_step (z5907.bl HB) hb); have NB154_160 := z5907.ht BK154 hg; have NB160_154 := z5907.hu BK154 hg; replace BK154 := z5907.bb BK154 hb; have NB155_160 := z5907.ht BK155 hg; have NB160_155 := z5907.hu BK155 hg; replace BK155 := z5907.bb BK155 hb; have NB156_160 := z5907.ht BK156 hg; have NB160_156 := z5907.hu BK156 hg; replace BK156 := z5907.bb BK156 hb; clear hb hbox hg; have hnb61 := NB160_154.out; have hnc61 := NB154_160.out; have hnb62 := NB160_155.out; have hnc62 := NB155_160.out; have hnb63 := NB160_156.out; have hnc63 := NB156_160.out; have hcz64_0 : w60.cell? ⟨gb160, 0, none⟩ = some (.int .i64 0) := (blk_cell BK160.out 0).trans rfl; have hcz64_1 : w60.cell? ⟨gb160, 1, none⟩ = some (.int .i64 0) := (blk_cell BK160.out 1).trans rfl; have hcz64_2 : w60.cell? ⟨gb160, 2, none⟩ = some (.slice none 0 0) := (blk_cell BK160.out 2).trans rfl; have hfz64_0 := blk_frozen BK160.out 0; have hfz64_1 := blk_frozen BK160.out 1; have hfz64_2 := blk_frozen BK160.out 2; have hcz65_0 : w60.cell? ⟨gb154, 0, none⟩ = some (.int .i64 a0_0) := (blk_cell BK154.out 0).trans rfl; have hcz65_1 : w60.cell? ⟨gb154, 1, none⟩ = some (.int .i64 a0_1) := (blk_cell BK154.out 1).trans rfl; have hcz65_2 : w60.cell? ⟨gb154, 2, none⟩ = some (.slice A0_2 l0_2.length c0_2) := (blk_cell BK154.out 2).trans rfl; have hfz65_0 := blk_frozen BK154.out 0; have hfz65_1 := blk_frozen BK154.out 1; have hfz65_2 := blk_frozen BK154.out 2))
    go_loopg [47] kj3 (fun kq v47 w' => ∃ (x47_2 : Int) (x161002_2 : List (S54)) (u161002 : Value), v47 = .int .i64 x47_2 ∧ Aside0 (spec_LaySheet.l0 kq a2 l0_2 (l0_2.length : Int) x47_2 a1_0 a1_1 l1_2 a0_0 a0_1 x161002_2 = some (r1, r2, r3, r4)) ∧ Aside0 (kq ≤ kj3) ∧ Aside0 (Kd.R k54 54 w' w.heap.size (fun _ => True) u161002 x161002_2) ∧ Aside0 (w'.heap[gb154]? = some (.cells #[.int .i64 a0_0, .int .i64 a0_1, (.slice A0_2 l0_2.length c0_2)] 70 (0, 0))) ∧ Aside0 (w'.heap[gb155]? = some (.cells #[.int .i64 a1_0, .int .i64 a1_1, (.slice A1_2 l1_2.length c1_2)] 70 (0, 0))) ∧ Aside0 (w'.heap[gb156]? = some (.cells #[.int .i64 0, .int .i64 0, (.slice none 0 0)] 70 (0, 0))) ∧ Aside0 (w'.heap[gb160]? = some (.cells #[.int .i64 a0_0, .int .i64 a0_1, u161002] 70 (0, 0))) ∧ Aside0 (Below w.heap.size w w'))
    case atStart => exact ⟨(0), (([] : List (S54))), (.slice none 0 0), (by first | rfl | (simp; done) | (simp [*]; done)), H', ⟨Nat.le_refl _⟩, ⟨by first | exact Kd.R_nil _ _ _ _ _ | exact Kd.N_nil _ _ _ _ _ | exact Kd.V_nil _ _ _ _ _ | exact Kd.Q_nil _ _ _ _ _ | exact Kd.S_nil _ _ _ _ _⟩, ⟨z5907.bf BK154⟩, ⟨z5907.bf BK155⟩, ⟨z5907.bf BK156⟩, ⟨by (with_reducible repeat (first | refine blk_drewN ?_ _ | refine blk_drew ?_ | refine blk_alloc ?_ _)); refine blk_put (cs := #[.int .i64 a0_0, .int .i64 a0_1, .slice none 0 0]) ?_ 2 _ rfl; (with_reducible repeat (first | refine blk_drewN ?_ _ | refine blk_drew ?_ | refine blk_alloc ?_ _)); refine blk_put (cs := #[.int .i64 a0_0, .int .i64 0, .slice none 0 0]) ?_ 1 _ rfl; (with_reducible repeat (first | refine blk_drewN ?_ _ | refine blk_drew ?_ | refine blk_alloc ?_ _)); refine blk_put (cs := #[.int .i64 0, .int .i64 0, .slice none 0 0]) ?_ 0 _ rfl; (with_reducible repeat (first | refine blk_drewN ?_ _ | refine blk_drew ?_ | refine blk_alloc ?_ _)); exact BK160.out⟩, ⟨z5907.bl HB⟩⟩
    case round =>
     clear H'
     try clear c1
     try clear c2
     try clear p2
     try clear c3
     try clear c4
     try clear c5
     try clear c6
     try clear c9
     try clear c10
     try clear c11
     try clear c12
     try clear c12b0
     try clear c12b1
     try clear c13
     try clear c13b0
     try clear c13b1
     try clear c15
     try clear c16
     try clear c19
     try clear c24
     try clear c25
     try clear c28
     try clear c33
     try clear c34
     try clear c37
     try clear c42
     try clear c43
     try clear c46
     try clear c47
     try clear c49
     try clear c50
     try clear c53
     try clear c54
     try clear c55
     try clear c57
     try clear c58
     try clear c61
     try clear c62
     try clear c63
     try clear hcz17_0
     try clear hcz17_1
     try clear hcz17_2
     try clear hcz20_0
     try clear hcz20_1
     try clear hcz20_2
     try clear hcz22_0
     try clear hcz22_1
     try clear hcz22_2
     try clear hcz23_0
     try clear hcz23_1
     try clear hcz23_2
     try clear hcz26_0
     try clear hcz26_1
     try clear hcz26_2
     try clear hcz29_0
     try clear hcz29_1
     try clear hcz29_2
     try clear hcz31_0
     try clear hcz31_1
     try clear hcz31_2
     try clear hcz32_0
     try clear hcz32_1
     try clear hcz32_2
     try clear hcz35_0
     try clear hcz35_1
     try clear hcz35_2
     try clear hcz38_0
     try clear hcz38_1
     try clear hcz38_2
     try clear hcz40_0
     try clear hcz40_1
     try clear hcz40_2
     try clear hcz41_0
     try clear hcz41_1
     try clear hcz41_2
     try clear hcz44_0
     try clear hcz44_1
     try clear hcz44_2
     try clear hcz47_0
     try clear hcz47_1
     try clear hcz47_2
     try clear hcz51_0
     try clear hcz51_1
     try clear hcz51_2
     try clear hcz56_0
     try clear hcz56_1
     try clear hcz56_2
     try clear hcz59_0
     try clear hcz59_1
     try clear hcz59_2
     try clear hcz64_0
     try clear hcz64_1
     try clear hcz64_2
     try clear hcz65_0
     try clear hcz65_1
     try clear hcz65_2
     try clear hfz17_0
     try clear hfz17_1
     try clear hfz17_2
     try clear hfz20_0
     try clear hfz20_1
     try clear hfz20_2
     try clear hfz22_0
     try clear hfz22_1
     try clear hfz22_2
     try clear hfz23_0
     try clear hfz23_1
     try clear hfz23_2
     try clear hfz26_0
     try clear hfz26_1
     try clear hfz26_2
     try clear hfz29_0
     try clear hfz29_1
     try clear hfz29_2
     try clear hfz31_0
     try clear hfz31_1
     try clear hfz31_2
     try clear hfz32_0
     try clear hfz32_1
     try clear hfz32_2
     try clear hfz35_0
     try clear hfz35_1
     try clear hfz35_2
     try clear hfz38_0
     try clear hfz38_1
     try clear hfz38_2
     try clear hfz40_0
     try clear hfz40_1
     try clear hfz40_2
     try clear hfz41_0
     try clear hfz41_1
     try clear hfz41_2
     try clear hfz44_0
     try clear hfz44_1
     try clear hfz44_2
     try clear hfz47_0
     try clear hfz47_1
     try clear hfz47_2
     try clear hfz51_0
     try clear hfz51_1
     try clear hfz51_2
     try clear hfz56_0
     try clear hfz56_1
     try clear hfz56_2
     try clear hfz59_0
     try clear hfz59_1
     try clear hfz59_2
     try clear hfz64_0
     try clear hfz64_1
     try clear hfz64_2
     try clear hfz65_0
     try clear hfz65_1
     try clear hfz65_2
     try clear p2
     obtain ⟨x47_2, x161002_2, u161002, rfl, HA, HK2, HO_161002, BK154, BK155, BK156, BK160, HB⟩ := hrel
     cases gk with
     | zero => exact absurd HA.out (by simp [spec_LaySheet.l0])
     | succ k2 =>
      have H := HA.out
      clear HA
      simp only [spec_LaySheet.l0] at H
      by_cases c66 : x47_2 < (l0_2.length : Int)
      ·rw [if_pos c66] at H
       have c66b0 : decide (x47_2 < (l0_2.length : Int)) = true := decide_eq_true c66
       clear c66
       by_cases c67 : 0 ≤ x47_2
       ·rw [if_pos c67] at H
        have c67b0 : decide (0 ≤ x47_2) = true := decide_eq_true c67
        clear c67
        by_cases c68 : x47_2 < (l0_2.length : Int)
        ·rw [if_pos c68] at H
         have c68b0 : decide (x47_2 < (l0_2.length : Int)) = true := decide_eq_true c68
         clear c68
         by_cases c69 : x47_2 < (l1_2.length : Int)
         ·rw [if_pos c69] at H
          have c69b0 : decide (x47_2 < (l1_2.length : Int)) = true := decide_eq_true c69
          clear c69
          replace H := Option.bind_eq_some_iff.mp H
          obtain ⟨⟨t164, t165, t166, t167⟩, A700, H⟩ := H
          replace H : ((spec_l12Over.f t164 t165 t166 t167 ((rd_T54 l0_2 x47_2).f0) ((rd_T54 l0_2 x47_2).f1) ((rd_T54 l0_2 x47_2).f2) ((rd_T54 l0_2 x47_2).f3)).bind fun bt168 => (if x161002_2.length < 4398046511104 then (spec_LaySheet.l0 k2 a2 l0_2 (l0_2.length : Int) (wrap64 (x47_2 + 1)) a1_0 a1_1 l1_2 a0_0 a0_1 (x161002_2 ++ [(⟨bt168.1, bt168.2.1, bt168.2.2.1, bt168.2.2.2⟩ : S54)])) else (none))) = some (r1, r2, r3, r4) := H
          have A70 := Aside0.mk A700
          clear A700
          replace H := Option.bind_eq_some_iff.mp H
          obtain ⟨⟨t168, t169, t170, t171⟩, A710, H⟩ := H
          replace H : (if x161002_2.length < 4398046511104 then (spec_LaySheet.l0 k2 a2 l0_2 (l0_2.length : Int) (wrap64 (x47_2 + 1)) a1_0 a1_1 l1_2 a0_0 a0_1 (x161002_2 ++ [(⟨t168, t169, t170, t171⟩ : S54)])) else (none)) = some (r1, r2, r3, r4) := H
          have A71 := Aside0.mk A710
          clear A710
          by_cases c72 : x161002_2.length < 4398046511104
          ·rw [if_pos c72] at H
           have LMc72 := Aside0.mk c72
           clear c72
           obtain ⟨y172, hy172⟩ : ∃ y_ : List (S54), y_ = (x161002_2 ++ [(⟨t168, t169, t170, t171⟩ : S54)]) := ⟨_, rfl⟩
           replace H : (spec_LaySheet.l0 k2 a2 l0_2 (l0_2.length : Int) (wrap64 (x47_2 + 1)) a1_0 a1_1 l1_2 a0_0 a0_1 y172) = some (r1, r2, r3, r4) := by first | (rw [hy172]; with_reducible exact H) | (have H2_ := (Option.bind_some _ _).symm.trans H; rw [hy172]; with_reducible exact H2_) | (have H2_ := (Option.bind_some _ _).symm.trans H; with_reducible exact H2_) | with_reducible exact H | (rw [hy172]; exact H) | exact H
           have Ny172 := Aside0.mk hy172
           clear hy172
           have H' := Aside0.mk H
           clear H
           have p161 : 0 ≤ (x47_2 : Int) := of_decide_eq_true (by first | (with_reducible assumption) | assumption)
           have q161 : x47_2 < (l0_2.length : Int) := of_decide_eq_true (by first | (with_reducible assumption) | assumption)
           obtain ⟨ad161, e161, hx161_0, hx161_1, hx161_2, hx161_3⟩ := at_T54 HR0_2.out x47_2 p161 q161
           cases e161
           replace hx161_0 := (HB.out.cell (World.block_lt_of_cell? w _ hx161_0)).trans hx161_0
           replace hx161_1 := (HB.out.cell (World.block_lt_of_cell? w _ hx161_1)).trans hx161_1
           replace hx161_2 := (HB.out.cell (World.block_lt_of_cell? w _ hx161_2)).trans hx161_2
           replace hx161_3 := (HB.out.cell (World.block_lt_of_cell? w _ hx161_3)).trans hx161_3
           replace p161 := eq_true p161
           replace q161 := eq_true q161
           try go_wp2_with (first | ((with_reducible refine gate_dst (N := 10) rfl ?_); refine box_event ?hg (N := 10) ?hd (cs := #[.int .i64 0, .int .i64 0, .int .i64 0, .int .i64 0]) (t := 54) ?hr ?_; (case hd => rfl); (case hg => rfl); (case hr => first | (go_simp; done) | (go_simp; rfl)); intro gb162 hg w73 hbox hb; replace HO_161002 := Aside0.mk (Kd.R_below (Kd.R_elderB (z5907.rl HO_161002.out) gb162 (Nat.le_of_eq hg.symm)) hb); have BK162 := Aside0.mk (hbox); have GW162 := Aside0.mk ((by rw [hg]; exact (below_size (z5907.bl HB)) : w.heap.size ≤ gb162)); have GE162 := Aside0.mk ((by rw [hg]; exact (below_size (z5907.bl HB)) : w.heap.size ≤ gb162)); replace HB := Aside0.mk (below_step (z5907.bl HB) hb); have NB154_162 := z5907.ht BK154 hg; have NB162_154 := z5907.hu BK154 hg; replace BK154 := z5907.bb BK154 hb; have NB155_162 := z5907.ht BK155 hg; have NB162_155 := z5907.hu BK155 hg; replace BK155 := z5907.bb BK155 hb; have NB156_162 := z5907.ht BK156 hg; have NB162_156 := z5907.hu BK156 hg; replace BK156 := z5907.bb BK156 hb; have NB160_162 := z5907.ht BK160 hg; have NB162_160 := z5907.hu BK160 hg; replace BK160 := z5907.bb BK160 hb; clear hb hbox hg; have hnb74 := NB162_154.out; have hnc74 := NB154_162.out; have hnb75 := NB162_155.out; have hnc75 := NB155_162.out; have hnb76 := NB162_156.out; have hnc76 := NB156_162.out; have hnb77 := NB162_160.out; have hnc77 := NB160_162.out; have hcz78_0 : w73.cell? ⟨gb162, 0, none⟩ = some (.int .i64 0) := (blk_cell BK162.out 0).trans rfl; have hcz78_1 : w73.cell? ⟨gb162, 1, none⟩ = some (.int .i64 0) := (blk_cell BK162.out 1).trans rfl; have hcz78_2 : w73.cell? ⟨gb162, 2, none⟩ = some (.int .i64 0) := (blk_cell BK162.out 2).trans rfl; have hcz78_3 : w73.cell? ⟨gb162, 3, none⟩ = some (.int .i64 0) := (blk_cell BK162.out 3).trans rfl; have hfz78_0 := blk_frozen BK162.out 0; have hfz78_1 := blk_frozen BK162.out 1; have hfz78_2 := blk_frozen BK162.out 2; have hfz78_3 := blk_frozen BK162.out 3))
           have n0_ : Aside0 (Kd.R k54 54 ((((w73.setCell ⟨gb162, 0, none⟩ (.int .i64 ((rd_T54 l0_2 x47_2).f0))).setCell ⟨gb162, 1, none⟩ (.int .i64 ((rd_T54 l0_2 x47_2).f1))).setCell ⟨gb162, 2, none⟩ (.int .i64 ((rd_T54 l0_2 x47_2).f2))).setCell ⟨gb162, 3, none⟩ (.int .i64 ((rd_T54 l0_2 x47_2).f3))) w.heap.size (fun k_ => k_ ≠ gb162) u161002 x161002_2) := ⟨z5907.rl (Kd.R_mono (Kd.R_far (p := ⟨gb162, 3, none⟩) (Kd.R_far (p := ⟨gb162, 2, none⟩) (Kd.R_far (p := ⟨gb162, 1, none⟩) (Kd.R_far (p := ⟨gb162, 0, none⟩) (Kd.R_mono HO_161002.out (fun k_ hk => (⟨hk, hk.2⟩ : _ ∧ k_ ≠ gb162))) (fun _ hk => hk.2) (.int .i64 ((rd_T54 l0_2 x47_2).f0))) (fun _ hk => hk.2) (.int .i64 ((rd_T54 l0_2 x47_2).f1))) (fun _ hk => hk.2) (.int .i64 ((rd_T54 l0_2 x47_2).f2))) (fun _ hk => hk.2) (.int .i64 ((rd_T54 l0_2 x47_2).f3))) (fun _ hk => hk.1.2))⟩
           have n1_ : Aside0 (((((w73.setCell ⟨gb162, 0, none⟩ (.int .i64 ((rd_T54 l0_2 x47_2).f0))).setCell ⟨gb162, 1, none⟩ (.int .i64 ((rd_T54 l0_2 x47_2).f1))).setCell ⟨gb162, 2, none⟩ (.int .i64 ((rd_T54 l0_2 x47_2).f2))).setCell ⟨gb162, 3, none⟩ (.int .i64 ((rd_T54 l0_2 x47_2).f3))).heap[gb154]? = some (.cells #[.int .i64 a0_0, .int .i64 a0_1, .slice (some ad161) l0_2.length c0_2] 70 (0, 0))) := ⟨z5907.bf BK154⟩
           have n2_ : Aside0 (((((w73.setCell ⟨gb162, 0, none⟩ (.int .i64 ((rd_T54 l0_2 x47_2).f0))).setCell ⟨gb162, 1, none⟩ (.int .i64 ((rd_T54 l0_2 x47_2).f1))).setCell ⟨gb162, 2, none⟩ (.int .i64 ((rd_T54 l0_2 x47_2).f2))).setCell ⟨gb162, 3, none⟩ (.int .i64 ((rd_T54 l0_2 x47_2).f3))).heap[gb155]? = some (.cells #[.int .i64 a1_0, .int .i64 a1_1, .slice A1_2 l1_2.length c1_2] 70 (0, 0))) := ⟨z5907.bf BK155⟩
           have n3_ : Aside0 (((((w73.setCell ⟨gb162, 0, none⟩ (.int .i64 ((rd_T54 l0_2 x47_2).f0))).setCell ⟨gb162, 1, none⟩ (.int .i64 ((rd_T54 l0_2 x47_2).f1))).setCell ⟨gb162, 2, none⟩ (.int .i64 ((rd_T54 l0_2 x47_2).f2))).setCell ⟨gb162, 3, none⟩ (.int .i64 ((rd_T54 l0_2 x47_2).f3))).heap[gb156]? = some (.cells #[.int .i64 0, .int .i64 0, .slice none 0 0] 70 (0, 0))) := ⟨z5907.bf BK156⟩
           have n4_ : Aside0 (((((w73.setCell ⟨gb162, 0, none⟩ (.int .i64 ((rd_T54 l0_2 x47_2).f0))).setCell ⟨gb162, 1, none⟩ (.int .i64 ((rd_T54 l0_2 x47_2).f1))).setCell ⟨gb162, 2, none⟩ (.int .i64 ((rd_T54 l0_2 x47_2).f2))).setCell ⟨gb162, 3, none⟩ (.int .i64 ((rd_T54 l0_2 x47_2).f3))).heap[gb160]? = some (.cells #[.int .i64 a0_0, .int .i64 a0_1, u161002] 70 (0, 0))) := ⟨z5907.bf BK160⟩
           have n5_ : Aside0 (((((w73.setCell ⟨gb162, 0, none⟩ (.int .i64 ((rd_T54 l0_2 x47_2).f0))).setCell ⟨gb162, 1, none⟩ (.int .i64 ((rd_T54 l0_2 x47_2).f1))).setCell ⟨gb162, 2, none⟩ (.int .i64 ((rd_T54 l0_2 x47_2).f2))).setCell ⟨gb162, 3, none⟩ (.int .i64 ((rd_T54 l0_2 x47_2).f3))).heap[gb162]? = some (.cells #[.int .i64 ((rd_T54 l0_2 x47_2).f0), .int .i64 ((rd_T54 l0_2 x47_2).f1), .int .i64 ((rd_T54 l0_2 x47_2).f2), .int .i64 ((rd_T54 l0_2 x47_2).f3)] 54 (0, 0))) := ⟨by (with_reducible repeat (first | refine blk_drewN ?_ _ | refine blk_drew ?_ | refine blk_alloc ?_ _)); refine blk_put (cs := #[.int .i64 ((rd_T54 l0_2 x47_2).f0), .int .i64 ((rd_T54 l0_2 x47_2).f1), .int .i64 ((rd_T54 l0_2 x47_2).f2), .int .i64 0]) ?_ 3 _ rfl; (with_reducible repeat (first | refine blk_drewN ?_ _ | refine blk_drew ?_ | refine blk_alloc ?_ _)); refine blk_put (cs := #[.int .i64 ((rd_T54 l0_2 x47_2).f0), .int .i64 ((rd_T54 l0_2 x47_2).f1), .int .i64 0, .int .i64 0]) ?_ 2 _ rfl; (with_reducible repeat (first | refine blk_drewN ?_ _ | refine blk_drew ?_ | refine blk_alloc ?_ _)); refine blk_put (cs := #[.int .i64 ((rd_T54 l0_2 x47_2).f0), .int .i64 0, .int .i64 0, .int .i64 0]) ?_ 1 _ rfl; (with_reducible repeat (first | refine blk_drewN ?_ _ | refine blk_drew ?_ | refine blk_alloc ?_ _)); refine blk_put (cs := #[.int .i64 0, .int .i64 0, .int .i64 0, .int .i64 0]) ?_ 0 _ rfl; (with_reducible repeat (first | refine blk_drewN ?_ _ | refine blk_drew ?_ | refine blk_alloc ?_ _)); exact BK162.out⟩
           have n6_ : Aside0 (Below w.heap.size w ((((w73.setCell ⟨gb162, 0, none⟩ (.int .i64 ((rd_T54 l0_2 x47_2).f0))).setCell ⟨gb162, 1, none⟩ (.int .i64 ((rd_T54 l0_2 x47_2).f1))).setCell ⟨gb162, 2, none⟩ (.int .i64 ((rd_T54 l0_2 x47_2).f2))).setCell ⟨gb162, 3, none⟩ (.int .i64 ((rd_T54 l0_2 x47_2).f3)))) := ⟨z5907.bl HB⟩
           (try clear HO_161002)
           (try clear BK154)
           (try clear BK155)
           (try clear BK156)
           (try clear BK160)
           (try clear BK162)
           (try clear HB)
           generalize ((((w73.setCell ⟨gb162, 0, none⟩ (.int .i64 ((rd_T54 l0_2 x47_2).f0))).setCell ⟨gb162, 1, none⟩ (.int .i64 ((rd_T54 l0_2 x47_2).f1))).setCell ⟨gb162, 2, none⟩ (.int .i64 ((rd_T54 l0_2 x47_2).f2))).setCell ⟨gb162, 3, none⟩ (.int .i64 ((rd_T54 l0_2 x47_2).f3))) = w79 at n0_ n1_ n2_ n3_ n4_ n5_ n6_ ⊢
           have HO_161002 := n0_
           have BK154 := n1_
           have BK155 := n2_
           have BK156 := n3_
           have BK160 := n4_
           have BK162 := n5_
           have HB := n6_
           clear n0_ n1_ n2_ n3_ n4_ n5_ n6_
           replace HO_161002 := Aside0.mk (Kd.R_drew HO_161002.out)
           replace BK154 := Aside0.mk (blk_drew BK154.out)
           replace BK155 := Aside0.mk (blk_drew BK155.out)
           replace BK156 := Aside0.mk (blk_drew BK156.out)
           replace BK160 := Aside0.mk (blk_drew BK160.out)
           replace BK162 := Aside0.mk (blk_drew BK162.out)
           replace HB := Aside0.mk (below_drew1 HB.out)
           have p163 : 0 ≤ (x47_2 : Int) := of_decide_eq_true (by first | (with_reducible assumption) | assumption)
           have q163 : x47_2 < (l1_2.length : Int) := of_decide_eq_true (by first | (with_reducible assumption) | assumption)
           obtain ⟨ad163, e163, hx163_0, hx163_1, hx163_2, hx163_3⟩ := at_T54 HR1_2.out x47_2 p163 q163
           have hw163_3 := hx163_3
           have hw163_2 := hx163_2
           have hw163_1 := hx163_1
           have hw163_0 := hx163_0
           cases e163
           replace hx163_0 := (HB.out.cell (World.block_lt_of_cell? w _ hx163_0)).trans hx163_0
           replace hx163_1 := (HB.out.cell (World.block_lt_of_cell? w _ hx163_1)).trans hx163_1
           replace hx163_2 := (HB.out.cell (World.block_lt_of_cell? w _ hx163_2)).trans hx163_2
           replace hx163_3 := (HB.out.cell (World.block_lt_of_cell? w _ hx163_3)).trans hx163_3
           replace p163 := eq_true p163
           replace q163 := eq_true q163
           refine start_ (n := 15) (S := fun w' => w'.cell? ⟨gb160, 0, none⟩ = some (.int .i64 a0_0) ∧ w'.cell? ⟨gb160, 1, none⟩ = some (.int .i64 a0_1) ∧ w'.cell? ⟨gb160, 2, none⟩ = some (u161002) ∧ w'.cell? ⟨gb155, 0, none⟩ = some (.int .i64 a1_0) ∧ w'.cell? ⟨gb155, 1, none⟩ = some (.int .i64 a1_1) ∧ w'.cell? ⟨gb155, 2, none⟩ = some (.slice (some ad163) l1_2.length c1_2) ∧ w'.cell? ⟨gb162, 0, none⟩ = some (.int .i64 ((rd_T54 l0_2 x47_2).f0)) ∧ w'.cell? ⟨gb162, 1, none⟩ = some (.int .i64 ((rd_T54 l0_2 x47_2).f1)) ∧ w'.cell? ⟨gb162, 2, none⟩ = some (.int .i64 ((rd_T54 l0_2 x47_2).f2)) ∧ w'.cell? ⟨gb162, 3, none⟩ = some (.int .i64 ((rd_T54 l0_2 x47_2).f3)) ∧ w'.cell? (ad163.add ((x47_2).toNat * 4)) = some (.int .i64 ((rd_T54 l1_2 x47_2).f0)) ∧ w'.cell? ⟨(ad163.add ((x47_2).toNat * 4)).block, (ad163.add ((x47_2).toNat * 4)).off + 1, none⟩ = some (.int .i64 ((rd_T54 l1_2 x47_2).f1)) ∧ w'.cell? ⟨(ad163.add ((x47_2).toNat * 4)).block, (ad163.add ((x47_2).toNat * 4)).off + 2, none⟩ = some (.int .i64 ((rd_T54 l1_2 x47_2).f2)) ∧ w'.cell? ⟨(ad163.add ((x47_2).toNat * 4)).block, (ad163.add ((x47_2).toNat * 4)).off + 3, none⟩ = some (.int .i64 ((rd_T54 l1_2 x47_2).f3))) (ds := [14]) #[false, false, false, false, false, false, false, false, false, false, false, false, false, false, false] (by kernel_rfl) rfl rfl ⟨(blk_cell BK160.out 0).trans rfl, (blk_cell BK160.out 1).trans rfl, (blk_cell BK160.out 2).trans rfl, (blk_cell BK155.out 0).trans rfl, (blk_cell BK155.out 1).trans rfl, (blk_cell BK155.out 2).trans rfl, (blk_cell BK162.out 0).trans rfl, (blk_cell BK162.out 1).trans rfl, (blk_cell BK162.out 2).trans rfl, (blk_cell BK162.out 3).trans rfl, ((HB.out.cell (World.block_lt_of_cell? w _ hw163_0)).trans hw163_0), ((HB.out.cell (World.block_lt_of_cell? w _ hw163_1)).trans hw163_1), ((HB.out.cell (World.block_lt_of_cell? w _ hw163_2)).trans hw163_2), ((HB.out.cell (World.block_lt_of_cell? w _ hw163_3)).trans hw163_3)⟩ (fun hHeld => ?_); refine with_tabW spec_LaySheet.tab7 spec_LaySheet.bits7 (fun HT_ HW_ => ?_)
           generalize w79.drew = w80 at HO_161002 BK154 BK155 BK156 BK160 BK162 HB hx163_0 hx163_1 hx163_2 hx163_3 hHeld ⊢
           refine pure_ (i := 0) (N := some 52) (v := ?_) (a' := ?_) #[true, false, false, false, false, false, false, false, false, false, false, false, false, false, false] rfl rfl (any_of HT_.out (by kernel_rfl)) (fun _ _ _ h => h) (Or.inl ⟨by rfl, ?_⟩) ?_ ?_
           rotate_left
           ·intro w'
            go_simp
            with_reducible rfl
           rotate_left
           ·simp only [Act.put, List.setIfInBounds_toArray, List.set_cons_zero, List.set_cons_succ, i64_w, i32_w]
            rfl
           refine pure_ (i := 2) (N := some 54) (v := ?_) (a' := ?_) #[true, false, true, false, false, false, false, false, false, false, false, false, false, false, false] rfl rfl (any_of HT_.out (by kernel_rfl)) (fun _ _ _ h => h) (Or.inl ⟨by rfl, ?_⟩) ?_ ?_
           rotate_left
           ·intro w'
            go_simp
            with_reducible rfl
           rotate_left
           ·simp only [Act.put, List.setIfInBounds_toArray, List.set_cons_zero, List.set_cons_succ, i64_w, i32_w]
            rfl
           refine pure_ (i := 4) (N := some 56) (v := ?_) (a' := ?_) #[true, false, true, false, true, false, false, false, false, false, false, false, false, false, false] rfl rfl (any_of HT_.out (by kernel_rfl)) (fun _ _ _ h => h) (Or.inl ⟨by rfl, ?_⟩) ?_ ?_
           rotate_left
           ·intro w'
            go_simp
            with_reducible rfl
           rotate_left
           ·simp only [Act.put, List.setIfInBounds_toArray, List.set_cons_zero, List.set_cons_succ, i64_w, i32_w]
            rfl
           refine pure_ (i := 7) (N := some 59) (v := ?_) (a' := ?_) #[true, false, true, false, true, false, false, true, false, false, false, false, false, false, false] rfl rfl (any_of HT_.out (by kernel_rfl)) (fun _ _ _ h => h) (Or.inl ⟨by rfl, ?_⟩) ?_ ?_
           rotate_left
           ·intro w'
            go_simp
            with_reducible rfl
           rotate_left
           ·simp only [Act.put, List.setIfInBounds_toArray, List.set_cons_zero, List.set_cons_succ, i64_w, i32_w]
            rfl
           refine take_ (i := 1) (N := some 53) (v := ?_) (a' := ?_) #[true, true, true, false, true, false, false, true, false, false, false, false, false, false, false] rfl rfl (take_ofW HT_.out HW_.out (by kernel_rfl)) (fun _ _ _ h => h) (Or.inl ⟨by rfl, ?_⟩) hHeld ?_ ?_
           rotate_left
           ·rintro w' ⟨s0, s1, s2, s3, s4, s5, s6, s7, s8, s9, s10, s11, s12, s13⟩
            go_simp
            with_reducible rfl
           rotate_left
           ·simp only [Act.put, List.setIfInBounds_toArray, List.set_cons_zero, List.set_cons_succ, i64_w, i32_w]
            rfl
           refine take_ (i := 3) (N := some 55) (v := ?_) (a' := ?_) #[true, true, true, true, true, false, false, true, false, false, false, false, false, false, false] rfl rfl (take_ofW HT_.out HW_.out (by kernel_rfl)) (fun _ _ _ h => h) (Or.inl ⟨by rfl, ?_⟩) hHeld ?_ ?_
           rotate_left
           ·rintro w' ⟨s0, s1, s2, s3, s4, s5, s6, s7, s8, s9, s10, s11, s12, s13⟩
            go_simp
            with_reducible rfl
           rotate_left
           ·simp only [Act.put, List.setIfInBounds_toArray, List.set_cons_zero, List.set_cons_succ, i64_w, i32_w]
            rfl
           refine pure_ (i := 5) (N := some 57) (v := ?_) (a' := ?_) #[true, true, true, true, true, true, false, true, false, false, false, false, false, false, false] rfl rfl (any_of HT_.out (by kernel_rfl)) (fun _ _ _ h => h) (Or.inl ⟨by rfl, ?_⟩) ?_ ?_
           rotate_left
           ·intro w'
            go_simp
            with_reducible rfl
           rotate_left
           ·simp only [Act.put, List.setIfInBounds_toArray, List.set_cons_zero, List.set_cons_succ, i64_w, i32_w]
            rfl
           refine take_ (i := 6) (N := some 58) (v := ?_) (a' := ?_) #[true, true, true, true, true, true, true, true, false, false, false, false, false, false, false] rfl rfl (take_ofW HT_.out HW_.out (by kernel_rfl)) (fun _ _ _ h => h) (Or.inl ⟨by rfl, ?_⟩) hHeld ?_ ?_
           rotate_left
           ·rintro w' ⟨s0, s1, s2, s3, s4, s5, s6, s7, s8, s9, s10, s11, s12, s13⟩
            go_simp
            with_reducible rfl
           rotate_left
           ·simp only [Act.put, List.setIfInBounds_toArray, List.set_cons_zero, List.set_cons_succ, i64_w, i32_w]
            rfl
           refine take_ (i := 9) (N := some 61) (v := ?_) (a' := ?_) #[true, true, true, true, true, true, true, true, false, true, false, false, false, false, false] rfl rfl (take_ofW HT_.out HW_.out (by kernel_rfl)) (fun _ _ _ h => h) (Or.inl ⟨by rfl, ?_⟩) hHeld ?_ ?_
           rotate_left
           ·rintro w' ⟨s0, s1, s2, s3, s4, s5, s6, s7, s8, s9, s10, s11, s12, s13⟩
            go_simp
            with_reducible rfl
           rotate_left
           ·simp only [Act.put, List.setIfInBounds_toArray, List.set_cons_zero, List.set_cons_succ, i64_w, i32_w]
            rfl
           refine one_ (i := 8) (N := some 60) #[true, true, true, true, true, true, true, true, true, true, false, false, false, false, false] rfl rfl (one_of HT_.out (by kernel_rfl)) (by decide) (fun K hK => ?_)
           refine z5907.gs Try.func117 (by kernel_rfl) rfl #[.agg #[.int .i64 ((rd_T54 l1_2 x47_2).f0), .int .i64 ((rd_T54 l1_2 x47_2).f1), .int .i64 ((rd_T54 l1_2 x47_2).f2), .int .i64 ((rd_T54 l1_2 x47_2).f3)], .int .i64 a2] (by rfl) rfl rfl ?_
           with_reducible refine (spec_l12Thin.calls ((rd_T54 l1_2 x47_2).f0) ((rd_T54 l1_2 x47_2).f1) ((rd_T54 l1_2 x47_2).f2) ((rd_T54 l1_2 x47_2).f3) a2 t164 t165 t166 t167 _ A70.out).mono ?_
           rintro e w81 ⟨rfl, hb⟩
           refine ⟨_, rfl, ?_⟩
           replace HO_161002 := z5907.rb HO_161002 hb
           replace BK154 := z5907.bb BK154 hb
           replace BK155 := z5907.bb BK155 hb
           replace BK156 := z5907.bb BK156 hb
           replace BK160 := z5907.bb BK160 hb
           replace BK162 := z5907.bb BK162 hb
           replace HB := Aside0.mk (below_step (z5907.bl HB) hb)
           (try clear hb)
           (try clear hb2)
           (try clear hk)
           (try clear hi)
           refine hK.out _ _ ⟨(blk_cell BK160.out 0).trans rfl, (blk_cell BK160.out 1).trans rfl, (blk_cell BK160.out 2).trans rfl, (blk_cell BK155.out 0).trans rfl, (blk_cell BK155.out 1).trans rfl, (blk_cell BK155.out 2).trans rfl, (blk_cell BK162.out 0).trans rfl, (blk_cell BK162.out 1).trans rfl, (blk_cell BK162.out 2).trans rfl, (blk_cell BK162.out 3).trans rfl, ((HB.out.cell (World.block_lt_of_cell? w _ hw163_0)).trans hw163_0), ((HB.out.cell (World.block_lt_of_cell? w _ hw163_1)).trans hw163_1), ((HB.out.cell (World.block_lt_of_cell? w _ hw163_2)).trans hw163_2), ((HB.out.cell (World.block_lt_of_cell? w _ hw163_3)).trans hw163_3)⟩ (fun hHeld => ?_)
           clear hK K
           refine norm_ (a' := ?_) ?_ ?_
           rotate_left
           ·show Act.put _ (some 60) _ = _
            simp only [Act.put, List.setIfInBounds_toArray, List.set_cons_zero, List.set_cons_succ, i64_w, i32_w]
            rfl
           refine one_ (i := 10) (N := some 62) #[true, true, true, true, true, true, true, true, true, true, true, false, false, false, false] rfl rfl (one_of HT_.out (by kernel_rfl)) (by decide) (fun K hK => ?_)
           refine z5907.gs Try.func116 (by kernel_rfl) rfl #[.agg #[.int .i64 t164, .int .i64 t165, .int .i64 t166, .int .i64 t167], .agg #[.int .i64 ((rd_T54 l0_2 x47_2).f0), .int .i64 ((rd_T54 l0_2 x47_2).f1), .int .i64 ((rd_T54 l0_2 x47_2).f2), .int .i64 ((rd_T54 l0_2 x47_2).f3)]] (by rfl) rfl rfl ?_
           with_reducible refine (spec_l12Over.calls t164 t165 t166 t167 ((rd_T54 l0_2 x47_2).f0) ((rd_T54 l0_2 x47_2).f1) ((rd_T54 l0_2 x47_2).f2) ((rd_T54 l0_2 x47_2).f3) t168 t169 t170 t171 _ A71.out).mono ?_
           rintro e w82 ⟨rfl, hb⟩
           refine ⟨_, rfl, ?_⟩
           replace HO_161002 := z5907.rb HO_161002 hb
           replace BK154 := z5907.bb BK154 hb
           replace BK155 := z5907.bb BK155 hb
           replace BK156 := z5907.bb BK156 hb
           replace BK160 := z5907.bb BK160 hb
           replace BK162 := z5907.bb BK162 hb
           replace HB := Aside0.mk (below_step (z5907.bl HB) hb)
           (try clear hb)
           (try clear hb2)
           (try clear hk)
           (try clear hi)
           refine hK.out _ _ ⟨(blk_cell BK160.out 0).trans rfl, (blk_cell BK160.out 1).trans rfl, (blk_cell BK160.out 2).trans rfl, (blk_cell BK155.out 0).trans rfl, (blk_cell BK155.out 1).trans rfl, (blk_cell BK155.out 2).trans rfl, (blk_cell BK162.out 0).trans rfl, (blk_cell BK162.out 1).trans rfl, (blk_cell BK162.out 2).trans rfl, (blk_cell BK162.out 3).trans rfl, ((HB.out.cell (World.block_lt_of_cell? w _ hw163_0)).trans hw163_0), ((HB.out.cell (World.block_lt_of_cell? w _ hw163_1)).trans hw163_1), ((HB.out.cell (World.block_lt_of_cell? w _ hw163_2)).trans hw163_2), ((HB.out.cell (World.block_lt_of_cell? w _ hw163_3)).trans hw163_3)⟩ (fun hHeld => ?_)
           clear hK K
           refine norm_ (a' := ?_) ?_ ?_
           rotate_left
           ·show Act.put _ (some 62) _ = _
            simp only [Act.put, List.setIfInBounds_toArray, List.set_cons_zero, List.set_cons_succ, i64_w, i32_w]
            rfl
           refine one_ (i := 11) (N := some 63) #[true, true, true, true, true, true, true, true, true, true, true, true, false, false, false] rfl rfl (one_of HT_.out (by kernel_rfl)) (by decide) (fun K hK => ?_)
           refine value_ (w1 := ?_) (v := ?_) (by rfl) rfl ?_ ?_
           rotate_left 2
           ·go_simp
            constructor
            ·rfl
            ·rfl
           refine hK.out _ _ ⟨(blk_cell (blk_alloc BK160.out _) 0).trans rfl, (blk_cell (blk_alloc BK160.out _) 1).trans rfl, (blk_cell (blk_alloc BK160.out _) 2).trans rfl, (blk_cell (blk_alloc BK155.out _) 0).trans rfl, (blk_cell (blk_alloc BK155.out _) 1).trans rfl, (blk_cell (blk_alloc BK155.out _) 2).trans rfl, (blk_cell (blk_alloc BK162.out _) 0).trans rfl, (blk_cell (blk_alloc BK162.out _) 1).trans rfl, (blk_cell (blk_alloc BK162.out _) 2).trans rfl, (blk_cell (blk_alloc BK162.out _) 3).trans rfl, (World.cell?_alloc_lt _ _ _ (World.block_lt_of_cell? _ _ (((HB.out.cell (World.block_lt_of_cell? w _ hw163_0)).trans hw163_0)))).trans (((HB.out.cell (World.block_lt_of_cell? w _ hw163_0)).trans hw163_0)), (World.cell?_alloc_lt _ _ _ (World.block_lt_of_cell? _ _ (((HB.out.cell (World.block_lt_of_cell? w _ hw163_1)).trans hw163_1)))).trans (((HB.out.cell (World.block_lt_of_cell? w _ hw163_1)).trans hw163_1)), (World.cell?_alloc_lt _ _ _ (World.block_lt_of_cell? _ _ (((HB.out.cell (World.block_lt_of_cell? w _ hw163_2)).trans hw163_2)))).trans (((HB.out.cell (World.block_lt_of_cell? w _ hw163_2)).trans hw163_2)), (World.cell?_alloc_lt _ _ _ (World.block_lt_of_cell? _ _ (((HB.out.cell (World.block_lt_of_cell? w _ hw163_3)).trans hw163_3)))).trans (((HB.out.cell (World.block_lt_of_cell? w _ hw163_3)).trans hw163_3))⟩ (fun hHeld => ?_)
           clear hK K
           refine norm_ (a' := ?_) ?_ ?_
           rotate_left
           ·show Act.put _ (some 63) _ = _
            simp only [Act.put, List.setIfInBounds_toArray, List.set_cons_zero, List.set_cons_succ, i64_w, i32_w]
            rfl
           refine one_ (i := 12) (N := some 64) #[true, true, true, true, true, true, true, true, true, true, true, true, true, false, false] rfl rfl (one_of HT_.out (by kernel_rfl)) (by decide) (fun K hK => ?_)
           refine Kd.R_append_step k54 (w0 := w) w.heap.size (by rfl) (.tmp 53) (.tmp 63) 68 54 (.agg #[(.int .i64 0), (.int .i64 0), (.int .i64 0), (.int .i64 0)]) 32 rfl Try.underlying68 info54 rfl (by decide) (by omega) u161002 x161002_2 (⟨t168, t169, t170, t171⟩ : S54) [.int .i64 t168, .int .i64 t169, .int .i64 t170, .int .i64 t171] (fun k_ => k_ ≠ gb162) (fun _ => False) rfl rfl ?aP (fun _ hk => hk.elim) ?aF ?aO ?aB ?aS ?aL ?_
           (case aP => exact k54_mkM _ _ _ (⟨t168, t169, t170, t171⟩ : S54))
           (case aB => exact (z5907.bl HB))
           (case aF => exact (fun k_ hk => Kd.freshB (g := gb162) (z5907.bk BK162) k_ hk))
           (case aO => exact (z5907.rl HO_161002.out))
           (case aS => exact (below_size (z5907.bl HB)))
           (case aL => have := LMc72.out; omega)
           intro v173 w83 ho hb hg hat
           rw [← Ny172.out] at ho
           replace BK154 := Aside0.mk (blk_grown (g := gb154) (z5907.bk BK154) hg (Kd.R_ne HO_161002.out BK154.out (by decide)))
           replace BK155 := Aside0.mk (blk_grown (g := gb155) (z5907.bk BK155) hg (Kd.R_ne HO_161002.out BK155.out (by decide)))
           replace BK156 := Aside0.mk (blk_grown (g := gb156) (z5907.bk BK156) hg (Kd.R_ne HO_161002.out BK156.out (by decide)))
           replace BK160 := Aside0.mk (blk_grown (g := gb160) (z5907.bk BK160) hg (Kd.R_ne HO_161002.out BK160.out (by decide)))
           replace BK162 := Aside0.mk (blk_grown (g := gb162) (z5907.bk BK162) hg (Kd.R_away HO_161002.out (fun _ hk => hk)))
           replace HB := Aside0.mk (hb)
           have HO174 := Aside0.mk (ho)
           clear HO_161002
           clear ho hb hg hat
           obtain ⟨Ao84, co84, eo84⟩ := Kd.R_slice HO174.out
           (first | subst eo84 | (injection eo84 with f1_ f2_ f3_; have f4_ := f1_.symm; have f5_ := f3_.symm; clear f1_ f2_ f3_; subst f4_; subst f5_))
           refine hK.out _ _ ⟨(blk_cell BK160.out 0).trans rfl, (blk_cell BK160.out 1).trans rfl, (blk_cell BK160.out 2).trans rfl, (blk_cell BK155.out 0).trans rfl, (blk_cell BK155.out 1).trans rfl, (blk_cell BK155.out 2).trans rfl, (blk_cell BK162.out 0).trans rfl, (blk_cell BK162.out 1).trans rfl, (blk_cell BK162.out 2).trans rfl, (blk_cell BK162.out 3).trans rfl, ((HB.out.cell (World.block_lt_of_cell? w _ hw163_0)).trans hw163_0), ((HB.out.cell (World.block_lt_of_cell? w _ hw163_1)).trans hw163_1), ((HB.out.cell (World.block_lt_of_cell? w _ hw163_2)).trans hw163_2), ((HB.out.cell (World.block_lt_of_cell? w _ hw163_3)).trans hw163_3)⟩ (fun hHeld => ?_)
           clear hK K
           refine norm_ (a' := ?_) ?_ ?_
           rotate_left
           ·show Act.put _ (some 64) _ = _
            simp only [Act.put, List.setIfInBounds_toArray, List.set_cons_zero, List.set_cons_succ, i64_w, i32_w]
            rfl
           refine pure_ (i := 13) (N := some 65) (v := ?_) (a' := ?_) #[true, true, true, true, true, true, true, true, true, true, true, true, true, true, false] rfl rfl (any_of HT_.out (by kernel_rfl)) (fun _ _ _ h => h) (Or.inl ⟨by rfl, ?_⟩) ?_ ?_
           rotate_left
           ·intro w'
            go_simp
            with_reducible rfl
           rotate_left
           ·simp only [Act.put, List.setIfInBounds_toArray, List.set_cons_zero, List.set_cons_succ, i64_w, i32_w]
            rfl
           refine last_ (i := 14) (N := none) #[true, true, true, true, true, true, true, true, true, true, true, true, true, true, true] rfl rfl (one_of HT_.out (by kernel_rfl)) (by decide) (fun K hK => ?_)
           have hs85 : w83.cell? ⟨gb160, 2, none⟩ = some (u161002) := (blk_cell BK160.out 2).trans rfl
           have hfs85 := blk_frozen BK160.out 2
           have hns85_0 := NB154_160.out
           have hns85_1 := NB155_160.out
           have hns85_2 := NB156_160.out
           have hns85_4 := NB162_160.out
           have hms85_0 := NB160_154.out
           have hms85_1 := NB160_155.out
           have hms85_2 := NB160_156.out
           have hms85_4 := NB160_162.out
           refine skip_ (w1 := ?_) (by rfl) rfl ?_ ?_
           rotate_left
           ·go_simp
            rfl
           refine hK.out _ _ ?_
           clear hK K
           refine done_ (done_of HT_.out (by kernel_rfl)) ?_
           try go_wp2
           go_roundg k2
           case measure => have := HJ3.out; have := HK2.out; omega
           case rel => exact ⟨(wrap64 (x47_2 + 1)), (y172), (.slice Ao84 y172.length co84), (by first | rfl | (simp; done) | (simp [*]; done)), H', ⟨by have := HJ3.out; have := HK2.out; omega⟩, ⟨z5907.rl (Kd.R_mono (Kd.R_far (p := ⟨gb160, 2, none⟩) (Kd.R_types HO174.out BK160.out (by decide)) (fun _ hk => hk.2) (.slice Ao84 y172.length co84)) (fun _ hk => trivial))⟩, ⟨z5907.bf BK154⟩, ⟨z5907.bf BK155⟩, ⟨z5907.bf BK156⟩, ⟨by (with_reducible repeat (first | refine blk_drewN ?_ _ | refine blk_drew ?_ | refine blk_alloc ?_ _)); refine blk_put (cs := #[.int .i64 a0_0, .int .i64 a0_1, u161002]) ?_ 2 _ rfl; (with_reducible repeat (first | refine blk_drewN ?_ _ | refine blk_drew ?_ | refine blk_alloc ?_ _)); exact BK160.out⟩, ⟨z5907.bl HB⟩⟩
          ·rw [if_neg c72] at H
           exact absurd H (by simp)
         ·rw [if_neg c69] at H
          exact absurd H (by simp)
        ·rw [if_neg c68] at H
         exact absurd H (by simp)
       ·rw [if_neg c67] at H
        exact absurd H (by simp)
      ·rw [if_neg c66] at H
       have c66b0 : decide (x47_2 < (l0_2.length : Int)) = false := decide_eq_false c66
       clear c66
       simp only [Option.some.injEq, Prod.mk.injEq] at H
       obtain ⟨rfl, rfl, rfl, rfl⟩ := H
       have hnb86 := NB160_154.out
       have hnc86 := NB154_160.out
       have hnb87 := NB160_155.out
       have hnc87 := NB155_160.out
       have hnb88 := NB160_156.out
       have hnc88 := NB156_160.out
       have hcz89_0 : wr.cell? ⟨gb160, 0, none⟩ = some (.int .i64 a0_0) := (blk_cell BK160.out 0).trans rfl
       have hcz89_1 : wr.cell? ⟨gb160, 1, none⟩ = some (.int .i64 a0_1) := (blk_cell BK160.out 1).trans rfl
       have hcz89_2 : wr.cell? ⟨gb160, 2, none⟩ = some (u161002) := (blk_cell BK160.out 2).trans rfl
       have hfz89_0 := blk_frozen BK160.out 0
       have hfz89_1 := blk_frozen BK160.out 1
       have hfz89_2 := blk_frozen BK160.out 2
       have hnb90 := NB156_154.out
       have hnc90 := NB154_156.out
       have hnb91 := NB156_155.out
       have hnc91 := NB155_156.out
       have hcz92_0 : wr.cell? ⟨gb156, 0, none⟩ = some (.int .i64 0) := (blk_cell BK156.out 0).trans rfl
       have hcz92_1 : wr.cell? ⟨gb156, 1, none⟩ = some (.int .i64 0) := (blk_cell BK156.out 1).trans rfl
       have hcz92_2 : wr.cell? ⟨gb156, 2, none⟩ = some (.slice none 0 0) := (blk_cell BK156.out 2).trans rfl
       have hfz92_0 := blk_frozen BK156.out 0
       have hfz92_1 := blk_frozen BK156.out 1
       have hfz92_2 := blk_frozen BK156.out 2
       obtain ⟨Ao93, co93, eo93⟩ := Kd.R_slice HO_161002.out
       subst eo93
       go_wp2
       refine bodyPost_ret (results_ct rfl _ _ gb156 70 #[.int .i64 a0_0, .int .i64 a0_1, .slice Ao93 x161002_2.length co93] (0, 0) _ rfl (by (with_reducible repeat (first | refine blk_drewN ?_ _ | refine blk_drew ?_ | refine blk_alloc ?_ _)); refine blk_put (cs := #[.int .i64 a0_0, .int .i64 a0_1, .slice none 0 0]) ?_ 2 _ rfl; (with_reducible repeat (first | refine blk_drewN ?_ _ | refine blk_drew ?_ | refine blk_alloc ?_ _)); refine blk_put (cs := #[.int .i64 a0_0, .int .i64 0, .slice none 0 0]) ?_ 1 _ rfl; (with_reducible repeat (first | refine blk_drewN ?_ _ | refine blk_drew ?_ | refine blk_alloc ?_ _)); refine blk_put (cs := #[.int .i64 0, .int .i64 0, .slice none 0 0]) ?_ 0 _ rfl; (with_reducible repeat (first | refine blk_drewN ?_ _ | refine blk_drew ?_ | refine blk_alloc ?_ _)); exact BK156.out) Try.underlying70 rfl (by kernel_rfl)) rfl ?_
       exact ⟨_, by first | rfl | (simp [errW_none, errW_some] <;> rfl) | (simp [*, errW_none, errW_some] <;> rfl), z5907.rl (Kd.R_mono (Kd.R_far (p := ⟨gb156, 2, none⟩) (Kd.R_far (p := ⟨gb156, 1, none⟩) (Kd.R_far (p := ⟨gb156, 0, none⟩) (Kd.R_types HO_161002.out BK156.out (by decide)) (fun _ hk => hk.2) (.int .i64 a0_0)) (fun _ hk => hk.2) (.int .i64 a0_1)) (fun _ hk => hk.2) (.slice Ao93 x161002_2.length co93)) (fun _ hk => trivial)), z5907.bl HB⟩

end Go.Proofs.Ytdmndbehfdnneaa.HFnExactLaySheet
