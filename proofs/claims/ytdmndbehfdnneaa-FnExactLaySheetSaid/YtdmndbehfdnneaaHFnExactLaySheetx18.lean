-- Printed by a program of this session over the kit's print; functions that the print does not take stand here by hand.
import Derived.Test.YtdmndbehfdnneaaHFnExactLaySheetx0
import Derived.Test.YtdmndbehfdnneaaHFnExactLaySheetx13
import Derived.Test.YtdmndbehfdnneaaHFnExactLaySheetx15
import Derived.Test.YtdmndbehfdnneaaHFnExactLaySheetx16
import Derived.Test.YtdmndbehfdnneaaHFnExactLaySheetx17
namespace Go.Proofs.Ytdmndbehfdnneaa.HFnExactLaySheet
open Go.RowKit Go.Proofs.YtdmndbehfdnneaaW.PrintWords Go.Proofs.YtdmndbehfdnneaaW.PrintLast Go.Proofs.YtdmndbehfdnneaaW.PrintMore
attribute [local go_sem] max2_int min2_int max_two min_two max_three min_three max_four min_four   -- for this text's walks alone
set_option linter.unusedVariables false
set_option linter.unusedSimpArgs false

/-! ### impl_LaySheet: function 48 -/
mutual
def impl_LaySheet.j0 : Nat → Int → Bool → Int → Int → List (S54) → Int → Int → List (S54) → Option (Int × Int × (List (S54)) × Bool)
  | 0, _, _, _, _, _, _, _, _ => none
  | k + 1, x2, x41, x189000, x189001, x189002, x190000, x190001, x190002 => if x41 = true then (some (0, 0, ([] : List (S54)), false)) else (impl_LaySheet.l0 k x2 x190002 (x190002.length : Int) 0 x189000 x189001 x189002 x189000 x189001 ([] : List (S54)))
def impl_LaySheet.l0 : Nat → Int → List (S54) → Int → Int → Int → Int → List (S54) → Int → Int → List (S54) → Option (Int × Int × (List (S54)) × Bool)
  | 0, _, _, _, _, _, _, _, _, _, _ => none
  | k + 1, x2, x49, x50, x51, x189000, x189001, x189002, x195000, x195001, x195002 => if x51 < x50 then (if 0 ≤ x51 then (if x51 < (x49.length : Int) then ((impl_ThinTint.f ((rd_T54 x49 x51).f0) ((rd_T54 x49 x51).f1) ((rd_T54 x49 x51).f2) ((rd_T54 x49 x51).f3) x2).bind fun bt197 => (if x51 < (x189002.length : Int) then ((impl_OverTint.f bt197.1 bt197.2.1 bt197.2.2.1 bt197.2.2.2.1 ((rd_T54 x189002 x51).f0) ((rd_T54 x189002 x51).f1) ((rd_T54 x189002 x51).f2) ((rd_T54 x189002 x51).f3)).bind fun bt204 => (if x195002.length < 4398046511104 then (impl_LaySheet.l0 k x2 x49 x50 (wrap64 (x51 + 1)) x189000 x189001 x189002 x195000 x195001 (x195002 ++ [(⟨bt204.1, bt204.2.1, bt204.2.2.1, bt204.2.2.2.1⟩ : S54)])) else (none))) else (none))) else (none)) else (none)) else (some (x195000, x195001, x195002, true))
end
def impl_LaySheet.f (k : Nat) (a0_0 : Int) (a0_1 : Int) (l0_2 : List (S54)) (a1_0 : Int) (a1_1 : Int) (l1_2 : List (S54)) (a2 : Int) : Option (Int × Int × (List (S54)) × Bool) := (impl_GoodSheet.f k a0_0 a0_1 l0_2).bind fun t191 => (if t191 = true then ((impl_GoodSheet.f k a1_0 a1_1 l1_2).bind fun t192 => (if t192 = true then (if a0_0 = a1_0 then (if a0_1 = a1_1 then ((impl_isShare.f a2).bind fun t193 => (impl_LaySheet.j0 k a2 (!t193) a0_0 a0_1 l0_2 a1_0 a1_1 l1_2)) else (impl_LaySheet.j0 k a2 true a0_0 a0_1 l0_2 a1_0 a1_1 l1_2)) else (impl_LaySheet.j0 k a2 true a0_0 a0_1 l0_2 a1_0 a1_1 l1_2)) else (impl_LaySheet.j0 k a2 true a0_0 a0_1 l0_2 a1_0 a1_1 l1_2))) else (impl_LaySheet.j0 k a2 true a0_0 a0_1 l0_2 a1_0 a1_1 l1_2))
theorem impl_LaySheet.mono_l : ∀ k, (∀ y0 y1 y2 y3 y4 y5 y6 y7, LeO (impl_LaySheet.j0 k y0 y1 y2 y3 y4 y5 y6 y7) (impl_LaySheet.j0 (k + 1) y0 y1 y2 y3 y4 y5 y6 y7)) ∧ (∀ y0 y1 y2 y3 y4 y5 y6 y7 y8 y9, LeO (impl_LaySheet.l0 k y0 y1 y2 y3 y4 y5 y6 y7 y8 y9) (impl_LaySheet.l0 (k + 1) y0 y1 y2 y3 y4 y5 y6 y7 y8 y9))
  | 0 => ⟨fun _ _ _ _ _ _ _ _ r h => by simp [impl_LaySheet.j0] at h, fun _ _ _ _ _ _ _ _ _ _ r h => by simp [impl_LaySheet.l0] at h⟩
  | k + 1 => by
    obtain ⟨ih0, ih1⟩ := impl_LaySheet.mono_l k
    refine ⟨?_, ?_⟩
    · intro y0 y1 y2 y3 y4 y5 y6 y7
      unfold impl_LaySheet.j0
      repeat' first
      | (with_reducible exact ih0 _ _ _ _ _ _ _ _)
      | (with_reducible exact ih1 _ _ _ _ _ _ _ _ _ _)
      | (with_reducible exact impl_GoodSheet.mono _ _ _ _)
      | (with_reducible exact LeO.refl _)
      | (with_reducible exact LeO.none _)
      | (with_reducible refine LeO.ite ?_ ?_)
      | (with_reducible refine LeO.bind ?_ (fun _ => ?_))
      | exact ih0 _ _ _ _ _ _ _ _
      | exact ih1 _ _ _ _ _ _ _ _ _ _
      | exact impl_GoodSheet.mono _ _ _ _
      | exact LeO.none _
      | refine LeO.ite ?_ ?_
      | refine LeO.bind ?_ (fun _ => ?_)
    · intro y0 y1 y2 y3 y4 y5 y6 y7 y8 y9
      unfold impl_LaySheet.l0
      repeat' first
      | (with_reducible exact ih0 _ _ _ _ _ _ _ _)
      | (with_reducible exact ih1 _ _ _ _ _ _ _ _ _ _)
      | (with_reducible exact impl_GoodSheet.mono _ _ _ _)
      | (with_reducible exact LeO.refl _)
      | (with_reducible exact LeO.none _)
      | (with_reducible refine LeO.ite ?_ ?_)
      | (with_reducible refine LeO.bind ?_ (fun _ => ?_))
      | exact ih0 _ _ _ _ _ _ _ _
      | exact ih1 _ _ _ _ _ _ _ _ _ _
      | exact impl_GoodSheet.mono _ _ _ _
      | exact LeO.none _
      | refine LeO.ite ?_ ?_
      | refine LeO.bind ?_ (fun _ => ?_)
theorem impl_LaySheet.mono : ∀ a0 a1 a2 a3 a4 a5 a6 k, LeO (impl_LaySheet.f k a0 a1 a2 a3 a4 a5 a6) (impl_LaySheet.f (k + 1) a0 a1 a2 a3 a4 a5 a6) := by
  intro a0 a1 a2 a3 a4 a5 a6 k
  obtain ⟨ih0, ih1⟩ := impl_LaySheet.mono_l k
  unfold impl_LaySheet.f
  repeat' first
      | (with_reducible exact ih0 _ _ _ _ _ _ _ _)
      | (with_reducible exact ih1 _ _ _ _ _ _ _ _ _ _)
      | (with_reducible exact impl_GoodSheet.mono _ _ _ _)
      | (with_reducible exact LeO.refl _)
      | (with_reducible exact LeO.none _)
      | (with_reducible refine LeO.ite ?_ ?_)
      | (with_reducible refine LeO.bind ?_ (fun _ => ?_))
      | exact ih0 _ _ _ _ _ _ _ _
      | exact ih1 _ _ _ _ _ _ _ _ _ _
      | exact impl_GoodSheet.mono _ _ _ _
      | exact LeO.none _
      | refine LeO.ite ?_ ?_
      | refine LeO.bind ?_ (fun _ => ?_)
def impl_LaySheet.T8 : Bool × List (List Nat × List Nat) := (true, [([], []), ([], []), ([1], [1]), ([], []), ([2, 3], [2, 3]), ([4], [4]), ([0, 5], [0, 5]), ([6], [6]), ([7], [7]), ([7], [7]), ([], []), ([10, 8, 6, 0, 1, 2, 3, 4, 5, 6, 7, 8, 10], [8, 10]), ([9, 11, 0, 1, 2, 3, 4, 5, 6, 7, 8, 9, 10, 11], [9])])
def impl_LaySheet.B8 : List Nat := [0, 0, 2, 0, 14, 30, 63, 127, 255, 255, 0, 1535, 4095]
theorem impl_LaySheet.tab8 : rtab .any (opsOf Try.f48 8) = impl_LaySheet.T8 := by kernel_rfl
theorem impl_LaySheet.bits8 : waitsOk impl_LaySheet.T8.2 impl_LaySheet.B8 = true := by kernel_rfl
theorem z905.bk {g : Nat} {o : Obj} {W V : World} (h : Aside0 (W.heap[g]? = some o)) (k : W.heap[g]? = some o → V.heap[g]? = some o := by intro h_; (with_reducible repeat (first | refine blk_drewN ?_ _ | refine blk_drew ?_ | refine blk_alloc ?_ _)); exact h_) : V.heap[g]? = some o := k h.out
theorem z905.bb {g : Nat} {o : Obj} {W V w1 : World} (h : Aside0 (W.heap[g]? = some o)) (hb : Below V.heap.size V w1) (k : W.heap[g]? = some o → V.heap[g]? = some o := by intro h_; (with_reducible repeat (first | refine blk_drewN ?_ _ | refine blk_drew ?_ | refine blk_alloc ?_ _)); exact h_) : Aside0 (w1.heap[g]? = some o) := ⟨blk_below (k h.out) hb⟩
theorem z905.bf {g : Nat} {o : Obj} {W V : World} (h : Aside0 (W.heap[g]? = some o)) (k : W.heap[g]? = some o → V.heap[g]? = some o := by intro h_; (with_reducible repeat (first | refine blk_drewN ?_ _ | refine blk_drew ?_ | refine blk_alloc ?_ _ | refine blk_far ?_ (Aside0.out (by assumption)) _)); exact h_) : V.heap[g]? = some o := k h.out
theorem z905.rl {T : Type} {d : Kd T} {e : TypeId} {base : Nat} {ok : Nat → Prop} {v : Value} {xs : List T} {W V : World} (h : d.R e W base ok v xs) (k : d.R e W base ok v xs → d.R e V base ok v xs := by intro h_; (with_reducible repeat (first | apply Kd.R_alloc | apply Kd.R_drewN | apply Kd.R_drew)); exact h_) : d.R e V base ok v xs := k h
theorem z905.rb {T : Type} {d : Kd T} {e : TypeId} {base : Nat} {ok : Nat → Prop} {v : Value} {xs : List T} {W V w1 : World} (h : Aside0 (d.R e W base ok v xs)) (hb : Below V.heap.size V w1) (k : d.R e W base ok v xs → d.R e V base ok v xs := by intro h_; (with_reducible repeat (first | apply Kd.R_alloc | apply Kd.R_drewN | apply Kd.R_drew)); exact h_) : Aside0 (d.R e w1 base ok v xs) := ⟨Kd.R_below (k h.out) hb⟩
theorem z905.ht {g : Nat} {o : Obj} {W V : World} {b : Nat} (h : Aside0 (W.heap[g]? = some o)) (hg : b = V.heap.size) (k : W.heap[g]? = some o → V.heap[g]? = some o := by intro h_; (with_reducible repeat (first | refine blk_drewN ?_ _ | refine blk_drew ?_ | refine blk_alloc ?_ _)); exact h_) : Aside0 (g ≠ b) := ⟨by rw [hg]; exact Nat.ne_of_lt (blk_lt (k h.out))⟩
theorem z905.hu {g : Nat} {o : Obj} {W V : World} {b : Nat} (h : Aside0 (W.heap[g]? = some o)) (hg : b = V.heap.size) (k : W.heap[g]? = some o → V.heap[g]? = some o := by intro h_; (with_reducible repeat (first | refine blk_drewN ?_ _ | refine blk_drew ?_ | refine blk_alloc ?_ _)); exact h_) : Aside0 (b ≠ g) := ⟨by rw [hg]; exact Nat.ne_of_gt (blk_lt (k h.out))⟩
theorem z905.gl {P : Program} {ops : Array Oper} {Q : Exit → Act → World → Prop} {rest : List Oper} {oi : Oper} {a : Act} {w : World} (N : Option Tmp) (hd : oi.dst = N) (hg : oi.guard = none) {f : FuncId} {fn : Func} {av : Array Operand} {ts : Array TypeId} (hf : P.funcs[f]? = some fn) (hname : (fn.name == "runtime.NumGoroutine") = false) (hb : fn.body.isSome = true) (args : Array Value) (hop : oi.op = .call { callee := .value (.func f), args := av, argTypes := ts }) (h : Calls P f args w fun e w' => ∃ v, e = .returned v ∧ wpList P ops Q rest (a.put N v) w') (hargs : av.map a.eval = args := by (try simp only [List.map_toArray, List.map_cons, List.map_nil]); first | done | rfl | (simp only [List.length_drop, List.length_take]; rfl)) : wpList P ops Q (oi :: rest) a w := goesL_ N hd hg hf hname hb args hop hargs h
theorem z905.gs {P : Program} {ops : Array Oper} {Q : Exit → Act → World → Prop} {oi : Oper} {N : Option Tmp} {a : Act} {w : World} {K : Act → World → Prop} {f : FuncId} {fn : Func} {av : Array Operand} {ts : Array TypeId} (hf : P.funcs[f]? = some fn) (hname : (fn.name == "runtime.NumGoroutine") = false) (hb : fn.body.isSome = true) (args : Array Value) (hw : Region.wanted oi (yielded ops a.tmps) = true) (hN : oi.dst = N) (hop : oi.op = .call { callee := .value (.func f), args := av, argTypes := ts }) (h : Calls P f args w fun e w' => ∃ v, e = .returned v ∧ K (a.put N v) w') (hargs : av.map a.eval = args := by (try simp only [List.map_toArray, List.map_cons, List.map_nil]); first | done | rfl | (simp only [List.length_drop, List.length_take]; rfl)) : if Region.wanted oi (yielded ops a.tmps) = true then Oper.wp P oi a w K Q else K (a.put N undef) w := goes_ hf hname hb args hw hN hop hargs h
theorem z905.bl {w W V : World} (h : Aside0 (Below w.heap.size w W)) (k : Below w.heap.size w W → Below w.heap.size w V := by intro h_; repeat (first | (with_reducible first | exact h_ | apply below_alloc | apply pw_below_drewN | apply below_drew1 | refine below_set ?_ (Aside0.out (by assumption))) | exact h_)) : Below w.heap.size w V := k h.out
set_option maxHeartbeats 8000000 in
set_option maxRecDepth 100000 in
theorem impl_LaySheet.calls (k : Nat) (a0_0 : Int) (a0_1 : Int) (A0_2 : Option Addr) (c0_2 : Nat) (l0_2 : List (S54)) (a1_0 : Int) (a1_1 : Int) (A1_2 : Option Addr) (c1_2 : Nat) (l1_2 : List (S54)) (a2 : Int) (r1 : Int) (r2 : Int) (r3 : List (S54)) (r4 : Bool) (w : World) (hr0_2 : Kd.C k54 w A0_2 l0_2.length l0_2) (hc0_2 : l0_2.length ≤ c0_2) (hr1_2 : Kd.C k54 w A1_2 l1_2.length l1_2) (hc1_2 : l1_2.length ≤ c1_2) (h : impl_LaySheet.f k a0_0 a0_1 l0_2 a1_0 a1_1 l1_2 a2 = some (r1, r2, r3, r4)) :
    Calls Try.prog 48 #[.agg #[.int .i64 a0_0, .int .i64 a0_1, .slice A0_2 l0_2.length c0_2], .agg #[.int .i64 a1_0, .int .i64 a1_1, .slice A1_2 l1_2.length c1_2], .int .i64 a2] w fun e w' => ∃ v2_ : Value, e = .returned (.tuple #[.agg #[.int .i64 r1, .int .i64 r2, v2_], .bool r4]) ∧ Kd.R k54 54 w' w.heap.size (fun _ => True) v2_ r3 ∧ Below w.heap.size w w' := by
 have hu70 := Try.underlying70
 have hu54 := Try.underlying54
 have HR0_2 := Aside0.mk hr0_2
 have HC0_2 := Aside0.mk hc0_2
 clear hr0_2 hc0_2
 have HR1_2 := Aside0.mk hr1_2
 have HC1_2 := Aside0.mk hc1_2
 clear hr1_2 hc1_2
 have HB := Aside0.mk (Below.refl w.heap.size w)
 have H : ((impl_GoodSheet.f k a0_0 a0_1 l0_2).bind fun t191 => (if t191 = true then ((impl_GoodSheet.f k a1_0 a1_1 l1_2).bind fun t192 => (if t192 = true then (if a0_0 = a1_0 then (if a0_1 = a1_1 then ((impl_isShare.f a2).bind fun t193 => (impl_LaySheet.j0 k a2 (!t193) a0_0 a0_1 l0_2 a1_0 a1_1 l1_2)) else (impl_LaySheet.j0 k a2 true a0_0 a0_1 l0_2 a1_0 a1_1 l1_2)) else (impl_LaySheet.j0 k a2 true a0_0 a0_1 l0_2 a1_0 a1_1 l1_2)) else (impl_LaySheet.j0 k a2 true a0_0 a0_1 l0_2 a1_0 a1_1 l1_2))) else (impl_LaySheet.j0 k a2 true a0_0 a0_1 l0_2 a1_0 a1_1 l1_2))) = some (r1, r2, r3, r4) := h
 clear h
 have HC4 := Aside0.mk H
 clear H
 go_enter Try.func48, Try.ntmps48
 go_upto_region 1 with (first | ((with_reducible refine gate_dst (N := 3) rfl ?_); refine box_event ?hg (N := 3) ?hd (cs := #[.int .i64 a0_0, .int .i64 a0_1, .slice A0_2 l0_2.length c0_2]) (t := 70) ?hr ?_; (case hd => rfl); (case hg => rfl); (case hr => first | (go_simp; done) | (go_simp; rfl)); intro gb188 hg w5 hbox hb; have BK188 := Aside0.mk (hbox); have GW188 := Aside0.mk ((by rw [hg]; exact (below_size (z905.bl HB)) : w.heap.size ≤ gb188)); have GE188 := Aside0.mk ((by rw [hg]; exact (below_size (z905.bl HB)) : w.heap.size ≤ gb188)); replace HB := Aside0.mk (below_step (z905.bl HB) hb); clear hb hbox hg) | ((with_reducible refine gate_dst (N := 4) rfl ?_); refine box_event ?hg (N := 4) ?hd (cs := #[.int .i64 a1_0, .int .i64 a1_1, .slice A1_2 l1_2.length c1_2]) (t := 70) ?hr ?_; (case hd => rfl); (case hg => rfl); (case hr => first | (go_simp; done) | (go_simp; rfl)); intro gb189 hg w6 hbox hb; have BK189 := Aside0.mk (hbox); have GW189 := Aside0.mk ((by rw [hg]; exact (below_size (z905.bl HB)) : w.heap.size ≤ gb189)); have GE189 := Aside0.mk ((by rw [hg]; exact (below_size (z905.bl HB)) : w.heap.size ≤ gb189)); replace HB := Aside0.mk (below_step (z905.bl HB) hb); have NB188_189 := z905.ht BK188 hg; have NB189_188 := z905.hu BK188 hg; replace BK188 := z905.bb BK188 hb; clear hb hbox hg) | ((with_reducible refine gate_dst (N := 6) rfl ?_); refine box_event ?hg (N := 6) ?hd (cs := #[.int .i64 0, .int .i64 0, .slice none 0 0]) (t := 70) ?hr ?_; (case hd => rfl); (case hg => rfl); (case hr => first | (go_simp; done) | (go_simp; rfl)); intro gb190 hg w7 hbox hb; have BK190 := Aside0.mk (hbox); have GW190 := Aside0.mk ((by rw [hg]; exact (below_size (z905.bl HB)) : w.heap.size ≤ gb190)); have GE190 := Aside0.mk ((by rw [hg]; exact (below_size (z905.bl HB)) : w.heap.size ≤ gb190)); replace HB := Aside0.mk (below_step (z905.bl HB) hb); have NB188_190 := z905.ht BK188 hg; have NB190_188 := z905.hu BK188 hg; replace BK188 := z905.bb BK188 hb; have NB189_190 := z905.ht BK189 hg; have NB190_189 := z905.hu BK189 hg; replace BK189 := z905.bb BK189 hb; clear hb hbox hg))
 (try simp only [Act.put, List.setIfInBounds_toArray, List.set_cons_zero, List.set_cons_succ])
 go_cut [41] (fun v41 wc => ∃ (kq : Nat) (x41_3 : Bool), v41 = .bool x41_3 ∧ Aside0 (impl_LaySheet.j0 kq a2 x41_3 a0_0 a0_1 l0_2 a1_0 a1_1 l1_2 = some (r1, r2, r3, r4)) ∧ Aside0 (kq ≤ k) ∧ Aside0 (wc.heap[gb188]? = some (.cells #[.int .i64 a0_0, .int .i64 a0_1, (.slice A0_2 l0_2.length c0_2)] 70 (0, 0))) ∧ Aside0 (wc.heap[gb189]? = some (.cells #[.int .i64 a1_0, .int .i64 a1_1, (.slice A1_2 l1_2.length c1_2)] 70 (0, 0))) ∧ Aside0 (wc.heap[gb190]? = some (.cells #[.int .i64 0, .int .i64 0, (.slice none 0 0)] 70 (0, 0))) ∧ Aside0 (Below w.heap.size w wc))
 case first =>
  have H := HC4.out
  clear HC4
  replace H := Option.bind_eq_some_iff.mp H
  obtain ⟨t191, A80, H⟩ := H
  replace H : (if t191 = true then ((impl_GoodSheet.f k a1_0 a1_1 l1_2).bind fun t192 => (if t192 = true then (if a0_0 = a1_0 then (if a0_1 = a1_1 then ((impl_isShare.f a2).bind fun t193 => (impl_LaySheet.j0 k a2 (!t193) a0_0 a0_1 l0_2 a1_0 a1_1 l1_2)) else (impl_LaySheet.j0 k a2 true a0_0 a0_1 l0_2 a1_0 a1_1 l1_2)) else (impl_LaySheet.j0 k a2 true a0_0 a0_1 l0_2 a1_0 a1_1 l1_2)) else (impl_LaySheet.j0 k a2 true a0_0 a0_1 l0_2 a1_0 a1_1 l1_2))) else (impl_LaySheet.j0 k a2 true a0_0 a0_1 l0_2 a1_0 a1_1 l1_2)) = some (r1, r2, r3, r4) := H
  have A8 := Aside0.mk A80
  clear A80
  by_cases c9 : t191 = true
  ·subst c9
   have H1 : ((impl_GoodSheet.f k a1_0 a1_1 l1_2).bind fun t192 => (if t192 = true then (if a0_0 = a1_0 then (if a0_1 = a1_1 then ((impl_isShare.f a2).bind fun t193 => (impl_LaySheet.j0 k a2 (!t193) a0_0 a0_1 l0_2 a1_0 a1_1 l1_2)) else (impl_LaySheet.j0 k a2 true a0_0 a0_1 l0_2 a1_0 a1_1 l1_2)) else (impl_LaySheet.j0 k a2 true a0_0 a0_1 l0_2 a1_0 a1_1 l1_2)) else (impl_LaySheet.j0 k a2 true a0_0 a0_1 l0_2 a1_0 a1_1 l1_2))) = some (r1, r2, r3, r4) := by rw [if_pos rfl] at H; exact H
   clear H
   have H := H1
   clear H1
   replace H := Option.bind_eq_some_iff.mp H
   obtain ⟨t192, A100, H⟩ := H
   replace H : (if t192 = true then (if a0_0 = a1_0 then (if a0_1 = a1_1 then ((impl_isShare.f a2).bind fun t193 => (impl_LaySheet.j0 k a2 (!t193) a0_0 a0_1 l0_2 a1_0 a1_1 l1_2)) else (impl_LaySheet.j0 k a2 true a0_0 a0_1 l0_2 a1_0 a1_1 l1_2)) else (impl_LaySheet.j0 k a2 true a0_0 a0_1 l0_2 a1_0 a1_1 l1_2)) else (impl_LaySheet.j0 k a2 true a0_0 a0_1 l0_2 a1_0 a1_1 l1_2)) = some (r1, r2, r3, r4) := H
   have A10 := Aside0.mk A100
   clear A100
   by_cases c11 : t192 = true
   ·subst c11
    have H1 : (if a0_0 = a1_0 then (if a0_1 = a1_1 then ((impl_isShare.f a2).bind fun t193 => (impl_LaySheet.j0 k a2 (!t193) a0_0 a0_1 l0_2 a1_0 a1_1 l1_2)) else (impl_LaySheet.j0 k a2 true a0_0 a0_1 l0_2 a1_0 a1_1 l1_2)) else (impl_LaySheet.j0 k a2 true a0_0 a0_1 l0_2 a1_0 a1_1 l1_2)) = some (r1, r2, r3, r4) := by rw [if_pos rfl] at H; exact H
    clear H
    have H := H1
    clear H1
    by_cases c12 : a0_0 = a1_0
    ·rw [if_pos c12] at H
     have c12b0 : (a0_0 == a1_0) = true := beq_iff_eq.mpr c12
     have c12b1 : (a0_0 != a1_0) = false := bne_eq_false_iff_eq.mpr c12
     clear c12
     (first | rw [c12b0] | (simp only [i64_w, i32_w]; rw [c12b0]) | skip)
     by_cases c13 : a0_1 = a1_1
     ·rw [if_pos c13] at H
      have c13b0 : (a0_1 == a1_1) = true := beq_iff_eq.mpr c13
      have c13b1 : (a0_1 != a1_1) = false := bne_eq_false_iff_eq.mpr c13
      clear c13
      replace H := Option.bind_eq_some_iff.mp H
      obtain ⟨t193, A140, H⟩ := H
      replace H : (impl_LaySheet.j0 k a2 (!t193) a0_0 a0_1 l0_2 a1_0 a1_1 l1_2) = some (r1, r2, r3, r4) := H
      have A14 := Aside0.mk A140
      clear A140
      have H' := Aside0.mk H
      clear H
      have hnb15 := NB188_189.out
      have hnc15 := NB189_188.out
      have hnb16 := NB188_190.out
      have hnc16 := NB190_188.out
      have hcz17_0 : w7.cell? ⟨gb188, 0, none⟩ = some (.int .i64 a0_0) := (blk_cell BK188.out 0).trans rfl
      have hcz17_1 : w7.cell? ⟨gb188, 1, none⟩ = some (.int .i64 a0_1) := (blk_cell BK188.out 1).trans rfl
      have hcz17_2 : w7.cell? ⟨gb188, 2, none⟩ = some (.slice A0_2 l0_2.length c0_2) := (blk_cell BK188.out 2).trans rfl
      have hfz17_0 := blk_frozen BK188.out 0
      have hfz17_1 := blk_frozen BK188.out 1
      have hfz17_2 := blk_frozen BK188.out 2
      go_wp2_with (first | ((with_reducible refine gate_callee (f := 112) rfl ?_); refine z905.gl (some 16) rfl rfl Try.func112 (by kernel_rfl) rfl #[.agg #[.int .i64 a0_0, .int .i64 a0_1, .slice A0_2 l0_2.length c0_2]] rfl ?_; (with_reducible refine (impl_GoodSheet.calls k a0_0 a0_1 _ _ l0_2 true _ ?side1 ?side2 A8.out).mono ?_); (case side1 => repeat (first | exact (Kd.C_below HR0_2.out HB.out) | (with_reducible refine Kd.C_alloc ?_ _) | (with_reducible refine Kd.C_drewN ?_ _) | (with_reducible refine Kd.C_drew ?_))); (case side2 => exact HC0_2.out); rintro e w18 ⟨rfl, hb⟩; refine ⟨_, rfl, ?_⟩; replace BK188 := z905.bb BK188 hb; replace BK189 := z905.bb BK189 hb; replace BK190 := z905.bb BK190 hb; replace HB := Aside0.mk (below_step (z905.bl HB) hb); (try clear hb); (try clear hb2); (try clear hk); (try clear hi); have hnb19 := NB189_190.out; have hnc19 := NB190_189.out; have hcz20_0 : w18.cell? ⟨gb189, 0, none⟩ = some (.int .i64 a1_0) := (blk_cell BK189.out 0).trans rfl; have hcz20_1 : w18.cell? ⟨gb189, 1, none⟩ = some (.int .i64 a1_1) := (blk_cell BK189.out 1).trans rfl; have hcz20_2 : w18.cell? ⟨gb189, 2, none⟩ = some (.slice A1_2 l1_2.length c1_2) := (blk_cell BK189.out 2).trans rfl; have hfz20_0 := blk_frozen BK189.out 0; have hfz20_1 := blk_frozen BK189.out 1; have hfz20_2 := blk_frozen BK189.out 2) | (go_at_call 112; (with_reducible refine (impl_GoodSheet.calls k a1_0 a1_1 _ _ l1_2 true _ ?side1 ?side2 A10.out).mono ?_); (case side1 => repeat (first | exact (Kd.C_below HR1_2.out HB.out) | (with_reducible refine Kd.C_alloc ?_ _) | (with_reducible refine Kd.C_drewN ?_ _) | (with_reducible refine Kd.C_drew ?_))); (case side2 => exact HC1_2.out); rintro e w21 ⟨rfl, hb⟩; replace BK188 := z905.bb BK188 hb; replace BK189 := z905.bb BK189 hb; replace BK190 := z905.bb BK190 hb; replace HB := Aside0.mk (below_step (z905.bl HB) hb); (try clear hb); (try clear hb2); (try clear hk); (try clear hi); have hcz22_0 : w21.cell? ⟨gb188, 0, none⟩ = some (.int .i64 a0_0) := (blk_cell BK188.out 0).trans rfl; have hcz22_1 : w21.cell? ⟨gb188, 1, none⟩ = some (.int .i64 a0_1) := (blk_cell BK188.out 1).trans rfl; have hcz22_2 : w21.cell? ⟨gb188, 2, none⟩ = some (.slice A0_2 l0_2.length c0_2) := (blk_cell BK188.out 2).trans rfl; have hfz22_0 := blk_frozen BK188.out 0; have hfz22_1 := blk_frozen BK188.out 1; have hfz22_2 := blk_frozen BK188.out 2; have hcz23_0 : w21.cell? ⟨gb189, 0, none⟩ = some (.int .i64 a1_0) := (blk_cell BK189.out 0).trans rfl; have hcz23_1 : w21.cell? ⟨gb189, 1, none⟩ = some (.int .i64 a1_1) := (blk_cell BK189.out 1).trans rfl; have hcz23_2 : w21.cell? ⟨gb189, 2, none⟩ = some (.slice A1_2 l1_2.length c1_2) := (blk_cell BK189.out 2).trans rfl; have hfz23_0 := blk_frozen BK189.out 0; have hfz23_1 := blk_frozen BK189.out 1; have hfz23_2 := blk_frozen BK189.out 2) | (go_at_call 118; (with_reducible refine (impl_isShare.calls a2 t193 _ A14.out).mono ?_); rintro e w' ⟨rfl, ⟨nd, rfl⟩⟩))
      go_meet
      case rel => exact ⟨_, (!t193), (by first | rfl | (simp; done) | (simp [*]; done)), H', ⟨by first | omega | exact Nat.le_refl _⟩, ⟨z905.bk BK188⟩, ⟨z905.bk BK189⟩, ⟨z905.bk BK190⟩, ⟨z905.bl HB⟩⟩
     ·rw [if_neg c13] at H
      have c13b0 : (a0_1 == a1_1) = false := beq_eq_false_iff_ne.mpr c13
      have c13b1 : (a0_1 != a1_1) = true := bne_iff_ne.mpr c13
      have H' := Aside0.mk H
      clear H
      have hnb24 := NB188_189.out
      have hnc24 := NB189_188.out
      have hnb25 := NB188_190.out
      have hnc25 := NB190_188.out
      have hcz26_0 : w7.cell? ⟨gb188, 0, none⟩ = some (.int .i64 a0_0) := (blk_cell BK188.out 0).trans rfl
      have hcz26_1 : w7.cell? ⟨gb188, 1, none⟩ = some (.int .i64 a0_1) := (blk_cell BK188.out 1).trans rfl
      have hcz26_2 : w7.cell? ⟨gb188, 2, none⟩ = some (.slice A0_2 l0_2.length c0_2) := (blk_cell BK188.out 2).trans rfl
      have hfz26_0 := blk_frozen BK188.out 0
      have hfz26_1 := blk_frozen BK188.out 1
      have hfz26_2 := blk_frozen BK188.out 2
      go_wp2_with (first | ((with_reducible refine gate_callee (f := 112) rfl ?_); refine z905.gl (some 16) rfl rfl Try.func112 (by kernel_rfl) rfl #[.agg #[.int .i64 a0_0, .int .i64 a0_1, .slice A0_2 l0_2.length c0_2]] rfl ?_; (with_reducible refine (impl_GoodSheet.calls k a0_0 a0_1 _ _ l0_2 true _ ?side1 ?side2 A8.out).mono ?_); (case side1 => repeat (first | exact (Kd.C_below HR0_2.out HB.out) | (with_reducible refine Kd.C_alloc ?_ _) | (with_reducible refine Kd.C_drewN ?_ _) | (with_reducible refine Kd.C_drew ?_))); (case side2 => exact HC0_2.out); rintro e w27 ⟨rfl, hb⟩; refine ⟨_, rfl, ?_⟩; replace BK188 := z905.bb BK188 hb; replace BK189 := z905.bb BK189 hb; replace BK190 := z905.bb BK190 hb; replace HB := Aside0.mk (below_step (z905.bl HB) hb); (try clear hb); (try clear hb2); (try clear hk); (try clear hi); have hnb28 := NB189_190.out; have hnc28 := NB190_189.out; have hcz29_0 : w27.cell? ⟨gb189, 0, none⟩ = some (.int .i64 a1_0) := (blk_cell BK189.out 0).trans rfl; have hcz29_1 : w27.cell? ⟨gb189, 1, none⟩ = some (.int .i64 a1_1) := (blk_cell BK189.out 1).trans rfl; have hcz29_2 : w27.cell? ⟨gb189, 2, none⟩ = some (.slice A1_2 l1_2.length c1_2) := (blk_cell BK189.out 2).trans rfl; have hfz29_0 := blk_frozen BK189.out 0; have hfz29_1 := blk_frozen BK189.out 1; have hfz29_2 := blk_frozen BK189.out 2) | (go_at_call 112; (with_reducible refine (impl_GoodSheet.calls k a1_0 a1_1 _ _ l1_2 true _ ?side1 ?side2 A10.out).mono ?_); (case side1 => repeat (first | exact (Kd.C_below HR1_2.out HB.out) | (with_reducible refine Kd.C_alloc ?_ _) | (with_reducible refine Kd.C_drewN ?_ _) | (with_reducible refine Kd.C_drew ?_))); (case side2 => exact HC1_2.out); rintro e w30 ⟨rfl, hb⟩; replace BK188 := z905.bb BK188 hb; replace BK189 := z905.bb BK189 hb; replace BK190 := z905.bb BK190 hb; replace HB := Aside0.mk (below_step (z905.bl HB) hb); (try clear hb); (try clear hb2); (try clear hk); (try clear hi); have hcz31_0 : w30.cell? ⟨gb188, 0, none⟩ = some (.int .i64 a0_0) := (blk_cell BK188.out 0).trans rfl; have hcz31_1 : w30.cell? ⟨gb188, 1, none⟩ = some (.int .i64 a0_1) := (blk_cell BK188.out 1).trans rfl; have hcz31_2 : w30.cell? ⟨gb188, 2, none⟩ = some (.slice A0_2 l0_2.length c0_2) := (blk_cell BK188.out 2).trans rfl; have hfz31_0 := blk_frozen BK188.out 0; have hfz31_1 := blk_frozen BK188.out 1; have hfz31_2 := blk_frozen BK188.out 2; have hcz32_0 : w30.cell? ⟨gb189, 0, none⟩ = some (.int .i64 a1_0) := (blk_cell BK189.out 0).trans rfl; have hcz32_1 : w30.cell? ⟨gb189, 1, none⟩ = some (.int .i64 a1_1) := (blk_cell BK189.out 1).trans rfl; have hcz32_2 : w30.cell? ⟨gb189, 2, none⟩ = some (.slice A1_2 l1_2.length c1_2) := (blk_cell BK189.out 2).trans rfl; have hfz32_0 := blk_frozen BK189.out 0; have hfz32_1 := blk_frozen BK189.out 1; have hfz32_2 := blk_frozen BK189.out 2))
      go_meet
      case rel => exact ⟨_, (true), (by first | rfl | (simp; done) | (simp [*]; done)), H', ⟨by first | omega | exact Nat.le_refl _⟩, ⟨z905.bk BK188⟩, ⟨z905.bk BK189⟩, ⟨z905.bk BK190⟩, ⟨z905.bl HB⟩⟩
    ·rw [if_neg c12] at H
     have c12b0 : (a0_0 == a1_0) = false := beq_eq_false_iff_ne.mpr c12
     have c12b1 : (a0_0 != a1_0) = true := bne_iff_ne.mpr c12
     (first | rw [c12b0] | (simp only [i64_w, i32_w]; rw [c12b0]) | skip)
     have H' := Aside0.mk H
     clear H
     have hnb33 := NB188_189.out
     have hnc33 := NB189_188.out
     have hnb34 := NB188_190.out
     have hnc34 := NB190_188.out
     have hcz35_0 : w7.cell? ⟨gb188, 0, none⟩ = some (.int .i64 a0_0) := (blk_cell BK188.out 0).trans rfl
     have hcz35_1 : w7.cell? ⟨gb188, 1, none⟩ = some (.int .i64 a0_1) := (blk_cell BK188.out 1).trans rfl
     have hcz35_2 : w7.cell? ⟨gb188, 2, none⟩ = some (.slice A0_2 l0_2.length c0_2) := (blk_cell BK188.out 2).trans rfl
     have hfz35_0 := blk_frozen BK188.out 0
     have hfz35_1 := blk_frozen BK188.out 1
     have hfz35_2 := blk_frozen BK188.out 2
     go_wp2_with (first | ((with_reducible refine gate_callee (f := 112) rfl ?_); refine z905.gl (some 16) rfl rfl Try.func112 (by kernel_rfl) rfl #[.agg #[.int .i64 a0_0, .int .i64 a0_1, .slice A0_2 l0_2.length c0_2]] rfl ?_; (with_reducible refine (impl_GoodSheet.calls k a0_0 a0_1 _ _ l0_2 true _ ?side1 ?side2 A8.out).mono ?_); (case side1 => repeat (first | exact (Kd.C_below HR0_2.out HB.out) | (with_reducible refine Kd.C_alloc ?_ _) | (with_reducible refine Kd.C_drewN ?_ _) | (with_reducible refine Kd.C_drew ?_))); (case side2 => exact HC0_2.out); rintro e w36 ⟨rfl, hb⟩; refine ⟨_, rfl, ?_⟩; replace BK188 := z905.bb BK188 hb; replace BK189 := z905.bb BK189 hb; replace BK190 := z905.bb BK190 hb; replace HB := Aside0.mk (below_step (z905.bl HB) hb); (try clear hb); (try clear hb2); (try clear hk); (try clear hi); have hnb37 := NB189_190.out; have hnc37 := NB190_189.out; have hcz38_0 : w36.cell? ⟨gb189, 0, none⟩ = some (.int .i64 a1_0) := (blk_cell BK189.out 0).trans rfl; have hcz38_1 : w36.cell? ⟨gb189, 1, none⟩ = some (.int .i64 a1_1) := (blk_cell BK189.out 1).trans rfl; have hcz38_2 : w36.cell? ⟨gb189, 2, none⟩ = some (.slice A1_2 l1_2.length c1_2) := (blk_cell BK189.out 2).trans rfl; have hfz38_0 := blk_frozen BK189.out 0; have hfz38_1 := blk_frozen BK189.out 1; have hfz38_2 := blk_frozen BK189.out 2) | (go_at_call 112; (with_reducible refine (impl_GoodSheet.calls k a1_0 a1_1 _ _ l1_2 true _ ?side1 ?side2 A10.out).mono ?_); (case side1 => repeat (first | exact (Kd.C_below HR1_2.out HB.out) | (with_reducible refine Kd.C_alloc ?_ _) | (with_reducible refine Kd.C_drewN ?_ _) | (with_reducible refine Kd.C_drew ?_))); (case side2 => exact HC1_2.out); rintro e w39 ⟨rfl, hb⟩; replace BK188 := z905.bb BK188 hb; replace BK189 := z905.bb BK189 hb; replace BK190 := z905.bb BK190 hb; replace HB := Aside0.mk (below_step (z905.bl HB) hb); (try clear hb); (try clear hb2); (try clear hk); (try clear hi); have hcz40_0 : w39.cell? ⟨gb188, 0, none⟩ = some (.int .i64 a0_0) := (blk_cell BK188.out 0).trans rfl; have hcz40_1 : w39.cell? ⟨gb188, 1, none⟩ = some (.int .i64 a0_1) := (blk_cell BK188.out 1).trans rfl; have hcz40_2 : w39.cell? ⟨gb188, 2, none⟩ = some (.slice A0_2 l0_2.length c0_2) := (blk_cell BK188.out 2).trans rfl; have hfz40_0 := blk_frozen BK188.out 0; have hfz40_1 := blk_frozen BK188.out 1; have hfz40_2 := blk_frozen BK188.out 2; have hcz41_0 : w39.cell? ⟨gb189, 0, none⟩ = some (.int .i64 a1_0) := (blk_cell BK189.out 0).trans rfl; have hcz41_1 : w39.cell? ⟨gb189, 1, none⟩ = some (.int .i64 a1_1) := (blk_cell BK189.out 1).trans rfl; have hcz41_2 : w39.cell? ⟨gb189, 2, none⟩ = some (.slice A1_2 l1_2.length c1_2) := (blk_cell BK189.out 2).trans rfl; have hfz41_0 := blk_frozen BK189.out 0; have hfz41_1 := blk_frozen BK189.out 1; have hfz41_2 := blk_frozen BK189.out 2))
     go_meet
     case rel => exact ⟨_, (true), (by first | rfl | (simp; done) | (simp [*]; done)), H', ⟨by first | omega | exact Nat.le_refl _⟩, ⟨z905.bk BK188⟩, ⟨z905.bk BK189⟩, ⟨z905.bk BK190⟩, ⟨z905.bl HB⟩⟩
   ·replace c11 := Bool.eq_false_iff.mpr c11
    subst c11
    have H1 : (impl_LaySheet.j0 k a2 true a0_0 a0_1 l0_2 a1_0 a1_1 l1_2) = some (r1, r2, r3, r4) := by rw [if_neg (show ¬ (false = true) by decide)] at H; exact H
    clear H
    have H := H1
    clear H1
    have H' := Aside0.mk H
    clear H
    have hnb42 := NB188_189.out
    have hnc42 := NB189_188.out
    have hnb43 := NB188_190.out
    have hnc43 := NB190_188.out
    have hcz44_0 : w7.cell? ⟨gb188, 0, none⟩ = some (.int .i64 a0_0) := (blk_cell BK188.out 0).trans rfl
    have hcz44_1 : w7.cell? ⟨gb188, 1, none⟩ = some (.int .i64 a0_1) := (blk_cell BK188.out 1).trans rfl
    have hcz44_2 : w7.cell? ⟨gb188, 2, none⟩ = some (.slice A0_2 l0_2.length c0_2) := (blk_cell BK188.out 2).trans rfl
    have hfz44_0 := blk_frozen BK188.out 0
    have hfz44_1 := blk_frozen BK188.out 1
    have hfz44_2 := blk_frozen BK188.out 2
    go_wp2_with (first | ((with_reducible refine gate_callee (f := 112) rfl ?_); refine z905.gl (some 16) rfl rfl Try.func112 (by kernel_rfl) rfl #[.agg #[.int .i64 a0_0, .int .i64 a0_1, .slice A0_2 l0_2.length c0_2]] rfl ?_; (with_reducible refine (impl_GoodSheet.calls k a0_0 a0_1 _ _ l0_2 true _ ?side1 ?side2 A8.out).mono ?_); (case side1 => repeat (first | exact (Kd.C_below HR0_2.out HB.out) | (with_reducible refine Kd.C_alloc ?_ _) | (with_reducible refine Kd.C_drewN ?_ _) | (with_reducible refine Kd.C_drew ?_))); (case side2 => exact HC0_2.out); rintro e w45 ⟨rfl, hb⟩; refine ⟨_, rfl, ?_⟩; replace BK188 := z905.bb BK188 hb; replace BK189 := z905.bb BK189 hb; replace BK190 := z905.bb BK190 hb; replace HB := Aside0.mk (below_step (z905.bl HB) hb); (try clear hb); (try clear hb2); (try clear hk); (try clear hi); have hnb46 := NB189_190.out; have hnc46 := NB190_189.out; have hcz47_0 : w45.cell? ⟨gb189, 0, none⟩ = some (.int .i64 a1_0) := (blk_cell BK189.out 0).trans rfl; have hcz47_1 : w45.cell? ⟨gb189, 1, none⟩ = some (.int .i64 a1_1) := (blk_cell BK189.out 1).trans rfl; have hcz47_2 : w45.cell? ⟨gb189, 2, none⟩ = some (.slice A1_2 l1_2.length c1_2) := (blk_cell BK189.out 2).trans rfl; have hfz47_0 := blk_frozen BK189.out 0; have hfz47_1 := blk_frozen BK189.out 1; have hfz47_2 := blk_frozen BK189.out 2) | (go_at_call 112; (with_reducible refine (impl_GoodSheet.calls k a1_0 a1_1 _ _ l1_2 false _ ?side1 ?side2 A10.out).mono ?_); (case side1 => repeat (first | exact (Kd.C_below HR1_2.out HB.out) | (with_reducible refine Kd.C_alloc ?_ _) | (with_reducible refine Kd.C_drewN ?_ _) | (with_reducible refine Kd.C_drew ?_))); (case side2 => exact HC1_2.out); rintro e w48 ⟨rfl, hb⟩; replace BK188 := z905.bb BK188 hb; replace BK189 := z905.bb BK189 hb; replace BK190 := z905.bb BK190 hb; replace HB := Aside0.mk (below_step (z905.bl HB) hb); (try clear hb); (try clear hb2); (try clear hk); (try clear hi)))
    go_meet
    case rel => exact ⟨_, (true), (by first | rfl | (simp; done) | (simp [*]; done)), H', ⟨by first | omega | exact Nat.le_refl _⟩, ⟨z905.bk BK188⟩, ⟨z905.bk BK189⟩, ⟨z905.bk BK190⟩, ⟨z905.bl HB⟩⟩
  ·replace c9 := Bool.eq_false_iff.mpr c9
   subst c9
   have H1 : (impl_LaySheet.j0 k a2 true a0_0 a0_1 l0_2 a1_0 a1_1 l1_2) = some (r1, r2, r3, r4) := by rw [if_neg (show ¬ (false = true) by decide)] at H; exact H
   clear H
   have H := H1
   clear H1
   have H' := Aside0.mk H
   clear H
   have hnb49 := NB188_189.out
   have hnc49 := NB189_188.out
   have hnb50 := NB188_190.out
   have hnc50 := NB190_188.out
   have hcz51_0 : w7.cell? ⟨gb188, 0, none⟩ = some (.int .i64 a0_0) := (blk_cell BK188.out 0).trans rfl
   have hcz51_1 : w7.cell? ⟨gb188, 1, none⟩ = some (.int .i64 a0_1) := (blk_cell BK188.out 1).trans rfl
   have hcz51_2 : w7.cell? ⟨gb188, 2, none⟩ = some (.slice A0_2 l0_2.length c0_2) := (blk_cell BK188.out 2).trans rfl
   have hfz51_0 := blk_frozen BK188.out 0
   have hfz51_1 := blk_frozen BK188.out 1
   have hfz51_2 := blk_frozen BK188.out 2
   go_wp2_with (first | ((with_reducible refine gate_callee (f := 112) rfl ?_); refine z905.gl (some 16) rfl rfl Try.func112 (by kernel_rfl) rfl #[.agg #[.int .i64 a0_0, .int .i64 a0_1, .slice A0_2 l0_2.length c0_2]] rfl ?_; (with_reducible refine (impl_GoodSheet.calls k a0_0 a0_1 _ _ l0_2 false _ ?side1 ?side2 A8.out).mono ?_); (case side1 => repeat (first | exact (Kd.C_below HR0_2.out HB.out) | (with_reducible refine Kd.C_alloc ?_ _) | (with_reducible refine Kd.C_drewN ?_ _) | (with_reducible refine Kd.C_drew ?_))); (case side2 => exact HC0_2.out); rintro e w52 ⟨rfl, hb⟩; refine ⟨_, rfl, ?_⟩; replace BK188 := z905.bb BK188 hb; replace BK189 := z905.bb BK189 hb; replace BK190 := z905.bb BK190 hb; replace HB := Aside0.mk (below_step (z905.bl HB) hb); (try clear hb); (try clear hb2); (try clear hk); (try clear hi)))
   go_meet
   case rel => exact ⟨_, (true), (by first | rfl | (simp; done) | (simp [*]; done)), H', ⟨by first | omega | exact Nat.le_refl _⟩, ⟨z905.bk BK188⟩, ⟨z905.bk BK189⟩, ⟨z905.bk BK190⟩, ⟨z905.bl HB⟩⟩
 case rest =>
  clear HC4
  try clear c1
  try clear c2
  try clear p2
  try clear c3
  try clear c4
  try clear c5
  try clear c9
  try clear c11
  try clear c12
  try clear c12b0
  try clear c12b1
  try clear c13
  try clear c13b0
  try clear c13b1
  try clear c15
  try clear c16
  try clear c19
  try clear c24
  try clear c25
  try clear c28
  try clear c33
  try clear c34
  try clear c37
  try clear c42
  try clear c43
  try clear c46
  try clear c48
  try clear c49
  try clear c50
  try clear hcz17_0
  try clear hcz17_1
  try clear hcz17_2
  try clear hcz20_0
  try clear hcz20_1
  try clear hcz20_2
  try clear hcz22_0
  try clear hcz22_1
  try clear hcz22_2
  try clear hcz23_0
  try clear hcz23_1
  try clear hcz23_2
  try clear hcz26_0
  try clear hcz26_1
  try clear hcz26_2
  try clear hcz29_0
  try clear hcz29_1
  try clear hcz29_2
  try clear hcz31_0
  try clear hcz31_1
  try clear hcz31_2
  try clear hcz32_0
  try clear hcz32_1
  try clear hcz32_2
  try clear hcz35_0
  try clear hcz35_1
  try clear hcz35_2
  try clear hcz38_0
  try clear hcz38_1
  try clear hcz38_2
  try clear hcz40_0
  try clear hcz40_1
  try clear hcz40_2
  try clear hcz41_0
  try clear hcz41_1
  try clear hcz41_2
  try clear hcz44_0
  try clear hcz44_1
  try clear hcz44_2
  try clear hcz47_0
  try clear hcz47_1
  try clear hcz47_2
  try clear hcz51_0
  try clear hcz51_1
  try clear hcz51_2
  try clear hfz17_0
  try clear hfz17_1
  try clear hfz17_2
  try clear hfz20_0
  try clear hfz20_1
  try clear hfz20_2
  try clear hfz22_0
  try clear hfz22_1
  try clear hfz22_2
  try clear hfz23_0
  try clear hfz23_1
  try clear hfz23_2
  try clear hfz26_0
  try clear hfz26_1
  try clear hfz26_2
  try clear hfz29_0
  try clear hfz29_1
  try clear hfz29_2
  try clear hfz31_0
  try clear hfz31_1
  try clear hfz31_2
  try clear hfz32_0
  try clear hfz32_1
  try clear hfz32_2
  try clear hfz35_0
  try clear hfz35_1
  try clear hfz35_2
  try clear hfz38_0
  try clear hfz38_1
  try clear hfz38_2
  try clear hfz40_0
  try clear hfz40_1
  try clear hfz40_2
  try clear hfz41_0
  try clear hfz41_1
  try clear hfz41_2
  try clear hfz44_0
  try clear hfz44_1
  try clear hfz44_2
  try clear hfz47_0
  try clear hfz47_1
  try clear hfz47_2
  try clear hfz51_0
  try clear hfz51_1
  try clear hfz51_2
  obtain ⟨kq, x41_3, rfl, HA, HJ3, BK188, BK189, BK190, HB⟩ := hcut
  cases kq with
  | zero => exact absurd HA.out (by simp [impl_LaySheet.j0])
  | succ kj3 =>
   have H := HA.out
   clear HA
   simp only [impl_LaySheet.j0] at H
   by_cases c53 : x41_3 = true
   ·subst c53
    have H1 : (some (0, 0, ([] : List (S54)), false)) = some (r1, r2, r3, r4) := by rw [if_pos rfl] at H; exact H
    clear H
    have H := H1
    clear H1
    simp only [Option.some.injEq, Prod.mk.injEq] at H
    obtain ⟨rfl, rfl, rfl, rfl⟩ := H
    have hnb54 := NB190_188.out
    have hnc54 := NB188_190.out
    have hnb55 := NB190_189.out
    have hnc55 := NB189_190.out
    have hcz56_0 : wc.cell? ⟨gb190, 0, none⟩ = some (.int .i64 0) := (blk_cell BK190.out 0).trans rfl
    have hcz56_1 : wc.cell? ⟨gb190, 1, none⟩ = some (.int .i64 0) := (blk_cell BK190.out 1).trans rfl
    have hcz56_2 : wc.cell? ⟨gb190, 2, none⟩ = some (.slice none 0 0) := (blk_cell BK190.out 2).trans rfl
    have hfz56_0 := blk_frozen BK190.out 0
    have hfz56_1 := blk_frozen BK190.out 1
    have hfz56_2 := blk_frozen BK190.out 2
    go_wp2
    refine bodyPost_ret (results_ct rfl _ _ gb190 70 #[.int .i64 0, .int .i64 0, .slice none 0 0] (0, 0) _ rfl (by (with_reducible repeat (first | refine blk_drewN ?_ _ | refine blk_drew ?_ | refine blk_alloc ?_ _)); refine blk_put (cs := #[.int .i64 0, .int .i64 0, .slice none 0 0]) ?_ 2 _ rfl; (with_reducible repeat (first | refine blk_drewN ?_ _ | refine blk_drew ?_ | refine blk_alloc ?_ _)); refine blk_put (cs := #[.int .i64 0, .int .i64 0, .slice none 0 0]) ?_ 1 _ rfl; (with_reducible repeat (first | refine blk_drewN ?_ _ | refine blk_drew ?_ | refine blk_alloc ?_ _)); refine blk_put (cs := #[.int .i64 0, .int .i64 0, .slice none 0 0]) ?_ 0 _ rfl; (with_reducible repeat (first | refine blk_drewN ?_ _ | refine blk_drew ?_ | refine blk_alloc ?_ _)); exact BK190.out) Try.underlying70 rfl (by kernel_rfl)) rfl ?_
    exact ⟨_, by first | rfl | (simp [errW_none, errW_some] <;> rfl) | (simp [*, errW_none, errW_some] <;> rfl), by first | exact Kd.R_nil _ _ _ _ _ | exact Kd.N_nil _ _ _ _ _ | exact Kd.V_nil _ _ _ _ _ | exact Kd.Q_nil _ _ _ _ _ | exact Kd.S_nil _ _ _ _ _, z905.bl HB⟩
   ·replace c53 := Bool.eq_false_iff.mpr c53
    subst c53
    have H1 : (impl_LaySheet.l0 kj3 a2 l1_2 (l1_2.length : Int) 0 a0_0 a0_1 l0_2 a0_0 a0_1 ([] : List (S54))) = some (r1, r2, r3, r4) := by rw [if_neg (show ¬ (false = true) by decide)] at H; exact H
    clear H
    have H := H1
    clear H1
    have H' := Aside0.mk H
    clear H
    have hnb57 := NB188_189.out
    have hnc57 := NB189_188.out
    have hnb58 := NB188_190.out
    have hnc58 := NB190_188.out
    have hcz59_0 : wc.cell? ⟨gb188, 0, none⟩ = some (.int .i64 a0_0) := (blk_cell BK188.out 0).trans rfl
    have hcz59_1 : wc.cell? ⟨gb188, 1, none⟩ = some (.int .i64 a0_1) := (blk_cell BK188.out 1).trans rfl
    have hcz59_2 : wc.cell? ⟨gb188, 2, none⟩ = some (.slice A0_2 l0_2.length c0_2) := (blk_cell BK188.out 2).trans rfl
    have hfz59_0 := blk_frozen BK188.out 0
    have hfz59_1 := blk_frozen BK188.out 1
    have hfz59_2 := blk_frozen BK188.out 2
    go_wp2_with (first | ((with_reducible refine gate_dst (N := 8) rfl ?_); refine box_event ?hg (N := 8) ?hd (cs := #[.int .i64 0, .int .i64 0, .slice none 0 0]) (t := 70) ?hr ?_; (case hd => rfl); (case hg => rfl); (case hr => first | (go_simp; done) | (go_simp; rfl)); intro gb194 hg w60 hbox hb; have BK194 := Aside0.mk (hbox); have GW194 := Aside0.mk ((by rw [hg]; exact (below_size (z905.bl HB)) : w.heap.size ≤ gb194)); have GE194 := Aside0.mk ((by rw [hg]; exact (below_size (z905.bl HB)) : w.heap.size ≤ gb194)); replace HB := Aside0.mk (below_step (z905.bl HB) hb); have NB188_194 := z905.ht BK188 hg; have NB194_188 := z905.hu BK188 hg; replace BK188 := z905.bb BK188 hb; have NB189_194 := z905.ht BK189 hg; have NB194_189 := z905.hu BK189 hg; replace BK189 := z905.bb BK189 hb; have NB190_194 := z905.ht BK190 hg; have NB194_190 := z905.hu BK190 hg; replace BK190 := z905.bb BK190 hb; clear hb hbox hg; have hnb61 := NB194_188.out; have hnc61 := NB188_194.out; have hnb62 := NB194_189.out; have hnc62 := NB189_194.out; have hnb63 := NB194_190.out; have hnc63 := NB190_194.out; have hcz64_0 : w60.cell? ⟨gb194, 0, none⟩ = some (.int .i64 0) := (blk_cell BK194.out 0).trans rfl; have hcz64_1 : w60.cell? ⟨gb194, 1, none⟩ = some (.int .i64 0) := (blk_cell BK194.out 1).trans rfl; have hcz64_2 : w60.cell? ⟨gb194, 2, none⟩ = some (.slice none 0 0) := (blk_cell BK194.out 2).trans rfl; have hfz64_0 := blk_frozen BK194.out 0; have hfz64_1 := blk_frozen BK194.out 1; have hfz64_2 := blk_frozen BK194.out 2; have hnb65 := NB189_190.out; have hnc65 := NB190_189.out; have hcz66_0 : w60.cell? ⟨gb189, 0, none⟩ = some (.int .i64 a1_0) := (blk_cell BK189.out 0).trans rfl; have hcz66_1 : w60.cell? ⟨gb189, 1, none⟩ = some (.int .i64 a1_1) := (blk_cell BK189.out 1).trans rfl; have hcz66_2 : w60.cell? ⟨gb189, 2, none⟩ = some (.slice A1_2 l1_2.length c1_2) := (blk_cell BK189.out 2).trans rfl; have hfz66_0 := blk_frozen BK189.out 0; have hfz66_1 := blk_frozen BK189.out 1; have hfz66_2 := blk_frozen BK189.out 2))
    go_loopg [51] kj3 (fun kq v51 w' => ∃ (x51_2 : Int) (x195002_2 : List (S54)) (u195002 : Value), v51 = .int .i64 x51_2 ∧ Aside0 (impl_LaySheet.l0 kq a2 l1_2 (l1_2.length : Int) x51_2 a0_0 a0_1 l0_2 a0_0 a0_1 x195002_2 = some (r1, r2, r3, r4)) ∧ Aside0 (kq ≤ kj3) ∧ Aside0 (Kd.R k54 54 w' w.heap.size (fun _ => True) u195002 x195002_2) ∧ Aside0 (w'.heap[gb188]? = some (.cells #[.int .i64 a0_0, .int .i64 a0_1, (.slice A0_2 l0_2.length c0_2)] 70 (0, 0))) ∧ Aside0 (w'.heap[gb189]? = some (.cells #[.int .i64 a1_0, .int .i64 a1_1, (.slice A1_2 l1_2.length c1_2)] 70 (0, 0))) ∧ Aside0 (w'.heap[gb190]? = some (.cells #[.int .i64 0, .int .i64 0, (.slice none 0 0)] 70 (0, 0))) ∧ Aside0 (w'.heap[gb194]? = some (.cells #[.int .i64 a0_0, .int .i64 a0_1, u195002] 70 (0, 0))) ∧ Aside0 (Below w.heap.size w w'))
    case atStart => exact ⟨(0), (([] : List (S54))), (.slice none 0 0), (by first | rfl | (simp; done) | (simp [*]; done)), H', ⟨Nat.le_refl _⟩, ⟨by first | exact Kd.R_nil _ _ _ _ _ | exact Kd.N_nil _ _ _ _ _ | exact Kd.V_nil _ _ _ _ _ | exact Kd.Q_nil _ _ _ _ _ | exact Kd.S_nil _ _ _ _ _⟩, ⟨z905.bf BK188⟩, ⟨z905.bf BK189⟩, ⟨z905.bf BK190⟩, ⟨by (with_reducible repeat (first | refine blk_drewN ?_ _ | refine blk_drew ?_ | refine blk_alloc ?_ _)); refine blk_put (cs := #[.int .i64 a0_0, .int .i64 a0_1, .slice none 0 0]) ?_ 2 _ rfl; (with_reducible repeat (first | refine blk_drewN ?_ _ | refine blk_drew ?_ | refine blk_alloc ?_ _)); refine blk_put (cs := #[.int .i64 a0_0, .int .i64 0, .slice none 0 0]) ?_ 1 _ rfl; (with_reducible repeat (first | refine blk_drewN ?_ _ | refine blk_drew ?_ | refine blk_alloc ?_ _)); refine blk_put (cs := #[.int .i64 0, .int .i64 0, .slice none 0 0]) ?_ 0 _ rfl; (with_reducible repeat (first | refine blk_drewN ?_ _ | refine blk_drew ?_ | refine blk_alloc ?_ _)); exact BK194.out⟩, ⟨z905.bl HB⟩⟩
    case round =>
     clear H'
     try clear c1
     try clear c2
     try clear p2
     try clear c3
     try clear c4
     try clear c5
     try clear c6
     try clear c9
     try clear c11
     try clear c12
     try clear c12b0
     try clear c12b1
     try clear c13
     try clear c13b0
     try clear c13b1
     try clear c15
     try clear c16
     try clear c19
     try clear c24
     try clear c25
     try clear c28
     try clear c33
     try clear c34
     try clear c37
     try clear c42
     try clear c43
     try clear c46
     try clear c48
     try clear c49
     try clear c50
     try clear c53
     try clear c54
     try clear c55
     try clear c57
     try clear c58
     try clear c61
     try clear c62
     try clear c63
     try clear c65
     try clear hcz17_0
     try clear hcz17_1
     try clear hcz17_2
     try clear hcz20_0
     try clear hcz20_1
     try clear hcz20_2
     try clear hcz22_0
     try clear hcz22_1
     try clear hcz22_2
     try clear hcz23_0
     try clear hcz23_1
     try clear hcz23_2
     try clear hcz26_0
     try clear hcz26_1
     try clear hcz26_2
     try clear hcz29_0
     try clear hcz29_1
     try clear hcz29_2
     try clear hcz31_0
     try clear hcz31_1
     try clear hcz31_2
     try clear hcz32_0
     try clear hcz32_1
     try clear hcz32_2
     try clear hcz35_0
     try clear hcz35_1
     try clear hcz35_2
     try clear hcz38_0
     try clear hcz38_1
     try clear hcz38_2
     try clear hcz40_0
     try clear hcz40_1
     try clear hcz40_2
     try clear hcz41_0
     try clear hcz41_1
     try clear hcz41_2
     try clear hcz44_0
     try clear hcz44_1
     try clear hcz44_2
     try clear hcz47_0
     try clear hcz47_1
     try clear hcz47_2
     try clear hcz51_0
     try clear hcz51_1
     try clear hcz51_2
     try clear hcz56_0
     try clear hcz56_1
     try clear hcz56_2
     try clear hcz59_0
     try clear hcz59_1
     try clear hcz59_2
     try clear hcz64_0
     try clear hcz64_1
     try clear hcz64_2
     try clear hcz66_0
     try clear hcz66_1
     try clear hcz66_2
     try clear hfz17_0
     try clear hfz17_1
     try clear hfz17_2
     try clear hfz20_0
     try clear hfz20_1
     try clear hfz20_2
     try clear hfz22_0
     try clear hfz22_1
     try clear hfz22_2
     try clear hfz23_0
     try clear hfz23_1
     try clear hfz23_2
     try clear hfz26_0
     try clear hfz26_1
     try clear hfz26_2
     try clear hfz29_0
     try clear hfz29_1
     try clear hfz29_2
     try clear hfz31_0
     try clear hfz31_1
     try clear hfz31_2
     try clear hfz32_0
     try clear hfz32_1
     try clear hfz32_2
     try clear hfz35_0
     try clear hfz35_1
     try clear hfz35_2
     try clear hfz38_0
     try clear hfz38_1
     try clear hfz38_2
     try clear hfz40_0
     try clear hfz40_1
     try clear hfz40_2
     try clear hfz41_0
     try clear hfz41_1
     try clear hfz41_2
     try clear hfz44_0
     try clear hfz44_1
     try clear hfz44_2
     try clear hfz47_0
     try clear hfz47_1
     try clear hfz47_2
     try clear hfz51_0
     try clear hfz51_1
     try clear hfz51_2
     try clear hfz56_0
     try clear hfz56_1
     try clear hfz56_2
     try clear hfz59_0
     try clear hfz59_1
     try clear hfz59_2
     try clear hfz64_0
     try clear hfz64_1
     try clear hfz64_2
     try clear hfz66_0
     try clear hfz66_1
     try clear hfz66_2
     try clear p2
     obtain ⟨x51_2, x195002_2, u195002, rfl, HA, HK2, HO_195002, BK188, BK189, BK190, BK194, HB⟩ := hrel
     cases gk with
     | zero => exact absurd HA.out (by simp [impl_LaySheet.l0])
     | succ k2 =>
      have H := HA.out
      clear HA
      simp only [impl_LaySheet.l0] at H
      by_cases c67 : x51_2 < (l1_2.length : Int)
      ·rw [if_pos c67] at H
       have c67b0 : decide (x51_2 < (l1_2.length : Int)) = true := decide_eq_true c67
       clear c67
       by_cases c68 : 0 ≤ x51_2
       ·rw [if_pos c68] at H
        have c68b0 : decide (0 ≤ x51_2) = true := decide_eq_true c68
        clear c68
        by_cases c69 : x51_2 < (l1_2.length : Int)
        ·rw [if_pos c69] at H
         have c69b0 : decide (x51_2 < (l1_2.length : Int)) = true := decide_eq_true c69
         clear c69
         replace H := Option.bind_eq_some_iff.mp H
         obtain ⟨⟨t197, t198, t199, t200, t201⟩, A700, H⟩ := H
         replace H : (if x51_2 < (l0_2.length : Int) then ((impl_OverTint.f t197 t198 t199 t200 ((rd_T54 l0_2 x51_2).f0) ((rd_T54 l0_2 x51_2).f1) ((rd_T54 l0_2 x51_2).f2) ((rd_T54 l0_2 x51_2).f3)).bind fun bt204 => (if x195002_2.length < 4398046511104 then (impl_LaySheet.l0 k2 a2 l1_2 (l1_2.length : Int) (wrap64 (x51_2 + 1)) a0_0 a0_1 l0_2 a0_0 a0_1 (x195002_2 ++ [(⟨bt204.1, bt204.2.1, bt204.2.2.1, bt204.2.2.2.1⟩ : S54)])) else (none))) else (none)) = some (r1, r2, r3, r4) := H
         have A70 := Aside0.mk A700
         clear A700
         by_cases c71 : x51_2 < (l0_2.length : Int)
         ·rw [if_pos c71] at H
          have c71b0 : decide (x51_2 < (l0_2.length : Int)) = true := decide_eq_true c71
          clear c71
          replace H := Option.bind_eq_some_iff.mp H
          obtain ⟨⟨t204, t205, t206, t207, t208⟩, A720, H⟩ := H
          replace H : (if x195002_2.length < 4398046511104 then (impl_LaySheet.l0 k2 a2 l1_2 (l1_2.length : Int) (wrap64 (x51_2 + 1)) a0_0 a0_1 l0_2 a0_0 a0_1 (x195002_2 ++ [(⟨t204, t205, t206, t207⟩ : S54)])) else (none)) = some (r1, r2, r3, r4) := H
          have A72 := Aside0.mk A720
          clear A720
          by_cases c73 : x195002_2.length < 4398046511104
          ·rw [if_pos c73] at H
           have LMc73 := Aside0.mk c73
           clear c73
           obtain ⟨y210, hy210⟩ : ∃ y_ : List (S54), y_ = (x195002_2 ++ [(⟨t204, t205, t206, t207⟩ : S54)]) := ⟨_, rfl⟩
           replace H : (impl_LaySheet.l0 k2 a2 l1_2 (l1_2.length : Int) (wrap64 (x51_2 + 1)) a0_0 a0_1 l0_2 a0_0 a0_1 y210) = some (r1, r2, r3, r4) := by first | (rw [hy210]; with_reducible exact H) | (have H2_ := (Option.bind_some _ _).symm.trans H; rw [hy210]; with_reducible exact H2_) | (have H2_ := (Option.bind_some _ _).symm.trans H; with_reducible exact H2_) | with_reducible exact H | (rw [hy210]; exact H) | exact H
           have Ny210 := Aside0.mk hy210
           clear hy210
           have H' := Aside0.mk H
           clear H
           have p195 : 0 ≤ (x51_2 : Int) := of_decide_eq_true (by first | (with_reducible assumption) | assumption)
           have q195 : x51_2 < (l1_2.length : Int) := of_decide_eq_true (by first | (with_reducible assumption) | assumption)
           obtain ⟨ad195, e195, hx195_0, hx195_1, hx195_2, hx195_3⟩ := at_T54 HR1_2.out x51_2 p195 q195
           cases e195
           replace hx195_0 := (HB.out.cell (World.block_lt_of_cell? w _ hx195_0)).trans hx195_0
           replace hx195_1 := (HB.out.cell (World.block_lt_of_cell? w _ hx195_1)).trans hx195_1
           replace hx195_2 := (HB.out.cell (World.block_lt_of_cell? w _ hx195_2)).trans hx195_2
           replace hx195_3 := (HB.out.cell (World.block_lt_of_cell? w _ hx195_3)).trans hx195_3
           replace p195 := eq_true p195
           replace q195 := eq_true q195
           try go_wp2_with (first | ((with_reducible refine gate_dst (N := 10) rfl ?_); refine box_event ?hg (N := 10) ?hd (cs := #[.int .i64 0, .int .i64 0, .int .i64 0, .int .i64 0]) (t := 54) ?hr ?_; (case hd => rfl); (case hg => rfl); (case hr => first | (go_simp; done) | (go_simp; rfl)); intro gb196 hg w74 hbox hb; replace HO_195002 := Aside0.mk (Kd.R_below (Kd.R_elderB (z905.rl HO_195002.out) gb196 (Nat.le_of_eq hg.symm)) hb); have BK196 := Aside0.mk (hbox); have GW196 := Aside0.mk ((by rw [hg]; exact (below_size (z905.bl HB)) : w.heap.size ≤ gb196)); have GE196 := Aside0.mk ((by rw [hg]; exact (below_size (z905.bl HB)) : w.heap.size ≤ gb196)); replace HB := Aside0.mk (below_step (z905.bl HB) hb); have NB188_196 := z905.ht BK188 hg; have NB196_188 := z905.hu BK188 hg; replace BK188 := z905.bb BK188 hb; have NB189_196 := z905.ht BK189 hg; have NB196_189 := z905.hu BK189 hg; replace BK189 := z905.bb BK189 hb; have NB190_196 := z905.ht BK190 hg; have NB196_190 := z905.hu BK190 hg; replace BK190 := z905.bb BK190 hb; have NB194_196 := z905.ht BK194 hg; have NB196_194 := z905.hu BK194 hg; replace BK194 := z905.bb BK194 hb; clear hb hbox hg; have hnb75 := NB196_188.out; have hnc75 := NB188_196.out; have hnb76 := NB196_189.out; have hnc76 := NB189_196.out; have hnb77 := NB196_190.out; have hnc77 := NB190_196.out; have hnb78 := NB196_194.out; have hnc78 := NB194_196.out; have hcz79_0 : w74.cell? ⟨gb196, 0, none⟩ = some (.int .i64 0) := (blk_cell BK196.out 0).trans rfl; have hcz79_1 : w74.cell? ⟨gb196, 1, none⟩ = some (.int .i64 0) := (blk_cell BK196.out 1).trans rfl; have hcz79_2 : w74.cell? ⟨gb196, 2, none⟩ = some (.int .i64 0) := (blk_cell BK196.out 2).trans rfl; have hcz79_3 : w74.cell? ⟨gb196, 3, none⟩ = some (.int .i64 0) := (blk_cell BK196.out 3).trans rfl; have hfz79_0 := blk_frozen BK196.out 0; have hfz79_1 := blk_frozen BK196.out 1; have hfz79_2 := blk_frozen BK196.out 2; have hfz79_3 := blk_frozen BK196.out 3) | ((with_reducible refine gate_callee (f := 119) rfl ?_); refine z905.gl (some 59) rfl rfl Try.func119 (by kernel_rfl) rfl #[.agg #[.int .i64 ((rd_T54 l1_2 x51_2).f0), .int .i64 ((rd_T54 l1_2 x51_2).f1), .int .i64 ((rd_T54 l1_2 x51_2).f2), .int .i64 ((rd_T54 l1_2 x51_2).f3)], .int .i64 a2] rfl ?_; (with_reducible refine (impl_ThinTint.calls ((rd_T54 l1_2 x51_2).f0) ((rd_T54 l1_2 x51_2).f1) ((rd_T54 l1_2 x51_2).f2) ((rd_T54 l1_2 x51_2).f3) a2 t197 t198 t199 t200 t201 _ A70.out).mono ?_); rintro e w80 ⟨rfl, hb⟩; refine ⟨_, rfl, ?_⟩; replace HO_195002 := Aside0.mk (Kd.R_below (z905.rl ((Kd.R_mono (Kd.R_far (p := ⟨gb196, 3, none⟩) (Kd.R_far (p := ⟨gb196, 2, none⟩) (Kd.R_far (p := ⟨gb196, 1, none⟩) (Kd.R_far (p := ⟨gb196, 0, none⟩) (Kd.R_mono HO_195002.out (fun k_ hk => (⟨hk, hk.2⟩ : _ ∧ k_ ≠ gb196))) (fun _ hk => hk.2) (.int .i64 ((rd_T54 l1_2 x51_2).f0))) (fun _ hk => hk.2) (.int .i64 ((rd_T54 l1_2 x51_2).f1))) (fun _ hk => hk.2) (.int .i64 ((rd_T54 l1_2 x51_2).f2))) (fun _ hk => hk.2) (.int .i64 ((rd_T54 l1_2 x51_2).f3))) (fun _ h_ => h_.1)))) hb); replace BK188 := Aside0.mk (blk_below (g := gb188) (o := .cells #[.int .i64 a0_0, .int .i64 a0_1, .slice A0_2 l0_2.length c0_2] 70 (0, 0)) (z905.bf BK188) hb); replace BK189 := Aside0.mk (blk_below (g := gb189) (o := .cells #[.int .i64 a1_0, .int .i64 a1_1, .slice (some ad195) l1_2.length c1_2] 70 (0, 0)) (z905.bf BK189) hb); replace BK190 := Aside0.mk (blk_below (g := gb190) (o := .cells #[.int .i64 0, .int .i64 0, .slice none 0 0] 70 (0, 0)) (z905.bf BK190) hb); replace BK194 := Aside0.mk (blk_below (g := gb194) (o := .cells #[.int .i64 a0_0, .int .i64 a0_1, u195002] 70 (0, 0)) (z905.bf BK194) hb); replace BK196 := Aside0.mk (blk_below (g := gb196) (o := .cells #[.int .i64 ((rd_T54 l1_2 x51_2).f0), .int .i64 ((rd_T54 l1_2 x51_2).f1), .int .i64 ((rd_T54 l1_2 x51_2).f2), .int .i64 ((rd_T54 l1_2 x51_2).f3)] 54 (0, 0)) (by (with_reducible repeat (first | refine blk_drewN ?_ _ | refine blk_drew ?_ | refine blk_alloc ?_ _)); refine blk_put (cs := #[.int .i64 ((rd_T54 l1_2 x51_2).f0), .int .i64 ((rd_T54 l1_2 x51_2).f1), .int .i64 ((rd_T54 l1_2 x51_2).f2), .int .i64 0]) ?_ 3 _ rfl; (with_reducible repeat (first | refine blk_drewN ?_ _ | refine blk_drew ?_ | refine blk_alloc ?_ _)); refine blk_put (cs := #[.int .i64 ((rd_T54 l1_2 x51_2).f0), .int .i64 ((rd_T54 l1_2 x51_2).f1), .int .i64 0, .int .i64 0]) ?_ 2 _ rfl; (with_reducible repeat (first | refine blk_drewN ?_ _ | refine blk_drew ?_ | refine blk_alloc ?_ _)); refine blk_put (cs := #[.int .i64 ((rd_T54 l1_2 x51_2).f0), .int .i64 0, .int .i64 0, .int .i64 0]) ?_ 1 _ rfl; (with_reducible repeat (first | refine blk_drewN ?_ _ | refine blk_drew ?_ | refine blk_alloc ?_ _)); refine blk_put (cs := #[.int .i64 0, .int .i64 0, .int .i64 0, .int .i64 0]) ?_ 0 _ rfl; (with_reducible repeat (first | refine blk_drewN ?_ _ | refine blk_drew ?_ | refine blk_alloc ?_ _)); exact BK196.out) hb); replace HB := Aside0.mk (below_step (z905.bl HB) hb); (try clear hb); (try clear hb2); (try clear hk); (try clear hi)) | ((with_reducible refine gate_dst (N := 11) rfl ?_); refine box_event ?hg (N := 11) ?hd (cs := #[.int .i64 0, .int .i64 0, .int .i64 0, .int .i64 0]) (t := 54) ?hr ?_; (case hd => rfl); (case hg => rfl); (case hr => first | (go_simp; done) | (go_simp; rfl)); intro gb202 hg w81 hbox hb; replace HO_195002 := Aside0.mk (Kd.R_below (Kd.R_elderB (z905.rl HO_195002.out) gb202 (Nat.le_of_eq hg.symm)) hb); have BK202 := Aside0.mk (hbox); have GW202 := Aside0.mk ((by rw [hg]; exact (below_size (z905.bl HB)) : w.heap.size ≤ gb202)); have GE202 := Aside0.mk ((by rw [hg]; exact (below_size (z905.bl HB)) : w.heap.size ≤ gb202)); replace HB := Aside0.mk (below_step (z905.bl HB) hb); have NB188_202 := z905.ht BK188 hg; have NB202_188 := z905.hu BK188 hg; replace BK188 := z905.bb BK188 hb; have NB189_202 := z905.ht BK189 hg; have NB202_189 := z905.hu BK189 hg; replace BK189 := z905.bb BK189 hb; have NB190_202 := z905.ht BK190 hg; have NB202_190 := z905.hu BK190 hg; replace BK190 := z905.bb BK190 hb; have NB194_202 := z905.ht BK194 hg; have NB202_194 := z905.hu BK194 hg; replace BK194 := z905.bb BK194 hb; have NB196_202 := z905.ht BK196 hg; have NB202_196 := z905.hu BK196 hg; replace BK196 := z905.bb BK196 hb; clear hb hbox hg; have hnb82 := NB202_188.out; have hnc82 := NB188_202.out; have hnb83 := NB202_189.out; have hnc83 := NB189_202.out; have hnb84 := NB202_190.out; have hnc84 := NB190_202.out; have hnb85 := NB202_194.out; have hnc85 := NB194_202.out; have hnb86 := NB202_196.out; have hnc86 := NB196_202.out; have hcz87_0 : w81.cell? ⟨gb202, 0, none⟩ = some (.int .i64 0) := (blk_cell BK202.out 0).trans rfl; have hcz87_1 : w81.cell? ⟨gb202, 1, none⟩ = some (.int .i64 0) := (blk_cell BK202.out 1).trans rfl; have hcz87_2 : w81.cell? ⟨gb202, 2, none⟩ = some (.int .i64 0) := (blk_cell BK202.out 2).trans rfl; have hcz87_3 : w81.cell? ⟨gb202, 3, none⟩ = some (.int .i64 0) := (blk_cell BK202.out 3).trans rfl; have hfz87_0 := blk_frozen BK202.out 0; have hfz87_1 := blk_frozen BK202.out 1; have hfz87_2 := blk_frozen BK202.out 2; have hfz87_3 := blk_frozen BK202.out 3))
           have n0_ : Aside0 (Kd.R k54 54 ((((w81.setCell ⟨gb202, 0, none⟩ (.int .i64 t197)).setCell ⟨gb202, 1, none⟩ (.int .i64 t198)).setCell ⟨gb202, 2, none⟩ (.int .i64 t199)).setCell ⟨gb202, 3, none⟩ (.int .i64 t200)) w.heap.size (fun k_ => k_ ≠ gb196 ∧ k_ ≠ gb202) u195002 x195002_2) := ⟨z905.rl (Kd.R_mono (Kd.R_far (p := ⟨gb202, 3, none⟩) (Kd.R_far (p := ⟨gb202, 2, none⟩) (Kd.R_far (p := ⟨gb202, 1, none⟩) (Kd.R_far (p := ⟨gb202, 0, none⟩) (Kd.R_mono HO_195002.out (fun k_ hk => (⟨hk, hk.2⟩ : _ ∧ k_ ≠ gb202))) (fun _ hk => hk.2) (.int .i64 t197)) (fun _ hk => hk.2) (.int .i64 t198)) (fun _ hk => hk.2) (.int .i64 t199)) (fun _ hk => hk.2) (.int .i64 t200)) (fun _ hk => ⟨hk.1.1.2, hk.1.2⟩))⟩
           have n1_ : Aside0 (((((w81.setCell ⟨gb202, 0, none⟩ (.int .i64 t197)).setCell ⟨gb202, 1, none⟩ (.int .i64 t198)).setCell ⟨gb202, 2, none⟩ (.int .i64 t199)).setCell ⟨gb202, 3, none⟩ (.int .i64 t200)).heap[gb188]? = some (.cells #[.int .i64 a0_0, .int .i64 a0_1, .slice A0_2 l0_2.length c0_2] 70 (0, 0))) := ⟨z905.bf BK188⟩
           have n2_ : Aside0 (((((w81.setCell ⟨gb202, 0, none⟩ (.int .i64 t197)).setCell ⟨gb202, 1, none⟩ (.int .i64 t198)).setCell ⟨gb202, 2, none⟩ (.int .i64 t199)).setCell ⟨gb202, 3, none⟩ (.int .i64 t200)).heap[gb189]? = some (.cells #[.int .i64 a1_0, .int .i64 a1_1, .slice (some ad195) l1_2.length c1_2] 70 (0, 0))) := ⟨z905.bf BK189⟩
           have n3_ : Aside0 (((((w81.setCell ⟨gb202, 0, none⟩ (.int .i64 t197)).setCell ⟨gb202, 1, none⟩ (.int .i64 t198)).setCell ⟨gb202, 2, none⟩ (.int .i64 t199)).setCell ⟨gb202, 3, none⟩ (.int .i64 t200)).heap[gb190]? = some (.cells #[.int .i64 0, .int .i64 0, .slice none 0 0] 70 (0, 0))) := ⟨z905.bf BK190⟩
           have n4_ : Aside0 (((((w81.setCell ⟨gb202, 0, none⟩ (.int .i64 t197)).setCell ⟨gb202, 1, none⟩ (.int .i64 t198)).setCell ⟨gb202, 2, none⟩ (.int .i64 t199)).setCell ⟨gb202, 3, none⟩ (.int .i64 t200)).heap[gb194]? = some (.cells #[.int .i64 a0_0, .int .i64 a0_1, u195002] 70 (0, 0))) := ⟨z905.bf BK194⟩
           have n5_ : Aside0 (((((w81.setCell ⟨gb202, 0, none⟩ (.int .i64 t197)).setCell ⟨gb202, 1, none⟩ (.int .i64 t198)).setCell ⟨gb202, 2, none⟩ (.int .i64 t199)).setCell ⟨gb202, 3, none⟩ (.int .i64 t200)).heap[gb196]? = some (.cells #[.int .i64 ((rd_T54 l1_2 x51_2).f0), .int .i64 ((rd_T54 l1_2 x51_2).f1), .int .i64 ((rd_T54 l1_2 x51_2).f2), .int .i64 ((rd_T54 l1_2 x51_2).f3)] 54 (0, 0))) := ⟨z905.bf BK196⟩
           have n6_ : Aside0 (((((w81.setCell ⟨gb202, 0, none⟩ (.int .i64 t197)).setCell ⟨gb202, 1, none⟩ (.int .i64 t198)).setCell ⟨gb202, 2, none⟩ (.int .i64 t199)).setCell ⟨gb202, 3, none⟩ (.int .i64 t200)).heap[gb202]? = some (.cells #[.int .i64 t197, .int .i64 t198, .int .i64 t199, .int .i64 t200] 54 (0, 0))) := ⟨by (with_reducible repeat (first | refine blk_drewN ?_ _ | refine blk_drew ?_ | refine blk_alloc ?_ _)); refine blk_put (cs := #[.int .i64 t197, .int .i64 t198, .int .i64 t199, .int .i64 0]) ?_ 3 _ rfl; (with_reducible repeat (first | refine blk_drewN ?_ _ | refine blk_drew ?_ | refine blk_alloc ?_ _)); refine blk_put (cs := #[.int .i64 t197, .int .i64 t198, .int .i64 0, .int .i64 0]) ?_ 2 _ rfl; (with_reducible repeat (first | refine blk_drewN ?_ _ | refine blk_drew ?_ | refine blk_alloc ?_ _)); refine blk_put (cs := #[.int .i64 t197, .int .i64 0, .int .i64 0, .int .i64 0]) ?_ 1 _ rfl; (with_reducible repeat (first | refine blk_drewN ?_ _ | refine blk_drew ?_ | refine blk_alloc ?_ _)); refine blk_put (cs := #[.int .i64 0, .int .i64 0, .int .i64 0, .int .i64 0]) ?_ 0 _ rfl; (with_reducible repeat (first | refine blk_drewN ?_ _ | refine blk_drew ?_ | refine blk_alloc ?_ _)); exact BK202.out⟩
           have n7_ : Aside0 (Below w.heap.size w ((((w81.setCell ⟨gb202, 0, none⟩ (.int .i64 t197)).setCell ⟨gb202, 1, none⟩ (.int .i64 t198)).setCell ⟨gb202, 2, none⟩ (.int .i64 t199)).setCell ⟨gb202, 3, none⟩ (.int .i64 t200))) := ⟨z905.bl HB⟩
           (try clear HO_195002)
           (try clear BK188)
           (try clear BK189)
           (try clear BK190)
           (try clear BK194)
           (try clear BK196)
           (try clear BK202)
           (try clear HB)
           generalize ((((w81.setCell ⟨gb202, 0, none⟩ (.int .i64 t197)).setCell ⟨gb202, 1, none⟩ (.int .i64 t198)).setCell ⟨gb202, 2, none⟩ (.int .i64 t199)).setCell ⟨gb202, 3, none⟩ (.int .i64 t200)) = w88 at n0_ n1_ n2_ n3_ n4_ n5_ n6_ n7_ ⊢
           have HO_195002 := n0_
           have BK188 := n1_
           have BK189 := n2_
           have BK190 := n3_
           have BK194 := n4_
           have BK196 := n5_
           have BK202 := n6_
           have HB := n7_
           clear n0_ n1_ n2_ n3_ n4_ n5_ n6_ n7_
           replace HO_195002 := Aside0.mk (Kd.R_drew HO_195002.out)
           replace BK188 := Aside0.mk (blk_drew BK188.out)
           replace BK189 := Aside0.mk (blk_drew BK189.out)
           replace BK190 := Aside0.mk (blk_drew BK190.out)
           replace BK194 := Aside0.mk (blk_drew BK194.out)
           replace BK196 := Aside0.mk (blk_drew BK196.out)
           replace BK202 := Aside0.mk (blk_drew BK202.out)
           replace HB := Aside0.mk (below_drew1 HB.out)
           have p203 : 0 ≤ (x51_2 : Int) := of_decide_eq_true (by first | (with_reducible assumption) | assumption)
           have q203 : x51_2 < (l0_2.length : Int) := of_decide_eq_true (by first | (with_reducible assumption) | assumption)
           obtain ⟨ad203, e203, hx203_0, hx203_1, hx203_2, hx203_3⟩ := at_T54 HR0_2.out x51_2 p203 q203
           have hw203_3 := hx203_3
           have hw203_2 := hx203_2
           have hw203_1 := hx203_1
           have hw203_0 := hx203_0
           cases e203
           replace hx203_0 := (HB.out.cell (World.block_lt_of_cell? w _ hx203_0)).trans hx203_0
           replace hx203_1 := (HB.out.cell (World.block_lt_of_cell? w _ hx203_1)).trans hx203_1
           replace hx203_2 := (HB.out.cell (World.block_lt_of_cell? w _ hx203_2)).trans hx203_2
           replace hx203_3 := (HB.out.cell (World.block_lt_of_cell? w _ hx203_3)).trans hx203_3
           replace p203 := eq_true p203
           replace q203 := eq_true q203
           refine start_ (n := 13) (S := fun w' => w'.cell? ⟨gb202, 0, none⟩ = some (.int .i64 t197) ∧ w'.cell? ⟨gb202, 1, none⟩ = some (.int .i64 t198) ∧ w'.cell? ⟨gb202, 2, none⟩ = some (.int .i64 t199) ∧ w'.cell? ⟨gb202, 3, none⟩ = some (.int .i64 t200) ∧ w'.cell? ⟨gb188, 0, none⟩ = some (.int .i64 a0_0) ∧ w'.cell? ⟨gb188, 1, none⟩ = some (.int .i64 a0_1) ∧ w'.cell? ⟨gb188, 2, none⟩ = some (.slice (some ad203) l0_2.length c0_2) ∧ w'.cell? (ad203.add ((x51_2).toNat * 4)) = some (.int .i64 ((rd_T54 l0_2 x51_2).f0)) ∧ w'.cell? ⟨(ad203.add ((x51_2).toNat * 4)).block, (ad203.add ((x51_2).toNat * 4)).off + 1, none⟩ = some (.int .i64 ((rd_T54 l0_2 x51_2).f1)) ∧ w'.cell? ⟨(ad203.add ((x51_2).toNat * 4)).block, (ad203.add ((x51_2).toNat * 4)).off + 2, none⟩ = some (.int .i64 ((rd_T54 l0_2 x51_2).f2)) ∧ w'.cell? ⟨(ad203.add ((x51_2).toNat * 4)).block, (ad203.add ((x51_2).toNat * 4)).off + 3, none⟩ = some (.int .i64 ((rd_T54 l0_2 x51_2).f3))) (ds := []) #[false, false, false, false, false, false, false, false, false, false, false, false, false] (by kernel_rfl) rfl rfl ⟨(blk_cell BK202.out 0).trans rfl, (blk_cell BK202.out 1).trans rfl, (blk_cell BK202.out 2).trans rfl, (blk_cell BK202.out 3).trans rfl, (blk_cell BK188.out 0).trans rfl, (blk_cell BK188.out 1).trans rfl, (blk_cell BK188.out 2).trans rfl, ((HB.out.cell (World.block_lt_of_cell? w _ hw203_0)).trans hw203_0), ((HB.out.cell (World.block_lt_of_cell? w _ hw203_1)).trans hw203_1), ((HB.out.cell (World.block_lt_of_cell? w _ hw203_2)).trans hw203_2), ((HB.out.cell (World.block_lt_of_cell? w _ hw203_3)).trans hw203_3)⟩ (fun hHeld => ?_); refine with_tabW impl_LaySheet.tab8 impl_LaySheet.bits8 (fun HT_ HW_ => ?_)
           generalize w88.drew = w89 at HO_195002 BK188 BK189 BK190 BK194 BK196 BK202 HB hx203_0 hx203_1 hx203_2 hx203_3 hHeld ⊢
           refine pure_ (i := 1) (N := some 64) (v := ?_) (a' := ?_) #[false, true, false, false, false, false, false, false, false, false, false, false, false] rfl rfl (any_of HT_.out (by kernel_rfl)) (fun _ _ _ h => h) (Or.inl ⟨by rfl, ?_⟩) ?_ ?_
           rotate_left
           ·intro w'
            go_simp
            with_reducible rfl
           rotate_left
           ·simp only [Act.put, List.setIfInBounds_toArray, List.set_cons_zero, List.set_cons_succ, i64_w, i32_w]
            rfl
           refine pure_ (i := 3) (N := some 66) (v := ?_) (a' := ?_) #[false, true, false, true, false, false, false, false, false, false, false, false, false] rfl rfl (any_of HT_.out (by kernel_rfl)) (fun _ _ _ h => h) (Or.inl ⟨by rfl, ?_⟩) ?_ ?_
           rotate_left
           ·intro w'
            go_simp
            with_reducible rfl
           rotate_left
           ·simp only [Act.put, List.setIfInBounds_toArray, List.set_cons_zero, List.set_cons_succ, i64_w, i32_w]
            rfl
           refine take_ (i := 0) (N := some 63) (v := ?_) (a' := ?_) #[true, true, false, true, false, false, false, false, false, false, false, false, false] rfl rfl (take_ofW HT_.out HW_.out (by kernel_rfl)) (fun _ _ _ h => h) (Or.inl ⟨by rfl, ?_⟩) hHeld ?_ ?_
           rotate_left
           ·rintro w' ⟨s0, s1, s2, s3, s4, s5, s6, s7, s8, s9, s10⟩
            go_simp
            with_reducible rfl
           rotate_left
           ·simp only [Act.put, List.setIfInBounds_toArray, List.set_cons_zero, List.set_cons_succ, i64_w, i32_w]
            rfl
           refine take_ (i := 2) (N := some 65) (v := ?_) (a' := ?_) #[true, true, true, true, false, false, false, false, false, false, false, false, false] rfl rfl (take_ofW HT_.out HW_.out (by kernel_rfl)) (fun _ _ _ h => h) (Or.inl ⟨by rfl, ?_⟩) hHeld ?_ ?_
           rotate_left
           ·rintro w' ⟨s0, s1, s2, s3, s4, s5, s6, s7, s8, s9, s10⟩
            go_simp
            with_reducible rfl
           rotate_left
           ·simp only [Act.put, List.setIfInBounds_toArray, List.set_cons_zero, List.set_cons_succ, i64_w, i32_w]
            rfl
           refine pure_ (i := 4) (N := some 67) (v := ?_) (a' := ?_) #[true, true, true, true, true, false, false, false, false, false, false, false, false] rfl rfl (any_of HT_.out (by kernel_rfl)) (fun _ _ _ h => h) (Or.inl ⟨by rfl, ?_⟩) ?_ ?_
           rotate_left
           ·intro w'
            go_simp
            with_reducible rfl
           rotate_left
           ·simp only [Act.put, List.setIfInBounds_toArray, List.set_cons_zero, List.set_cons_succ, i64_w, i32_w]
            rfl
           refine take_ (i := 5) (N := some 68) (v := ?_) (a' := ?_) #[true, true, true, true, true, true, false, false, false, false, false, false, false] rfl rfl (take_ofW HT_.out HW_.out (by kernel_rfl)) (fun _ _ _ h => h) (Or.inl ⟨by rfl, ?_⟩) hHeld ?_ ?_
           rotate_left
           ·rintro w' ⟨s0, s1, s2, s3, s4, s5, s6, s7, s8, s9, s10⟩
            go_simp
            with_reducible rfl
           rotate_left
           ·simp only [Act.put, List.setIfInBounds_toArray, List.set_cons_zero, List.set_cons_succ, i64_w, i32_w]
            rfl
           refine join_ (σ := Nat) 2 #[true, true, true, true, true, true, true, true, true, true, true, false, false] (fun s_ => [(69, .tuple #[.agg #[.int .i64 t204, .int .i64 t205, .int .i64 t206, .int .i64 t207], .bool t208]), (13, .pointer (some ⟨s_, 0, none⟩)), (62, .tuple #[.agg #[.int .i64 t204, .int .i64 t205, .int .i64 t206, .int .i64 t207], .bool t208]), (70, .agg #[.int .i64 t204, .int .i64 t205, .int .i64 t206, .int .i64 t207]), (71, .bool t208)]) (fun s_ w' => (w'.cell? ⟨gb202, 0, none⟩ = some (.int .i64 t197) ∧ w'.cell? ⟨gb202, 1, none⟩ = some (.int .i64 t198) ∧ w'.cell? ⟨gb202, 2, none⟩ = some (.int .i64 t199) ∧ w'.cell? ⟨gb202, 3, none⟩ = some (.int .i64 t200) ∧ w'.cell? ⟨gb188, 0, none⟩ = some (.int .i64 a0_0) ∧ w'.cell? ⟨gb188, 1, none⟩ = some (.int .i64 a0_1) ∧ w'.cell? ⟨gb188, 2, none⟩ = some (.slice (some ad203) l0_2.length c0_2) ∧ w'.cell? (ad203.add ((x51_2).toNat * 4)) = some (.int .i64 ((rd_T54 l0_2 x51_2).f0)) ∧ w'.cell? ⟨(ad203.add ((x51_2).toNat * 4)).block, (ad203.add ((x51_2).toNat * 4)).off + 1, none⟩ = some (.int .i64 ((rd_T54 l0_2 x51_2).f1)) ∧ w'.cell? ⟨(ad203.add ((x51_2).toNat * 4)).block, (ad203.add ((x51_2).toNat * 4)).off + 2, none⟩ = some (.int .i64 ((rd_T54 l0_2 x51_2).f2)) ∧ w'.cell? ⟨(ad203.add ((x51_2).toNat * 4)).block, (ad203.add ((x51_2).toNat * 4)).off + 3, none⟩ = some (.int .i64 ((rd_T54 l0_2 x51_2).f3))) ∧ (Kd.R k54 54 w' w.heap.size (fun k_ => k_ ≠ gb196 ∧ k_ ≠ gb202 ∧ k_ ≠ s_) u195002 x195002_2) ∧ (w'.heap[gb188]? = some (.cells #[.int .i64 a0_0, .int .i64 a0_1, .slice (some ad203) l0_2.length c0_2] 70 (0, 0))) ∧ (w'.heap[gb189]? = some (.cells #[.int .i64 a1_0, .int .i64 a1_1, .slice (some ad195) l1_2.length c1_2] 70 (0, 0))) ∧ (w'.heap[gb190]? = some (.cells #[.int .i64 0, .int .i64 0, .slice none 0 0] 70 (0, 0))) ∧ (w'.heap[gb194]? = some (.cells #[.int .i64 a0_0, .int .i64 a0_1, u195002] 70 (0, 0))) ∧ (w'.heap[gb196]? = some (.cells #[.int .i64 ((rd_T54 l1_2 x51_2).f0), .int .i64 ((rd_T54 l1_2 x51_2).f1), .int .i64 ((rd_T54 l1_2 x51_2).f2), .int .i64 ((rd_T54 l1_2 x51_2).f3)] 54 (0, 0))) ∧ (w'.heap[gb202]? = some (.cells #[.int .i64 t197, .int .i64 t198, .int .i64 t199, .int .i64 t200] 54 (0, 0))) ∧ (w'.heap[s_]? = some (.cells #[.int .i64 0, .int .i64 0, .int .i64 0, .int .i64 0] 54 (0, 0))) ∧ (w.heap.size ≤ s_) ∧ (w.heap.size ≤ s_) ∧ (gb188 ≠ s_) ∧ (s_ ≠ gb188) ∧ (gb189 ≠ s_) ∧ (s_ ≠ gb189) ∧ (gb190 ≠ s_) ∧ (s_ ≠ gb190) ∧ (gb194 ≠ s_) ∧ (s_ ≠ gb194) ∧ (gb196 ≠ s_) ∧ (s_ ≠ gb196) ∧ (gb202 ≠ s_) ∧ (s_ ≠ gb202) ∧ (Below w.heap.size w w')) ?_ ?_
           rotate_left
           ·intro hCont
            refine two_ (i := 6) (j := 10) (Ni := some 69) (Nj := some 13) #[true, true, true, true, true, true, true, false, false, false, false, false, false] #[true, true, true, true, true, true, false, false, false, false, true, false, false] rfl rfl rfl rfl (two_of HT_.out (by kernel_rfl)) (by decide) (by decide) (fun K hK => ?_) (fun K hK => ?_)
            ·skip
             refine z905.gs Try.func51 (by kernel_rfl) rfl #[.agg #[.int .i64 t197, .int .i64 t198, .int .i64 t199, .int .i64 t200], .agg #[.int .i64 ((rd_T54 l0_2 x51_2).f0), .int .i64 ((rd_T54 l0_2 x51_2).f1), .int .i64 ((rd_T54 l0_2 x51_2).f2), .int .i64 ((rd_T54 l0_2 x51_2).f3)]] (by rfl) rfl rfl ?_
             with_reducible refine (impl_OverTint.calls t197 t198 t199 t200 ((rd_T54 l0_2 x51_2).f0) ((rd_T54 l0_2 x51_2).f1) ((rd_T54 l0_2 x51_2).f2) ((rd_T54 l0_2 x51_2).f3) t204 t205 t206 t207 t208 _ A72.out).mono ?_
             rintro e w90 ⟨rfl, hb⟩
             refine ⟨_, rfl, ?_⟩
             replace HO_195002 := z905.rb HO_195002 hb
             replace BK188 := z905.bb BK188 hb
             replace BK189 := z905.bb BK189 hb
             replace BK190 := z905.bb BK190 hb
             replace BK194 := z905.bb BK194 hb
             replace BK196 := z905.bb BK196 hb
             replace BK202 := z905.bb BK202 hb
             replace HB := Aside0.mk (below_step (z905.bl HB) hb)
             (try clear hb)
             (try clear hb2)
             (try clear hk)
             (try clear hi)
             refine hK.out _ _ ⟨(blk_cell BK202.out 0).trans rfl, (blk_cell BK202.out 1).trans rfl, (blk_cell BK202.out 2).trans rfl, (blk_cell BK202.out 3).trans rfl, (blk_cell BK188.out 0).trans rfl, (blk_cell BK188.out 1).trans rfl, (blk_cell BK188.out 2).trans rfl, ((HB.out.cell (World.block_lt_of_cell? w _ hw203_0)).trans hw203_0), ((HB.out.cell (World.block_lt_of_cell? w _ hw203_1)).trans hw203_1), ((HB.out.cell (World.block_lt_of_cell? w _ hw203_2)).trans hw203_2), ((HB.out.cell (World.block_lt_of_cell? w _ hw203_3)).trans hw203_3)⟩ (fun hHeld => ?_)
             clear hK K
             refine norm_ (a' := ?_) ?_ ?_
             rotate_left
             ·show Act.put _ (some 69) _ = _
              simp only [Act.put, List.setIfInBounds_toArray, List.set_cons_zero, List.set_cons_succ, i64_w, i32_w]
              rfl
             refine pure_ (i := 7) (N := some 62) (v := ?_) (a' := ?_) #[true, true, true, true, true, true, true, true, false, false, false, false, false] rfl rfl (any_of HT_.out (by kernel_rfl)) (fun _ _ _ h => h) (Or.inl ⟨by rfl, ?_⟩) ?_ ?_
             rotate_left
             ·intro w'
              go_simp
              with_reducible rfl
             rotate_left
             ·simp only [Act.put, List.setIfInBounds_toArray, List.set_cons_zero, List.set_cons_succ, i64_w, i32_w]
              rfl
             refine pure_ (i := 8) (N := some 70) (v := ?_) (a' := ?_) #[true, true, true, true, true, true, true, true, true, false, false, false, false] rfl rfl (any_of HT_.out (by kernel_rfl)) (fun _ _ _ h => h) (Or.inl ⟨by rfl, ?_⟩) ?_ ?_
             rotate_left
             ·intro w'
              go_simp
              with_reducible rfl
             rotate_left
             ·simp only [Act.put, List.setIfInBounds_toArray, List.set_cons_zero, List.set_cons_succ, i64_w, i32_w]
              rfl
             refine pure_ (i := 9) (N := some 71) (v := ?_) (a' := ?_) #[true, true, true, true, true, true, true, true, true, true, false, false, false] rfl rfl (any_of HT_.out (by kernel_rfl)) (fun _ _ _ h => h) (Or.inl ⟨by rfl, ?_⟩) ?_ ?_
             rotate_left
             ·intro w'
              go_simp
              with_reducible rfl
             rotate_left
             ·simp only [Act.put, List.setIfInBounds_toArray, List.set_cons_zero, List.set_cons_succ, i64_w, i32_w]
              rfl
             refine one_ (i := 10) (N := some 13) #[true, true, true, true, true, true, true, true, true, true, true, false, false] rfl rfl (one_of HT_.out (by kernel_rfl)) (by decide) (fun K hK => ?_)
             refine box_step ?hg (N := 13) ?hd (cs := #[.int .i64 0, .int .i64 0, .int .i64 0, .int .i64 0]) (t := 54) ?hr ?_; (case hd => rfl); (case hg => rfl); (case hr => first | (go_simp; done) | (go_simp; rfl))
             intro gb209 hg w91 hbox hb
             replace HO_195002 := Aside0.mk (Kd.R_below (Kd.R_elderB (z905.rl HO_195002.out) gb209 (Nat.le_of_eq hg.symm)) hb)
             have BK209 := Aside0.mk (hbox)
             have GW209 := Aside0.mk ((by rw [hg]; exact (below_size (z905.bl HB)) : w.heap.size ≤ gb209))
             have GE209 := Aside0.mk ((by rw [hg]; exact (below_size (z905.bl HB)) : w.heap.size ≤ gb209))
             replace HB := Aside0.mk (below_step (z905.bl HB) hb)
             have NB188_209 := z905.ht BK188 hg
             have NB209_188 := z905.hu BK188 hg
             replace BK188 := z905.bb BK188 hb
             have NB189_209 := z905.ht BK189 hg
             have NB209_189 := z905.hu BK189 hg
             replace BK189 := z905.bb BK189 hb
             have NB190_209 := z905.ht BK190 hg
             have NB209_190 := z905.hu BK190 hg
             replace BK190 := z905.bb BK190 hb
             have NB194_209 := z905.ht BK194 hg
             have NB209_194 := z905.hu BK194 hg
             replace BK194 := z905.bb BK194 hb
             have NB196_209 := z905.ht BK196 hg
             have NB209_196 := z905.hu BK196 hg
             replace BK196 := z905.bb BK196 hb
             have NB202_209 := z905.ht BK202 hg
             have NB209_202 := z905.hu BK202 hg
             replace BK202 := z905.bb BK202 hb
             clear hb hbox hg
             refine hK.out _ _ ⟨(blk_cell BK202.out 0).trans rfl, (blk_cell BK202.out 1).trans rfl, (blk_cell BK202.out 2).trans rfl, (blk_cell BK202.out 3).trans rfl, (blk_cell BK188.out 0).trans rfl, (blk_cell BK188.out 1).trans rfl, (blk_cell BK188.out 2).trans rfl, ((HB.out.cell (World.block_lt_of_cell? w _ hw203_0)).trans hw203_0), ((HB.out.cell (World.block_lt_of_cell? w _ hw203_1)).trans hw203_1), ((HB.out.cell (World.block_lt_of_cell? w _ hw203_2)).trans hw203_2), ((HB.out.cell (World.block_lt_of_cell? w _ hw203_3)).trans hw203_3)⟩ (fun hHeld => ?_)
             clear hK K
             refine norm_ (a' := ?_) ?_ ?_
             rotate_left
             ·show Act.put _ (some 13) _ = _
              simp only [Act.put, List.setIfInBounds_toArray, List.set_cons_zero, List.set_cons_succ, i64_w, i32_w]
              rfl
             exact norm_ (by simp only [putAll, Act.put, List.setIfInBounds_toArray, List.set_cons_zero, List.set_cons_succ]) (hCont (gb209) _ ⟨hHeld, (z905.rl (Kd.R_mono HO_195002.out (fun _ hk => ⟨hk.1.1, ⟨hk.1.2, hk.2⟩⟩))), (z905.bk BK188), (z905.bk BK189), (z905.bk BK190), (z905.bk BK194), (z905.bk BK196), (z905.bk BK202), (z905.bk BK209), GW209.out, GE209.out, NB188_209.out, NB209_188.out, NB189_209.out, NB209_189.out, NB190_209.out, NB209_190.out, NB194_209.out, NB209_194.out, NB196_209.out, NB209_196.out, NB202_209.out, NB209_202.out, (z905.bl HB)⟩)
            ·skip
             refine box_step ?hg (N := 13) ?hd (cs := #[.int .i64 0, .int .i64 0, .int .i64 0, .int .i64 0]) (t := 54) ?hr ?_; (case hd => rfl); (case hg => rfl); (case hr => first | (go_simp; done) | (go_simp; rfl))
             intro gb209 hg w90 hbox hb
             replace HO_195002 := Aside0.mk (Kd.R_below (Kd.R_elderB (z905.rl HO_195002.out) gb209 (Nat.le_of_eq hg.symm)) hb)
             have BK209 := Aside0.mk (hbox)
             have GW209 := Aside0.mk ((by rw [hg]; exact (below_size (z905.bl HB)) : w.heap.size ≤ gb209))
             have GE209 := Aside0.mk ((by rw [hg]; exact (below_size (z905.bl HB)) : w.heap.size ≤ gb209))
             replace HB := Aside0.mk (below_step (z905.bl HB) hb)
             have NB188_209 := z905.ht BK188 hg
             have NB209_188 := z905.hu BK188 hg
             replace BK188 := z905.bb BK188 hb
             have NB189_209 := z905.ht BK189 hg
             have NB209_189 := z905.hu BK189 hg
             replace BK189 := z905.bb BK189 hb
             have NB190_209 := z905.ht BK190 hg
             have NB209_190 := z905.hu BK190 hg
             replace BK190 := z905.bb BK190 hb
             have NB194_209 := z905.ht BK194 hg
             have NB209_194 := z905.hu BK194 hg
             replace BK194 := z905.bb BK194 hb
             have NB196_209 := z905.ht BK196 hg
             have NB209_196 := z905.hu BK196 hg
             replace BK196 := z905.bb BK196 hb
             have NB202_209 := z905.ht BK202 hg
             have NB209_202 := z905.hu BK202 hg
             replace BK202 := z905.bb BK202 hb
             clear hb hbox hg
             refine hK.out _ _ ⟨(blk_cell BK202.out 0).trans rfl, (blk_cell BK202.out 1).trans rfl, (blk_cell BK202.out 2).trans rfl, (blk_cell BK202.out 3).trans rfl, (blk_cell BK188.out 0).trans rfl, (blk_cell BK188.out 1).trans rfl, (blk_cell BK188.out 2).trans rfl, ((HB.out.cell (World.block_lt_of_cell? w _ hw203_0)).trans hw203_0), ((HB.out.cell (World.block_lt_of_cell? w _ hw203_1)).trans hw203_1), ((HB.out.cell (World.block_lt_of_cell? w _ hw203_2)).trans hw203_2), ((HB.out.cell (World.block_lt_of_cell? w _ hw203_3)).trans hw203_3)⟩ (fun hHeld => ?_)
             clear hK K
             refine norm_ (a' := ?_) ?_ ?_
             rotate_left
             ·show Act.put _ (some 13) _ = _
              simp only [Act.put, List.setIfInBounds_toArray, List.set_cons_zero, List.set_cons_succ, i64_w, i32_w]
              rfl
             refine one_ (i := 6) (N := some 69) #[true, true, true, true, true, true, true, false, false, false, true, false, false] rfl rfl (one_of HT_.out (by kernel_rfl)) (by decide) (fun K hK => ?_)
             refine z905.gs Try.func51 (by kernel_rfl) rfl #[.agg #[.int .i64 t197, .int .i64 t198, .int .i64 t199, .int .i64 t200], .agg #[.int .i64 ((rd_T54 l0_2 x51_2).f0), .int .i64 ((rd_T54 l0_2 x51_2).f1), .int .i64 ((rd_T54 l0_2 x51_2).f2), .int .i64 ((rd_T54 l0_2 x51_2).f3)]] (by rfl) rfl rfl ?_
             with_reducible refine (impl_OverTint.calls t197 t198 t199 t200 ((rd_T54 l0_2 x51_2).f0) ((rd_T54 l0_2 x51_2).f1) ((rd_T54 l0_2 x51_2).f2) ((rd_T54 l0_2 x51_2).f3) t204 t205 t206 t207 t208 _ A72.out).mono ?_
             rintro e w91 ⟨rfl, hb⟩
             refine ⟨_, rfl, ?_⟩
             replace HO_195002 := z905.rb HO_195002 hb
             replace BK188 := z905.bb BK188 hb
             replace BK189 := z905.bb BK189 hb
             replace BK190 := z905.bb BK190 hb
             replace BK194 := z905.bb BK194 hb
             replace BK196 := z905.bb BK196 hb
             replace BK202 := z905.bb BK202 hb
             replace BK209 := z905.bb BK209 hb
             replace HB := Aside0.mk (below_step (z905.bl HB) hb)
             (try clear hb)
             (try clear hb2)
             (try clear hk)
             (try clear hi)
             refine hK.out _ _ ⟨(blk_cell BK202.out 0).trans rfl, (blk_cell BK202.out 1).trans rfl, (blk_cell BK202.out 2).trans rfl, (blk_cell BK202.out 3).trans rfl, (blk_cell BK188.out 0).trans rfl, (blk_cell BK188.out 1).trans rfl, (blk_cell BK188.out 2).trans rfl, ((HB.out.cell (World.block_lt_of_cell? w _ hw203_0)).trans hw203_0), ((HB.out.cell (World.block_lt_of_cell? w _ hw203_1)).trans hw203_1), ((HB.out.cell (World.block_lt_of_cell? w _ hw203_2)).trans hw203_2), ((HB.out.cell (World.block_lt_of_cell? w _ hw203_3)).trans hw203_3)⟩ (fun hHeld => ?_)
             clear hK K
             refine norm_ (a' := ?_) ?_ ?_
             rotate_left
             ·show Act.put _ (some 69) _ = _
              simp only [Act.put, List.setIfInBounds_toArray, List.set_cons_zero, List.set_cons_succ, i64_w, i32_w]
              rfl
             refine pure_ (i := 7) (N := some 62) (v := ?_) (a' := ?_) #[true, true, true, true, true, true, true, true, false, false, true, false, false] rfl rfl (any_of HT_.out (by kernel_rfl)) (fun _ _ _ h => h) (Or.inl ⟨by rfl, ?_⟩) ?_ ?_
             rotate_left
             ·intro w'
              go_simp
              with_reducible rfl
             rotate_left
             ·simp only [Act.put, List.setIfInBounds_toArray, List.set_cons_zero, List.set_cons_succ, i64_w, i32_w]
              rfl
             refine pure_ (i := 8) (N := some 70) (v := ?_) (a' := ?_) #[true, true, true, true, true, true, true, true, true, false, true, false, false] rfl rfl (any_of HT_.out (by kernel_rfl)) (fun _ _ _ h => h) (Or.inl ⟨by rfl, ?_⟩) ?_ ?_
             rotate_left
             ·intro w'
              go_simp
              with_reducible rfl
             rotate_left
             ·simp only [Act.put, List.setIfInBounds_toArray, List.set_cons_zero, List.set_cons_succ, i64_w, i32_w]
              rfl
             refine pure_ (i := 9) (N := some 71) (v := ?_) (a' := ?_) #[true, true, true, true, true, true, true, true, true, true, true, false, false] rfl rfl (any_of HT_.out (by kernel_rfl)) (fun _ _ _ h => h) (Or.inl ⟨by rfl, ?_⟩) ?_ ?_
             rotate_left
             ·intro w'
              go_simp
              with_reducible rfl
             rotate_left
             ·simp only [Act.put, List.setIfInBounds_toArray, List.set_cons_zero, List.set_cons_succ, i64_w, i32_w]
              rfl
             exact norm_ (by simp only [putAll, Act.put, List.setIfInBounds_toArray, List.set_cons_zero, List.set_cons_succ]) (hCont (gb209) _ ⟨hHeld, (z905.rl (Kd.R_mono HO_195002.out (fun _ hk => ⟨hk.1.1, ⟨hk.1.2, hk.2⟩⟩))), (z905.bk BK188), (z905.bk BK189), (z905.bk BK190), (z905.bk BK194), (z905.bk BK196), (z905.bk BK202), (z905.bk BK209), GW209.out, GE209.out, NB188_209.out, NB209_188.out, NB189_209.out, NB209_189.out, NB190_209.out, NB209_190.out, NB194_209.out, NB209_194.out, NB196_209.out, NB209_196.out, NB202_209.out, NB209_202.out, (z905.bl HB)⟩)
           rintro gb209 w92 ⟨hS_, h0_, h1_, h2_, h3_, h4_, h5_, h6_, h7_, h8_, h9_, h10_, h11_, h12_, h13_, h14_, h15_, h16_, h17_, h18_, h19_, h20_, h21_, h22_⟩
           have n0_ : Aside0 (Kd.R k54 54 w92 w.heap.size (fun k_ => k_ ≠ gb196 ∧ k_ ≠ gb202 ∧ k_ ≠ gb209) u195002 x195002_2) := ⟨h0_⟩
           have n1_ : Aside0 (w92.heap[gb188]? = some (.cells #[.int .i64 a0_0, .int .i64 a0_1, .slice (some ad203) l0_2.length c0_2] 70 (0, 0))) := ⟨h1_⟩
           have n2_ : Aside0 (w92.heap[gb189]? = some (.cells #[.int .i64 a1_0, .int .i64 a1_1, .slice (some ad195) l1_2.length c1_2] 70 (0, 0))) := ⟨h2_⟩
           have n3_ : Aside0 (w92.heap[gb190]? = some (.cells #[.int .i64 0, .int .i64 0, .slice none 0 0] 70 (0, 0))) := ⟨h3_⟩
           have n4_ : Aside0 (w92.heap[gb194]? = some (.cells #[.int .i64 a0_0, .int .i64 a0_1, u195002] 70 (0, 0))) := ⟨h4_⟩
           have n5_ : Aside0 (w92.heap[gb196]? = some (.cells #[.int .i64 ((rd_T54 l1_2 x51_2).f0), .int .i64 ((rd_T54 l1_2 x51_2).f1), .int .i64 ((rd_T54 l1_2 x51_2).f2), .int .i64 ((rd_T54 l1_2 x51_2).f3)] 54 (0, 0))) := ⟨h5_⟩
           have n6_ : Aside0 (w92.heap[gb202]? = some (.cells #[.int .i64 t197, .int .i64 t198, .int .i64 t199, .int .i64 t200] 54 (0, 0))) := ⟨h6_⟩
           have n7_ : Aside0 (w92.heap[gb209]? = some (.cells #[.int .i64 0, .int .i64 0, .int .i64 0, .int .i64 0] 54 (0, 0))) := ⟨h7_⟩
           have n8_ : Aside0 (w.heap.size ≤ gb209) := ⟨h8_⟩
           have n9_ : Aside0 (w.heap.size ≤ gb209) := ⟨h9_⟩
           have n10_ : Aside0 (gb188 ≠ gb209) := ⟨h10_⟩
           have n11_ : Aside0 (gb209 ≠ gb188) := ⟨h11_⟩
           have n12_ : Aside0 (gb189 ≠ gb209) := ⟨h12_⟩
           have n13_ : Aside0 (gb209 ≠ gb189) := ⟨h13_⟩
           have n14_ : Aside0 (gb190 ≠ gb209) := ⟨h14_⟩
           have n15_ : Aside0 (gb209 ≠ gb190) := ⟨h15_⟩
           have n16_ : Aside0 (gb194 ≠ gb209) := ⟨h16_⟩
           have n17_ : Aside0 (gb209 ≠ gb194) := ⟨h17_⟩
           have n18_ : Aside0 (gb196 ≠ gb209) := ⟨h18_⟩
           have n19_ : Aside0 (gb209 ≠ gb196) := ⟨h19_⟩
           have n20_ : Aside0 (gb202 ≠ gb209) := ⟨h20_⟩
           have n21_ : Aside0 (gb209 ≠ gb202) := ⟨h21_⟩
           have n22_ : Aside0 (Below w.heap.size w w92) := ⟨h22_⟩
           clear HO_195002
           clear BK188
           clear BK189
           clear BK190
           clear BK194
           clear BK196
           clear BK202
           clear HB
           clear h0_ h1_ h2_ h3_ h4_ h5_ h6_ h7_ h8_ h9_ h10_ h11_ h12_ h13_ h14_ h15_ h16_ h17_ h18_ h19_ h20_ h21_ h22_
           have HO_195002 := n0_
           have BK188 := n1_
           have BK189 := n2_
           have BK190 := n3_
           have BK194 := n4_
           have BK196 := n5_
           have BK202 := n6_
           have BK209 := n7_
           have GW209 := n8_
           have GE209 := n9_
           have NB188_209 := n10_
           have NB209_188 := n11_
           have NB189_209 := n12_
           have NB209_189 := n13_
           have NB190_209 := n14_
           have NB209_190 := n15_
           have NB194_209 := n16_
           have NB209_194 := n17_
           have NB196_209 := n18_
           have NB209_196 := n19_
           have NB202_209 := n20_
           have NB209_202 := n21_
           have HB := n22_
           clear n0_ n1_ n2_ n3_ n4_ n5_ n6_ n7_ n8_ n9_ n10_ n11_ n12_ n13_ n14_ n15_ n16_ n17_ n18_ n19_ n20_ n21_ n22_
           have hHeld : w92.cell? ⟨gb202, 0, none⟩ = some (.int .i64 t197) ∧ w92.cell? ⟨gb202, 1, none⟩ = some (.int .i64 t198) ∧ w92.cell? ⟨gb202, 2, none⟩ = some (.int .i64 t199) ∧ w92.cell? ⟨gb202, 3, none⟩ = some (.int .i64 t200) ∧ w92.cell? ⟨gb188, 0, none⟩ = some (.int .i64 a0_0) ∧ w92.cell? ⟨gb188, 1, none⟩ = some (.int .i64 a0_1) ∧ w92.cell? ⟨gb188, 2, none⟩ = some (.slice (some ad203) l0_2.length c0_2) ∧ w92.cell? (ad203.add ((x51_2).toNat * 4)) = some (.int .i64 ((rd_T54 l0_2 x51_2).f0)) ∧ w92.cell? ⟨(ad203.add ((x51_2).toNat * 4)).block, (ad203.add ((x51_2).toNat * 4)).off + 1, none⟩ = some (.int .i64 ((rd_T54 l0_2 x51_2).f1)) ∧ w92.cell? ⟨(ad203.add ((x51_2).toNat * 4)).block, (ad203.add ((x51_2).toNat * 4)).off + 2, none⟩ = some (.int .i64 ((rd_T54 l0_2 x51_2).f2)) ∧ w92.cell? ⟨(ad203.add ((x51_2).toNat * 4)).block, (ad203.add ((x51_2).toNat * 4)).off + 3, none⟩ = some (.int .i64 ((rd_T54 l0_2 x51_2).f3)) := hS_
           refine norm_ (a' := ?_) ?_ ?_
           rotate_left
           ·simp only [putAll, Act.put, List.setIfInBounds_toArray, List.set_cons_zero, List.set_cons_succ]
            rfl
           refine one_ (i := 11) (N := none) #[true, true, true, true, true, true, true, true, true, true, true, true, false] rfl rfl (one_of HT_.out (by kernel_rfl)) (by decide) (fun K hK => ?_)
           have hs93 : w92.cell? ⟨gb209, 0, none⟩ = some (.int .i64 0) := (blk_cell BK209.out 0).trans rfl
           have hfs93 := blk_frozen BK209.out 0
           have hns93_0 := NB188_209.out
           have hns93_1 := NB189_209.out
           have hns93_2 := NB190_209.out
           have hns93_3 := NB194_209.out
           have hns93_4 := NB196_209.out
           have hns93_5 := NB202_209.out
           have hms93_0 := NB209_188.out
           have hms93_1 := NB209_189.out
           have hms93_2 := NB209_190.out
           have hms93_3 := NB209_194.out
           have hms93_4 := NB209_196.out
           have hms93_5 := NB209_202.out
           have hs94 : w92.cell? ⟨gb209, 1, none⟩ = some (.int .i64 0) := (blk_cell BK209.out 1).trans rfl
           have hfs94 := blk_frozen BK209.out 1
           have hns94_0 := NB188_209.out
           have hns94_1 := NB189_209.out
           have hns94_2 := NB190_209.out
           have hns94_3 := NB194_209.out
           have hns94_4 := NB196_209.out
           have hns94_5 := NB202_209.out
           have hms94_0 := NB209_188.out
           have hms94_1 := NB209_189.out
           have hms94_2 := NB209_190.out
           have hms94_3 := NB209_194.out
           have hms94_4 := NB209_196.out
           have hms94_5 := NB209_202.out
           have hs95 : w92.cell? ⟨gb209, 2, none⟩ = some (.int .i64 0) := (blk_cell BK209.out 2).trans rfl
           have hfs95 := blk_frozen BK209.out 2
           have hns95_0 := NB188_209.out
           have hns95_1 := NB189_209.out
           have hns95_2 := NB190_209.out
           have hns95_3 := NB194_209.out
           have hns95_4 := NB196_209.out
           have hns95_5 := NB202_209.out
           have hms95_0 := NB209_188.out
           have hms95_1 := NB209_189.out
           have hms95_2 := NB209_190.out
           have hms95_3 := NB209_194.out
           have hms95_4 := NB209_196.out
           have hms95_5 := NB209_202.out
           have hs96 : w92.cell? ⟨gb209, 3, none⟩ = some (.int .i64 0) := (blk_cell BK209.out 3).trans rfl
           have hfs96 := blk_frozen BK209.out 3
           have hns96_0 := NB188_209.out
           have hns96_1 := NB189_209.out
           have hns96_2 := NB190_209.out
           have hns96_3 := NB194_209.out
           have hns96_4 := NB196_209.out
           have hns96_5 := NB202_209.out
           have hms96_0 := NB209_188.out
           have hms96_1 := NB209_189.out
           have hms96_2 := NB209_190.out
           have hms96_3 := NB209_194.out
           have hms96_4 := NB209_196.out
           have hms96_5 := NB209_202.out
           refine skip_ (w1 := ?_) (by rfl) rfl ?_ ?_
           rotate_left
           ·go_simp
            rfl
           refine hK.out _ _ ⟨((cell_far (p := ⟨gb209, _, none⟩) NB202_209.out _).trans (((cell_far (p := ⟨gb209, _, none⟩) NB202_209.out _).trans (((cell_far (p := ⟨gb209, _, none⟩) NB202_209.out _).trans (((cell_far (p := ⟨gb209, _, none⟩) NB202_209.out _).trans (hHeld.1)))))))), ((cell_far (p := ⟨gb209, _, none⟩) NB202_209.out _).trans (((cell_far (p := ⟨gb209, _, none⟩) NB202_209.out _).trans (((cell_far (p := ⟨gb209, _, none⟩) NB202_209.out _).trans (((cell_far (p := ⟨gb209, _, none⟩) NB202_209.out _).trans (hHeld.2.1)))))))), ((cell_far (p := ⟨gb209, _, none⟩) NB202_209.out _).trans (((cell_far (p := ⟨gb209, _, none⟩) NB202_209.out _).trans (((cell_far (p := ⟨gb209, _, none⟩) NB202_209.out _).trans (((cell_far (p := ⟨gb209, _, none⟩) NB202_209.out _).trans (hHeld.2.2.1)))))))), ((cell_far (p := ⟨gb209, _, none⟩) NB202_209.out _).trans (((cell_far (p := ⟨gb209, _, none⟩) NB202_209.out _).trans (((cell_far (p := ⟨gb209, _, none⟩) NB202_209.out _).trans (((cell_far (p := ⟨gb209, _, none⟩) NB202_209.out _).trans (hHeld.2.2.2.1)))))))), ((cell_far (p := ⟨gb209, _, none⟩) NB188_209.out _).trans (((cell_far (p := ⟨gb209, _, none⟩) NB188_209.out _).trans (((cell_far (p := ⟨gb209, _, none⟩) NB188_209.out _).trans (((cell_far (p := ⟨gb209, _, none⟩) NB188_209.out _).trans (hHeld.2.2.2.2.1)))))))), ((cell_far (p := ⟨gb209, _, none⟩) NB188_209.out _).trans (((cell_far (p := ⟨gb209, _, none⟩) NB188_209.out _).trans (((cell_far (p := ⟨gb209, _, none⟩) NB188_209.out _).trans (((cell_far (p := ⟨gb209, _, none⟩) NB188_209.out _).trans (hHeld.2.2.2.2.2.1)))))))), ((cell_far (p := ⟨gb209, _, none⟩) NB188_209.out _).trans (((cell_far (p := ⟨gb209, _, none⟩) NB188_209.out _).trans (((cell_far (p := ⟨gb209, _, none⟩) NB188_209.out _).trans (((cell_far (p := ⟨gb209, _, none⟩) NB188_209.out _).trans (hHeld.2.2.2.2.2.2.1)))))))), ((cell_far (p := ⟨gb209, _, none⟩) (by first | exact Nat.ne_of_lt (Nat.lt_of_lt_of_le (by have := World.block_lt_of_cell? _ _ hw203_0; first | rwa [add_block] at this | exact this) GW209.out) | (rw [add_block]; exact Nat.ne_of_lt (Nat.lt_of_lt_of_le (by have := World.block_lt_of_cell? _ _ hw203_0; first | rwa [add_block] at this | exact this) GW209.out)) | (show (Addr.add _ _).block ≠ _; rw [add_block]; exact Nat.ne_of_lt (Nat.lt_of_lt_of_le (by have := World.block_lt_of_cell? _ _ hw203_0; first | rwa [add_block] at this | exact this) GW209.out)) | (dsimp only; exact Nat.ne_of_lt (Nat.lt_of_lt_of_le (by have := World.block_lt_of_cell? _ _ hw203_0; first | rwa [add_block] at this | exact this) GW209.out))) _).trans (((cell_far (p := ⟨gb209, _, none⟩) (by first | exact Nat.ne_of_lt (Nat.lt_of_lt_of_le (by have := World.block_lt_of_cell? _ _ hw203_0; first | rwa [add_block] at this | exact this) GW209.out) | (rw [add_block]; exact Nat.ne_of_lt (Nat.lt_of_lt_of_le (by have := World.block_lt_of_cell? _ _ hw203_0; first | rwa [add_block] at this | exact this) GW209.out)) | (show (Addr.add _ _).block ≠ _; rw [add_block]; exact Nat.ne_of_lt (Nat.lt_of_lt_of_le (by have := World.block_lt_of_cell? _ _ hw203_0; first | rwa [add_block] at this | exact this) GW209.out)) | (dsimp only; exact Nat.ne_of_lt (Nat.lt_of_lt_of_le (by have := World.block_lt_of_cell? _ _ hw203_0; first | rwa [add_block] at this | exact this) GW209.out))) _).trans (((cell_far (p := ⟨gb209, _, none⟩) (by first | exact Nat.ne_of_lt (Nat.lt_of_lt_of_le (by have := World.block_lt_of_cell? _ _ hw203_0; first | rwa [add_block] at this | exact this) GW209.out) | (rw [add_block]; exact Nat.ne_of_lt (Nat.lt_of_lt_of_le (by have := World.block_lt_of_cell? _ _ hw203_0; first | rwa [add_block] at this | exact this) GW209.out)) | (show (Addr.add _ _).block ≠ _; rw [add_block]; exact Nat.ne_of_lt (Nat.lt_of_lt_of_le (by have := World.block_lt_of_cell? _ _ hw203_0; first | rwa [add_block] at this | exact this) GW209.out)) | (dsimp only; exact Nat.ne_of_lt (Nat.lt_of_lt_of_le (by have := World.block_lt_of_cell? _ _ hw203_0; first | rwa [add_block] at this | exact this) GW209.out))) _).trans (((cell_far (p := ⟨gb209, _, none⟩) (by first | exact Nat.ne_of_lt (Nat.lt_of_lt_of_le (by have := World.block_lt_of_cell? _ _ hw203_0; first | rwa [add_block] at this | exact this) GW209.out) | (rw [add_block]; exact Nat.ne_of_lt (Nat.lt_of_lt_of_le (by have := World.block_lt_of_cell? _ _ hw203_0; first | rwa [add_block] at this | exact this) GW209.out)) | (show (Addr.add _ _).block ≠ _; rw [add_block]; exact Nat.ne_of_lt (Nat.lt_of_lt_of_le (by have := World.block_lt_of_cell? _ _ hw203_0; first | rwa [add_block] at this | exact this) GW209.out)) | (dsimp only; exact Nat.ne_of_lt (Nat.lt_of_lt_of_le (by have := World.block_lt_of_cell? _ _ hw203_0; first | rwa [add_block] at this | exact this) GW209.out))) _).trans (hHeld.2.2.2.2.2.2.2.1)))))))), ((cell_far (p := ⟨gb209, _, none⟩) (by first | exact Nat.ne_of_lt (Nat.lt_of_lt_of_le (by have := World.block_lt_of_cell? _ _ hw203_1; first | rwa [add_block] at this | exact this) GW209.out) | (rw [add_block]; exact Nat.ne_of_lt (Nat.lt_of_lt_of_le (by have := World.block_lt_of_cell? _ _ hw203_1; first | rwa [add_block] at this | exact this) GW209.out)) | (show (Addr.add _ _).block ≠ _; rw [add_block]; exact Nat.ne_of_lt (Nat.lt_of_lt_of_le (by have := World.block_lt_of_cell? _ _ hw203_1; first | rwa [add_block] at this | exact this) GW209.out)) | (dsimp only; exact Nat.ne_of_lt (Nat.lt_of_lt_of_le (by have := World.block_lt_of_cell? _ _ hw203_1; first | rwa [add_block] at this | exact this) GW209.out))) _).trans (((cell_far (p := ⟨gb209, _, none⟩) (by first | exact Nat.ne_of_lt (Nat.lt_of_lt_of_le (by have := World.block_lt_of_cell? _ _ hw203_1; first | rwa [add_block] at this | exact this) GW209.out) | (rw [add_block]; exact Nat.ne_of_lt (Nat.lt_of_lt_of_le (by have := World.block_lt_of_cell? _ _ hw203_1; first | rwa [add_block] at this | exact this) GW209.out)) | (show (Addr.add _ _).block ≠ _; rw [add_block]; exact Nat.ne_of_lt (Nat.lt_of_lt_of_le (by have := World.block_lt_of_cell? _ _ hw203_1; first | rwa [add_block] at this | exact this) GW209.out)) | (dsimp only; exact Nat.ne_of_lt (Nat.lt_of_lt_of_le (by have := World.block_lt_of_cell? _ _ hw203_1; first | rwa [add_block] at this | exact this) GW209.out))) _).trans (((cell_far (p := ⟨gb209, _, none⟩) (by first | exact Nat.ne_of_lt (Nat.lt_of_lt_of_le (by have := World.block_lt_of_cell? _ _ hw203_1; first | rwa [add_block] at this | exact this) GW209.out) | (rw [add_block]; exact Nat.ne_of_lt (Nat.lt_of_lt_of_le (by have := World.block_lt_of_cell? _ _ hw203_1; first | rwa [add_block] at this | exact this) GW209.out)) | (show (Addr.add _ _).block ≠ _; rw [add_block]; exact Nat.ne_of_lt (Nat.lt_of_lt_of_le (by have := World.block_lt_of_cell? _ _ hw203_1; first | rwa [add_block] at this | exact this) GW209.out)) | (dsimp only; exact Nat.ne_of_lt (Nat.lt_of_lt_of_le (by have := World.block_lt_of_cell? _ _ hw203_1; first | rwa [add_block] at this | exact this) GW209.out))) _).trans (((cell_far (p := ⟨gb209, _, none⟩) (by first | exact Nat.ne_of_lt (Nat.lt_of_lt_of_le (by have := World.block_lt_of_cell? _ _ hw203_1; first | rwa [add_block] at this | exact this) GW209.out) | (rw [add_block]; exact Nat.ne_of_lt (Nat.lt_of_lt_of_le (by have := World.block_lt_of_cell? _ _ hw203_1; first | rwa [add_block] at this | exact this) GW209.out)) | (show (Addr.add _ _).block ≠ _; rw [add_block]; exact Nat.ne_of_lt (Nat.lt_of_lt_of_le (by have := World.block_lt_of_cell? _ _ hw203_1; first | rwa [add_block] at this | exact this) GW209.out)) | (dsimp only; exact Nat.ne_of_lt (Nat.lt_of_lt_of_le (by have := World.block_lt_of_cell? _ _ hw203_1; first | rwa [add_block] at this | exact this) GW209.out))) _).trans (hHeld.2.2.2.2.2.2.2.2.1)))))))), ((cell_far (p := ⟨gb209, _, none⟩) (by first | exact Nat.ne_of_lt (Nat.lt_of_lt_of_le (by have := World.block_lt_of_cell? _ _ hw203_2; first | rwa [add_block] at this | exact this) GW209.out) | (rw [add_block]; exact Nat.ne_of_lt (Nat.lt_of_lt_of_le (by have := World.block_lt_of_cell? _ _ hw203_2; first | rwa [add_block] at this | exact this) GW209.out)) | (show (Addr.add _ _).block ≠ _; rw [add_block]; exact Nat.ne_of_lt (Nat.lt_of_lt_of_le (by have := World.block_lt_of_cell? _ _ hw203_2; first | rwa [add_block] at this | exact this) GW209.out)) | (dsimp only; exact Nat.ne_of_lt (Nat.lt_of_lt_of_le (by have := World.block_lt_of_cell? _ _ hw203_2; first | rwa [add_block] at this | exact this) GW209.out))) _).trans (((cell_far (p := ⟨gb209, _, none⟩) (by first | exact Nat.ne_of_lt (Nat.lt_of_lt_of_le (by have := World.block_lt_of_cell? _ _ hw203_2; first | rwa [add_block] at this | exact this) GW209.out) | (rw [add_block]; exact Nat.ne_of_lt (Nat.lt_of_lt_of_le (by have := World.block_lt_of_cell? _ _ hw203_2; first | rwa [add_block] at this | exact this) GW209.out)) | (show (Addr.add _ _).block ≠ _; rw [add_block]; exact Nat.ne_of_lt (Nat.lt_of_lt_of_le (by have := World.block_lt_of_cell? _ _ hw203_2; first | rwa [add_block] at this | exact this) GW209.out)) | (dsimp only; exact Nat.ne_of_lt (Nat.lt_of_lt_of_le (by have := World.block_lt_of_cell? _ _ hw203_2; first | rwa [add_block] at this | exact this) GW209.out))) _).trans (((cell_far (p := ⟨gb209, _, none⟩) (by first | exact Nat.ne_of_lt (Nat.lt_of_lt_of_le (by have := World.block_lt_of_cell? _ _ hw203_2; first | rwa [add_block] at this | exact this) GW209.out) | (rw [add_block]; exact Nat.ne_of_lt (Nat.lt_of_lt_of_le (by have := World.block_lt_of_cell? _ _ hw203_2; first | rwa [add_block] at this | exact this) GW209.out)) | (show (Addr.add _ _).block ≠ _; rw [add_block]; exact Nat.ne_of_lt (Nat.lt_of_lt_of_le (by have := World.block_lt_of_cell? _ _ hw203_2; first | rwa [add_block] at this | exact this) GW209.out)) | (dsimp only; exact Nat.ne_of_lt (Nat.lt_of_lt_of_le (by have := World.block_lt_of_cell? _ _ hw203_2; first | rwa [add_block] at this | exact this) GW209.out))) _).trans (((cell_far (p := ⟨gb209, _, none⟩) (by first | exact Nat.ne_of_lt (Nat.lt_of_lt_of_le (by have := World.block_lt_of_cell? _ _ hw203_2; first | rwa [add_block] at this | exact this) GW209.out) | (rw [add_block]; exact Nat.ne_of_lt (Nat.lt_of_lt_of_le (by have := World.block_lt_of_cell? _ _ hw203_2; first | rwa [add_block] at this | exact this) GW209.out)) | (show (Addr.add _ _).block ≠ _; rw [add_block]; exact Nat.ne_of_lt (Nat.lt_of_lt_of_le (by have := World.block_lt_of_cell? _ _ hw203_2; first | rwa [add_block] at this | exact this) GW209.out)) | (dsimp only; exact Nat.ne_of_lt (Nat.lt_of_lt_of_le (by have := World.block_lt_of_cell? _ _ hw203_2; first | rwa [add_block] at this | exact this) GW209.out))) _).trans (hHeld.2.2.2.2.2.2.2.2.2.1)))))))), ((cell_far (p := ⟨gb209, _, none⟩) (by first | exact Nat.ne_of_lt (Nat.lt_of_lt_of_le (by have := World.block_lt_of_cell? _ _ hw203_3; first | rwa [add_block] at this | exact this) GW209.out) | (rw [add_block]; exact Nat.ne_of_lt (Nat.lt_of_lt_of_le (by have := World.block_lt_of_cell? _ _ hw203_3; first | rwa [add_block] at this | exact this) GW209.out)) | (show (Addr.add _ _).block ≠ _; rw [add_block]; exact Nat.ne_of_lt (Nat.lt_of_lt_of_le (by have := World.block_lt_of_cell? _ _ hw203_3; first | rwa [add_block] at this | exact this) GW209.out)) | (dsimp only; exact Nat.ne_of_lt (Nat.lt_of_lt_of_le (by have := World.block_lt_of_cell? _ _ hw203_3; first | rwa [add_block] at this | exact this) GW209.out))) _).trans (((cell_far (p := ⟨gb209, _, none⟩) (by first | exact Nat.ne_of_lt (Nat.lt_of_lt_of_le (by have := World.block_lt_of_cell? _ _ hw203_3; first | rwa [add_block] at this | exact this) GW209.out) | (rw [add_block]; exact Nat.ne_of_lt (Nat.lt_of_lt_of_le (by have := World.block_lt_of_cell? _ _ hw203_3; first | rwa [add_block] at this | exact this) GW209.out)) | (show (Addr.add _ _).block ≠ _; rw [add_block]; exact Nat.ne_of_lt (Nat.lt_of_lt_of_le (by have := World.block_lt_of_cell? _ _ hw203_3; first | rwa [add_block] at this | exact this) GW209.out)) | (dsimp only; exact Nat.ne_of_lt (Nat.lt_of_lt_of_le (by have := World.block_lt_of_cell? _ _ hw203_3; first | rwa [add_block] at this | exact this) GW209.out))) _).trans (((cell_far (p := ⟨gb209, _, none⟩) (by first | exact Nat.ne_of_lt (Nat.lt_of_lt_of_le (by have := World.block_lt_of_cell? _ _ hw203_3; first | rwa [add_block] at this | exact this) GW209.out) | (rw [add_block]; exact Nat.ne_of_lt (Nat.lt_of_lt_of_le (by have := World.block_lt_of_cell? _ _ hw203_3; first | rwa [add_block] at this | exact this) GW209.out)) | (show (Addr.add _ _).block ≠ _; rw [add_block]; exact Nat.ne_of_lt (Nat.lt_of_lt_of_le (by have := World.block_lt_of_cell? _ _ hw203_3; first | rwa [add_block] at this | exact this) GW209.out)) | (dsimp only; exact Nat.ne_of_lt (Nat.lt_of_lt_of_le (by have := World.block_lt_of_cell? _ _ hw203_3; first | rwa [add_block] at this | exact this) GW209.out))) _).trans (((cell_far (p := ⟨gb209, _, none⟩) (by first | exact Nat.ne_of_lt (Nat.lt_of_lt_of_le (by have := World.block_lt_of_cell? _ _ hw203_3; first | rwa [add_block] at this | exact this) GW209.out) | (rw [add_block]; exact Nat.ne_of_lt (Nat.lt_of_lt_of_le (by have := World.block_lt_of_cell? _ _ hw203_3; first | rwa [add_block] at this | exact this) GW209.out)) | (show (Addr.add _ _).block ≠ _; rw [add_block]; exact Nat.ne_of_lt (Nat.lt_of_lt_of_le (by have := World.block_lt_of_cell? _ _ hw203_3; first | rwa [add_block] at this | exact this) GW209.out)) | (dsimp only; exact Nat.ne_of_lt (Nat.lt_of_lt_of_le (by have := World.block_lt_of_cell? _ _ hw203_3; first | rwa [add_block] at this | exact this) GW209.out))) _).trans (hHeld.2.2.2.2.2.2.2.2.2.2))))))))⟩ (fun hHeld => ?_)
           clear hK K
           refine pure_ (i := 12) (N := some 14) (v := ?_) (a' := ?_) #[true, true, true, true, true, true, true, true, true, true, true, true, true] rfl rfl (any_of HT_.out (by kernel_rfl)) (fun _ _ _ h => h) (Or.inl ⟨by rfl, ?_⟩) ?_ ?_
           rotate_left
           ·intro w'
            go_simp
            with_reducible rfl
           rotate_left
           ·simp only [Act.put, List.setIfInBounds_toArray, List.set_cons_zero, List.set_cons_succ, i64_w, i32_w]
            rfl
           refine done_ (done_of HT_.out (by kernel_rfl)) ?_
           have hnb97 := NB194_188.out
           have hnc97 := NB188_194.out
           have hnb98 := NB194_189.out
           have hnc98 := NB189_194.out
           have hnb99 := NB194_190.out
           have hnc99 := NB190_194.out
           have hnb100 := NB194_209.out
           have hnc100 := NB209_194.out
           have hcz101_0 : w92.cell? ⟨gb194, 0, none⟩ = some (.int .i64 a0_0) := (blk_cell BK194.out 0).trans rfl
           have hcz101_1 : w92.cell? ⟨gb194, 1, none⟩ = some (.int .i64 a0_1) := (blk_cell BK194.out 1).trans rfl
           have hcz101_2 : w92.cell? ⟨gb194, 2, none⟩ = some (u195002) := (blk_cell BK194.out 2).trans rfl
           have hfz101_0 := blk_frozen BK194.out 0
           have hfz101_1 := blk_frozen BK194.out 1
           have hfz101_2 := blk_frozen BK194.out 2
           have hnb102 := NB209_188.out
           have hnc102 := NB188_209.out
           have hnb103 := NB209_189.out
           have hnc103 := NB189_209.out
           have hnb104 := NB209_190.out
           have hnc104 := NB190_209.out
           have hnb105 := NB209_196.out
           have hnc105 := NB196_209.out
           have hnb106 := NB209_202.out
           have hnc106 := NB202_209.out
           have hcz107_0 : w92.cell? ⟨gb209, 0, none⟩ = some (.int .i64 0) := (blk_cell BK209.out 0).trans rfl
           have hcz107_1 : w92.cell? ⟨gb209, 1, none⟩ = some (.int .i64 0) := (blk_cell BK209.out 1).trans rfl
           have hcz107_2 : w92.cell? ⟨gb209, 2, none⟩ = some (.int .i64 0) := (blk_cell BK209.out 2).trans rfl
           have hcz107_3 : w92.cell? ⟨gb209, 3, none⟩ = some (.int .i64 0) := (blk_cell BK209.out 3).trans rfl
           have hfz107_0 := blk_frozen BK209.out 0
           have hfz107_1 := blk_frozen BK209.out 1
           have hfz107_2 := blk_frozen BK209.out 2
           have hfz107_3 := blk_frozen BK209.out 3
           try go_wp2_with (first | ((with_reducible refine gate_builtin (b := .append) (xs := #[.tmp 73, .tmp 75]) rfl ?_); at_builtin; refine Kd.R_append k54 (w0 := w) w.heap.size rfl (.tmp 73) (.tmp 75) 68 54 (.agg #[(.int .i64 0), (.int .i64 0), (.int .i64 0), (.int .i64 0)]) 32 rfl Try.underlying68 info54 rfl (by decide) (by omega) u195002 x195002_2 (⟨t204, t205, t206, t207⟩ : S54) [.int .i64 t204, .int .i64 t205, .int .i64 t206, .int .i64 t207] (fun k_ => k_ ≠ gb196 ∧ k_ ≠ gb202 ∧ k_ ≠ gb209) (fun _ => False) rfl (by first | (go_simp; done) | (go_simp; rfl)) ?aP (fun _ hk => hk.elim) ?aF ?aO ?aB ?aS ?aL ?_; (case aP => exact k54_mkM _ _ _ (⟨t204, t205, t206, t207⟩ : S54)); (case aB => exact (z905.bl HB)); (case aF => exact (fun k_ hk => ⟨Kd.freshB (g := gb196) (o := .cells #[.int .i64 ((rd_T54 l1_2 x51_2).f0), .int .i64 ((rd_T54 l1_2 x51_2).f1), .int .i64 ((rd_T54 l1_2 x51_2).f2), .int .i64 ((rd_T54 l1_2 x51_2).f3)] 54 (0, 0)) (z905.bf BK196) k_ hk, Kd.freshB (g := gb202) (o := .cells #[.int .i64 t197, .int .i64 t198, .int .i64 t199, .int .i64 t200] 54 (0, 0)) (z905.bf BK202) k_ hk, Kd.freshB (g := gb209) (o := .cells #[.int .i64 t204, .int .i64 t205, .int .i64 t206, .int .i64 t207] 54 (0, 0)) (by (with_reducible repeat (first | refine blk_drewN ?_ _ | refine blk_drew ?_ | refine blk_alloc ?_ _)); refine blk_put (cs := #[.int .i64 t204, .int .i64 t205, .int .i64 t206, .int .i64 0]) ?_ 3 _ rfl; (with_reducible repeat (first | refine blk_drewN ?_ _ | refine blk_drew ?_ | refine blk_alloc ?_ _)); refine blk_put (cs := #[.int .i64 t204, .int .i64 t205, .int .i64 0, .int .i64 0]) ?_ 2 _ rfl; (with_reducible repeat (first | refine blk_drewN ?_ _ | refine blk_drew ?_ | refine blk_alloc ?_ _)); refine blk_put (cs := #[.int .i64 t204, .int .i64 0, .int .i64 0, .int .i64 0]) ?_ 1 _ rfl; (with_reducible repeat (first | refine blk_drewN ?_ _ | refine blk_drew ?_ | refine blk_alloc ?_ _)); refine blk_put (cs := #[.int .i64 0, .int .i64 0, .int .i64 0, .int .i64 0]) ?_ 0 _ rfl; (with_reducible repeat (first | refine blk_drewN ?_ _ | refine blk_drew ?_ | refine blk_alloc ?_ _)); exact BK209.out) k_ hk⟩)); (case aO => exact (z905.rl (Kd.R_mono (Kd.R_far (p := ⟨gb209, 3, none⟩) (Kd.R_far (p := ⟨gb209, 2, none⟩) (Kd.R_far (p := ⟨gb209, 1, none⟩) (Kd.R_far (p := ⟨gb209, 0, none⟩) (Kd.R_mono HO_195002.out (fun k_ hk => (⟨hk, hk.2.2⟩ : _ ∧ k_ ≠ gb209))) (fun _ hk => hk.2) (.int .i64 t204)) (fun _ hk => hk.2) (.int .i64 t205)) (fun _ hk => hk.2) (.int .i64 t206)) (fun _ hk => hk.2) (.int .i64 t207)) (fun _ hk => ⟨hk.1.1, ⟨hk.1.2.1, hk.1.2.2⟩⟩)))); (case aS => exact (below_size (z905.bl HB))); (case aL => have := LMc73.out; omega); intro v211 w108 ho hb hg hat; rw [← Ny210.out] at ho; replace BK188 := Aside0.mk (blk_grown (g := gb188) (o := .cells #[.int .i64 a0_0, .int .i64 a0_1, .slice (some ad203) l0_2.length c0_2] 70 (0, 0)) (z905.bf BK188) hg (Kd.R_ne HO_195002.out BK188.out (by decide))); replace BK189 := Aside0.mk (blk_grown (g := gb189) (o := .cells #[.int .i64 a1_0, .int .i64 a1_1, .slice (some ad195) l1_2.length c1_2] 70 (0, 0)) (z905.bf BK189) hg (Kd.R_ne HO_195002.out BK189.out (by decide))); replace BK190 := Aside0.mk (blk_grown (g := gb190) (o := .cells #[.int .i64 0, .int .i64 0, .slice none 0 0] 70 (0, 0)) (z905.bf BK190) hg (Kd.R_ne HO_195002.out BK190.out (by decide))); replace BK194 := Aside0.mk (blk_grown (g := gb194) (o := .cells #[.int .i64 a0_0, .int .i64 a0_1, u195002] 70 (0, 0)) (z905.bf BK194) hg (Kd.R_ne HO_195002.out BK194.out (by decide))); replace BK196 := Aside0.mk (blk_grown (g := gb196) (o := .cells #[.int .i64 ((rd_T54 l1_2 x51_2).f0), .int .i64 ((rd_T54 l1_2 x51_2).f1), .int .i64 ((rd_T54 l1_2 x51_2).f2), .int .i64 ((rd_T54 l1_2 x51_2).f3)] 54 (0, 0)) (z905.bf BK196) hg (Kd.R_away HO_195002.out (fun _ hk => hk.1))); replace BK202 := Aside0.mk (blk_grown (g := gb202) (o := .cells #[.int .i64 t197, .int .i64 t198, .int .i64 t199, .int .i64 t200] 54 (0, 0)) (z905.bf BK202) hg (Kd.R_away HO_195002.out (fun _ hk => hk.2.1))); replace BK209 := Aside0.mk (blk_grown (g := gb209) (o := .cells #[.int .i64 t204, .int .i64 t205, .int .i64 t206, .int .i64 t207] 54 (0, 0)) (by (with_reducible repeat (first | refine blk_drewN ?_ _ | refine blk_drew ?_ | refine blk_alloc ?_ _)); refine blk_put (cs := #[.int .i64 t204, .int .i64 t205, .int .i64 t206, .int .i64 0]) ?_ 3 _ rfl; (with_reducible repeat (first | refine blk_drewN ?_ _ | refine blk_drew ?_ | refine blk_alloc ?_ _)); refine blk_put (cs := #[.int .i64 t204, .int .i64 t205, .int .i64 0, .int .i64 0]) ?_ 2 _ rfl; (with_reducible repeat (first | refine blk_drewN ?_ _ | refine blk_drew ?_ | refine blk_alloc ?_ _)); refine blk_put (cs := #[.int .i64 t204, .int .i64 0, .int .i64 0, .int .i64 0]) ?_ 1 _ rfl; (with_reducible repeat (first | refine blk_drewN ?_ _ | refine blk_drew ?_ | refine blk_alloc ?_ _)); refine blk_put (cs := #[.int .i64 0, .int .i64 0, .int .i64 0, .int .i64 0]) ?_ 0 _ rfl; (with_reducible repeat (first | refine blk_drewN ?_ _ | refine blk_drew ?_ | refine blk_alloc ?_ _)); exact BK209.out) hg (Kd.R_away HO_195002.out (fun _ hk => hk.2.2))); replace HB := Aside0.mk (hb); have HO212 := Aside0.mk (ho); clear HO_195002; clear ho hb hg hat; obtain ⟨Ao109, co109, eo109⟩ := Kd.R_slice HO212.out; subst eo109; have hcz110_0 : w108.cell? ⟨gb194, 0, none⟩ = some (.int .i64 a0_0) := (blk_cell BK194.out 0).trans rfl; have hcz110_1 : w108.cell? ⟨gb194, 1, none⟩ = some (.int .i64 a0_1) := (blk_cell BK194.out 1).trans rfl; have hcz110_2 : w108.cell? ⟨gb194, 2, none⟩ = some (u195002) := (blk_cell BK194.out 2).trans rfl; have hfz110_0 := blk_frozen BK194.out 0; have hfz110_1 := blk_frozen BK194.out 1; have hfz110_2 := blk_frozen BK194.out 2))
           go_roundg k2
           case measure => have := HJ3.out; have := HK2.out; omega
           case rel => exact ⟨(wrap64 (x51_2 + 1)), (y210), (.slice Ao109 y210.length co109), (by first | rfl | (simp; done) | (simp [*]; done)), H', ⟨by have := HJ3.out; have := HK2.out; omega⟩, ⟨z905.rl (Kd.R_mono (Kd.R_far (p := ⟨gb194, 2, none⟩) (Kd.R_types HO212.out BK194.out (by decide)) (fun _ hk => hk.2) (.slice Ao109 y210.length co109)) (fun _ hk => trivial))⟩, ⟨z905.bf BK188⟩, ⟨z905.bf BK189⟩, ⟨z905.bf BK190⟩, ⟨by (with_reducible repeat (first | refine blk_drewN ?_ _ | refine blk_drew ?_ | refine blk_alloc ?_ _)); refine blk_put (cs := #[.int .i64 a0_0, .int .i64 a0_1, u195002]) ?_ 2 _ rfl; (with_reducible repeat (first | refine blk_drewN ?_ _ | refine blk_drew ?_ | refine blk_alloc ?_ _)); exact BK194.out⟩, ⟨z905.bl HB⟩⟩
          ·rw [if_neg c73] at H
           exact absurd H (by simp)
         ·rw [if_neg c71] at H
          exact absurd H (by simp)
        ·rw [if_neg c69] at H
         exact absurd H (by simp)
       ·rw [if_neg c68] at H
        exact absurd H (by simp)
      ·rw [if_neg c67] at H
       have c67b0 : decide (x51_2 < (l1_2.length : Int)) = false := decide_eq_false c67
       clear c67
       simp only [Option.some.injEq, Prod.mk.injEq] at H
       obtain ⟨rfl, rfl, rfl, rfl⟩ := H
       have hnb111 := NB194_188.out
       have hnc111 := NB188_194.out
       have hnb112 := NB194_189.out
       have hnc112 := NB189_194.out
       have hnb113 := NB194_190.out
       have hnc113 := NB190_194.out
       have hcz114_0 : wr.cell? ⟨gb194, 0, none⟩ = some (.int .i64 a0_0) := (blk_cell BK194.out 0).trans rfl
       have hcz114_1 : wr.cell? ⟨gb194, 1, none⟩ = some (.int .i64 a0_1) := (blk_cell BK194.out 1).trans rfl
       have hcz114_2 : wr.cell? ⟨gb194, 2, none⟩ = some (u195002) := (blk_cell BK194.out 2).trans rfl
       have hfz114_0 := blk_frozen BK194.out 0
       have hfz114_1 := blk_frozen BK194.out 1
       have hfz114_2 := blk_frozen BK194.out 2
       have hnb115 := NB190_188.out
       have hnc115 := NB188_190.out
       have hnb116 := NB190_189.out
       have hnc116 := NB189_190.out
       have hcz117_0 : wr.cell? ⟨gb190, 0, none⟩ = some (.int .i64 0) := (blk_cell BK190.out 0).trans rfl
       have hcz117_1 : wr.cell? ⟨gb190, 1, none⟩ = some (.int .i64 0) := (blk_cell BK190.out 1).trans rfl
       have hcz117_2 : wr.cell? ⟨gb190, 2, none⟩ = some (.slice none 0 0) := (blk_cell BK190.out 2).trans rfl
       have hfz117_0 := blk_frozen BK190.out 0
       have hfz117_1 := blk_frozen BK190.out 1
       have hfz117_2 := blk_frozen BK190.out 2
       obtain ⟨Ao118, co118, eo118⟩ := Kd.R_slice HO_195002.out
       subst eo118
       go_wp2
       refine bodyPost_ret (results_ct rfl _ _ gb190 70 #[.int .i64 a0_0, .int .i64 a0_1, .slice Ao118 x195002_2.length co118] (0, 0) _ rfl (by (with_reducible repeat (first | refine blk_drewN ?_ _ | refine blk_drew ?_ | refine blk_alloc ?_ _)); refine blk_put (cs := #[.int .i64 a0_0, .int .i64 a0_1, .slice none 0 0]) ?_ 2 _ rfl; (with_reducible repeat (first | refine blk_drewN ?_ _ | refine blk_drew ?_ | refine blk_alloc ?_ _)); refine blk_put (cs := #[.int .i64 a0_0, .int .i64 0, .slice none 0 0]) ?_ 1 _ rfl; (with_reducible repeat (first | refine blk_drewN ?_ _ | refine blk_drew ?_ | refine blk_alloc ?_ _)); refine blk_put (cs := #[.int .i64 0, .int .i64 0, .slice none 0 0]) ?_ 0 _ rfl; (with_reducible repeat (first | refine blk_drewN ?_ _ | refine blk_drew ?_ | refine blk_alloc ?_ _)); exact BK190.out) Try.underlying70 rfl (by kernel_rfl)) rfl ?_
       exact ⟨_, by first | rfl | (simp [errW_none, errW_some] <;> rfl) | (simp [*, errW_none, errW_some] <;> rfl), z905.rl (Kd.R_mono (Kd.R_far (p := ⟨gb190, 2, none⟩) (Kd.R_far (p := ⟨gb190, 1, none⟩) (Kd.R_far (p := ⟨gb190, 0, none⟩) (Kd.R_types HO_195002.out BK190.out (by decide)) (fun _ hk => hk.2) (.int .i64 a0_0)) (fun _ hk => hk.2) (.int .i64 a0_1)) (fun _ hk => hk.2) (.slice Ao118 x195002_2.length co118)) (fun _ hk => trivial)), z905.bl HB⟩

end Go.Proofs.Ytdmndbehfdnneaa.HFnExactLaySheet
