-- Printed by a program of this session over the kit's print; functions that the print does not take stand here by hand.
import Derived.Test.YtdmndbehfdnneaaHFnExactMeetMasksx0
import Derived.Test.YtdmndbehfdnneaaHFnExactMeetMasksx1
import Derived.Test.YtdmndbehfdnneaaHFnExactMeetMasksx4
import Derived.Test.YtdmndbehfdnneaaHFnExactMeetMasksx6
import Derived.Test.YtdmndbehfdnneaaHFnExactMeetMasksx8
import Derived.Test.YtdmndbehfdnneaaHFnExactMeetMasksx10
import Derived.Test.YtdmndbehfdnneaaHFnExactMeetMasksx11
import Derived.Test.YtdmndbehfdnneaaHFnExactMeetMasksx13
namespace Go.Proofs.Ytdmndbehfdnneaa.HFnExactMeetMasks
open Go.RowKit Go.Proofs.YtdmndbehfdnneaaW.PrintWords Go.Proofs.YtdmndbehfdnneaaW.PrintLast Go.Proofs.YtdmndbehfdnneaaW.PrintMore
attribute [local go_sem] max2_int min2_int max_two min_two max_three min_three max_four min_four   -- for this text's walks alone
set_option linter.unusedVariables false
set_option linter.unusedSimpArgs false

/-! ### laws_FnExactMeetMasks: function 4 -/
mutual
def laws_FnExactMeetMasks.j0 : Nat → Bool → Bool → Bool → Int → Int → List Int → Int → Int → List Int → Int → Int → List Int → Int → Int → List Int → Int → Int → List Int → Int → Int → List Int → Option (Bool)
  | 0, _, _, _, _, _, _, _, _, _, _, _, _, _, _, _, _, _, _, _, _, _ => none
  | k + 1, x7, x11, x53, x169000, x169001, x169002, x170000, x170001, x170002, x189000, x189001, x189002, x195000, x195001, x195002, x201000, x201001, x201002, x208000, x208001, x208002 => if x53 = true then (some false) else ((laws_toMask.f k x169000 x169001 x169002).bind fun bt209 => ((laws_eqMask.f k x195000 x195001 x195002 bt209.1 bt209.2.1 bt209.2.2).bind fun t214 => (if t214 = true then ((laws_toMask.f k x170000 x170001 x170002).bind fun bt215 => ((laws_eqMask.f k x201000 x201001 x201002 bt215.1 bt215.2.1 bt215.2.2).bind fun t220 => (if t220 = true then ((laws_markMask.f k x195000 x195001 x195002 1).bind fun bt221 => ((laws_markMask.f k x201000 x201001 x201002 bt221.1).bind fun bt223 => (if bt223.1 < 0 then (laws_FnExactMeetMasks.j1 k x7 true x169000 x169001 x169002 x170000 x170001 x170002 x189000 x189001 x189002 x208000 x208001 x208002) else ((laws_eqMask.f k x208000 x208001 x208002 x189000 x189001 x189002).bind fun t225 => (if t225 = true then (laws_FnExactMeetMasks.j1 k x7 (x11 != x7) x169000 x169001 x169002 x170000 x170001 x170002 x189000 x189001 x189002 x208000 x208001 x208002) else (laws_FnExactMeetMasks.j1 k x7 true x169000 x169001 x169002 x170000 x170001 x170002 x189000 x189001 x189002 x208000 x208001 x208002)))))) else (some false)))) else (some false))))
def laws_FnExactMeetMasks.j1 : Nat → Bool → Bool → Int → Int → List Int → Int → Int → List Int → Int → Int → List Int → Int → Int → List Int → Option (Bool)
  | 0, _, _, _, _, _, _, _, _, _, _, _, _, _, _ => none
  | k + 1, x7, x82, x169000, x169001, x169002, x170000, x170001, x170002, x189000, x189001, x189002, x208000, x208001, x208002 => if x82 = true then (some false) else ((laws_markMask.f k x208000 x208001 x208002 1).bind fun bt226 => ((laws_heldMask.f k x208000 x208001 bt226.2 1).bind fun t228 => (if t228 < 0 then (some false) else (if t228 = bt226.1 then ((laws_toMask.f k x169000 x169001 x169002).bind fun bt229 => ((laws_toMask.f k x170000 x170001 x170002).bind fun bt234 => ((impl_MeetMasks.f k bt229.1 bt229.2.1 bt229.2.2 bt234.1 bt234.2.1 bt234.2.2).bind fun bt239 => ((laws_eqMask.f k bt239.1 bt239.2.1 bt239.2.2.1 x189000 x189001 x189002).bind fun t246 => (if t246 = true then (laws_FnExactMeetMasks.j2 k bt226.1 (bt239.2.2.2 != x7) x208000 x208001 bt226.2) else (laws_FnExactMeetMasks.j2 k bt226.1 true x208000 x208001 bt226.2)))))) else (some false)))))
def laws_FnExactMeetMasks.j2 : Nat → Int → Bool → Int → Int → List Int → Option (Bool)
  | 0, _, _, _, _, _ => none
  | k + 1, x13, x110, x208000, x208001, x208002 => if x110 = true then (some false) else ((laws_heldMask.f k x208000 x208001 x208002 1).bind fun t247 => (if t247 < 0 then (some false) else (if t247 = x13 then (some true) else (some false))))
end
def laws_FnExactMeetMasks.f (k : Nat) (a0_0 : Int) (a0_1 : Int) (l0_2 : List Int) (a1_0 : Int) (a1_1 : Int) (l1_2 : List Int) : Option (Bool) := (laws_szMask.f a0_0 a0_1 l0_2 1048576).bind fun t170 => (if t170 < 0 then (some true) else ((laws_szMask.f a1_0 a1_1 l1_2 t170).bind fun t171 => (if t171 < 0 then (some true) else ((laws_toMask.f k a0_0 a0_1 l0_2).bind fun bt172 => ((laws_toMask.f k a1_0 a1_1 l1_2).bind fun bt177 => ((spec_MeetMasks.f k bt172.1 bt172.2.1 bt172.2.2 bt177.1 bt177.2.1 bt177.2.2).bind fun bt182 => ((laws_toMask.f k a0_0 a0_1 l0_2).bind fun bt189 => ((laws_toMask.f k a1_0 a1_1 l1_2).bind fun bt195 => ((impl_MeetMasks.f k bt189.1 bt189.2.1 bt189.2.2 bt195.1 bt195.2.1 bt195.2.2).bind fun bt201 => ((laws_eqMask.f k bt201.1 bt201.2.1 bt201.2.2.1 bt182.1 bt182.2.1 bt182.2.2.1).bind fun t208 => (if t208 = true then (laws_FnExactMeetMasks.j0 k bt182.2.2.2 bt201.2.2.2 (bt201.2.2.2 != bt182.2.2.2) a0_0 a0_1 l0_2 a1_0 a1_1 l1_2 bt182.1 bt182.2.1 bt182.2.2.1 bt189.1 bt189.2.1 bt189.2.2 bt195.1 bt195.2.1 bt195.2.2 bt201.1 bt201.2.1 bt201.2.2.1) else (laws_FnExactMeetMasks.j0 k bt182.2.2.2 bt201.2.2.2 true a0_0 a0_1 l0_2 a1_0 a1_1 l1_2 bt182.1 bt182.2.1 bt182.2.2.1 bt189.1 bt189.2.1 bt189.2.2 bt195.1 bt195.2.1 bt195.2.2 bt201.1 bt201.2.1 bt201.2.2.1))))))))))))
theorem laws_FnExactMeetMasks.mono_l : ∀ k, (∀ y0 y1 y2 y3 y4 y5 y6 y7 y8 y9 y10 y11 y12 y13 y14 y15 y16 y17 y18 y19 y20, LeO (laws_FnExactMeetMasks.j0 k y0 y1 y2 y3 y4 y5 y6 y7 y8 y9 y10 y11 y12 y13 y14 y15 y16 y17 y18 y19 y20) (laws_FnExactMeetMasks.j0 (k + 1) y0 y1 y2 y3 y4 y5 y6 y7 y8 y9 y10 y11 y12 y13 y14 y15 y16 y17 y18 y19 y20)) ∧ (∀ y0 y1 y2 y3 y4 y5 y6 y7 y8 y9 y10 y11 y12 y13, LeO (laws_FnExactMeetMasks.j1 k y0 y1 y2 y3 y4 y5 y6 y7 y8 y9 y10 y11 y12 y13) (laws_FnExactMeetMasks.j1 (k + 1) y0 y1 y2 y3 y4 y5 y6 y7 y8 y9 y10 y11 y12 y13)) ∧ (∀ y0 y1 y2 y3 y4, LeO (laws_FnExactMeetMasks.j2 k y0 y1 y2 y3 y4) (laws_FnExactMeetMasks.j2 (k + 1) y0 y1 y2 y3 y4))
  | 0 => ⟨fun _ _ _ _ _ _ _ _ _ _ _ _ _ _ _ _ _ _ _ _ _ r h => by simp [laws_FnExactMeetMasks.j0] at h, fun _ _ _ _ _ _ _ _ _ _ _ _ _ _ r h => by simp [laws_FnExactMeetMasks.j1] at h, fun _ _ _ _ _ r h => by simp [laws_FnExactMeetMasks.j2] at h⟩
  | k + 1 => by
    obtain ⟨ih0, ih1, ih2⟩ := laws_FnExactMeetMasks.mono_l k
    refine ⟨?_, ?_, ?_⟩
    · intro y0 y1 y2 y3 y4 y5 y6 y7 y8 y9 y10 y11 y12 y13 y14 y15 y16 y17 y18 y19 y20
      unfold laws_FnExactMeetMasks.j0
      repeat' first
      | (with_reducible exact ih0 _ _ _ _ _ _ _ _ _ _ _ _ _ _ _ _ _ _ _ _ _)
      | (with_reducible exact ih1 _ _ _ _ _ _ _ _ _ _ _ _ _ _)
      | (with_reducible exact ih2 _ _ _ _ _)
      | (with_reducible exact impl_MeetMasks.mono _ _ _ _ _ _ _)
      | (with_reducible exact laws_eqMask.mono _ _ _ _ _ _ _)
      | (with_reducible exact laws_heldMask.mono _ _ _ _ _)
      | (with_reducible exact laws_markMask.mono _ _ _ _ _)
      | (with_reducible exact laws_toMask.mono _ _ _ _)
      | (with_reducible exact spec_MeetMasks.mono _ _ _ _ _ _ _)
      | (with_reducible exact LeO.refl _)
      | (with_reducible exact LeO.none _)
      | (with_reducible refine LeO.ite ?_ ?_)
      | (with_reducible refine LeO.bind ?_ (fun _ => ?_))
      | exact ih0 _ _ _ _ _ _ _ _ _ _ _ _ _ _ _ _ _ _ _ _ _
      | exact ih1 _ _ _ _ _ _ _ _ _ _ _ _ _ _
      | exact ih2 _ _ _ _ _
      | exact impl_MeetMasks.mono _ _ _ _ _ _ _
      | exact laws_eqMask.mono _ _ _ _ _ _ _
      | exact laws_heldMask.mono _ _ _ _ _
      | exact laws_markMask.mono _ _ _ _ _
      | exact laws_toMask.mono _ _ _ _
      | exact spec_MeetMasks.mono _ _ _ _ _ _ _
      | exact LeO.none _
      | refine LeO.ite ?_ ?_
      | refine LeO.bind ?_ (fun _ => ?_)
    · intro y0 y1 y2 y3 y4 y5 y6 y7 y8 y9 y10 y11 y12 y13
      unfold laws_FnExactMeetMasks.j1
      repeat' first
      | (with_reducible exact ih0 _ _ _ _ _ _ _ _ _ _ _ _ _ _ _ _ _ _ _ _ _)
      | (with_reducible exact ih1 _ _ _ _ _ _ _ _ _ _ _ _ _ _)
      | (with_reducible exact ih2 _ _ _ _ _)
      | (with_reducible exact impl_MeetMasks.mono _ _ _ _ _ _ _)
      | (with_reducible exact laws_eqMask.mono _ _ _ _ _ _ _)
      | (with_reducible exact laws_heldMask.mono _ _ _ _ _)
      | (with_reducible exact laws_markMask.mono _ _ _ _ _)
      | (with_reducible exact laws_toMask.mono _ _ _ _)
      | (with_reducible exact spec_MeetMasks.mono _ _ _ _ _ _ _)
      | (with_reducible exact LeO.refl _)
      | (with_reducible exact LeO.none _)
      | (with_reducible refine LeO.ite ?_ ?_)
      | (with_reducible refine LeO.bind ?_ (fun _ => ?_))
      | exact ih0 _ _ _ _ _ _ _ _ _ _ _ _ _ _ _ _ _ _ _ _ _
      | exact ih1 _ _ _ _ _ _ _ _ _ _ _ _ _ _
      | exact ih2 _ _ _ _ _
      | exact impl_MeetMasks.mono _ _ _ _ _ _ _
      | exact laws_eqMask.mono _ _ _ _ _ _ _
      | exact laws_heldMask.mono _ _ _ _ _
      | exact laws_markMask.mono _ _ _ _ _
      | exact laws_toMask.mono _ _ _ _
      | exact spec_MeetMasks.mono _ _ _ _ _ _ _
      | exact LeO.none _
      | refine LeO.ite ?_ ?_
      | refine LeO.bind ?_ (fun _ => ?_)
    · intro y0 y1 y2 y3 y4
      unfold laws_FnExactMeetMasks.j2
      repeat' first
      | (with_reducible exact ih0 _ _ _ _ _ _ _ _ _ _ _ _ _ _ _ _ _ _ _ _ _)
      | (with_reducible exact ih1 _ _ _ _ _ _ _ _ _ _ _ _ _ _)
      | (with_reducible exact ih2 _ _ _ _ _)
      | (with_reducible exact impl_MeetMasks.mono _ _ _ _ _ _ _)
      | (with_reducible exact laws_eqMask.mono _ _ _ _ _ _ _)
      | (with_reducible exact laws_heldMask.mono _ _ _ _ _)
      | (with_reducible exact laws_markMask.mono _ _ _ _ _)
      | (with_reducible exact laws_toMask.mono _ _ _ _)
      | (with_reducible exact spec_MeetMasks.mono _ _ _ _ _ _ _)
      | (with_reducible exact LeO.refl _)
      | (with_reducible exact LeO.none _)
      | (with_reducible refine LeO.ite ?_ ?_)
      | (with_reducible refine LeO.bind ?_ (fun _ => ?_))
      | exact ih0 _ _ _ _ _ _ _ _ _ _ _ _ _ _ _ _ _ _ _ _ _
      | exact ih1 _ _ _ _ _ _ _ _ _ _ _ _ _ _
      | exact ih2 _ _ _ _ _
      | exact impl_MeetMasks.mono _ _ _ _ _ _ _
      | exact laws_eqMask.mono _ _ _ _ _ _ _
      | exact laws_heldMask.mono _ _ _ _ _
      | exact laws_markMask.mono _ _ _ _ _
      | exact laws_toMask.mono _ _ _ _
      | exact spec_MeetMasks.mono _ _ _ _ _ _ _
      | exact LeO.none _
      | refine LeO.ite ?_ ?_
      | refine LeO.bind ?_ (fun _ => ?_)
theorem laws_FnExactMeetMasks.mono : ∀ a0 a1 a2 a3 a4 a5 k, LeO (laws_FnExactMeetMasks.f k a0 a1 a2 a3 a4 a5) (laws_FnExactMeetMasks.f (k + 1) a0 a1 a2 a3 a4 a5) := by
  intro a0 a1 a2 a3 a4 a5 k
  obtain ⟨ih0, ih1, ih2⟩ := laws_FnExactMeetMasks.mono_l k
  unfold laws_FnExactMeetMasks.f
  repeat' first
      | (with_reducible exact ih0 _ _ _ _ _ _ _ _ _ _ _ _ _ _ _ _ _ _ _ _ _)
      | (with_reducible exact ih1 _ _ _ _ _ _ _ _ _ _ _ _ _ _)
      | (with_reducible exact ih2 _ _ _ _ _)
      | (with_reducible exact impl_MeetMasks.mono _ _ _ _ _ _ _)
      | (with_reducible exact laws_eqMask.mono _ _ _ _ _ _ _)
      | (with_reducible exact laws_heldMask.mono _ _ _ _ _)
      | (with_reducible exact laws_markMask.mono _ _ _ _ _)
      | (with_reducible exact laws_toMask.mono _ _ _ _)
      | (with_reducible exact spec_MeetMasks.mono _ _ _ _ _ _ _)
      | (with_reducible exact LeO.refl _)
      | (with_reducible exact LeO.none _)
      | (with_reducible refine LeO.ite ?_ ?_)
      | (with_reducible refine LeO.bind ?_ (fun _ => ?_))
      | exact ih0 _ _ _ _ _ _ _ _ _ _ _ _ _ _ _ _ _ _ _ _ _
      | exact ih1 _ _ _ _ _ _ _ _ _ _ _ _ _ _
      | exact ih2 _ _ _ _ _
      | exact impl_MeetMasks.mono _ _ _ _ _ _ _
      | exact laws_eqMask.mono _ _ _ _ _ _ _
      | exact laws_heldMask.mono _ _ _ _ _
      | exact laws_markMask.mono _ _ _ _ _
      | exact laws_toMask.mono _ _ _ _
      | exact spec_MeetMasks.mono _ _ _ _ _ _ _
      | exact LeO.none _
      | refine LeO.ite ?_ ?_
      | refine LeO.bind ?_ (fun _ => ?_)
def laws_FnExactMeetMasks.T8 : Bool × List (List Nat × List Nat) := (true, [([], []), ([0], [0]), ([], []), ([2, 1], [2]), ([1, 3, 3], [1, 3]), ([4], [4]), ([5], [5]), ([5], [5]), ([], []), ([8, 6, 4, 0, 1, 2, 3, 4, 5, 6, 8], [6, 8]), ([7, 9, 0, 1, 2, 3, 4, 5, 6, 7, 8, 9], [7])])
def laws_FnExactMeetMasks.B8 : List Nat := [0, 1, 0, 7, 15, 31, 63, 63, 0, 383, 1023]
theorem laws_FnExactMeetMasks.tab8 : rtab .any (opsOf Try.f4 8) = laws_FnExactMeetMasks.T8 := by kernel_rfl
theorem laws_FnExactMeetMasks.bits8 : waitsOk laws_FnExactMeetMasks.T8.2 laws_FnExactMeetMasks.B8 = true := by kernel_rfl
def laws_FnExactMeetMasks.T31 : Bool × List (List Nat × List Nat) := (true, [([], []), ([0], [0]), ([], []), ([2, 1], [2]), ([1, 3, 3], [1, 3]), ([4], [4]), ([5], [5]), ([5], [5]), ([], []), ([8, 6, 4, 0, 1, 2, 3, 4, 5, 6, 8], [6, 8]), ([7, 9, 0, 1, 2, 3, 4, 5, 6, 7, 8, 9], [7])])
def laws_FnExactMeetMasks.B31 : List Nat := [0, 1, 0, 7, 15, 31, 63, 63, 0, 383, 1023]
theorem laws_FnExactMeetMasks.tab31 : rtab .any (opsOf Try.f4 31) = laws_FnExactMeetMasks.T31 := by kernel_rfl
theorem laws_FnExactMeetMasks.bits31 : waitsOk laws_FnExactMeetMasks.T31.2 laws_FnExactMeetMasks.B31 = true := by kernel_rfl
theorem ztMasks.bk {g : Nat} {o : Obj} {W V : World} (h : Aside0 (W.heap[g]? = some o)) (k : W.heap[g]? = some o → V.heap[g]? = some o := by intro h_; (with_reducible repeat (first | refine blk_drewN ?_ _ | refine blk_drew ?_ | refine blk_alloc ?_ _)); exact h_) : V.heap[g]? = some o := k h.out
theorem ztMasks.bb {g : Nat} {o : Obj} {W V w1 : World} (h : Aside0 (W.heap[g]? = some o)) (hb : Below V.heap.size V w1) (k : W.heap[g]? = some o → V.heap[g]? = some o := by intro h_; (with_reducible repeat (first | refine blk_drewN ?_ _ | refine blk_drew ?_ | refine blk_alloc ?_ _)); exact h_) : Aside0 (w1.heap[g]? = some o) := ⟨blk_below (k h.out) hb⟩
theorem ztMasks.bf {g : Nat} {o : Obj} {W V : World} (h : Aside0 (W.heap[g]? = some o)) (k : W.heap[g]? = some o → V.heap[g]? = some o := by intro h_; (with_reducible repeat (first | refine blk_drewN ?_ _ | refine blk_drew ?_ | refine blk_alloc ?_ _ | refine blk_far ?_ (Aside0.out (by assumption)) _)); exact h_) : V.heap[g]? = some o := k h.out
theorem ztMasks.rl {T : Type} {d : Kd T} {e : TypeId} {base : Nat} {ok : Nat → Prop} {v : Value} {xs : List T} {W V : World} (h : d.R e W base ok v xs) (k : d.R e W base ok v xs → d.R e V base ok v xs := by intro h_; (with_reducible repeat (first | apply Kd.R_alloc | apply Kd.R_drewN | apply Kd.R_drew)); exact h_) : d.R e V base ok v xs := k h
theorem ztMasks.rb {T : Type} {d : Kd T} {e : TypeId} {base : Nat} {ok : Nat → Prop} {v : Value} {xs : List T} {W V w1 : World} (h : Aside0 (d.R e W base ok v xs)) (hb : Below V.heap.size V w1) (k : d.R e W base ok v xs → d.R e V base ok v xs := by intro h_; (with_reducible repeat (first | apply Kd.R_alloc | apply Kd.R_drewN | apply Kd.R_drew)); exact h_) : Aside0 (d.R e w1 base ok v xs) := ⟨Kd.R_below (k h.out) hb⟩
theorem ztMasks.ht {g : Nat} {o : Obj} {W V : World} {b : Nat} (h : Aside0 (W.heap[g]? = some o)) (hg : b = V.heap.size) (k : W.heap[g]? = some o → V.heap[g]? = some o := by intro h_; (with_reducible repeat (first | refine blk_drewN ?_ _ | refine blk_drew ?_ | refine blk_alloc ?_ _)); exact h_) : Aside0 (g ≠ b) := ⟨by rw [hg]; exact Nat.ne_of_lt (blk_lt (k h.out))⟩
theorem ztMasks.hu {g : Nat} {o : Obj} {W V : World} {b : Nat} (h : Aside0 (W.heap[g]? = some o)) (hg : b = V.heap.size) (k : W.heap[g]? = some o → V.heap[g]? = some o := by intro h_; (with_reducible repeat (first | refine blk_drewN ?_ _ | refine blk_drew ?_ | refine blk_alloc ?_ _)); exact h_) : Aside0 (b ≠ g) := ⟨by rw [hg]; exact Nat.ne_of_gt (blk_lt (k h.out))⟩
theorem ztMasks.gl {P : Program} {ops : Array Oper} {Q : Exit → Act → World → Prop} {rest : List Oper} {oi : Oper} {a : Act} {w : World} (N : Option Tmp) (hd : oi.dst = N) (hg : oi.guard = none) {f : FuncId} {fn : Func} {av : Array Operand} {ts : Array TypeId} (hf : P.funcs[f]? = some fn) (hname : (fn.name == "runtime.NumGoroutine") = false) (hb : fn.body.isSome = true) (args : Array Value) (hop : oi.op = .call { callee := .value (.func f), args := av, argTypes := ts }) (h : Calls P f args w fun e w' => ∃ v, e = .returned v ∧ wpList P ops Q rest (a.put N v) w') (hargs : av.map a.eval = args := by (try simp only [List.map_toArray, List.map_cons, List.map_nil]); first | done | rfl | (simp only [List.length_drop, List.length_take]; rfl)) : wpList P ops Q (oi :: rest) a w := goesL_ N hd hg hf hname hb args hop hargs h
theorem ztMasks.gs {P : Program} {ops : Array Oper} {Q : Exit → Act → World → Prop} {oi : Oper} {N : Option Tmp} {a : Act} {w : World} {K : Act → World → Prop} {f : FuncId} {fn : Func} {av : Array Operand} {ts : Array TypeId} (hf : P.funcs[f]? = some fn) (hname : (fn.name == "runtime.NumGoroutine") = false) (hb : fn.body.isSome = true) (args : Array Value) (hw : Region.wanted oi (yielded ops a.tmps) = true) (hN : oi.dst = N) (hop : oi.op = .call { callee := .value (.func f), args := av, argTypes := ts }) (h : Calls P f args w fun e w' => ∃ v, e = .returned v ∧ K (a.put N v) w') (hargs : av.map a.eval = args := by (try simp only [List.map_toArray, List.map_cons, List.map_nil]); first | done | rfl | (simp only [List.length_drop, List.length_take]; rfl)) : if Region.wanted oi (yielded ops a.tmps) = true then Oper.wp P oi a w K Q else K (a.put N undef) w := goes_ hf hname hb args hw hN hop hargs h
theorem ztMasks.bl {w W V : World} (h : Aside0 (Below w.heap.size w W)) (k : Below w.heap.size w W → Below w.heap.size w V := by intro h_; repeat (first | (with_reducible first | exact h_ | apply below_alloc | apply pw_below_drewN | apply below_drew1 | refine below_set ?_ (Aside0.out (by assumption))) | exact h_)) : Below w.heap.size w V := k h.out
set_option maxHeartbeats 8000000 in
set_option maxRecDepth 100000 in
theorem laws_FnExactMeetMasks.calls (k : Nat) (a0_0 : Int) (a0_1 : Int) (A0_2 : Option Addr) (c0_2 : Nat) (l0_2 : List Int) (a1_0 : Int) (a1_1 : Int) (A1_2 : Option Addr) (c1_2 : Nat) (l1_2 : List Int) (r : Bool) (hrt : r = true) (w : World) (hr0_2 : Kd.C (Kd.int .i64) w A0_2 l0_2.length l0_2) (hc0_2 : l0_2.length ≤ c0_2) (hr1_2 : Kd.C (Kd.int .i64) w A1_2 l1_2.length l1_2) (hc1_2 : l1_2.length ≤ c1_2) (h : laws_FnExactMeetMasks.f k a0_0 a0_1 l0_2 a1_0 a1_1 l1_2 = some r) :
    Calls Try.prog 4 #[.agg #[.int .i64 a0_0, .int .i64 a0_1, .slice A0_2 l0_2.length c0_2], .agg #[.int .i64 a1_0, .int .i64 a1_1, .slice A1_2 l1_2.length c1_2]] w fun e w' => e = .returned (.bool r) ∧ Below w.heap.size w w' := by
 have hu35 := Try.underlying35
 have hu37 := Try.underlying37
 have HR0_2 := Aside0.mk hr0_2
 have HC0_2 := Aside0.mk hc0_2
 clear hr0_2 hc0_2
 have HR1_2 := Aside0.mk hr1_2
 have HC1_2 := Aside0.mk hc1_2
 clear hr1_2 hc1_2
 have HB := Aside0.mk (Below.refl w.heap.size w)
 have H : ((laws_szMask.f a0_0 a0_1 l0_2 1048576).bind fun t170 => (if t170 < 0 then (some true) else ((laws_szMask.f a1_0 a1_1 l1_2 t170).bind fun t171 => (if t171 < 0 then (some true) else ((laws_toMask.f k a0_0 a0_1 l0_2).bind fun bt172 => ((laws_toMask.f k a1_0 a1_1 l1_2).bind fun bt177 => ((spec_MeetMasks.f k bt172.1 bt172.2.1 bt172.2.2 bt177.1 bt177.2.1 bt177.2.2).bind fun bt182 => ((laws_toMask.f k a0_0 a0_1 l0_2).bind fun bt189 => ((laws_toMask.f k a1_0 a1_1 l1_2).bind fun bt195 => ((impl_MeetMasks.f k bt189.1 bt189.2.1 bt189.2.2 bt195.1 bt195.2.1 bt195.2.2).bind fun bt201 => ((laws_eqMask.f k bt201.1 bt201.2.1 bt201.2.2.1 bt182.1 bt182.2.1 bt182.2.2.1).bind fun t208 => (if t208 = true then (laws_FnExactMeetMasks.j0 k bt182.2.2.2 bt201.2.2.2 (bt201.2.2.2 != bt182.2.2.2) a0_0 a0_1 l0_2 a1_0 a1_1 l1_2 bt182.1 bt182.2.1 bt182.2.2.1 bt189.1 bt189.2.1 bt189.2.2 bt195.1 bt195.2.1 bt195.2.2 bt201.1 bt201.2.1 bt201.2.2.1) else (laws_FnExactMeetMasks.j0 k bt182.2.2.2 bt201.2.2.2 true a0_0 a0_1 l0_2 a1_0 a1_1 l1_2 bt182.1 bt182.2.1 bt182.2.2.1 bt189.1 bt189.2.1 bt189.2.2 bt195.1 bt195.2.1 bt195.2.2 bt201.1 bt201.2.1 bt201.2.2.1))))))))))))) = some r := h
 clear h
 replace H := Option.bind_eq_some_iff.mp H
 obtain ⟨t170, A30, H⟩ := H
 replace H : (if t170 < 0 then (some true) else ((laws_szMask.f a1_0 a1_1 l1_2 t170).bind fun t171 => (if t171 < 0 then (some true) else ((laws_toMask.f k a0_0 a0_1 l0_2).bind fun bt172 => ((laws_toMask.f k a1_0 a1_1 l1_2).bind fun bt177 => ((spec_MeetMasks.f k bt172.1 bt172.2.1 bt172.2.2 bt177.1 bt177.2.1 bt177.2.2).bind fun bt182 => ((laws_toMask.f k a0_0 a0_1 l0_2).bind fun bt189 => ((laws_toMask.f k a1_0 a1_1 l1_2).bind fun bt195 => ((impl_MeetMasks.f k bt189.1 bt189.2.1 bt189.2.2 bt195.1 bt195.2.1 bt195.2.2).bind fun bt201 => ((laws_eqMask.f k bt201.1 bt201.2.1 bt201.2.2.1 bt182.1 bt182.2.1 bt182.2.2.1).bind fun t208 => (if t208 = true then (laws_FnExactMeetMasks.j0 k bt182.2.2.2 bt201.2.2.2 (bt201.2.2.2 != bt182.2.2.2) a0_0 a0_1 l0_2 a1_0 a1_1 l1_2 bt182.1 bt182.2.1 bt182.2.2.1 bt189.1 bt189.2.1 bt189.2.2 bt195.1 bt195.2.1 bt195.2.2 bt201.1 bt201.2.1 bt201.2.2.1) else (laws_FnExactMeetMasks.j0 k bt182.2.2.2 bt201.2.2.2 true a0_0 a0_1 l0_2 a1_0 a1_1 l1_2 bt182.1 bt182.2.1 bt182.2.2.1 bt189.1 bt189.2.1 bt189.2.2 bt195.1 bt195.2.1 bt195.2.2 bt201.1 bt201.2.1 bt201.2.2.1)))))))))))) = some r := H
 have A3 := Aside0.mk A30
 clear A30
 by_cases c4 : t170 < 0
 ·rw [if_pos c4] at H
  have c4b0 : decide (t170 < 0) = true := decide_eq_true c4
  clear c4
  obtain rfl := Option.some.inj H
  go_enter Try.func4, Try.ntmps4
  go_wp2_with (first | ((with_reducible refine gate_dst (N := 2) rfl ?_); refine box_event ?hg (N := 2) ?hd (cs := #[.int .i64 a0_0, .int .i64 a0_1, .slice A0_2 l0_2.length c0_2]) (t := 35) ?hr ?_; (case hd => rfl); (case hg => rfl); (case hr => first | (go_simp; done) | (go_simp; rfl)); intro gb168 hg w5 hbox hb; have BK168 := Aside0.mk (hbox); have GW168 := Aside0.mk ((by rw [hg]; exact (below_size (ztMasks.bl HB)) : w.heap.size ≤ gb168)); have GE168 := Aside0.mk ((by rw [hg]; exact (below_size (ztMasks.bl HB)) : w.heap.size ≤ gb168)); replace HB := Aside0.mk (below_step (ztMasks.bl HB) hb); clear hb hbox hg) | ((with_reducible refine gate_dst (N := 3) rfl ?_); refine box_event ?hg (N := 3) ?hd (cs := #[.int .i64 a1_0, .int .i64 a1_1, .slice A1_2 l1_2.length c1_2]) (t := 35) ?hr ?_; (case hd => rfl); (case hg => rfl); (case hr => first | (go_simp; done) | (go_simp; rfl)); intro gb169 hg w6 hbox hb; have BK169 := Aside0.mk (hbox); have GW169 := Aside0.mk ((by rw [hg]; exact (below_size (ztMasks.bl HB)) : w.heap.size ≤ gb169)); have GE169 := Aside0.mk ((by rw [hg]; exact (below_size (ztMasks.bl HB)) : w.heap.size ≤ gb169)); replace HB := Aside0.mk (below_step (ztMasks.bl HB) hb); have NB168_169 := ztMasks.ht BK168 hg; have NB169_168 := ztMasks.hu BK168 hg; replace BK168 := ztMasks.bb BK168 hb; clear hb hbox hg; have hnb7 := NB168_169.out; have hnc7 := NB169_168.out; have hcz8_0 : w6.cell? ⟨gb168, 0, none⟩ = some (.int .i64 a0_0) := (blk_cell BK168.out 0).trans rfl; have hcz8_1 : w6.cell? ⟨gb168, 1, none⟩ = some (.int .i64 a0_1) := (blk_cell BK168.out 1).trans rfl; have hcz8_2 : w6.cell? ⟨gb168, 2, none⟩ = some (.slice A0_2 l0_2.length c0_2) := (blk_cell BK168.out 2).trans rfl; have hfz8_0 := blk_frozen BK168.out 0; have hfz8_1 := blk_frozen BK168.out 1; have hfz8_2 := blk_frozen BK168.out 2) | ((with_reducible refine gate_callee (f := 21) rfl ?_); refine ztMasks.gl (some 19) rfl rfl Try.func21 (by kernel_rfl) rfl #[.agg #[.int .i64 a0_0, .int .i64 a0_1, .slice A0_2 l0_2.length c0_2], .int .i64 1048576] rfl ?_; (with_reducible refine (laws_szMask.calls a0_0 a0_1 _ _ l0_2 1048576 t170 _ ?side1 ?side2 A3.out).mono ?_); (case side1 => repeat (first | exact (Kd.C_below HR0_2.out HB.out) | (with_reducible refine Kd.C_alloc ?_ _) | (with_reducible refine Kd.C_drewN ?_ _) | (with_reducible refine Kd.C_drew ?_))); (case side2 => exact HC0_2.out); rintro e w9 ⟨rfl, hb⟩; refine ⟨_, rfl, ?_⟩; replace BK168 := ztMasks.bb BK168 hb; replace BK169 := ztMasks.bb BK169 hb; replace HB := Aside0.mk (below_step (ztMasks.bl HB) hb); (try clear hb); (try clear hb2); (try clear hk); (try clear hi)))
  go_ret
  exact ⟨by first | rfl | (simp [errW_none, errW_some] <;> rfl) | (simp [*, errW_none, errW_some] <;> rfl), ztMasks.bl HB⟩
 ·rw [if_neg c4] at H
  have c4b0 : decide (t170 < 0) = false := decide_eq_false c4
  clear c4
  replace H := Option.bind_eq_some_iff.mp H
  obtain ⟨t171, A100, H⟩ := H
  replace H : (if t171 < 0 then (some true) else ((laws_toMask.f k a0_0 a0_1 l0_2).bind fun bt172 => ((laws_toMask.f k a1_0 a1_1 l1_2).bind fun bt177 => ((spec_MeetMasks.f k bt172.1 bt172.2.1 bt172.2.2 bt177.1 bt177.2.1 bt177.2.2).bind fun bt182 => ((laws_toMask.f k a0_0 a0_1 l0_2).bind fun bt189 => ((laws_toMask.f k a1_0 a1_1 l1_2).bind fun bt195 => ((impl_MeetMasks.f k bt189.1 bt189.2.1 bt189.2.2 bt195.1 bt195.2.1 bt195.2.2).bind fun bt201 => ((laws_eqMask.f k bt201.1 bt201.2.1 bt201.2.2.1 bt182.1 bt182.2.1 bt182.2.2.1).bind fun t208 => (if t208 = true then (laws_FnExactMeetMasks.j0 k bt182.2.2.2 bt201.2.2.2 (bt201.2.2.2 != bt182.2.2.2) a0_0 a0_1 l0_2 a1_0 a1_1 l1_2 bt182.1 bt182.2.1 bt182.2.2.1 bt189.1 bt189.2.1 bt189.2.2 bt195.1 bt195.2.1 bt195.2.2 bt201.1 bt201.2.1 bt201.2.2.1) else (laws_FnExactMeetMasks.j0 k bt182.2.2.2 bt201.2.2.2 true a0_0 a0_1 l0_2 a1_0 a1_1 l1_2 bt182.1 bt182.2.1 bt182.2.2.1 bt189.1 bt189.2.1 bt189.2.2 bt195.1 bt195.2.1 bt195.2.2 bt201.1 bt201.2.1 bt201.2.2.1)))))))))) = some r := H
  have A10 := Aside0.mk A100
  clear A100
  by_cases c11 : t171 < 0
  ·rw [if_pos c11] at H
   have c11b0 : decide (t171 < 0) = true := decide_eq_true c11
   clear c11
   obtain rfl := Option.some.inj H
   go_enter Try.func4, Try.ntmps4
   go_wp2_with (first | ((with_reducible refine gate_dst (N := 2) rfl ?_); refine box_event ?hg (N := 2) ?hd (cs := #[.int .i64 a0_0, .int .i64 a0_1, .slice A0_2 l0_2.length c0_2]) (t := 35) ?hr ?_; (case hd => rfl); (case hg => rfl); (case hr => first | (go_simp; done) | (go_simp; rfl)); intro gb168 hg w12 hbox hb; have BK168 := Aside0.mk (hbox); have GW168 := Aside0.mk ((by rw [hg]; exact (below_size (ztMasks.bl HB)) : w.heap.size ≤ gb168)); have GE168 := Aside0.mk ((by rw [hg]; exact (below_size (ztMasks.bl HB)) : w.heap.size ≤ gb168)); replace HB := Aside0.mk (below_step (ztMasks.bl HB) hb); clear hb hbox hg) | ((with_reducible refine gate_dst (N := 3) rfl ?_); refine box_event ?hg (N := 3) ?hd (cs := #[.int .i64 a1_0, .int .i64 a1_1, .slice A1_2 l1_2.length c1_2]) (t := 35) ?hr ?_; (case hd => rfl); (case hg => rfl); (case hr => first | (go_simp; done) | (go_simp; rfl)); intro gb169 hg w13 hbox hb; have BK169 := Aside0.mk (hbox); have GW169 := Aside0.mk ((by rw [hg]; exact (below_size (ztMasks.bl HB)) : w.heap.size ≤ gb169)); have GE169 := Aside0.mk ((by rw [hg]; exact (below_size (ztMasks.bl HB)) : w.heap.size ≤ gb169)); replace HB := Aside0.mk (below_step (ztMasks.bl HB) hb); have NB168_169 := ztMasks.ht BK168 hg; have NB169_168 := ztMasks.hu BK168 hg; replace BK168 := ztMasks.bb BK168 hb; clear hb hbox hg; have hnb14 := NB168_169.out; have hnc14 := NB169_168.out; have hcz15_0 : w13.cell? ⟨gb168, 0, none⟩ = some (.int .i64 a0_0) := (blk_cell BK168.out 0).trans rfl; have hcz15_1 : w13.cell? ⟨gb168, 1, none⟩ = some (.int .i64 a0_1) := (blk_cell BK168.out 1).trans rfl; have hcz15_2 : w13.cell? ⟨gb168, 2, none⟩ = some (.slice A0_2 l0_2.length c0_2) := (blk_cell BK168.out 2).trans rfl; have hfz15_0 := blk_frozen BK168.out 0; have hfz15_1 := blk_frozen BK168.out 1; have hfz15_2 := blk_frozen BK168.out 2) | ((with_reducible refine gate_callee (f := 21) rfl ?_); refine ztMasks.gl (some 19) rfl rfl Try.func21 (by kernel_rfl) rfl #[.agg #[.int .i64 a0_0, .int .i64 a0_1, .slice A0_2 l0_2.length c0_2], .int .i64 1048576] rfl ?_; (with_reducible refine (laws_szMask.calls a0_0 a0_1 _ _ l0_2 1048576 t170 _ ?side1 ?side2 A3.out).mono ?_); (case side1 => repeat (first | exact (Kd.C_below HR0_2.out HB.out) | (with_reducible refine Kd.C_alloc ?_ _) | (with_reducible refine Kd.C_drewN ?_ _) | (with_reducible refine Kd.C_drew ?_))); (case side2 => exact HC0_2.out); rintro e w16 ⟨rfl, hb⟩; refine ⟨_, rfl, ?_⟩; replace BK168 := ztMasks.bb BK168 hb; replace BK169 := ztMasks.bb BK169 hb; replace HB := Aside0.mk (below_step (ztMasks.bl HB) hb); (try clear hb); (try clear hb2); (try clear hk); (try clear hi); have hcz17_0 : w16.cell? ⟨gb169, 0, none⟩ = some (.int .i64 a1_0) := (blk_cell BK169.out 0).trans rfl; have hcz17_1 : w16.cell? ⟨gb169, 1, none⟩ = some (.int .i64 a1_1) := (blk_cell BK169.out 1).trans rfl; have hcz17_2 : w16.cell? ⟨gb169, 2, none⟩ = some (.slice A1_2 l1_2.length c1_2) := (blk_cell BK169.out 2).trans rfl; have hfz17_0 := blk_frozen BK169.out 0; have hfz17_1 := blk_frozen BK169.out 1; have hfz17_2 := blk_frozen BK169.out 2) | ((with_reducible refine gate_callee (f := 21) rfl ?_); refine ztMasks.gl (some 24) rfl rfl Try.func21 (by kernel_rfl) rfl #[.agg #[.int .i64 a1_0, .int .i64 a1_1, .slice A1_2 l1_2.length c1_2], .int .i64 t170] rfl ?_; (with_reducible refine (laws_szMask.calls a1_0 a1_1 _ _ l1_2 t170 t171 _ ?side1 ?side2 A10.out).mono ?_); (case side1 => repeat (first | exact (Kd.C_below HR1_2.out HB.out) | (with_reducible refine Kd.C_alloc ?_ _) | (with_reducible refine Kd.C_drewN ?_ _) | (with_reducible refine Kd.C_drew ?_))); (case side2 => exact HC1_2.out); rintro e w18 ⟨rfl, hb⟩; refine ⟨_, rfl, ?_⟩; replace BK168 := ztMasks.bb BK168 hb; replace BK169 := ztMasks.bb BK169 hb; replace HB := Aside0.mk (below_step (ztMasks.bl HB) hb); (try clear hb); (try clear hb2); (try clear hk); (try clear hi)))
   go_ret
   exact ⟨by first | rfl | (simp [errW_none, errW_some] <;> rfl) | (simp [*, errW_none, errW_some] <;> rfl), ztMasks.bl HB⟩
  ·rw [if_neg c11] at H
   have c11b0 : decide (t171 < 0) = false := decide_eq_false c11
   clear c11
   replace H := Option.bind_eq_some_iff.mp H
   obtain ⟨⟨t172, t173, t174⟩, A190, H⟩ := H
   replace H : ((laws_toMask.f k a1_0 a1_1 l1_2).bind fun bt177 => ((spec_MeetMasks.f k t172 t173 t174 bt177.1 bt177.2.1 bt177.2.2).bind fun bt182 => ((laws_toMask.f k a0_0 a0_1 l0_2).bind fun bt189 => ((laws_toMask.f k a1_0 a1_1 l1_2).bind fun bt195 => ((impl_MeetMasks.f k bt189.1 bt189.2.1 bt189.2.2 bt195.1 bt195.2.1 bt195.2.2).bind fun bt201 => ((laws_eqMask.f k bt201.1 bt201.2.1 bt201.2.2.1 bt182.1 bt182.2.1 bt182.2.2.1).bind fun t208 => (if t208 = true then (laws_FnExactMeetMasks.j0 k bt182.2.2.2 bt201.2.2.2 (bt201.2.2.2 != bt182.2.2.2) a0_0 a0_1 l0_2 a1_0 a1_1 l1_2 bt182.1 bt182.2.1 bt182.2.2.1 bt189.1 bt189.2.1 bt189.2.2 bt195.1 bt195.2.1 bt195.2.2 bt201.1 bt201.2.1 bt201.2.2.1) else (laws_FnExactMeetMasks.j0 k bt182.2.2.2 bt201.2.2.2 true a0_0 a0_1 l0_2 a1_0 a1_1 l1_2 bt182.1 bt182.2.1 bt182.2.2.1 bt189.1 bt189.2.1 bt189.2.2 bt195.1 bt195.2.1 bt195.2.2 bt201.1 bt201.2.1 bt201.2.2.1)))))))) = some r := H
   have A19 := Aside0.mk A190
   clear A190
   replace H := Option.bind_eq_some_iff.mp H
   obtain ⟨⟨t177, t178, t179⟩, A200, H⟩ := H
   replace H : ((spec_MeetMasks.f k t172 t173 t174 t177 t178 t179).bind fun bt182 => ((laws_toMask.f k a0_0 a0_1 l0_2).bind fun bt189 => ((laws_toMask.f k a1_0 a1_1 l1_2).bind fun bt195 => ((impl_MeetMasks.f k bt189.1 bt189.2.1 bt189.2.2 bt195.1 bt195.2.1 bt195.2.2).bind fun bt201 => ((laws_eqMask.f k bt201.1 bt201.2.1 bt201.2.2.1 bt182.1 bt182.2.1 bt182.2.2.1).bind fun t208 => (if t208 = true then (laws_FnExactMeetMasks.j0 k bt182.2.2.2 bt201.2.2.2 (bt201.2.2.2 != bt182.2.2.2) a0_0 a0_1 l0_2 a1_0 a1_1 l1_2 bt182.1 bt182.2.1 bt182.2.2.1 bt189.1 bt189.2.1 bt189.2.2 bt195.1 bt195.2.1 bt195.2.2 bt201.1 bt201.2.1 bt201.2.2.1) else (laws_FnExactMeetMasks.j0 k bt182.2.2.2 bt201.2.2.2 true a0_0 a0_1 l0_2 a1_0 a1_1 l1_2 bt182.1 bt182.2.1 bt182.2.2.1 bt189.1 bt189.2.1 bt189.2.2 bt195.1 bt195.2.1 bt195.2.2 bt201.1 bt201.2.1 bt201.2.2.1))))))) = some r := H
   have A20 := Aside0.mk A200
   clear A200
   replace H := Option.bind_eq_some_iff.mp H
   obtain ⟨⟨t182, t183, t184, t187⟩, A210, H⟩ := H
   replace H : ((laws_toMask.f k a0_0 a0_1 l0_2).bind fun bt189 => ((laws_toMask.f k a1_0 a1_1 l1_2).bind fun bt195 => ((impl_MeetMasks.f k bt189.1 bt189.2.1 bt189.2.2 bt195.1 bt195.2.1 bt195.2.2).bind fun bt201 => ((laws_eqMask.f k bt201.1 bt201.2.1 bt201.2.2.1 t182 t183 t184).bind fun t208 => (if t208 = true then (laws_FnExactMeetMasks.j0 k t187 bt201.2.2.2 (bt201.2.2.2 != t187) a0_0 a0_1 l0_2 a1_0 a1_1 l1_2 t182 t183 t184 bt189.1 bt189.2.1 bt189.2.2 bt195.1 bt195.2.1 bt195.2.2 bt201.1 bt201.2.1 bt201.2.2.1) else (laws_FnExactMeetMasks.j0 k t187 bt201.2.2.2 true a0_0 a0_1 l0_2 a1_0 a1_1 l1_2 t182 t183 t184 bt189.1 bt189.2.1 bt189.2.2 bt195.1 bt195.2.1 bt195.2.2 bt201.1 bt201.2.1 bt201.2.2.1)))))) = some r := H
   have A21 := Aside0.mk A210
   clear A210
   replace H := Option.bind_eq_some_iff.mp H
   obtain ⟨⟨t189, t190, t191⟩, A220, H⟩ := H
   replace H : ((laws_toMask.f k a1_0 a1_1 l1_2).bind fun bt195 => ((impl_MeetMasks.f k t189 t190 t191 bt195.1 bt195.2.1 bt195.2.2).bind fun bt201 => ((laws_eqMask.f k bt201.1 bt201.2.1 bt201.2.2.1 t182 t183 t184).bind fun t208 => (if t208 = true then (laws_FnExactMeetMasks.j0 k t187 bt201.2.2.2 (bt201.2.2.2 != t187) a0_0 a0_1 l0_2 a1_0 a1_1 l1_2 t182 t183 t184 t189 t190 t191 bt195.1 bt195.2.1 bt195.2.2 bt201.1 bt201.2.1 bt201.2.2.1) else (laws_FnExactMeetMasks.j0 k t187 bt201.2.2.2 true a0_0 a0_1 l0_2 a1_0 a1_1 l1_2 t182 t183 t184 t189 t190 t191 bt195.1 bt195.2.1 bt195.2.2 bt201.1 bt201.2.1 bt201.2.2.1))))) = some r := H
   have A22 := Aside0.mk A220
   clear A220
   replace H := Option.bind_eq_some_iff.mp H
   obtain ⟨⟨t195, t196, t197⟩, A230, H⟩ := H
   replace H : ((impl_MeetMasks.f k t189 t190 t191 t195 t196 t197).bind fun bt201 => ((laws_eqMask.f k bt201.1 bt201.2.1 bt201.2.2.1 t182 t183 t184).bind fun t208 => (if t208 = true then (laws_FnExactMeetMasks.j0 k t187 bt201.2.2.2 (bt201.2.2.2 != t187) a0_0 a0_1 l0_2 a1_0 a1_1 l1_2 t182 t183 t184 t189 t190 t191 t195 t196 t197 bt201.1 bt201.2.1 bt201.2.2.1) else (laws_FnExactMeetMasks.j0 k t187 bt201.2.2.2 true a0_0 a0_1 l0_2 a1_0 a1_1 l1_2 t182 t183 t184 t189 t190 t191 t195 t196 t197 bt201.1 bt201.2.1 bt201.2.2.1)))) = some r := H
   have A23 := Aside0.mk A230
   clear A230
   replace H := Option.bind_eq_some_iff.mp H
   obtain ⟨⟨t201, t202, t203, t206⟩, A240, H⟩ := H
   replace H : ((laws_eqMask.f k t201 t202 t203 t182 t183 t184).bind fun t208 => (if t208 = true then (laws_FnExactMeetMasks.j0 k t187 t206 (t206 != t187) a0_0 a0_1 l0_2 a1_0 a1_1 l1_2 t182 t183 t184 t189 t190 t191 t195 t196 t197 t201 t202 t203) else (laws_FnExactMeetMasks.j0 k t187 t206 true a0_0 a0_1 l0_2 a1_0 a1_1 l1_2 t182 t183 t184 t189 t190 t191 t195 t196 t197 t201 t202 t203))) = some r := H
   have A24 := Aside0.mk A240
   clear A240
   have HC25 := Aside0.mk H
   clear H
   go_enter Try.func4, Try.ntmps4
   try go_wp2_with (first | ((with_reducible refine gate_dst (N := 2) rfl ?_); refine box_event ?hg (N := 2) ?hd (cs := #[.int .i64 a0_0, .int .i64 a0_1, .slice A0_2 l0_2.length c0_2]) (t := 35) ?hr ?_; (case hd => rfl); (case hg => rfl); (case hr => first | (go_simp; done) | (go_simp; rfl)); intro gb168 hg w26 hbox hb; have BK168 := Aside0.mk (hbox); have GW168 := Aside0.mk ((by rw [hg]; exact (below_size (ztMasks.bl HB)) : w.heap.size ≤ gb168)); have GE168 := Aside0.mk ((by rw [hg]; exact (below_size (ztMasks.bl HB)) : w.heap.size ≤ gb168)); replace HB := Aside0.mk (below_step (ztMasks.bl HB) hb); clear hb hbox hg) | ((with_reducible refine gate_dst (N := 3) rfl ?_); refine box_event ?hg (N := 3) ?hd (cs := #[.int .i64 a1_0, .int .i64 a1_1, .slice A1_2 l1_2.length c1_2]) (t := 35) ?hr ?_; (case hd => rfl); (case hg => rfl); (case hr => first | (go_simp; done) | (go_simp; rfl)); intro gb169 hg w27 hbox hb; have BK169 := Aside0.mk (hbox); have GW169 := Aside0.mk ((by rw [hg]; exact (below_size (ztMasks.bl HB)) : w.heap.size ≤ gb169)); have GE169 := Aside0.mk ((by rw [hg]; exact (below_size (ztMasks.bl HB)) : w.heap.size ≤ gb169)); replace HB := Aside0.mk (below_step (ztMasks.bl HB) hb); have NB168_169 := ztMasks.ht BK168 hg; have NB169_168 := ztMasks.hu BK168 hg; replace BK168 := ztMasks.bb BK168 hb; clear hb hbox hg; have hnb28 := NB168_169.out; have hnc28 := NB169_168.out; have hcz29_0 : w27.cell? ⟨gb168, 0, none⟩ = some (.int .i64 a0_0) := (blk_cell BK168.out 0).trans rfl; have hcz29_1 : w27.cell? ⟨gb168, 1, none⟩ = some (.int .i64 a0_1) := (blk_cell BK168.out 1).trans rfl; have hcz29_2 : w27.cell? ⟨gb168, 2, none⟩ = some (.slice A0_2 l0_2.length c0_2) := (blk_cell BK168.out 2).trans rfl; have hfz29_0 := blk_frozen BK168.out 0; have hfz29_1 := blk_frozen BK168.out 1; have hfz29_2 := blk_frozen BK168.out 2) | ((with_reducible refine gate_callee (f := 21) rfl ?_); refine ztMasks.gl (some 19) rfl rfl Try.func21 (by kernel_rfl) rfl #[.agg #[.int .i64 a0_0, .int .i64 a0_1, .slice A0_2 l0_2.length c0_2], .int .i64 1048576] rfl ?_; (with_reducible refine (laws_szMask.calls a0_0 a0_1 _ _ l0_2 1048576 t170 _ ?side1 ?side2 A3.out).mono ?_); (case side1 => repeat (first | exact (Kd.C_below HR0_2.out HB.out) | (with_reducible refine Kd.C_alloc ?_ _) | (with_reducible refine Kd.C_drewN ?_ _) | (with_reducible refine Kd.C_drew ?_))); (case side2 => exact HC0_2.out); rintro e w30 ⟨rfl, hb⟩; refine ⟨_, rfl, ?_⟩; replace BK168 := ztMasks.bb BK168 hb; replace BK169 := ztMasks.bb BK169 hb; replace HB := Aside0.mk (below_step (ztMasks.bl HB) hb); (try clear hb); (try clear hb2); (try clear hk); (try clear hi); have hcz31_0 : w30.cell? ⟨gb169, 0, none⟩ = some (.int .i64 a1_0) := (blk_cell BK169.out 0).trans rfl; have hcz31_1 : w30.cell? ⟨gb169, 1, none⟩ = some (.int .i64 a1_1) := (blk_cell BK169.out 1).trans rfl; have hcz31_2 : w30.cell? ⟨gb169, 2, none⟩ = some (.slice A1_2 l1_2.length c1_2) := (blk_cell BK169.out 2).trans rfl; have hfz31_0 := blk_frozen BK169.out 0; have hfz31_1 := blk_frozen BK169.out 1; have hfz31_2 := blk_frozen BK169.out 2) | ((with_reducible refine gate_callee (f := 21) rfl ?_); refine ztMasks.gl (some 24) rfl rfl Try.func21 (by kernel_rfl) rfl #[.agg #[.int .i64 a1_0, .int .i64 a1_1, .slice A1_2 l1_2.length c1_2], .int .i64 t170] rfl ?_; (with_reducible refine (laws_szMask.calls a1_0 a1_1 _ _ l1_2 t170 t171 _ ?side1 ?side2 A10.out).mono ?_); (case side1 => repeat (first | exact (Kd.C_below HR1_2.out HB.out) | (with_reducible refine Kd.C_alloc ?_ _) | (with_reducible refine Kd.C_drewN ?_ _) | (with_reducible refine Kd.C_drew ?_))); (case side2 => exact HC1_2.out); rintro e w32 ⟨rfl, hb⟩; refine ⟨_, rfl, ?_⟩; replace BK168 := ztMasks.bb BK168 hb; replace BK169 := ztMasks.bb BK169 hb; replace HB := Aside0.mk (below_step (ztMasks.bl HB) hb); (try clear hb); (try clear hb2); (try clear hk); (try clear hi)))
   replace BK168 := Aside0.mk (blk_drew BK168.out)
   replace BK169 := Aside0.mk (blk_drew BK169.out)
   replace HB := Aside0.mk (below_drew1 HB.out)
   refine start_ (n := 11) (S := fun w' => w'.cell? ⟨gb168, 0, none⟩ = some (.int .i64 a0_0) ∧ w'.cell? ⟨gb168, 1, none⟩ = some (.int .i64 a0_1) ∧ w'.cell? ⟨gb168, 2, none⟩ = some (.slice A0_2 l0_2.length c0_2) ∧ w'.cell? ⟨gb169, 0, none⟩ = some (.int .i64 a1_0) ∧ w'.cell? ⟨gb169, 1, none⟩ = some (.int .i64 a1_1) ∧ w'.cell? ⟨gb169, 2, none⟩ = some (.slice A1_2 l1_2.length c1_2)) (ds := []) #[false, false, false, false, false, false, false, false, false, false, false] (by kernel_rfl) rfl rfl ⟨(blk_cell BK168.out 0).trans rfl, (blk_cell BK168.out 1).trans rfl, (blk_cell BK168.out 2).trans rfl, (blk_cell BK169.out 0).trans rfl, (blk_cell BK169.out 1).trans rfl, (blk_cell BK169.out 2).trans rfl⟩ (fun hHeld => ?_); refine with_tabW laws_FnExactMeetMasks.tab8 laws_FnExactMeetMasks.bits8 (fun HT_ HW_ => ?_)
   generalize w32.drew = w33 at BK168 BK169 HB hHeld ⊢
   refine take_ (i := 0) (N := some 28) (v := ?_) (a' := ?_) #[true, false, false, false, false, false, false, false, false, false, false] rfl rfl (take_ofW HT_.out HW_.out (by kernel_rfl)) (fun _ _ _ h => h) (Or.inl ⟨by rfl, ?_⟩) hHeld ?_ ?_
   rotate_left
   ·rintro w' ⟨s0, s1, s2, s3, s4, s5⟩
    go_simp
    with_reducible rfl
   rotate_left
   ·simp only [Act.put, List.setIfInBounds_toArray, List.set_cons_zero, List.set_cons_succ, i64_w, i32_w]
    rfl
   refine take_ (i := 2) (N := some 30) (v := ?_) (a' := ?_) #[true, false, true, false, false, false, false, false, false, false, false] rfl rfl (take_ofW HT_.out HW_.out (by kernel_rfl)) (fun _ _ _ h => h) (Or.inl ⟨by rfl, ?_⟩) hHeld ?_ ?_
   rotate_left
   ·rintro w' ⟨s0, s1, s2, s3, s4, s5⟩
    go_simp
    with_reducible rfl
   rotate_left
   ·simp only [Act.put, List.setIfInBounds_toArray, List.set_cons_zero, List.set_cons_succ, i64_w, i32_w]
    rfl
   refine join_ (σ := Value × Value × Value × Nat) 2 #[true, true, true, true, true, true, true, true, true, false, false] (fun s_ => [(29, .agg #[.int .i64 t172, .int .i64 t173, s_.1]), (31, .agg #[.int .i64 t177, .int .i64 t178, s_.2.1]), (32, .tuple #[.agg #[.int .i64 t182, .int .i64 t183, s_.2.2.1], .bool t187]), (6, .pointer (some ⟨s_.2.2.2, 0, none⟩)), (27, .tuple #[.agg #[.int .i64 t182, .int .i64 t183, s_.2.2.1], .bool t187]), (33, .agg #[.int .i64 t182, .int .i64 t183, s_.2.2.1]), (34, .bool t187)]) (fun s_ w' => (w'.cell? ⟨gb168, 0, none⟩ = some (.int .i64 a0_0) ∧ w'.cell? ⟨gb168, 1, none⟩ = some (.int .i64 a0_1) ∧ w'.cell? ⟨gb168, 2, none⟩ = some (.slice A0_2 l0_2.length c0_2) ∧ w'.cell? ⟨gb169, 0, none⟩ = some (.int .i64 a1_0) ∧ w'.cell? ⟨gb169, 1, none⟩ = some (.int .i64 a1_1) ∧ w'.cell? ⟨gb169, 2, none⟩ = some (.slice A1_2 l1_2.length c1_2)) ∧ (Kd.R (Kd.int .i64) 3 w' w.heap.size (fun k_ => some k_ ≠ (s_.2.1 : Value).ownBlock ∧ some k_ ≠ (s_.2.2.1 : Value).ownBlock) s_.1 t174) ∧ (Kd.R (Kd.int .i64) 3 w' w.heap.size (fun k_ => some k_ ≠ (s_.1 : Value).ownBlock ∧ some k_ ≠ (s_.2.2.1 : Value).ownBlock) s_.2.1 t179) ∧ (Kd.R (Kd.int .i64) 3 w' w.heap.size (fun k_ => some k_ ≠ (s_.1 : Value).ownBlock ∧ some k_ ≠ (s_.2.1 : Value).ownBlock) s_.2.2.1 t184) ∧ (w'.heap[gb168]? = some (.cells #[.int .i64 a0_0, .int .i64 a0_1, .slice A0_2 l0_2.length c0_2] 35 (0, 0))) ∧ (w'.heap[gb169]? = some (.cells #[.int .i64 a1_0, .int .i64 a1_1, .slice A1_2 l1_2.length c1_2] 35 (0, 0))) ∧ (w'.heap[s_.2.2.2]? = some (.cells #[.int .i64 0, .int .i64 0, .slice none 0 0] 37 (0, 0))) ∧ (w.heap.size ≤ s_.2.2.2) ∧ (w.heap.size ≤ s_.2.2.2) ∧ (gb168 ≠ s_.2.2.2) ∧ (s_.2.2.2 ≠ gb168) ∧ (gb169 ≠ s_.2.2.2) ∧ (s_.2.2.2 ≠ gb169) ∧ (Below w.heap.size w w')) ?_ ?_
   rotate_left
   ·intro hCont
    refine two_ (i := 1) (j := 8) (Ni := some 29) (Nj := some 6) #[true, true, true, false, false, false, false, false, false, false, false] #[true, false, true, false, false, false, false, false, true, false, false] rfl rfl rfl rfl (two_of HT_.out (by kernel_rfl)) (by decide) (by decide) (fun K hK => ?_) (fun K hK => ?_)
    ·skip
     refine ztMasks.gs Try.func23 (by kernel_rfl) rfl #[.agg #[.int .i64 a0_0, .int .i64 a0_1, .slice A0_2 l0_2.length c0_2]] (by rfl) rfl rfl ?_
     with_reducible refine (laws_toMask.calls k a0_0 a0_1 _ _ l0_2 t172 t173 t174 _ ?side1 ?side2 A19.out).mono ?_
     (case side1 => repeat (first | exact (Kd.C_below HR0_2.out HB.out) | (with_reducible refine Kd.C_alloc ?_ _) | (with_reducible refine Kd.C_drewN ?_ _) | (with_reducible refine Kd.C_drew ?_)))
     (case side2 => exact HC0_2.out)
     rintro e w34 ⟨v175, rfl, ho0, hb⟩
     refine ⟨_, rfl, ?_⟩
     have HO176 := Aside0.mk (Kd.R_lower ho0 (below_size (ztMasks.bl HB)))
     replace BK168 := ztMasks.bb BK168 hb
     replace BK169 := ztMasks.bb BK169 hb
     replace HB := Aside0.mk (below_step (ztMasks.bl HB) hb)
     (try clear hb)
     (try clear hb2)
     (try clear hk)
     (try clear hi)
     (try clear ho0)
     refine hK.out _ _ ⟨(blk_cell BK168.out 0).trans rfl, (blk_cell BK168.out 1).trans rfl, (blk_cell BK168.out 2).trans rfl, (blk_cell BK169.out 0).trans rfl, (blk_cell BK169.out 1).trans rfl, (blk_cell BK169.out 2).trans rfl⟩ (fun hHeld => ?_)
     clear hK K
     refine norm_ (a' := ?_) ?_ ?_
     rotate_left
     ·show Act.put _ (some 29) _ = _
      simp only [Act.put, List.setIfInBounds_toArray, List.set_cons_zero, List.set_cons_succ, i64_w, i32_w]
      rfl
     refine two_ (i := 3) (j := 8) (Ni := some 31) (Nj := some 6) #[true, true, true, true, false, false, false, false, false, false, false] #[true, true, true, false, false, false, false, false, true, false, false] rfl rfl rfl rfl (two_of HT_.out (by kernel_rfl)) (by decide) (by decide) (fun K hK => ?_) (fun K hK => ?_)
     ·skip
      refine ztMasks.gs Try.func23 (by kernel_rfl) rfl #[.agg #[.int .i64 a1_0, .int .i64 a1_1, .slice A1_2 l1_2.length c1_2]] (by rfl) rfl rfl ?_
      with_reducible refine (laws_toMask.calls k a1_0 a1_1 _ _ l1_2 t177 t178 t179 _ ?side1 ?side2 A20.out).mono ?_
      (case side1 => repeat (first | exact (Kd.C_below HR1_2.out HB.out) | (with_reducible refine Kd.C_alloc ?_ _) | (with_reducible refine Kd.C_drewN ?_ _) | (with_reducible refine Kd.C_drew ?_)))
      (case side2 => exact HC1_2.out)
      rintro e w35 ⟨v180, rfl, ho0, hb⟩
      refine ⟨_, rfl, ?_⟩
      have HO181 := Aside0.mk (Kd.R_lower (Kd.R_new' ho0 (Kd.R_lt (ztMasks.rl HO176.out))) (below_size (ztMasks.bl HB)))
      replace HO176 := Aside0.mk (Kd.R_elder' (ztMasks.rl HO176.out) (Kd.R_base ho0) hb)
      replace BK168 := ztMasks.bb BK168 hb
      replace BK169 := ztMasks.bb BK169 hb
      replace HB := Aside0.mk (below_step (ztMasks.bl HB) hb)
      (try clear hb)
      (try clear hb2)
      (try clear hk)
      (try clear hi)
      (try clear ho0)
      obtain ⟨Ao36, co36, eo36⟩ := Kd.R_slice HO176.out
      (first | subst eo36 | (injection eo36 with f1_ f2_ f3_; have f4_ := f1_.symm; have f5_ := f3_.symm; clear f1_ f2_ f3_; subst f4_; subst f5_))
      obtain ⟨Ao37, co37, eo37⟩ := Kd.R_slice HO181.out
      (first | subst eo37 | (injection eo37 with f1_ f2_ f3_; have f4_ := f1_.symm; have f5_ := f3_.symm; clear f1_ f2_ f3_; subst f4_; subst f5_))
      refine hK.out _ _ ⟨(blk_cell BK168.out 0).trans rfl, (blk_cell BK168.out 1).trans rfl, (blk_cell BK168.out 2).trans rfl, (blk_cell BK169.out 0).trans rfl, (blk_cell BK169.out 1).trans rfl, (blk_cell BK169.out 2).trans rfl⟩ (fun hHeld => ?_)
      clear hK K
      refine norm_ (a' := ?_) ?_ ?_
      rotate_left
      ·show Act.put _ (some 31) _ = _
       simp only [Act.put, List.setIfInBounds_toArray, List.set_cons_zero, List.set_cons_succ, i64_w, i32_w]
       rfl
      refine two_ (i := 4) (j := 8) (Ni := some 32) (Nj := some 6) #[true, true, true, true, true, false, false, false, false, false, false] #[true, true, true, true, false, false, false, false, true, false, false] rfl rfl rfl rfl (two_of HT_.out (by kernel_rfl)) (by decide) (by decide) (fun K hK => ?_) (fun K hK => ?_)
      ·skip
       refine ztMasks.gs Try.func22 (by kernel_rfl) rfl #[.agg #[.int .i64 t172, .int .i64 t173, .slice Ao36 t174.length co36], .agg #[.int .i64 t177, .int .i64 t178, .slice Ao37 t179.length co37]] (by rfl) rfl rfl ?_
       with_reducible refine (spec_MeetMasks.calls k t172 t173 _ _ t174 t177 t178 _ _ t179 t182 t183 t184 t187 _ ?side1 ?side2 ?side3 ?side4 A21.out).mono ?_
       (case side1 => repeat (first | exact (Kd.R_reads' HO176.out).2.2 | (with_reducible refine Kd.C_alloc ?_ _) | (with_reducible refine Kd.C_drewN ?_ _) | (with_reducible refine Kd.C_drew ?_)))
       (case side2 => exact (Kd.R_reads' HO176.out).2.1)
       (case side3 => repeat (first | exact (Kd.R_reads' HO181.out).2.2 | (with_reducible refine Kd.C_alloc ?_ _) | (with_reducible refine Kd.C_drewN ?_ _) | (with_reducible refine Kd.C_drew ?_)))
       (case side4 => exact (Kd.R_reads' HO181.out).2.1)
       rintro e w38 ⟨v185, rfl, ho0, hb⟩
       refine ⟨_, rfl, ?_⟩
       have HO186 := Aside0.mk (Kd.R_lower (Kd.R_new' (Kd.R_new' ho0 (Kd.R_lt (ztMasks.rl HO176.out))) (Kd.R_lt (ztMasks.rl HO181.out))) (below_size (ztMasks.bl HB)))
       replace HO176 := Aside0.mk (Kd.R_elder' (ztMasks.rl HO176.out) (Kd.R_base ho0) hb)
       replace HO181 := Aside0.mk (Kd.R_elder' (ztMasks.rl HO181.out) (Kd.R_base ho0) hb)
       replace BK168 := ztMasks.bb BK168 hb
       replace BK169 := ztMasks.bb BK169 hb
       replace HB := Aside0.mk (below_step (ztMasks.bl HB) hb)
       (try clear hb)
       (try clear hb2)
       (try clear hk)
       (try clear hi)
       (try clear ho0)
       refine hK.out _ _ ⟨(blk_cell BK168.out 0).trans rfl, (blk_cell BK168.out 1).trans rfl, (blk_cell BK168.out 2).trans rfl, (blk_cell BK169.out 0).trans rfl, (blk_cell BK169.out 1).trans rfl, (blk_cell BK169.out 2).trans rfl⟩ (fun hHeld => ?_)
       clear hK K
       refine norm_ (a' := ?_) ?_ ?_
       rotate_left
       ·show Act.put _ (some 32) _ = _
        simp only [Act.put, List.setIfInBounds_toArray, List.set_cons_zero, List.set_cons_succ, i64_w, i32_w]
        rfl
       refine pure_ (i := 5) (N := some 27) (v := ?_) (a' := ?_) #[true, true, true, true, true, true, false, false, false, false, false] rfl rfl (any_of HT_.out (by kernel_rfl)) (fun _ _ _ h => h) (Or.inl ⟨by rfl, ?_⟩) ?_ ?_
       rotate_left
       ·intro w'
        go_simp
        with_reducible rfl
       rotate_left
       ·simp only [Act.put, List.setIfInBounds_toArray, List.set_cons_zero, List.set_cons_succ, i64_w, i32_w]
        rfl
       refine pure_ (i := 6) (N := some 33) (v := ?_) (a' := ?_) #[true, true, true, true, true, true, true, false, false, false, false] rfl rfl (any_of HT_.out (by kernel_rfl)) (fun _ _ _ h => h) (Or.inl ⟨by rfl, ?_⟩) ?_ ?_
       rotate_left
       ·intro w'
        go_simp
        with_reducible rfl
       rotate_left
       ·simp only [Act.put, List.setIfInBounds_toArray, List.set_cons_zero, List.set_cons_succ, i64_w, i32_w]
        rfl
       refine pure_ (i := 7) (N := some 34) (v := ?_) (a' := ?_) #[true, true, true, true, true, true, true, true, false, false, false] rfl rfl (any_of HT_.out (by kernel_rfl)) (fun _ _ _ h => h) (Or.inl ⟨by rfl, ?_⟩) ?_ ?_
       rotate_left
       ·intro w'
        go_simp
        with_reducible rfl
       rotate_left
       ·simp only [Act.put, List.setIfInBounds_toArray, List.set_cons_zero, List.set_cons_succ, i64_w, i32_w]
        rfl
       refine one_ (i := 8) (N := some 6) #[true, true, true, true, true, true, true, true, true, false, false] rfl rfl (one_of HT_.out (by kernel_rfl)) (by decide) (fun K hK => ?_)
       refine box_step ?hg (N := 6) ?hd (cs := #[.int .i64 0, .int .i64 0, .slice none 0 0]) (t := 37) ?hr ?_; (case hd => rfl); (case hg => rfl); (case hr => first | (go_simp; done) | (go_simp; rfl))
       intro gb188 hg w39 hbox hb
       replace HO176 := ztMasks.rb HO176 hb
       replace HO181 := ztMasks.rb HO181 hb
       replace HO186 := ztMasks.rb HO186 hb
       have BK188 := Aside0.mk (hbox)
       have GW188 := Aside0.mk ((by rw [hg]; exact (below_size (ztMasks.bl HB)) : w.heap.size ≤ gb188))
       have GE188 := Aside0.mk ((by rw [hg]; exact (below_size (ztMasks.bl HB)) : w.heap.size ≤ gb188))
       replace HB := Aside0.mk (below_step (ztMasks.bl HB) hb)
       have NB168_188 := ztMasks.ht BK168 hg
       have NB188_168 := ztMasks.hu BK168 hg
       replace BK168 := ztMasks.bb BK168 hb
       have NB169_188 := ztMasks.ht BK169 hg
       have NB188_169 := ztMasks.hu BK169 hg
       replace BK169 := ztMasks.bb BK169 hb
       clear hb hbox hg
       refine hK.out _ _ ⟨(blk_cell BK168.out 0).trans rfl, (blk_cell BK168.out 1).trans rfl, (blk_cell BK168.out 2).trans rfl, (blk_cell BK169.out 0).trans rfl, (blk_cell BK169.out 1).trans rfl, (blk_cell BK169.out 2).trans rfl⟩ (fun hHeld => ?_)
       clear hK K
       refine norm_ (a' := ?_) ?_ ?_
       rotate_left
       ·show Act.put _ (some 6) _ = _
        simp only [Act.put, List.setIfInBounds_toArray, List.set_cons_zero, List.set_cons_succ, i64_w, i32_w]
        rfl
       exact norm_ (by simp only [putAll, Act.put, List.setIfInBounds_toArray, List.set_cons_zero, List.set_cons_succ]) (hCont (.slice Ao36 t174.length co36, .slice Ao37 t179.length co37, v185, gb188) _ ⟨hHeld, (ztMasks.rl (Kd.R_mono HO176.out (fun _ hk => ⟨hk.1.2, hk.2⟩))), (ztMasks.rl (Kd.R_mono HO181.out (fun _ hk => ⟨hk.1.2, hk.2⟩))), (ztMasks.rl (Kd.R_mono HO186.out (fun _ hk => ⟨hk.1.2, hk.2⟩))), (ztMasks.bk BK168), (ztMasks.bk BK169), (ztMasks.bk BK188), GW188.out, GE188.out, NB168_188.out, NB188_168.out, NB169_188.out, NB188_169.out, (ztMasks.bl HB)⟩)
      ·skip
       refine box_step ?hg (N := 6) ?hd (cs := #[.int .i64 0, .int .i64 0, .slice none 0 0]) (t := 37) ?hr ?_; (case hd => rfl); (case hg => rfl); (case hr => first | (go_simp; done) | (go_simp; rfl))
       intro gb188 hg w36 hbox hb
       replace HO176 := ztMasks.rb HO176 hb
       replace HO181 := ztMasks.rb HO181 hb
       have BK188 := Aside0.mk (hbox)
       have GW188 := Aside0.mk ((by rw [hg]; exact (below_size (ztMasks.bl HB)) : w.heap.size ≤ gb188))
       have GE188 := Aside0.mk ((by rw [hg]; exact (below_size (ztMasks.bl HB)) : w.heap.size ≤ gb188))
       replace HB := Aside0.mk (below_step (ztMasks.bl HB) hb)
       have NB168_188 := ztMasks.ht BK168 hg
       have NB188_168 := ztMasks.hu BK168 hg
       replace BK168 := ztMasks.bb BK168 hb
       have NB169_188 := ztMasks.ht BK169 hg
       have NB188_169 := ztMasks.hu BK169 hg
       replace BK169 := ztMasks.bb BK169 hb
       clear hb hbox hg
       obtain ⟨Ao37, co37, eo37⟩ := Kd.R_slice HO176.out
       (first | subst eo37 | (injection eo37 with f1_ f2_ f3_; have f4_ := f1_.symm; have f5_ := f3_.symm; clear f1_ f2_ f3_; subst f4_; subst f5_))
       obtain ⟨Ao38, co38, eo38⟩ := Kd.R_slice HO181.out
       (first | subst eo38 | (injection eo38 with f1_ f2_ f3_; have f4_ := f1_.symm; have f5_ := f3_.symm; clear f1_ f2_ f3_; subst f4_; subst f5_))
       refine hK.out _ _ ⟨(blk_cell BK168.out 0).trans rfl, (blk_cell BK168.out 1).trans rfl, (blk_cell BK168.out 2).trans rfl, (blk_cell BK169.out 0).trans rfl, (blk_cell BK169.out 1).trans rfl, (blk_cell BK169.out 2).trans rfl⟩ (fun hHeld => ?_)
       clear hK K
       refine norm_ (a' := ?_) ?_ ?_
       rotate_left
       ·show Act.put _ (some 6) _ = _
        simp only [Act.put, List.setIfInBounds_toArray, List.set_cons_zero, List.set_cons_succ, i64_w, i32_w]
        rfl
       refine one_ (i := 4) (N := some 32) #[true, true, true, true, true, false, false, false, true, false, false] rfl rfl (one_of HT_.out (by kernel_rfl)) (by decide) (fun K hK => ?_)
       refine ztMasks.gs Try.func22 (by kernel_rfl) rfl #[.agg #[.int .i64 t172, .int .i64 t173, .slice Ao37 t174.length co37], .agg #[.int .i64 t177, .int .i64 t178, .slice Ao38 t179.length co38]] (by rfl) rfl rfl ?_
       with_reducible refine (spec_MeetMasks.calls k t172 t173 _ _ t174 t177 t178 _ _ t179 t182 t183 t184 t187 _ ?side1 ?side2 ?side3 ?side4 A21.out).mono ?_
       (case side1 => repeat (first | exact (Kd.R_reads' HO176.out).2.2 | (with_reducible refine Kd.C_alloc ?_ _) | (with_reducible refine Kd.C_drewN ?_ _) | (with_reducible refine Kd.C_drew ?_)))
       (case side2 => exact (Kd.R_reads' HO176.out).2.1)
       (case side3 => repeat (first | exact (Kd.R_reads' HO181.out).2.2 | (with_reducible refine Kd.C_alloc ?_ _) | (with_reducible refine Kd.C_drewN ?_ _) | (with_reducible refine Kd.C_drew ?_)))
       (case side4 => exact (Kd.R_reads' HO181.out).2.1)
       rintro e w39 ⟨v185, rfl, ho0, hb⟩
       refine ⟨_, rfl, ?_⟩
       have HO186 := Aside0.mk (Kd.R_lower (Kd.R_new' (Kd.R_new' ho0 (Kd.R_lt (ztMasks.rl HO176.out))) (Kd.R_lt (ztMasks.rl HO181.out))) (below_size (ztMasks.bl HB)))
       replace HO176 := Aside0.mk (Kd.R_elder' (ztMasks.rl HO176.out) (Kd.R_base ho0) hb)
       replace HO181 := Aside0.mk (Kd.R_elder' (ztMasks.rl HO181.out) (Kd.R_base ho0) hb)
       replace BK168 := ztMasks.bb BK168 hb
       replace BK169 := ztMasks.bb BK169 hb
       replace BK188 := ztMasks.bb BK188 hb
       replace HB := Aside0.mk (below_step (ztMasks.bl HB) hb)
       (try clear hb)
       (try clear hb2)
       (try clear hk)
       (try clear hi)
       (try clear ho0)
       refine hK.out _ _ ⟨(blk_cell BK168.out 0).trans rfl, (blk_cell BK168.out 1).trans rfl, (blk_cell BK168.out 2).trans rfl, (blk_cell BK169.out 0).trans rfl, (blk_cell BK169.out 1).trans rfl, (blk_cell BK169.out 2).trans rfl⟩ (fun hHeld => ?_)
       clear hK K
       refine norm_ (a' := ?_) ?_ ?_
       rotate_left
       ·show Act.put _ (some 32) _ = _
        simp only [Act.put, List.setIfInBounds_toArray, List.set_cons_zero, List.set_cons_succ, i64_w, i32_w]
        rfl
       refine pure_ (i := 5) (N := some 27) (v := ?_) (a' := ?_) #[true, true, true, true, true, true, false, false, true, false, false] rfl rfl (any_of HT_.out (by kernel_rfl)) (fun _ _ _ h => h) (Or.inl ⟨by rfl, ?_⟩) ?_ ?_
       rotate_left
       ·intro w'
        go_simp
        with_reducible rfl
       rotate_left
       ·simp only [Act.put, List.setIfInBounds_toArray, List.set_cons_zero, List.set_cons_succ, i64_w, i32_w]
        rfl
       refine pure_ (i := 6) (N := some 33) (v := ?_) (a' := ?_) #[true, true, true, true, true, true, true, false, true, false, false] rfl rfl (any_of HT_.out (by kernel_rfl)) (fun _ _ _ h => h) (Or.inl ⟨by rfl, ?_⟩) ?_ ?_
       rotate_left
       ·intro w'
        go_simp
        with_reducible rfl
       rotate_left
       ·simp only [Act.put, List.setIfInBounds_toArray, List.set_cons_zero, List.set_cons_succ, i64_w, i32_w]
        rfl
       refine pure_ (i := 7) (N := some 34) (v := ?_) (a' := ?_) #[true, true, true, true, true, true, true, true, true, false, false] rfl rfl (any_of HT_.out (by kernel_rfl)) (fun _ _ _ h => h) (Or.inl ⟨by rfl, ?_⟩) ?_ ?_
       rotate_left
       ·intro w'
        go_simp
        with_reducible rfl
       rotate_left
       ·simp only [Act.put, List.setIfInBounds_toArray, List.set_cons_zero, List.set_cons_succ, i64_w, i32_w]
        rfl
       exact norm_ (by simp only [putAll, Act.put, List.setIfInBounds_toArray, List.set_cons_zero, List.set_cons_succ]) (hCont (.slice Ao37 t174.length co37, .slice Ao38 t179.length co38, v185, gb188) _ ⟨hHeld, (ztMasks.rl (Kd.R_mono HO176.out (fun _ hk => ⟨hk.1.2, hk.2⟩))), (ztMasks.rl (Kd.R_mono HO181.out (fun _ hk => ⟨hk.1.2, hk.2⟩))), (ztMasks.rl (Kd.R_mono HO186.out (fun _ hk => ⟨hk.1.2, hk.2⟩))), (ztMasks.bk BK168), (ztMasks.bk BK169), (ztMasks.bk BK188), GW188.out, GE188.out, NB168_188.out, NB188_168.out, NB169_188.out, NB188_169.out, (ztMasks.bl HB)⟩)
     ·skip
      refine box_step ?hg (N := 6) ?hd (cs := #[.int .i64 0, .int .i64 0, .slice none 0 0]) (t := 37) ?hr ?_; (case hd => rfl); (case hg => rfl); (case hr => first | (go_simp; done) | (go_simp; rfl))
      intro gb188 hg w35 hbox hb
      replace HO176 := ztMasks.rb HO176 hb
      have BK188 := Aside0.mk (hbox)
      have GW188 := Aside0.mk ((by rw [hg]; exact (below_size (ztMasks.bl HB)) : w.heap.size ≤ gb188))
      have GE188 := Aside0.mk ((by rw [hg]; exact (below_size (ztMasks.bl HB)) : w.heap.size ≤ gb188))
      replace HB := Aside0.mk (below_step (ztMasks.bl HB) hb)
      have NB168_188 := ztMasks.ht BK168 hg
      have NB188_168 := ztMasks.hu BK168 hg
      replace BK168 := ztMasks.bb BK168 hb
      have NB169_188 := ztMasks.ht BK169 hg
      have NB188_169 := ztMasks.hu BK169 hg
      replace BK169 := ztMasks.bb BK169 hb
      clear hb hbox hg
      refine hK.out _ _ ⟨(blk_cell BK168.out 0).trans rfl, (blk_cell BK168.out 1).trans rfl, (blk_cell BK168.out 2).trans rfl, (blk_cell BK169.out 0).trans rfl, (blk_cell BK169.out 1).trans rfl, (blk_cell BK169.out 2).trans rfl⟩ (fun hHeld => ?_)
      clear hK K
      refine norm_ (a' := ?_) ?_ ?_
      rotate_left
      ·show Act.put _ (some 6) _ = _
       simp only [Act.put, List.setIfInBounds_toArray, List.set_cons_zero, List.set_cons_succ, i64_w, i32_w]
       rfl
      refine one_ (i := 3) (N := some 31) #[true, true, true, true, false, false, false, false, true, false, false] rfl rfl (one_of HT_.out (by kernel_rfl)) (by decide) (fun K hK => ?_)
      refine ztMasks.gs Try.func23 (by kernel_rfl) rfl #[.agg #[.int .i64 a1_0, .int .i64 a1_1, .slice A1_2 l1_2.length c1_2]] (by rfl) rfl rfl ?_
      with_reducible refine (laws_toMask.calls k a1_0 a1_1 _ _ l1_2 t177 t178 t179 _ ?side1 ?side2 A20.out).mono ?_
      (case side1 => repeat (first | exact (Kd.C_below HR1_2.out HB.out) | (with_reducible refine Kd.C_alloc ?_ _) | (with_reducible refine Kd.C_drewN ?_ _) | (with_reducible refine Kd.C_drew ?_)))
      (case side2 => exact HC1_2.out)
      rintro e w36 ⟨v180, rfl, ho0, hb⟩
      refine ⟨_, rfl, ?_⟩
      have HO181 := Aside0.mk (Kd.R_lower (Kd.R_new' ho0 (Kd.R_lt (ztMasks.rl HO176.out))) (below_size (ztMasks.bl HB)))
      replace HO176 := Aside0.mk (Kd.R_elder' (ztMasks.rl HO176.out) (Kd.R_base ho0) hb)
      replace BK168 := ztMasks.bb BK168 hb
      replace BK169 := ztMasks.bb BK169 hb
      replace BK188 := ztMasks.bb BK188 hb
      replace HB := Aside0.mk (below_step (ztMasks.bl HB) hb)
      (try clear hb)
      (try clear hb2)
      (try clear hk)
      (try clear hi)
      (try clear ho0)
      obtain ⟨Ao37, co37, eo37⟩ := Kd.R_slice HO176.out
      (first | subst eo37 | (injection eo37 with f1_ f2_ f3_; have f4_ := f1_.symm; have f5_ := f3_.symm; clear f1_ f2_ f3_; subst f4_; subst f5_))
      obtain ⟨Ao38, co38, eo38⟩ := Kd.R_slice HO181.out
      (first | subst eo38 | (injection eo38 with f1_ f2_ f3_; have f4_ := f1_.symm; have f5_ := f3_.symm; clear f1_ f2_ f3_; subst f4_; subst f5_))
      refine hK.out _ _ ⟨(blk_cell BK168.out 0).trans rfl, (blk_cell BK168.out 1).trans rfl, (blk_cell BK168.out 2).trans rfl, (blk_cell BK169.out 0).trans rfl, (blk_cell BK169.out 1).trans rfl, (blk_cell BK169.out 2).trans rfl⟩ (fun hHeld => ?_)
      clear hK K
      refine norm_ (a' := ?_) ?_ ?_
      rotate_left
      ·show Act.put _ (some 31) _ = _
       simp only [Act.put, List.setIfInBounds_toArray, List.set_cons_zero, List.set_cons_succ, i64_w, i32_w]
       rfl
      refine one_ (i := 4) (N := some 32) #[true, true, true, true, true, false, false, false, true, false, false] rfl rfl (one_of HT_.out (by kernel_rfl)) (by decide) (fun K hK => ?_)
      refine ztMasks.gs Try.func22 (by kernel_rfl) rfl #[.agg #[.int .i64 t172, .int .i64 t173, .slice Ao37 t174.length co37], .agg #[.int .i64 t177, .int .i64 t178, .slice Ao38 t179.length co38]] (by rfl) rfl rfl ?_
      with_reducible refine (spec_MeetMasks.calls k t172 t173 _ _ t174 t177 t178 _ _ t179 t182 t183 t184 t187 _ ?side1 ?side2 ?side3 ?side4 A21.out).mono ?_
      (case side1 => repeat (first | exact (Kd.R_reads' HO176.out).2.2 | (with_reducible refine Kd.C_alloc ?_ _) | (with_reducible refine Kd.C_drewN ?_ _) | (with_reducible refine Kd.C_drew ?_)))
      (case side2 => exact (Kd.R_reads' HO176.out).2.1)
      (case side3 => repeat (first | exact (Kd.R_reads' HO181.out).2.2 | (with_reducible refine Kd.C_alloc ?_ _) | (with_reducible refine Kd.C_drewN ?_ _) | (with_reducible refine Kd.C_drew ?_)))
      (case side4 => exact (Kd.R_reads' HO181.out).2.1)
      rintro e w39 ⟨v185, rfl, ho0, hb⟩
      refine ⟨_, rfl, ?_⟩
      have HO186 := Aside0.mk (Kd.R_lower (Kd.R_new' (Kd.R_new' ho0 (Kd.R_lt (ztMasks.rl HO176.out))) (Kd.R_lt (ztMasks.rl HO181.out))) (below_size (ztMasks.bl HB)))
      replace HO176 := Aside0.mk (Kd.R_elder' (ztMasks.rl HO176.out) (Kd.R_base ho0) hb)
      replace HO181 := Aside0.mk (Kd.R_elder' (ztMasks.rl HO181.out) (Kd.R_base ho0) hb)
      replace BK168 := ztMasks.bb BK168 hb
      replace BK169 := ztMasks.bb BK169 hb
      replace BK188 := ztMasks.bb BK188 hb
      replace HB := Aside0.mk (below_step (ztMasks.bl HB) hb)
      (try clear hb)
      (try clear hb2)
      (try clear hk)
      (try clear hi)
      (try clear ho0)
      refine hK.out _ _ ⟨(blk_cell BK168.out 0).trans rfl, (blk_cell BK168.out 1).trans rfl, (blk_cell BK168.out 2).trans rfl, (blk_cell BK169.out 0).trans rfl, (blk_cell BK169.out 1).trans rfl, (blk_cell BK169.out 2).trans rfl⟩ (fun hHeld => ?_)
      clear hK K
      refine norm_ (a' := ?_) ?_ ?_
      rotate_left
      ·show Act.put _ (some 32) _ = _
       simp only [Act.put, List.setIfInBounds_toArray, List.set_cons_zero, List.set_cons_succ, i64_w, i32_w]
       rfl
      refine pure_ (i := 5) (N := some 27) (v := ?_) (a' := ?_) #[true, true, true, true, true, true, false, false, true, false, false] rfl rfl (any_of HT_.out (by kernel_rfl)) (fun _ _ _ h => h) (Or.inl ⟨by rfl, ?_⟩) ?_ ?_
      rotate_left
      ·intro w'
       go_simp
       with_reducible rfl
      rotate_left
      ·simp only [Act.put, List.setIfInBounds_toArray, List.set_cons_zero, List.set_cons_succ, i64_w, i32_w]
       rfl
      refine pure_ (i := 6) (N := some 33) (v := ?_) (a' := ?_) #[true, true, true, true, true, true, true, false, true, false, false] rfl rfl (any_of HT_.out (by kernel_rfl)) (fun _ _ _ h => h) (Or.inl ⟨by rfl, ?_⟩) ?_ ?_
      rotate_left
      ·intro w'
       go_simp
       with_reducible rfl
      rotate_left
      ·simp only [Act.put, List.setIfInBounds_toArray, List.set_cons_zero, List.set_cons_succ, i64_w, i32_w]
       rfl
      refine pure_ (i := 7) (N := some 34) (v := ?_) (a' := ?_) #[true, true, true, true, true, true, true, true, true, false, false] rfl rfl (any_of HT_.out (by kernel_rfl)) (fun _ _ _ h => h) (Or.inl ⟨by rfl, ?_⟩) ?_ ?_
      rotate_left
      ·intro w'
       go_simp
       with_reducible rfl
      rotate_left
      ·simp only [Act.put, List.setIfInBounds_toArray, List.set_cons_zero, List.set_cons_succ, i64_w, i32_w]
       rfl
      exact norm_ (by simp only [putAll, Act.put, List.setIfInBounds_toArray, List.set_cons_zero, List.set_cons_succ]) (hCont (.slice Ao37 t174.length co37, .slice Ao38 t179.length co38, v185, gb188) _ ⟨hHeld, (ztMasks.rl (Kd.R_mono HO176.out (fun _ hk => ⟨hk.1.2, hk.2⟩))), (ztMasks.rl (Kd.R_mono HO181.out (fun _ hk => ⟨hk.1.2, hk.2⟩))), (ztMasks.rl (Kd.R_mono HO186.out (fun _ hk => ⟨hk.1.2, hk.2⟩))), (ztMasks.bk BK168), (ztMasks.bk BK169), (ztMasks.bk BK188), GW188.out, GE188.out, NB168_188.out, NB188_168.out, NB169_188.out, NB188_169.out, (ztMasks.bl HB)⟩)
    ·skip
     refine box_step ?hg (N := 6) ?hd (cs := #[.int .i64 0, .int .i64 0, .slice none 0 0]) (t := 37) ?hr ?_; (case hd => rfl); (case hg => rfl); (case hr => first | (go_simp; done) | (go_simp; rfl))
     intro gb188 hg w34 hbox hb
     have BK188 := Aside0.mk (hbox)
     have GW188 := Aside0.mk ((by rw [hg]; exact (below_size (ztMasks.bl HB)) : w.heap.size ≤ gb188))
     have GE188 := Aside0.mk ((by rw [hg]; exact (below_size (ztMasks.bl HB)) : w.heap.size ≤ gb188))
     replace HB := Aside0.mk (below_step (ztMasks.bl HB) hb)
     have NB168_188 := ztMasks.ht BK168 hg
     have NB188_168 := ztMasks.hu BK168 hg
     replace BK168 := ztMasks.bb BK168 hb
     have NB169_188 := ztMasks.ht BK169 hg
     have NB188_169 := ztMasks.hu BK169 hg
     replace BK169 := ztMasks.bb BK169 hb
     clear hb hbox hg
     refine hK.out _ _ ⟨(blk_cell BK168.out 0).trans rfl, (blk_cell BK168.out 1).trans rfl, (blk_cell BK168.out 2).trans rfl, (blk_cell BK169.out 0).trans rfl, (blk_cell BK169.out 1).trans rfl, (blk_cell BK169.out 2).trans rfl⟩ (fun hHeld => ?_)
     clear hK K
     refine norm_ (a' := ?_) ?_ ?_
     rotate_left
     ·show Act.put _ (some 6) _ = _
      simp only [Act.put, List.setIfInBounds_toArray, List.set_cons_zero, List.set_cons_succ, i64_w, i32_w]
      rfl
     refine one_ (i := 1) (N := some 29) #[true, true, true, false, false, false, false, false, true, false, false] rfl rfl (one_of HT_.out (by kernel_rfl)) (by decide) (fun K hK => ?_)
     refine ztMasks.gs Try.func23 (by kernel_rfl) rfl #[.agg #[.int .i64 a0_0, .int .i64 a0_1, .slice A0_2 l0_2.length c0_2]] (by rfl) rfl rfl ?_
     with_reducible refine (laws_toMask.calls k a0_0 a0_1 _ _ l0_2 t172 t173 t174 _ ?side1 ?side2 A19.out).mono ?_
     (case side1 => repeat (first | exact (Kd.C_below HR0_2.out HB.out) | (with_reducible refine Kd.C_alloc ?_ _) | (with_reducible refine Kd.C_drewN ?_ _) | (with_reducible refine Kd.C_drew ?_)))
     (case side2 => exact HC0_2.out)
     rintro e w35 ⟨v175, rfl, ho0, hb⟩
     refine ⟨_, rfl, ?_⟩
     have HO176 := Aside0.mk (Kd.R_lower ho0 (below_size (ztMasks.bl HB)))
     replace BK168 := ztMasks.bb BK168 hb
     replace BK169 := ztMasks.bb BK169 hb
     replace BK188 := ztMasks.bb BK188 hb
     replace HB := Aside0.mk (below_step (ztMasks.bl HB) hb)
     (try clear hb)
     (try clear hb2)
     (try clear hk)
     (try clear hi)
     (try clear ho0)
     refine hK.out _ _ ⟨(blk_cell BK168.out 0).trans rfl, (blk_cell BK168.out 1).trans rfl, (blk_cell BK168.out 2).trans rfl, (blk_cell BK169.out 0).trans rfl, (blk_cell BK169.out 1).trans rfl, (blk_cell BK169.out 2).trans rfl⟩ (fun hHeld => ?_)
     clear hK K
     refine norm_ (a' := ?_) ?_ ?_
     rotate_left
     ·show Act.put _ (some 29) _ = _
      simp only [Act.put, List.setIfInBounds_toArray, List.set_cons_zero, List.set_cons_succ, i64_w, i32_w]
      rfl
     refine one_ (i := 3) (N := some 31) #[true, true, true, true, false, false, false, false, true, false, false] rfl rfl (one_of HT_.out (by kernel_rfl)) (by decide) (fun K hK => ?_)
     refine ztMasks.gs Try.func23 (by kernel_rfl) rfl #[.agg #[.int .i64 a1_0, .int .i64 a1_1, .slice A1_2 l1_2.length c1_2]] (by rfl) rfl rfl ?_
     with_reducible refine (laws_toMask.calls k a1_0 a1_1 _ _ l1_2 t177 t178 t179 _ ?side1 ?side2 A20.out).mono ?_
     (case side1 => repeat (first | exact (Kd.C_below HR1_2.out HB.out) | (with_reducible refine Kd.C_alloc ?_ _) | (with_reducible refine Kd.C_drewN ?_ _) | (with_reducible refine Kd.C_drew ?_)))
     (case side2 => exact HC1_2.out)
     rintro e w36 ⟨v180, rfl, ho0, hb⟩
     refine ⟨_, rfl, ?_⟩
     have HO181 := Aside0.mk (Kd.R_lower (Kd.R_new' ho0 (Kd.R_lt (ztMasks.rl HO176.out))) (below_size (ztMasks.bl HB)))
     replace HO176 := Aside0.mk (Kd.R_elder' (ztMasks.rl HO176.out) (Kd.R_base ho0) hb)
     replace BK168 := ztMasks.bb BK168 hb
     replace BK169 := ztMasks.bb BK169 hb
     replace BK188 := ztMasks.bb BK188 hb
     replace HB := Aside0.mk (below_step (ztMasks.bl HB) hb)
     (try clear hb)
     (try clear hb2)
     (try clear hk)
     (try clear hi)
     (try clear ho0)
     obtain ⟨Ao37, co37, eo37⟩ := Kd.R_slice HO176.out
     (first | subst eo37 | (injection eo37 with f1_ f2_ f3_; have f4_ := f1_.symm; have f5_ := f3_.symm; clear f1_ f2_ f3_; subst f4_; subst f5_))
     obtain ⟨Ao38, co38, eo38⟩ := Kd.R_slice HO181.out
     (first | subst eo38 | (injection eo38 with f1_ f2_ f3_; have f4_ := f1_.symm; have f5_ := f3_.symm; clear f1_ f2_ f3_; subst f4_; subst f5_))
     refine hK.out _ _ ⟨(blk_cell BK168.out 0).trans rfl, (blk_cell BK168.out 1).trans rfl, (blk_cell BK168.out 2).trans rfl, (blk_cell BK169.out 0).trans rfl, (blk_cell BK169.out 1).trans rfl, (blk_cell BK169.out 2).trans rfl⟩ (fun hHeld => ?_)
     clear hK K
     refine norm_ (a' := ?_) ?_ ?_
     rotate_left
     ·show Act.put _ (some 31) _ = _
      simp only [Act.put, List.setIfInBounds_toArray, List.set_cons_zero, List.set_cons_succ, i64_w, i32_w]
      rfl
     refine one_ (i := 4) (N := some 32) #[true, true, true, true, true, false, false, false, true, false, false] rfl rfl (one_of HT_.out (by kernel_rfl)) (by decide) (fun K hK => ?_)
     refine ztMasks.gs Try.func22 (by kernel_rfl) rfl #[.agg #[.int .i64 t172, .int .i64 t173, .slice Ao37 t174.length co37], .agg #[.int .i64 t177, .int .i64 t178, .slice Ao38 t179.length co38]] (by rfl) rfl rfl ?_
     with_reducible refine (spec_MeetMasks.calls k t172 t173 _ _ t174 t177 t178 _ _ t179 t182 t183 t184 t187 _ ?side1 ?side2 ?side3 ?side4 A21.out).mono ?_
     (case side1 => repeat (first | exact (Kd.R_reads' HO176.out).2.2 | (with_reducible refine Kd.C_alloc ?_ _) | (with_reducible refine Kd.C_drewN ?_ _) | (with_reducible refine Kd.C_drew ?_)))
     (case side2 => exact (Kd.R_reads' HO176.out).2.1)
     (case side3 => repeat (first | exact (Kd.R_reads' HO181.out).2.2 | (with_reducible refine Kd.C_alloc ?_ _) | (with_reducible refine Kd.C_drewN ?_ _) | (with_reducible refine Kd.C_drew ?_)))
     (case side4 => exact (Kd.R_reads' HO181.out).2.1)
     rintro e w39 ⟨v185, rfl, ho0, hb⟩
     refine ⟨_, rfl, ?_⟩
     have HO186 := Aside0.mk (Kd.R_lower (Kd.R_new' (Kd.R_new' ho0 (Kd.R_lt (ztMasks.rl HO176.out))) (Kd.R_lt (ztMasks.rl HO181.out))) (below_size (ztMasks.bl HB)))
     replace HO176 := Aside0.mk (Kd.R_elder' (ztMasks.rl HO176.out) (Kd.R_base ho0) hb)
     replace HO181 := Aside0.mk (Kd.R_elder' (ztMasks.rl HO181.out) (Kd.R_base ho0) hb)
     replace BK168 := ztMasks.bb BK168 hb
     replace BK169 := ztMasks.bb BK169 hb
     replace BK188 := ztMasks.bb BK188 hb
     replace HB := Aside0.mk (below_step (ztMasks.bl HB) hb)
     (try clear hb)
     (try clear hb2)
     (try clear hk)
     (try clear hi)
     (try clear ho0)
     refine hK.out _ _ ⟨(blk_cell BK168.out 0).trans rfl, (blk_cell BK168.out 1).trans rfl, (blk_cell BK168.out 2).trans rfl, (blk_cell BK169.out 0).trans rfl, (blk_cell BK169.out 1).trans rfl, (blk_cell BK169.out 2).trans rfl⟩ (fun hHeld => ?_)
     clear hK K
     refine norm_ (a' := ?_) ?_ ?_
     rotate_left
     ·show Act.put _ (some 32) _ = _
      simp only [Act.put, List.setIfInBounds_toArray, List.set_cons_zero, List.set_cons_succ, i64_w, i32_w]
      rfl
     refine pure_ (i := 5) (N := some 27) (v := ?_) (a' := ?_) #[true, true, true, true, true, true, false, false, true, false, false] rfl rfl (any_of HT_.out (by kernel_rfl)) (fun _ _ _ h => h) (Or.inl ⟨by rfl, ?_⟩) ?_ ?_
     rotate_left
     ·intro w'
      go_simp
      with_reducible rfl
     rotate_left
     ·simp only [Act.put, List.setIfInBounds_toArray, List.set_cons_zero, List.set_cons_succ, i64_w, i32_w]
      rfl
     refine pure_ (i := 6) (N := some 33) (v := ?_) (a' := ?_) #[true, true, true, true, true, true, true, false, true, false, false] rfl rfl (any_of HT_.out (by kernel_rfl)) (fun _ _ _ h => h) (Or.inl ⟨by rfl, ?_⟩) ?_ ?_
     rotate_left
     ·intro w'
      go_simp
      with_reducible rfl
     rotate_left
     ·simp only [Act.put, List.setIfInBounds_toArray, List.set_cons_zero, List.set_cons_succ, i64_w, i32_w]
      rfl
     refine pure_ (i := 7) (N := some 34) (v := ?_) (a' := ?_) #[true, true, true, true, true, true, true, true, true, false, false] rfl rfl (any_of HT_.out (by kernel_rfl)) (fun _ _ _ h => h) (Or.inl ⟨by rfl, ?_⟩) ?_ ?_
     rotate_left
     ·intro w'
      go_simp
      with_reducible rfl
     rotate_left
     ·simp only [Act.put, List.setIfInBounds_toArray, List.set_cons_zero, List.set_cons_succ, i64_w, i32_w]
      rfl
     exact norm_ (by simp only [putAll, Act.put, List.setIfInBounds_toArray, List.set_cons_zero, List.set_cons_succ]) (hCont (.slice Ao37 t174.length co37, .slice Ao38 t179.length co38, v185, gb188) _ ⟨hHeld, (ztMasks.rl (Kd.R_mono HO176.out (fun _ hk => ⟨hk.1.2, hk.2⟩))), (ztMasks.rl (Kd.R_mono HO181.out (fun _ hk => ⟨hk.1.2, hk.2⟩))), (ztMasks.rl (Kd.R_mono HO186.out (fun _ hk => ⟨hk.1.2, hk.2⟩))), (ztMasks.bk BK168), (ztMasks.bk BK169), (ztMasks.bk BK188), GW188.out, GE188.out, NB168_188.out, NB188_168.out, NB169_188.out, NB188_169.out, (ztMasks.bl HB)⟩)
   rintro ⟨v175, v180, v185, gb188⟩ w40 ⟨hS_, h0_, h1_, h2_, h3_, h4_, h5_, h6_, h7_, h8_, h9_, h10_, h11_, h12_⟩
   have n0_ : Aside0 (Kd.R (Kd.int .i64) 3 w40 w.heap.size (fun k_ => some k_ ≠ (v180 : Value).ownBlock ∧ some k_ ≠ (v185 : Value).ownBlock) v175 t174) := ⟨h0_⟩
   have n1_ : Aside0 (Kd.R (Kd.int .i64) 3 w40 w.heap.size (fun k_ => some k_ ≠ (v175 : Value).ownBlock ∧ some k_ ≠ (v185 : Value).ownBlock) v180 t179) := ⟨h1_⟩
   have n2_ : Aside0 (Kd.R (Kd.int .i64) 3 w40 w.heap.size (fun k_ => some k_ ≠ (v175 : Value).ownBlock ∧ some k_ ≠ (v180 : Value).ownBlock) v185 t184) := ⟨h2_⟩
   have n3_ : Aside0 (w40.heap[gb168]? = some (.cells #[.int .i64 a0_0, .int .i64 a0_1, .slice A0_2 l0_2.length c0_2] 35 (0, 0))) := ⟨h3_⟩
   have n4_ : Aside0 (w40.heap[gb169]? = some (.cells #[.int .i64 a1_0, .int .i64 a1_1, .slice A1_2 l1_2.length c1_2] 35 (0, 0))) := ⟨h4_⟩
   have n5_ : Aside0 (w40.heap[gb188]? = some (.cells #[.int .i64 0, .int .i64 0, .slice none 0 0] 37 (0, 0))) := ⟨h5_⟩
   have n6_ : Aside0 (w.heap.size ≤ gb188) := ⟨h6_⟩
   have n7_ : Aside0 (w.heap.size ≤ gb188) := ⟨h7_⟩
   have n8_ : Aside0 (gb168 ≠ gb188) := ⟨h8_⟩
   have n9_ : Aside0 (gb188 ≠ gb168) := ⟨h9_⟩
   have n10_ : Aside0 (gb169 ≠ gb188) := ⟨h10_⟩
   have n11_ : Aside0 (gb188 ≠ gb169) := ⟨h11_⟩
   have n12_ : Aside0 (Below w.heap.size w w40) := ⟨h12_⟩
   clear BK168
   clear BK169
   clear HB
   clear h0_ h1_ h2_ h3_ h4_ h5_ h6_ h7_ h8_ h9_ h10_ h11_ h12_
   have HO176 := n0_
   have HO181 := n1_
   have HO186 := n2_
   have BK168 := n3_
   have BK169 := n4_
   have BK188 := n5_
   have GW188 := n6_
   have GE188 := n7_
   have NB168_188 := n8_
   have NB188_168 := n9_
   have NB169_188 := n10_
   have NB188_169 := n11_
   have HB := n12_
   clear n0_ n1_ n2_ n3_ n4_ n5_ n6_ n7_ n8_ n9_ n10_ n11_ n12_
   have hHeld : w40.cell? ⟨gb168, 0, none⟩ = some (.int .i64 a0_0) ∧ w40.cell? ⟨gb168, 1, none⟩ = some (.int .i64 a0_1) ∧ w40.cell? ⟨gb168, 2, none⟩ = some (.slice A0_2 l0_2.length c0_2) ∧ w40.cell? ⟨gb169, 0, none⟩ = some (.int .i64 a1_0) ∧ w40.cell? ⟨gb169, 1, none⟩ = some (.int .i64 a1_1) ∧ w40.cell? ⟨gb169, 2, none⟩ = some (.slice A1_2 l1_2.length c1_2) := hS_
   obtain ⟨Ao43, co43, eo43⟩ := Kd.R_slice HO186.out
   (first | subst eo43 | (injection eo43 with f1_ f2_ f3_; have f4_ := f1_.symm; have f5_ := f3_.symm; clear f1_ f2_ f3_; subst f4_; subst f5_))
   refine norm_ (a' := ?_) ?_ ?_
   rotate_left
   ·simp only [putAll, Act.put, List.setIfInBounds_toArray, List.set_cons_zero, List.set_cons_succ]
    rfl
   refine one_ (i := 9) (N := none) #[true, true, true, true, true, true, true, true, true, true, false] rfl rfl (one_of HT_.out (by kernel_rfl)) (by decide) (fun K hK => ?_)
   have hs41 : w40.cell? ⟨gb188, 0, none⟩ = some (.int .i64 0) := (blk_cell BK188.out 0).trans rfl
   have hfs41 := blk_frozen BK188.out 0
   have hns41_0 := NB168_188.out
   have hns41_1 := NB169_188.out
   have hms41_0 := NB188_168.out
   have hms41_1 := NB188_169.out
   have hs42 : w40.cell? ⟨gb188, 1, none⟩ = some (.int .i64 0) := (blk_cell BK188.out 1).trans rfl
   have hfs42 := blk_frozen BK188.out 1
   have hns42_0 := NB168_188.out
   have hns42_1 := NB169_188.out
   have hms42_0 := NB188_168.out
   have hms42_1 := NB188_169.out
   have hs44 : w40.cell? ⟨gb188, 2, none⟩ = some (.slice none 0 0) := (blk_cell BK188.out 2).trans rfl
   have hfs44 := blk_frozen BK188.out 2
   have hns44_0 := NB168_188.out
   have hns44_1 := NB169_188.out
   have hms44_0 := NB188_168.out
   have hms44_1 := NB188_169.out
   refine skip_ (w1 := ?_) (by rfl) rfl ?_ ?_
   rotate_left
   ·go_simp
    rfl
   refine hK.out _ _ ⟨((cell_far (p := ⟨gb188, _, none⟩) NB168_188.out _).trans (((cell_far (p := ⟨gb188, _, none⟩) NB168_188.out _).trans (((cell_far (p := ⟨gb188, _, none⟩) NB168_188.out _).trans (hHeld.1)))))), ((cell_far (p := ⟨gb188, _, none⟩) NB168_188.out _).trans (((cell_far (p := ⟨gb188, _, none⟩) NB168_188.out _).trans (((cell_far (p := ⟨gb188, _, none⟩) NB168_188.out _).trans (hHeld.2.1)))))), ((cell_far (p := ⟨gb188, _, none⟩) NB168_188.out _).trans (((cell_far (p := ⟨gb188, _, none⟩) NB168_188.out _).trans (((cell_far (p := ⟨gb188, _, none⟩) NB168_188.out _).trans (hHeld.2.2.1)))))), ((cell_far (p := ⟨gb188, _, none⟩) NB169_188.out _).trans (((cell_far (p := ⟨gb188, _, none⟩) NB169_188.out _).trans (((cell_far (p := ⟨gb188, _, none⟩) NB169_188.out _).trans (hHeld.2.2.2.1)))))), ((cell_far (p := ⟨gb188, _, none⟩) NB169_188.out _).trans (((cell_far (p := ⟨gb188, _, none⟩) NB169_188.out _).trans (((cell_far (p := ⟨gb188, _, none⟩) NB169_188.out _).trans (hHeld.2.2.2.2.1)))))), ((cell_far (p := ⟨gb188, _, none⟩) NB169_188.out _).trans (((cell_far (p := ⟨gb188, _, none⟩) NB169_188.out _).trans (((cell_far (p := ⟨gb188, _, none⟩) NB169_188.out _).trans (hHeld.2.2.2.2.2))))))⟩ (fun hHeld => ?_)
   clear hK K
   refine pure_ (i := 10) (N := some 7) (v := ?_) (a' := ?_) #[true, true, true, true, true, true, true, true, true, true, true] rfl rfl (any_of HT_.out (by kernel_rfl)) (fun _ _ _ h => h) (Or.inl ⟨by rfl, ?_⟩) ?_ ?_
   rotate_left
   ·intro w'
    go_simp
    with_reducible rfl
   rotate_left
   ·simp only [Act.put, List.setIfInBounds_toArray, List.set_cons_zero, List.set_cons_succ, i64_w, i32_w]
    rfl
   refine done_ (done_of HT_.out (by kernel_rfl)) ?_
   have hnb45 := NB168_188.out
   have hnc45 := NB188_168.out
   have hcz46_0 : w40.cell? ⟨gb168, 0, none⟩ = some (.int .i64 a0_0) := (blk_cell BK168.out 0).trans rfl
   have hcz46_1 : w40.cell? ⟨gb168, 1, none⟩ = some (.int .i64 a0_1) := (blk_cell BK168.out 1).trans rfl
   have hcz46_2 : w40.cell? ⟨gb168, 2, none⟩ = some (.slice A0_2 l0_2.length c0_2) := (blk_cell BK168.out 2).trans rfl
   have hfz46_0 := blk_frozen BK168.out 0
   have hfz46_1 := blk_frozen BK168.out 1
   have hfz46_2 := blk_frozen BK168.out 2
   go_upto_region 12 with (first | ((with_reducible refine gate_callee (f := 23) rfl ?_); refine ztMasks.gl (some 36) rfl rfl Try.func23 (by kernel_rfl) rfl #[.agg #[.int .i64 a0_0, .int .i64 a0_1, .slice A0_2 l0_2.length c0_2]] rfl ?_; (with_reducible refine (laws_toMask.calls k a0_0 a0_1 _ _ l0_2 t189 t190 t191 _ ?side1 ?side2 A22.out).mono ?_); (case side1 => exact Kd.C_below HR0_2.out (ztMasks.bl HB)); (case side2 => exact HC0_2.out); rintro e w47 ⟨v192, rfl, ho0, hb⟩; refine ⟨_, rfl, ?_⟩; have HO193 := Aside0.mk (Kd.R_lower (Kd.R_new' (Kd.R_new' (Kd.R_new' ho0 (Kd.R_lt (ztMasks.rl ((Kd.R_mono (Kd.R_far (p := ⟨gb188, 2, none⟩) (Kd.R_far (p := ⟨gb188, 1, none⟩) (Kd.R_far (p := ⟨gb188, 0, none⟩) (Kd.R_types HO176.out BK188.out (by decide)) (fun _ hk => hk.2) (.int .i64 t182)) (fun _ hk => hk.2) (.int .i64 t183)) (fun _ hk => hk.2) (.slice Ao43 t184.length co43)) (fun _ h_ => h_.1)))))) (Kd.R_lt (ztMasks.rl ((Kd.R_mono (Kd.R_far (p := ⟨gb188, 2, none⟩) (Kd.R_far (p := ⟨gb188, 1, none⟩) (Kd.R_far (p := ⟨gb188, 0, none⟩) (Kd.R_types HO181.out BK188.out (by decide)) (fun _ hk => hk.2) (.int .i64 t182)) (fun _ hk => hk.2) (.int .i64 t183)) (fun _ hk => hk.2) (.slice Ao43 t184.length co43)) (fun _ h_ => h_.1)))))) (Kd.R_lt (ztMasks.rl ((Kd.R_mono (Kd.R_far (p := ⟨gb188, 2, none⟩) (Kd.R_far (p := ⟨gb188, 1, none⟩) (Kd.R_far (p := ⟨gb188, 0, none⟩) (Kd.R_types HO186.out BK188.out (by decide)) (fun _ hk => hk.2) (.int .i64 t182)) (fun _ hk => hk.2) (.int .i64 t183)) (fun _ hk => hk.2) (.slice Ao43 t184.length co43)) (fun _ h_ => h_.1)))))) (below_size (ztMasks.bl HB))); replace HO176 := Aside0.mk (Kd.R_elder' (ztMasks.rl ((Kd.R_mono (Kd.R_far (p := ⟨gb188, 2, none⟩) (Kd.R_far (p := ⟨gb188, 1, none⟩) (Kd.R_far (p := ⟨gb188, 0, none⟩) (Kd.R_types HO176.out BK188.out (by decide)) (fun _ hk => hk.2) (.int .i64 t182)) (fun _ hk => hk.2) (.int .i64 t183)) (fun _ hk => hk.2) (.slice Ao43 t184.length co43)) (fun _ h_ => h_.1)))) (Kd.R_base ho0) hb); replace HO181 := Aside0.mk (Kd.R_elder' (ztMasks.rl ((Kd.R_mono (Kd.R_far (p := ⟨gb188, 2, none⟩) (Kd.R_far (p := ⟨gb188, 1, none⟩) (Kd.R_far (p := ⟨gb188, 0, none⟩) (Kd.R_types HO181.out BK188.out (by decide)) (fun _ hk => hk.2) (.int .i64 t182)) (fun _ hk => hk.2) (.int .i64 t183)) (fun _ hk => hk.2) (.slice Ao43 t184.length co43)) (fun _ h_ => h_.1)))) (Kd.R_base ho0) hb); replace HO186 := Aside0.mk (Kd.R_elder' (ztMasks.rl ((Kd.R_mono (Kd.R_far (p := ⟨gb188, 2, none⟩) (Kd.R_far (p := ⟨gb188, 1, none⟩) (Kd.R_far (p := ⟨gb188, 0, none⟩) (Kd.R_types HO186.out BK188.out (by decide)) (fun _ hk => hk.2) (.int .i64 t182)) (fun _ hk => hk.2) (.int .i64 t183)) (fun _ hk => hk.2) (.slice Ao43 t184.length co43)) (fun _ h_ => h_.1)))) (Kd.R_base ho0) hb); replace BK168 := Aside0.mk (blk_below (g := gb168) (o := .cells #[.int .i64 a0_0, .int .i64 a0_1, .slice A0_2 l0_2.length c0_2] 35 (0, 0)) (ztMasks.bf BK168) hb); replace BK169 := Aside0.mk (blk_below (g := gb169) (o := .cells #[.int .i64 a1_0, .int .i64 a1_1, .slice A1_2 l1_2.length c1_2] 35 (0, 0)) (ztMasks.bf BK169) hb); replace BK188 := Aside0.mk (blk_below (g := gb188) (o := .cells #[.int .i64 t182, .int .i64 t183, .slice Ao43 t184.length co43] 37 (0, 0)) (by (with_reducible repeat (first | refine blk_drewN ?_ _ | refine blk_drew ?_ | refine blk_alloc ?_ _)); refine blk_put (cs := #[.int .i64 t182, .int .i64 t183, .slice none 0 0]) ?_ 2 _ rfl; (with_reducible repeat (first | refine blk_drewN ?_ _ | refine blk_drew ?_ | refine blk_alloc ?_ _)); refine blk_put (cs := #[.int .i64 t182, .int .i64 0, .slice none 0 0]) ?_ 1 _ rfl; (with_reducible repeat (first | refine blk_drewN ?_ _ | refine blk_drew ?_ | refine blk_alloc ?_ _)); refine blk_put (cs := #[.int .i64 0, .int .i64 0, .slice none 0 0]) ?_ 0 _ rfl; (with_reducible repeat (first | refine blk_drewN ?_ _ | refine blk_drew ?_ | refine blk_alloc ?_ _)); exact BK188.out) hb); replace HB := Aside0.mk (below_step (ztMasks.bl HB) hb); (try clear hb); (try clear hb2); (try clear hk); (try clear hi); (try clear ho0)) | ((with_reducible refine gate_dst (N := 8) rfl ?_); refine box_event ?hg (N := 8) ?hd (cs := #[.int .i64 0, .int .i64 0, .slice none 0 0]) (t := 37) ?hr ?_; (case hd => rfl); (case hg => rfl); (case hr => first | (go_simp; done) | (go_simp; rfl)); intro gb194 hg w48 hbox hb; replace HO176 := ztMasks.rb HO176 hb; replace HO181 := ztMasks.rb HO181 hb; replace HO186 := ztMasks.rb HO186 hb; replace HO193 := ztMasks.rb HO193 hb; have BK194 := Aside0.mk (hbox); have GW194 := Aside0.mk ((by rw [hg]; exact (below_size (ztMasks.bl HB)) : w.heap.size ≤ gb194)); have GE194 := Aside0.mk ((by rw [hg]; exact (below_size (ztMasks.bl HB)) : w.heap.size ≤ gb194)); replace HB := Aside0.mk (below_step (ztMasks.bl HB) hb); have NB168_194 := ztMasks.ht BK168 hg; have NB194_168 := ztMasks.hu BK168 hg; replace BK168 := ztMasks.bb BK168 hb; have NB169_194 := ztMasks.ht BK169 hg; have NB194_169 := ztMasks.hu BK169 hg; replace BK169 := ztMasks.bb BK169 hb; have NB188_194 := ztMasks.ht BK188 hg; have NB194_188 := ztMasks.hu BK188 hg; replace BK188 := ztMasks.bb BK188 hb; clear hb hbox hg; have hnb49 := NB194_168.out; have hnc49 := NB168_194.out; have hnb50 := NB194_169.out; have hnc50 := NB169_194.out; have hnb51 := NB194_188.out; have hnc51 := NB188_194.out; have hcz52_0 : w48.cell? ⟨gb194, 0, none⟩ = some (.int .i64 0) := (blk_cell BK194.out 0).trans rfl; have hcz52_1 : w48.cell? ⟨gb194, 1, none⟩ = some (.int .i64 0) := (blk_cell BK194.out 1).trans rfl; have hcz52_2 : w48.cell? ⟨gb194, 2, none⟩ = some (.slice none 0 0) := (blk_cell BK194.out 2).trans rfl; have hfz52_0 := blk_frozen BK194.out 0; have hfz52_1 := blk_frozen BK194.out 1; have hfz52_2 := blk_frozen BK194.out 2; obtain ⟨Ao53, co53, eo53⟩ := Kd.R_slice HO193.out; subst eo53; have hnb54 := NB169_188.out; have hnc54 := NB188_169.out; have hcz55_0 : w48.cell? ⟨gb169, 0, none⟩ = some (.int .i64 a1_0) := (blk_cell BK169.out 0).trans rfl; have hcz55_1 : w48.cell? ⟨gb169, 1, none⟩ = some (.int .i64 a1_1) := (blk_cell BK169.out 1).trans rfl; have hcz55_2 : w48.cell? ⟨gb169, 2, none⟩ = some (.slice A1_2 l1_2.length c1_2) := (blk_cell BK169.out 2).trans rfl; have hfz55_0 := blk_frozen BK169.out 0; have hfz55_1 := blk_frozen BK169.out 1; have hfz55_2 := blk_frozen BK169.out 2) | ((with_reducible refine gate_callee (f := 23) rfl ?_); refine ztMasks.gl (some 38) rfl rfl Try.func23 (by kernel_rfl) rfl #[.agg #[.int .i64 a1_0, .int .i64 a1_1, .slice A1_2 l1_2.length c1_2]] rfl ?_; (with_reducible refine (laws_toMask.calls k a1_0 a1_1 _ _ l1_2 t195 t196 t197 _ ?side1 ?side2 A23.out).mono ?_); (case side1 => exact Kd.C_below HR1_2.out (ztMasks.bl HB)); (case side2 => exact HC1_2.out); rintro e w56 ⟨v198, rfl, ho0, hb⟩; refine ⟨_, rfl, ?_⟩; have HO199 := Aside0.mk (Kd.R_lower (Kd.R_new' (Kd.R_new' (Kd.R_new' (Kd.R_new' ho0 (Kd.R_lt (ztMasks.rl ((Kd.R_mono (Kd.R_far (p := ⟨gb194, 2, none⟩) (Kd.R_far (p := ⟨gb194, 1, none⟩) (Kd.R_far (p := ⟨gb194, 0, none⟩) (Kd.R_types HO176.out BK194.out (by decide)) (fun _ hk => hk.2) (.int .i64 t189)) (fun _ hk => hk.2) (.int .i64 t190)) (fun _ hk => hk.2) (.slice Ao53 t191.length co53)) (fun _ h_ => h_.1)))))) (Kd.R_lt (ztMasks.rl ((Kd.R_mono (Kd.R_far (p := ⟨gb194, 2, none⟩) (Kd.R_far (p := ⟨gb194, 1, none⟩) (Kd.R_far (p := ⟨gb194, 0, none⟩) (Kd.R_types HO181.out BK194.out (by decide)) (fun _ hk => hk.2) (.int .i64 t189)) (fun _ hk => hk.2) (.int .i64 t190)) (fun _ hk => hk.2) (.slice Ao53 t191.length co53)) (fun _ h_ => h_.1)))))) (Kd.R_lt (ztMasks.rl ((Kd.R_mono (Kd.R_far (p := ⟨gb194, 2, none⟩) (Kd.R_far (p := ⟨gb194, 1, none⟩) (Kd.R_far (p := ⟨gb194, 0, none⟩) (Kd.R_types HO186.out BK194.out (by decide)) (fun _ hk => hk.2) (.int .i64 t189)) (fun _ hk => hk.2) (.int .i64 t190)) (fun _ hk => hk.2) (.slice Ao53 t191.length co53)) (fun _ h_ => h_.1)))))) (Kd.R_lt (ztMasks.rl ((Kd.R_mono (Kd.R_far (p := ⟨gb194, 2, none⟩) (Kd.R_far (p := ⟨gb194, 1, none⟩) (Kd.R_far (p := ⟨gb194, 0, none⟩) (Kd.R_types HO193.out BK194.out (by decide)) (fun _ hk => hk.2) (.int .i64 t189)) (fun _ hk => hk.2) (.int .i64 t190)) (fun _ hk => hk.2) (.slice Ao53 t191.length co53)) (fun _ h_ => h_.1)))))) (below_size (ztMasks.bl HB))); replace HO176 := Aside0.mk (Kd.R_elder' (ztMasks.rl ((Kd.R_mono (Kd.R_far (p := ⟨gb194, 2, none⟩) (Kd.R_far (p := ⟨gb194, 1, none⟩) (Kd.R_far (p := ⟨gb194, 0, none⟩) (Kd.R_types HO176.out BK194.out (by decide)) (fun _ hk => hk.2) (.int .i64 t189)) (fun _ hk => hk.2) (.int .i64 t190)) (fun _ hk => hk.2) (.slice Ao53 t191.length co53)) (fun _ h_ => h_.1)))) (Kd.R_base ho0) hb); replace HO181 := Aside0.mk (Kd.R_elder' (ztMasks.rl ((Kd.R_mono (Kd.R_far (p := ⟨gb194, 2, none⟩) (Kd.R_far (p := ⟨gb194, 1, none⟩) (Kd.R_far (p := ⟨gb194, 0, none⟩) (Kd.R_types HO181.out BK194.out (by decide)) (fun _ hk => hk.2) (.int .i64 t189)) (fun _ hk => hk.2) (.int .i64 t190)) (fun _ hk => hk.2) (.slice Ao53 t191.length co53)) (fun _ h_ => h_.1)))) (Kd.R_base ho0) hb); replace HO186 := Aside0.mk (Kd.R_elder' (ztMasks.rl ((Kd.R_mono (Kd.R_far (p := ⟨gb194, 2, none⟩) (Kd.R_far (p := ⟨gb194, 1, none⟩) (Kd.R_far (p := ⟨gb194, 0, none⟩) (Kd.R_types HO186.out BK194.out (by decide)) (fun _ hk => hk.2) (.int .i64 t189)) (fun _ hk => hk.2) (.int .i64 t190)) (fun _ hk => hk.2) (.slice Ao53 t191.length co53)) (fun _ h_ => h_.1)))) (Kd.R_base ho0) hb); replace HO193 := Aside0.mk (Kd.R_elder' (ztMasks.rl ((Kd.R_mono (Kd.R_far (p := ⟨gb194, 2, none⟩) (Kd.R_far (p := ⟨gb194, 1, none⟩) (Kd.R_far (p := ⟨gb194, 0, none⟩) (Kd.R_types HO193.out BK194.out (by decide)) (fun _ hk => hk.2) (.int .i64 t189)) (fun _ hk => hk.2) (.int .i64 t190)) (fun _ hk => hk.2) (.slice Ao53 t191.length co53)) (fun _ h_ => h_.1)))) (Kd.R_base ho0) hb); replace BK168 := Aside0.mk (blk_below (g := gb168) (o := .cells #[.int .i64 a0_0, .int .i64 a0_1, .slice A0_2 l0_2.length c0_2] 35 (0, 0)) (ztMasks.bf BK168) hb); replace BK169 := Aside0.mk (blk_below (g := gb169) (o := .cells #[.int .i64 a1_0, .int .i64 a1_1, .slice A1_2 l1_2.length c1_2] 35 (0, 0)) (ztMasks.bf BK169) hb); replace BK188 := Aside0.mk (blk_below (g := gb188) (o := .cells #[.int .i64 t182, .int .i64 t183, .slice Ao43 t184.length co43] 37 (0, 0)) (ztMasks.bf BK188) hb); replace BK194 := Aside0.mk (blk_below (g := gb194) (o := .cells #[.int .i64 t189, .int .i64 t190, .slice Ao53 t191.length co53] 37 (0, 0)) (by (with_reducible repeat (first | refine blk_drewN ?_ _ | refine blk_drew ?_ | refine blk_alloc ?_ _)); refine blk_put (cs := #[.int .i64 t189, .int .i64 t190, .slice none 0 0]) ?_ 2 _ rfl; (with_reducible repeat (first | refine blk_drewN ?_ _ | refine blk_drew ?_ | refine blk_alloc ?_ _)); refine blk_put (cs := #[.int .i64 t189, .int .i64 0, .slice none 0 0]) ?_ 1 _ rfl; (with_reducible repeat (first | refine blk_drewN ?_ _ | refine blk_drew ?_ | refine blk_alloc ?_ _)); refine blk_put (cs := #[.int .i64 0, .int .i64 0, .slice none 0 0]) ?_ 0 _ rfl; (with_reducible repeat (first | refine blk_drewN ?_ _ | refine blk_drew ?_ | refine blk_alloc ?_ _)); exact BK194.out) hb); replace HB := Aside0.mk (below_step (ztMasks.bl HB) hb); (try clear hb); (try clear hb2); (try clear hk); (try clear hi); (try clear ho0)) | ((with_reducible refine gate_dst (N := 9) rfl ?_); refine box_event ?hg (N := 9) ?hd (cs := #[.int .i64 0, .int .i64 0, .slice none 0 0]) (t := 37) ?hr ?_; (case hd => rfl); (case hg => rfl); (case hr => first | (go_simp; done) | (go_simp; rfl)); intro gb200 hg w57 hbox hb; replace HO176 := ztMasks.rb HO176 hb; replace HO181 := ztMasks.rb HO181 hb; replace HO186 := ztMasks.rb HO186 hb; replace HO193 := ztMasks.rb HO193 hb; replace HO199 := ztMasks.rb HO199 hb; have BK200 := Aside0.mk (hbox); have GW200 := Aside0.mk ((by rw [hg]; exact (below_size (ztMasks.bl HB)) : w.heap.size ≤ gb200)); have GE200 := Aside0.mk ((by rw [hg]; exact (below_size (ztMasks.bl HB)) : w.heap.size ≤ gb200)); replace HB := Aside0.mk (below_step (ztMasks.bl HB) hb); have NB168_200 := ztMasks.ht BK168 hg; have NB200_168 := ztMasks.hu BK168 hg; replace BK168 := ztMasks.bb BK168 hb; have NB169_200 := ztMasks.ht BK169 hg; have NB200_169 := ztMasks.hu BK169 hg; replace BK169 := ztMasks.bb BK169 hb; have NB188_200 := ztMasks.ht BK188 hg; have NB200_188 := ztMasks.hu BK188 hg; replace BK188 := ztMasks.bb BK188 hb; have NB194_200 := ztMasks.ht BK194 hg; have NB200_194 := ztMasks.hu BK194 hg; replace BK194 := ztMasks.bb BK194 hb; clear hb hbox hg; have hnb58 := NB200_168.out; have hnc58 := NB168_200.out; have hnb59 := NB200_169.out; have hnc59 := NB169_200.out; have hnb60 := NB200_188.out; have hnc60 := NB188_200.out; have hnb61 := NB200_194.out; have hnc61 := NB194_200.out; have hcz62_0 : w57.cell? ⟨gb200, 0, none⟩ = some (.int .i64 0) := (blk_cell BK200.out 0).trans rfl; have hcz62_1 : w57.cell? ⟨gb200, 1, none⟩ = some (.int .i64 0) := (blk_cell BK200.out 1).trans rfl; have hcz62_2 : w57.cell? ⟨gb200, 2, none⟩ = some (.slice none 0 0) := (blk_cell BK200.out 2).trans rfl; have hfz62_0 := blk_frozen BK200.out 0; have hfz62_1 := blk_frozen BK200.out 1; have hfz62_2 := blk_frozen BK200.out 2; obtain ⟨Ao63, co63, eo63⟩ := Kd.R_slice HO199.out; subst eo63; have hcz64_0 : w57.cell? ⟨gb194, 0, none⟩ = some (.int .i64 t189) := (blk_cell BK194.out 0).trans rfl; have hcz64_1 : w57.cell? ⟨gb194, 1, none⟩ = some (.int .i64 t190) := (blk_cell BK194.out 1).trans rfl; have hcz64_2 : w57.cell? ⟨gb194, 2, none⟩ = some (.slice Ao53 t191.length co53) := (blk_cell BK194.out 2).trans rfl; have hfz64_0 := blk_frozen BK194.out 0; have hfz64_1 := blk_frozen BK194.out 1; have hfz64_2 := blk_frozen BK194.out 2) | ((with_reducible refine gate_callee (f := 24) rfl ?_); refine ztMasks.gl (some 42) rfl rfl Try.func24 (by kernel_rfl) rfl #[.agg #[.int .i64 t189, .int .i64 t190, .slice Ao53 t191.length co53], .agg #[.int .i64 t195, .int .i64 t196, .slice Ao63 t197.length co63]] rfl ?_; (with_reducible refine (impl_MeetMasks.calls k t189 t190 _ _ t191 t195 t196 _ _ t197 t201 t202 t203 t206 _ ?side1 ?side2 ?side3 ?side4 A24.out).mono ?_); (case side1 => refine (Kd.R_reads' (e := 3) (base := w.heap.size) (ok := fun k_ => ((((True ∧ some k_ ≠ (v175 : Value).ownBlock) ∧ some k_ ≠ (v180 : Value).ownBlock) ∧ some k_ ≠ (.slice Ao43 t184.length co43 : Value).ownBlock) ∧ some k_ ≠ (.slice Ao63 t197.length co63 : Value).ownBlock)) (n := t191.length) (c := co53) ?_).2.2; exact (ztMasks.rl ((Kd.R_mono (Kd.R_far (p := ⟨gb200, 2, none⟩) (Kd.R_far (p := ⟨gb200, 1, none⟩) (Kd.R_far (p := ⟨gb200, 0, none⟩) (Kd.R_types HO193.out BK200.out (by decide)) (fun _ hk => hk.2) (.int .i64 t195)) (fun _ hk => hk.2) (.int .i64 t196)) (fun _ hk => hk.2) (.slice Ao63 t197.length co63)) (fun _ h_ => h_.1))))); (case side2 => exact (Kd.R_reads' HO193.out).2.1); (case side3 => refine (Kd.R_reads' (e := 3) (base := w.heap.size) (ok := fun k_ => ((((True ∧ some k_ ≠ (v175 : Value).ownBlock) ∧ some k_ ≠ (v180 : Value).ownBlock) ∧ some k_ ≠ (.slice Ao43 t184.length co43 : Value).ownBlock) ∧ some k_ ≠ (.slice Ao53 t191.length co53 : Value).ownBlock)) (n := t197.length) (c := co63) ?_).2.2; exact (ztMasks.rl ((Kd.R_mono (Kd.R_far (p := ⟨gb200, 2, none⟩) (Kd.R_far (p := ⟨gb200, 1, none⟩) (Kd.R_far (p := ⟨gb200, 0, none⟩) (Kd.R_types HO199.out BK200.out (by decide)) (fun _ hk => hk.2) (.int .i64 t195)) (fun _ hk => hk.2) (.int .i64 t196)) (fun _ hk => hk.2) (.slice Ao63 t197.length co63)) (fun _ h_ => h_.1))))); (case side4 => exact (Kd.R_reads' HO199.out).2.1); rintro e w65 ⟨v204, rfl, ho0, hb⟩; refine ⟨_, rfl, ?_⟩; have HO205 := Aside0.mk (Kd.R_lower (Kd.R_new' (Kd.R_new' (Kd.R_new' (Kd.R_new' (Kd.R_new' ho0 (Kd.R_lt (ztMasks.rl ((Kd.R_mono (Kd.R_far (p := ⟨gb200, 2, none⟩) (Kd.R_far (p := ⟨gb200, 1, none⟩) (Kd.R_far (p := ⟨gb200, 0, none⟩) (Kd.R_types HO176.out BK200.out (by decide)) (fun _ hk => hk.2) (.int .i64 t195)) (fun _ hk => hk.2) (.int .i64 t196)) (fun _ hk => hk.2) (.slice Ao63 t197.length co63)) (fun _ h_ => h_.1)))))) (Kd.R_lt (ztMasks.rl ((Kd.R_mono (Kd.R_far (p := ⟨gb200, 2, none⟩) (Kd.R_far (p := ⟨gb200, 1, none⟩) (Kd.R_far (p := ⟨gb200, 0, none⟩) (Kd.R_types HO181.out BK200.out (by decide)) (fun _ hk => hk.2) (.int .i64 t195)) (fun _ hk => hk.2) (.int .i64 t196)) (fun _ hk => hk.2) (.slice Ao63 t197.length co63)) (fun _ h_ => h_.1)))))) (Kd.R_lt (ztMasks.rl ((Kd.R_mono (Kd.R_far (p := ⟨gb200, 2, none⟩) (Kd.R_far (p := ⟨gb200, 1, none⟩) (Kd.R_far (p := ⟨gb200, 0, none⟩) (Kd.R_types HO186.out BK200.out (by decide)) (fun _ hk => hk.2) (.int .i64 t195)) (fun _ hk => hk.2) (.int .i64 t196)) (fun _ hk => hk.2) (.slice Ao63 t197.length co63)) (fun _ h_ => h_.1)))))) (Kd.R_lt (ztMasks.rl ((Kd.R_mono (Kd.R_far (p := ⟨gb200, 2, none⟩) (Kd.R_far (p := ⟨gb200, 1, none⟩) (Kd.R_far (p := ⟨gb200, 0, none⟩) (Kd.R_types HO193.out BK200.out (by decide)) (fun _ hk => hk.2) (.int .i64 t195)) (fun _ hk => hk.2) (.int .i64 t196)) (fun _ hk => hk.2) (.slice Ao63 t197.length co63)) (fun _ h_ => h_.1)))))) (Kd.R_lt (ztMasks.rl ((Kd.R_mono (Kd.R_far (p := ⟨gb200, 2, none⟩) (Kd.R_far (p := ⟨gb200, 1, none⟩) (Kd.R_far (p := ⟨gb200, 0, none⟩) (Kd.R_types HO199.out BK200.out (by decide)) (fun _ hk => hk.2) (.int .i64 t195)) (fun _ hk => hk.2) (.int .i64 t196)) (fun _ hk => hk.2) (.slice Ao63 t197.length co63)) (fun _ h_ => h_.1)))))) (below_size (ztMasks.bl HB))); replace HO176 := Aside0.mk (Kd.R_elder' (ztMasks.rl ((Kd.R_mono (Kd.R_far (p := ⟨gb200, 2, none⟩) (Kd.R_far (p := ⟨gb200, 1, none⟩) (Kd.R_far (p := ⟨gb200, 0, none⟩) (Kd.R_types HO176.out BK200.out (by decide)) (fun _ hk => hk.2) (.int .i64 t195)) (fun _ hk => hk.2) (.int .i64 t196)) (fun _ hk => hk.2) (.slice Ao63 t197.length co63)) (fun _ h_ => h_.1)))) (Kd.R_base ho0) hb); replace HO181 := Aside0.mk (Kd.R_elder' (ztMasks.rl ((Kd.R_mono (Kd.R_far (p := ⟨gb200, 2, none⟩) (Kd.R_far (p := ⟨gb200, 1, none⟩) (Kd.R_far (p := ⟨gb200, 0, none⟩) (Kd.R_types HO181.out BK200.out (by decide)) (fun _ hk => hk.2) (.int .i64 t195)) (fun _ hk => hk.2) (.int .i64 t196)) (fun _ hk => hk.2) (.slice Ao63 t197.length co63)) (fun _ h_ => h_.1)))) (Kd.R_base ho0) hb); replace HO186 := Aside0.mk (Kd.R_elder' (ztMasks.rl ((Kd.R_mono (Kd.R_far (p := ⟨gb200, 2, none⟩) (Kd.R_far (p := ⟨gb200, 1, none⟩) (Kd.R_far (p := ⟨gb200, 0, none⟩) (Kd.R_types HO186.out BK200.out (by decide)) (fun _ hk => hk.2) (.int .i64 t195)) (fun _ hk => hk.2) (.int .i64 t196)) (fun _ hk => hk.2) (.slice Ao63 t197.length co63)) (fun _ h_ => h_.1)))) (Kd.R_base ho0) hb); replace HO193 := Aside0.mk (Kd.R_elder' (ztMasks.rl ((Kd.R_mono (Kd.R_far (p := ⟨gb200, 2, none⟩) (Kd.R_far (p := ⟨gb200, 1, none⟩) (Kd.R_far (p := ⟨gb200, 0, none⟩) (Kd.R_types HO193.out BK200.out (by decide)) (fun _ hk => hk.2) (.int .i64 t195)) (fun _ hk => hk.2) (.int .i64 t196)) (fun _ hk => hk.2) (.slice Ao63 t197.length co63)) (fun _ h_ => h_.1)))) (Kd.R_base ho0) hb); replace HO199 := Aside0.mk (Kd.R_elder' (ztMasks.rl ((Kd.R_mono (Kd.R_far (p := ⟨gb200, 2, none⟩) (Kd.R_far (p := ⟨gb200, 1, none⟩) (Kd.R_far (p := ⟨gb200, 0, none⟩) (Kd.R_types HO199.out BK200.out (by decide)) (fun _ hk => hk.2) (.int .i64 t195)) (fun _ hk => hk.2) (.int .i64 t196)) (fun _ hk => hk.2) (.slice Ao63 t197.length co63)) (fun _ h_ => h_.1)))) (Kd.R_base ho0) hb); replace BK168 := Aside0.mk (blk_below (g := gb168) (o := .cells #[.int .i64 a0_0, .int .i64 a0_1, .slice A0_2 l0_2.length c0_2] 35 (0, 0)) (ztMasks.bf BK168) hb); replace BK169 := Aside0.mk (blk_below (g := gb169) (o := .cells #[.int .i64 a1_0, .int .i64 a1_1, .slice A1_2 l1_2.length c1_2] 35 (0, 0)) (ztMasks.bf BK169) hb); replace BK188 := Aside0.mk (blk_below (g := gb188) (o := .cells #[.int .i64 t182, .int .i64 t183, .slice Ao43 t184.length co43] 37 (0, 0)) (ztMasks.bf BK188) hb); replace BK194 := Aside0.mk (blk_below (g := gb194) (o := .cells #[.int .i64 t189, .int .i64 t190, .slice Ao53 t191.length co53] 37 (0, 0)) (ztMasks.bf BK194) hb); replace BK200 := Aside0.mk (blk_below (g := gb200) (o := .cells #[.int .i64 t195, .int .i64 t196, .slice Ao63 t197.length co63] 37 (0, 0)) (by (with_reducible repeat (first | refine blk_drewN ?_ _ | refine blk_drew ?_ | refine blk_alloc ?_ _)); refine blk_put (cs := #[.int .i64 t195, .int .i64 t196, .slice none 0 0]) ?_ 2 _ rfl; (with_reducible repeat (first | refine blk_drewN ?_ _ | refine blk_drew ?_ | refine blk_alloc ?_ _)); refine blk_put (cs := #[.int .i64 t195, .int .i64 0, .slice none 0 0]) ?_ 1 _ rfl; (with_reducible repeat (first | refine blk_drewN ?_ _ | refine blk_drew ?_ | refine blk_alloc ?_ _)); refine blk_put (cs := #[.int .i64 0, .int .i64 0, .slice none 0 0]) ?_ 0 _ rfl; (with_reducible repeat (first | refine blk_drewN ?_ _ | refine blk_drew ?_ | refine blk_alloc ?_ _)); exact BK200.out) hb); replace HB := Aside0.mk (below_step (ztMasks.bl HB) hb); (try clear hb); (try clear hb2); (try clear hk); (try clear hi); (try clear ho0)) | ((with_reducible refine gate_dst (N := 10) rfl ?_); refine box_event ?hg (N := 10) ?hd (cs := #[.int .i64 0, .int .i64 0, .slice none 0 0]) (t := 37) ?hr ?_; (case hd => rfl); (case hg => rfl); (case hr => first | (go_simp; done) | (go_simp; rfl)); intro gb207 hg w66 hbox hb; replace HO176 := ztMasks.rb HO176 hb; replace HO181 := ztMasks.rb HO181 hb; replace HO186 := ztMasks.rb HO186 hb; replace HO193 := ztMasks.rb HO193 hb; replace HO199 := ztMasks.rb HO199 hb; replace HO205 := ztMasks.rb HO205 hb; have BK207 := Aside0.mk (hbox); have GW207 := Aside0.mk ((by rw [hg]; exact (below_size (ztMasks.bl HB)) : w.heap.size ≤ gb207)); have GE207 := Aside0.mk ((by rw [hg]; exact (below_size (ztMasks.bl HB)) : w.heap.size ≤ gb207)); replace HB := Aside0.mk (below_step (ztMasks.bl HB) hb); have NB168_207 := ztMasks.ht BK168 hg; have NB207_168 := ztMasks.hu BK168 hg; replace BK168 := ztMasks.bb BK168 hb; have NB169_207 := ztMasks.ht BK169 hg; have NB207_169 := ztMasks.hu BK169 hg; replace BK169 := ztMasks.bb BK169 hb; have NB188_207 := ztMasks.ht BK188 hg; have NB207_188 := ztMasks.hu BK188 hg; replace BK188 := ztMasks.bb BK188 hb; have NB194_207 := ztMasks.ht BK194 hg; have NB207_194 := ztMasks.hu BK194 hg; replace BK194 := ztMasks.bb BK194 hb; have NB200_207 := ztMasks.ht BK200 hg; have NB207_200 := ztMasks.hu BK200 hg; replace BK200 := ztMasks.bb BK200 hb; clear hb hbox hg; have hnb67 := NB207_168.out; have hnc67 := NB168_207.out; have hnb68 := NB207_169.out; have hnc68 := NB169_207.out; have hnb69 := NB207_188.out; have hnc69 := NB188_207.out; have hnb70 := NB207_194.out; have hnc70 := NB194_207.out; have hnb71 := NB207_200.out; have hnc71 := NB200_207.out; have hcz72_0 : w66.cell? ⟨gb207, 0, none⟩ = some (.int .i64 0) := (blk_cell BK207.out 0).trans rfl; have hcz72_1 : w66.cell? ⟨gb207, 1, none⟩ = some (.int .i64 0) := (blk_cell BK207.out 1).trans rfl; have hcz72_2 : w66.cell? ⟨gb207, 2, none⟩ = some (.slice none 0 0) := (blk_cell BK207.out 2).trans rfl; have hfz72_0 := blk_frozen BK207.out 0; have hfz72_1 := blk_frozen BK207.out 1; have hfz72_2 := blk_frozen BK207.out 2; obtain ⟨Ao73, co73, eo73⟩ := Kd.R_slice HO205.out; subst eo73))
   (try simp only [Act.put, List.setIfInBounds_toArray, List.set_cons_zero, List.set_cons_succ])
   go_cut [53] (fun v53 wc => ∃ (kq : Nat) (x53_24 : Bool), v53 = .bool x53_24 ∧ Aside0 (laws_FnExactMeetMasks.j0 kq t187 t206 x53_24 a0_0 a0_1 l0_2 a1_0 a1_1 l1_2 t182 t183 t184 t189 t190 t191 t195 t196 t197 t201 t202 t203 = some r) ∧ Aside0 (kq ≤ k) ∧ Aside0 (Kd.R (Kd.int .i64) 3 wc w.heap.size (fun k_ => some k_ ≠ ((.slice Ao53 t191.length co53) : Value).ownBlock ∧ some k_ ≠ ((.slice Ao63 t197.length co63) : Value).ownBlock ∧ some k_ ≠ ((.slice Ao73 t203.length co73) : Value).ownBlock) (.slice Ao43 t184.length co43) t184) ∧ Aside0 (Kd.R (Kd.int .i64) 3 wc w.heap.size (fun k_ => some k_ ≠ ((.slice Ao43 t184.length co43) : Value).ownBlock ∧ some k_ ≠ ((.slice Ao63 t197.length co63) : Value).ownBlock ∧ some k_ ≠ ((.slice Ao73 t203.length co73) : Value).ownBlock) (.slice Ao53 t191.length co53) t191) ∧ Aside0 (Kd.R (Kd.int .i64) 3 wc w.heap.size (fun k_ => some k_ ≠ ((.slice Ao43 t184.length co43) : Value).ownBlock ∧ some k_ ≠ ((.slice Ao53 t191.length co53) : Value).ownBlock ∧ some k_ ≠ ((.slice Ao73 t203.length co73) : Value).ownBlock) (.slice Ao63 t197.length co63) t197) ∧ Aside0 (Kd.R (Kd.int .i64) 3 wc w.heap.size (fun k_ => some k_ ≠ ((.slice Ao43 t184.length co43) : Value).ownBlock ∧ some k_ ≠ ((.slice Ao53 t191.length co53) : Value).ownBlock ∧ some k_ ≠ ((.slice Ao63 t197.length co63) : Value).ownBlock) (.slice Ao73 t203.length co73) t203) ∧ Aside0 (wc.heap[gb168]? = some (.cells #[.int .i64 a0_0, .int .i64 a0_1, (.slice A0_2 l0_2.length c0_2)] 35 (0, 0))) ∧ Aside0 (wc.heap[gb169]? = some (.cells #[.int .i64 a1_0, .int .i64 a1_1, (.slice A1_2 l1_2.length c1_2)] 35 (0, 0))) ∧ Aside0 (wc.heap[gb188]? = some (.cells #[.int .i64 t182, .int .i64 t183, (.slice Ao43 t184.length co43)] 37 (0, 0))) ∧ Aside0 (wc.heap[gb194]? = some (.cells #[.int .i64 t189, .int .i64 t190, (.slice Ao53 t191.length co53)] 37 (0, 0))) ∧ Aside0 (wc.heap[gb200]? = some (.cells #[.int .i64 t195, .int .i64 t196, (.slice Ao63 t197.length co63)] 37 (0, 0))) ∧ Aside0 (wc.heap[gb207]? = some (.cells #[.int .i64 t201, .int .i64 t202, (.slice Ao73 t203.length co73)] 37 (0, 0))) ∧ Aside0 (Below w.heap.size w wc))
   case first =>
    have H := HC25.out
    clear HC25
    replace H := Option.bind_eq_some_iff.mp H
    obtain ⟨t208, A740, H⟩ := H
    replace H : (if t208 = true then (laws_FnExactMeetMasks.j0 k t187 t206 (t206 != t187) a0_0 a0_1 l0_2 a1_0 a1_1 l1_2 t182 t183 t184 t189 t190 t191 t195 t196 t197 t201 t202 t203) else (laws_FnExactMeetMasks.j0 k t187 t206 true a0_0 a0_1 l0_2 a1_0 a1_1 l1_2 t182 t183 t184 t189 t190 t191 t195 t196 t197 t201 t202 t203)) = some r := H
    have A74 := Aside0.mk A740
    clear A740
    by_cases c75 : t208 = true
    ·subst c75
     have H1 : (laws_FnExactMeetMasks.j0 k t187 t206 (t206 != t187) a0_0 a0_1 l0_2 a1_0 a1_1 l1_2 t182 t183 t184 t189 t190 t191 t195 t196 t197 t201 t202 t203) = some r := by rw [if_pos rfl] at H; exact H
     clear H
     have H := H1
     clear H1
     have H' := Aside0.mk H
     clear H
     have hnb76 := NB207_168.out
     have hnc76 := NB168_207.out
     have hnb77 := NB207_169.out
     have hnc77 := NB169_207.out
     have hnb78 := NB207_188.out
     have hnc78 := NB188_207.out
     have hnb79 := NB207_194.out
     have hnc79 := NB194_207.out
     have hnb80 := NB207_200.out
     have hnc80 := NB200_207.out
     have hcz81_0 : w66.cell? ⟨gb207, 0, none⟩ = some (.int .i64 0) := (blk_cell BK207.out 0).trans rfl
     have hcz81_1 : w66.cell? ⟨gb207, 1, none⟩ = some (.int .i64 0) := (blk_cell BK207.out 1).trans rfl
     have hcz81_2 : w66.cell? ⟨gb207, 2, none⟩ = some (.slice none 0 0) := (blk_cell BK207.out 2).trans rfl
     have hfz81_0 := blk_frozen BK207.out 0
     have hfz81_1 := blk_frozen BK207.out 1
     have hfz81_2 := blk_frozen BK207.out 2
     have hnb82 := NB188_168.out
     have hnc82 := NB168_188.out
     have hnb83 := NB188_169.out
     have hnc83 := NB169_188.out
     have hnb84 := NB188_194.out
     have hnc84 := NB194_188.out
     have hnb85 := NB188_200.out
     have hnc85 := NB200_188.out
     have hcz86_0 : w66.cell? ⟨gb188, 0, none⟩ = some (.int .i64 t182) := (blk_cell BK188.out 0).trans rfl
     have hcz86_1 : w66.cell? ⟨gb188, 1, none⟩ = some (.int .i64 t183) := (blk_cell BK188.out 1).trans rfl
     have hcz86_2 : w66.cell? ⟨gb188, 2, none⟩ = some (.slice Ao43 t184.length co43) := (blk_cell BK188.out 2).trans rfl
     have hfz86_0 := blk_frozen BK188.out 0
     have hfz86_1 := blk_frozen BK188.out 1
     have hfz86_2 := blk_frozen BK188.out 2
     go_wp2_with (first | ((with_reducible refine gate_callee (f := 25) rfl ?_); refine ztMasks.gl (some 47) rfl rfl Try.func25 (by kernel_rfl) rfl #[.agg #[.int .i64 t201, .int .i64 t202, .slice Ao73 t203.length co73], .agg #[.int .i64 t182, .int .i64 t183, .slice Ao43 t184.length co43]] rfl ?_; (with_reducible refine (laws_eqMask.calls k t201 t202 _ _ t203 t182 t183 _ _ t184 true _ ?side1 ?side2 ?side3 ?side4 A74.out).mono ?_); (case side1 => refine (Kd.R_reads' (e := 3) (base := w.heap.size) (ok := fun k_ => (((((True ∧ some k_ ≠ (v175 : Value).ownBlock) ∧ some k_ ≠ (v180 : Value).ownBlock) ∧ some k_ ≠ (.slice Ao43 t184.length co43 : Value).ownBlock) ∧ some k_ ≠ (.slice Ao53 t191.length co53 : Value).ownBlock) ∧ some k_ ≠ (.slice Ao63 t197.length co63 : Value).ownBlock)) (n := t203.length) (c := co73) ?_).2.2; exact (ztMasks.rl ((Kd.R_mono (Kd.R_far (p := ⟨gb207, 2, none⟩) (Kd.R_far (p := ⟨gb207, 1, none⟩) (Kd.R_far (p := ⟨gb207, 0, none⟩) (Kd.R_types HO205.out BK207.out (by decide)) (fun _ hk => hk.2) (.int .i64 t201)) (fun _ hk => hk.2) (.int .i64 t202)) (fun _ hk => hk.2) (.slice Ao73 t203.length co73)) (fun _ h_ => h_.1))))); (case side2 => exact (Kd.R_reads' HO205.out).2.1); (case side3 => refine (Kd.R_reads' (e := 3) (base := w.heap.size) (ok := fun k_ => ((((some k_ ≠ (v175 : Value).ownBlock ∧ some k_ ≠ (v180 : Value).ownBlock) ∧ some k_ ≠ (.slice Ao53 t191.length co53 : Value).ownBlock) ∧ some k_ ≠ (.slice Ao63 t197.length co63 : Value).ownBlock) ∧ some k_ ≠ (.slice Ao73 t203.length co73 : Value).ownBlock)) (n := t184.length) (c := co43) ?_).2.2; exact (ztMasks.rl ((Kd.R_mono (Kd.R_far (p := ⟨gb207, 2, none⟩) (Kd.R_far (p := ⟨gb207, 1, none⟩) (Kd.R_far (p := ⟨gb207, 0, none⟩) (Kd.R_types HO186.out BK207.out (by decide)) (fun _ hk => hk.2) (.int .i64 t201)) (fun _ hk => hk.2) (.int .i64 t202)) (fun _ hk => hk.2) (.slice Ao73 t203.length co73)) (fun _ h_ => h_.1))))); (case side4 => exact (Kd.R_reads' HO186.out).2.1); rintro e w87 ⟨rfl, hb⟩; refine ⟨_, rfl, ?_⟩; replace HO176 := Aside0.mk (Kd.R_below (ztMasks.rl ((Kd.R_mono (Kd.R_far (p := ⟨gb207, 2, none⟩) (Kd.R_far (p := ⟨gb207, 1, none⟩) (Kd.R_far (p := ⟨gb207, 0, none⟩) (Kd.R_types HO176.out BK207.out (by decide)) (fun _ hk => hk.2) (.int .i64 t201)) (fun _ hk => hk.2) (.int .i64 t202)) (fun _ hk => hk.2) (.slice Ao73 t203.length co73)) (fun _ h_ => h_.1)))) hb); replace HO181 := Aside0.mk (Kd.R_below (ztMasks.rl ((Kd.R_mono (Kd.R_far (p := ⟨gb207, 2, none⟩) (Kd.R_far (p := ⟨gb207, 1, none⟩) (Kd.R_far (p := ⟨gb207, 0, none⟩) (Kd.R_types HO181.out BK207.out (by decide)) (fun _ hk => hk.2) (.int .i64 t201)) (fun _ hk => hk.2) (.int .i64 t202)) (fun _ hk => hk.2) (.slice Ao73 t203.length co73)) (fun _ h_ => h_.1)))) hb); replace HO186 := Aside0.mk (Kd.R_below (ztMasks.rl ((Kd.R_mono (Kd.R_far (p := ⟨gb207, 2, none⟩) (Kd.R_far (p := ⟨gb207, 1, none⟩) (Kd.R_far (p := ⟨gb207, 0, none⟩) (Kd.R_types HO186.out BK207.out (by decide)) (fun _ hk => hk.2) (.int .i64 t201)) (fun _ hk => hk.2) (.int .i64 t202)) (fun _ hk => hk.2) (.slice Ao73 t203.length co73)) (fun _ h_ => h_.1)))) hb); replace HO193 := Aside0.mk (Kd.R_below (ztMasks.rl ((Kd.R_mono (Kd.R_far (p := ⟨gb207, 2, none⟩) (Kd.R_far (p := ⟨gb207, 1, none⟩) (Kd.R_far (p := ⟨gb207, 0, none⟩) (Kd.R_types HO193.out BK207.out (by decide)) (fun _ hk => hk.2) (.int .i64 t201)) (fun _ hk => hk.2) (.int .i64 t202)) (fun _ hk => hk.2) (.slice Ao73 t203.length co73)) (fun _ h_ => h_.1)))) hb); replace HO199 := Aside0.mk (Kd.R_below (ztMasks.rl ((Kd.R_mono (Kd.R_far (p := ⟨gb207, 2, none⟩) (Kd.R_far (p := ⟨gb207, 1, none⟩) (Kd.R_far (p := ⟨gb207, 0, none⟩) (Kd.R_types HO199.out BK207.out (by decide)) (fun _ hk => hk.2) (.int .i64 t201)) (fun _ hk => hk.2) (.int .i64 t202)) (fun _ hk => hk.2) (.slice Ao73 t203.length co73)) (fun _ h_ => h_.1)))) hb); replace HO205 := Aside0.mk (Kd.R_below (ztMasks.rl ((Kd.R_mono (Kd.R_far (p := ⟨gb207, 2, none⟩) (Kd.R_far (p := ⟨gb207, 1, none⟩) (Kd.R_far (p := ⟨gb207, 0, none⟩) (Kd.R_types HO205.out BK207.out (by decide)) (fun _ hk => hk.2) (.int .i64 t201)) (fun _ hk => hk.2) (.int .i64 t202)) (fun _ hk => hk.2) (.slice Ao73 t203.length co73)) (fun _ h_ => h_.1)))) hb); replace BK168 := Aside0.mk (blk_below (g := gb168) (o := .cells #[.int .i64 a0_0, .int .i64 a0_1, .slice A0_2 l0_2.length c0_2] 35 (0, 0)) (ztMasks.bf BK168) hb); replace BK169 := Aside0.mk (blk_below (g := gb169) (o := .cells #[.int .i64 a1_0, .int .i64 a1_1, .slice A1_2 l1_2.length c1_2] 35 (0, 0)) (ztMasks.bf BK169) hb); replace BK188 := Aside0.mk (blk_below (g := gb188) (o := .cells #[.int .i64 t182, .int .i64 t183, .slice Ao43 t184.length co43] 37 (0, 0)) (ztMasks.bf BK188) hb); replace BK194 := Aside0.mk (blk_below (g := gb194) (o := .cells #[.int .i64 t189, .int .i64 t190, .slice Ao53 t191.length co53] 37 (0, 0)) (ztMasks.bf BK194) hb); replace BK200 := Aside0.mk (blk_below (g := gb200) (o := .cells #[.int .i64 t195, .int .i64 t196, .slice Ao63 t197.length co63] 37 (0, 0)) (ztMasks.bf BK200) hb); replace BK207 := Aside0.mk (blk_below (g := gb207) (o := .cells #[.int .i64 t201, .int .i64 t202, .slice Ao73 t203.length co73] 37 (0, 0)) (by (with_reducible repeat (first | refine blk_drewN ?_ _ | refine blk_drew ?_ | refine blk_alloc ?_ _)); refine blk_put (cs := #[.int .i64 t201, .int .i64 t202, .slice none 0 0]) ?_ 2 _ rfl; (with_reducible repeat (first | refine blk_drewN ?_ _ | refine blk_drew ?_ | refine blk_alloc ?_ _)); refine blk_put (cs := #[.int .i64 t201, .int .i64 0, .slice none 0 0]) ?_ 1 _ rfl; (with_reducible repeat (first | refine blk_drewN ?_ _ | refine blk_drew ?_ | refine blk_alloc ?_ _)); refine blk_put (cs := #[.int .i64 0, .int .i64 0, .slice none 0 0]) ?_ 0 _ rfl; (with_reducible repeat (first | refine blk_drewN ?_ _ | refine blk_drew ?_ | refine blk_alloc ?_ _)); exact BK207.out) hb); replace HB := Aside0.mk (below_step (ztMasks.bl HB) hb); (try clear hb); (try clear hb2); (try clear hk); (try clear hi)))
     go_meet
     case rel => exact ⟨_, ((t206 != t187)), (by first | rfl | (simp; done) | (simp [*]; done)), H', ⟨by first | omega | exact Nat.le_refl _⟩, ⟨ztMasks.rl (Kd.R_mono HO186.out (fun _ hk => ⟨hk.1.1.2, ⟨hk.1.2, hk.2⟩⟩))⟩, ⟨ztMasks.rl (Kd.R_mono HO193.out (fun _ hk => ⟨hk.1.1.2, ⟨hk.1.2, hk.2⟩⟩))⟩, ⟨ztMasks.rl (Kd.R_mono HO199.out (fun _ hk => ⟨hk.1.1.2, ⟨hk.1.2, hk.2⟩⟩))⟩, ⟨ztMasks.rl (Kd.R_mono HO205.out (fun _ hk => ⟨hk.1.1.2, ⟨hk.1.2, hk.2⟩⟩))⟩, ⟨ztMasks.bk BK168⟩, ⟨ztMasks.bk BK169⟩, ⟨ztMasks.bk BK188⟩, ⟨ztMasks.bk BK194⟩, ⟨ztMasks.bk BK200⟩, ⟨ztMasks.bk BK207⟩, ⟨ztMasks.bl HB⟩⟩
    ·replace c75 := Bool.eq_false_iff.mpr c75
     subst c75
     have H1 : (laws_FnExactMeetMasks.j0 k t187 t206 true a0_0 a0_1 l0_2 a1_0 a1_1 l1_2 t182 t183 t184 t189 t190 t191 t195 t196 t197 t201 t202 t203) = some r := by rw [if_neg (show ¬ (false = true) by decide)] at H; exact H
     clear H
     have H := H1
     clear H1
     have H' := Aside0.mk H
     clear H
     have hnb88 := NB207_168.out
     have hnc88 := NB168_207.out
     have hnb89 := NB207_169.out
     have hnc89 := NB169_207.out
     have hnb90 := NB207_188.out
     have hnc90 := NB188_207.out
     have hnb91 := NB207_194.out
     have hnc91 := NB194_207.out
     have hnb92 := NB207_200.out
     have hnc92 := NB200_207.out
     have hcz93_0 : w66.cell? ⟨gb207, 0, none⟩ = some (.int .i64 0) := (blk_cell BK207.out 0).trans rfl
     have hcz93_1 : w66.cell? ⟨gb207, 1, none⟩ = some (.int .i64 0) := (blk_cell BK207.out 1).trans rfl
     have hcz93_2 : w66.cell? ⟨gb207, 2, none⟩ = some (.slice none 0 0) := (blk_cell BK207.out 2).trans rfl
     have hfz93_0 := blk_frozen BK207.out 0
     have hfz93_1 := blk_frozen BK207.out 1
     have hfz93_2 := blk_frozen BK207.out 2
     have hnb94 := NB188_168.out
     have hnc94 := NB168_188.out
     have hnb95 := NB188_169.out
     have hnc95 := NB169_188.out
     have hnb96 := NB188_194.out
     have hnc96 := NB194_188.out
     have hnb97 := NB188_200.out
     have hnc97 := NB200_188.out
     have hcz98_0 : w66.cell? ⟨gb188, 0, none⟩ = some (.int .i64 t182) := (blk_cell BK188.out 0).trans rfl
     have hcz98_1 : w66.cell? ⟨gb188, 1, none⟩ = some (.int .i64 t183) := (blk_cell BK188.out 1).trans rfl
     have hcz98_2 : w66.cell? ⟨gb188, 2, none⟩ = some (.slice Ao43 t184.length co43) := (blk_cell BK188.out 2).trans rfl
     have hfz98_0 := blk_frozen BK188.out 0
     have hfz98_1 := blk_frozen BK188.out 1
     have hfz98_2 := blk_frozen BK188.out 2
     go_wp2_with (first | ((with_reducible refine gate_callee (f := 25) rfl ?_); refine ztMasks.gl (some 47) rfl rfl Try.func25 (by kernel_rfl) rfl #[.agg #[.int .i64 t201, .int .i64 t202, .slice Ao73 t203.length co73], .agg #[.int .i64 t182, .int .i64 t183, .slice Ao43 t184.length co43]] rfl ?_; (with_reducible refine (laws_eqMask.calls k t201 t202 _ _ t203 t182 t183 _ _ t184 false _ ?side1 ?side2 ?side3 ?side4 A74.out).mono ?_); (case side1 => refine (Kd.R_reads' (e := 3) (base := w.heap.size) (ok := fun k_ => (((((True ∧ some k_ ≠ (v175 : Value).ownBlock) ∧ some k_ ≠ (v180 : Value).ownBlock) ∧ some k_ ≠ (.slice Ao43 t184.length co43 : Value).ownBlock) ∧ some k_ ≠ (.slice Ao53 t191.length co53 : Value).ownBlock) ∧ some k_ ≠ (.slice Ao63 t197.length co63 : Value).ownBlock)) (n := t203.length) (c := co73) ?_).2.2; exact (ztMasks.rl ((Kd.R_mono (Kd.R_far (p := ⟨gb207, 2, none⟩) (Kd.R_far (p := ⟨gb207, 1, none⟩) (Kd.R_far (p := ⟨gb207, 0, none⟩) (Kd.R_types HO205.out BK207.out (by decide)) (fun _ hk => hk.2) (.int .i64 t201)) (fun _ hk => hk.2) (.int .i64 t202)) (fun _ hk => hk.2) (.slice Ao73 t203.length co73)) (fun _ h_ => h_.1))))); (case side2 => exact (Kd.R_reads' HO205.out).2.1); (case side3 => refine (Kd.R_reads' (e := 3) (base := w.heap.size) (ok := fun k_ => ((((some k_ ≠ (v175 : Value).ownBlock ∧ some k_ ≠ (v180 : Value).ownBlock) ∧ some k_ ≠ (.slice Ao53 t191.length co53 : Value).ownBlock) ∧ some k_ ≠ (.slice Ao63 t197.length co63 : Value).ownBlock) ∧ some k_ ≠ (.slice Ao73 t203.length co73 : Value).ownBlock)) (n := t184.length) (c := co43) ?_).2.2; exact (ztMasks.rl ((Kd.R_mono (Kd.R_far (p := ⟨gb207, 2, none⟩) (Kd.R_far (p := ⟨gb207, 1, none⟩) (Kd.R_far (p := ⟨gb207, 0, none⟩) (Kd.R_types HO186.out BK207.out (by decide)) (fun _ hk => hk.2) (.int .i64 t201)) (fun _ hk => hk.2) (.int .i64 t202)) (fun _ hk => hk.2) (.slice Ao73 t203.length co73)) (fun _ h_ => h_.1))))); (case side4 => exact (Kd.R_reads' HO186.out).2.1); rintro e w99 ⟨rfl, hb⟩; refine ⟨_, rfl, ?_⟩; replace HO176 := Aside0.mk (Kd.R_below (ztMasks.rl ((Kd.R_mono (Kd.R_far (p := ⟨gb207, 2, none⟩) (Kd.R_far (p := ⟨gb207, 1, none⟩) (Kd.R_far (p := ⟨gb207, 0, none⟩) (Kd.R_types HO176.out BK207.out (by decide)) (fun _ hk => hk.2) (.int .i64 t201)) (fun _ hk => hk.2) (.int .i64 t202)) (fun _ hk => hk.2) (.slice Ao73 t203.length co73)) (fun _ h_ => h_.1)))) hb); replace HO181 := Aside0.mk (Kd.R_below (ztMasks.rl ((Kd.R_mono (Kd.R_far (p := ⟨gb207, 2, none⟩) (Kd.R_far (p := ⟨gb207, 1, none⟩) (Kd.R_far (p := ⟨gb207, 0, none⟩) (Kd.R_types HO181.out BK207.out (by decide)) (fun _ hk => hk.2) (.int .i64 t201)) (fun _ hk => hk.2) (.int .i64 t202)) (fun _ hk => hk.2) (.slice Ao73 t203.length co73)) (fun _ h_ => h_.1)))) hb); replace HO186 := Aside0.mk (Kd.R_below (ztMasks.rl ((Kd.R_mono (Kd.R_far (p := ⟨gb207, 2, none⟩) (Kd.R_far (p := ⟨gb207, 1, none⟩) (Kd.R_far (p := ⟨gb207, 0, none⟩) (Kd.R_types HO186.out BK207.out (by decide)) (fun _ hk => hk.2) (.int .i64 t201)) (fun _ hk => hk.2) (.int .i64 t202)) (fun _ hk => hk.2) (.slice Ao73 t203.length co73)) (fun _ h_ => h_.1)))) hb); replace HO193 := Aside0.mk (Kd.R_below (ztMasks.rl ((Kd.R_mono (Kd.R_far (p := ⟨gb207, 2, none⟩) (Kd.R_far (p := ⟨gb207, 1, none⟩) (Kd.R_far (p := ⟨gb207, 0, none⟩) (Kd.R_types HO193.out BK207.out (by decide)) (fun _ hk => hk.2) (.int .i64 t201)) (fun _ hk => hk.2) (.int .i64 t202)) (fun _ hk => hk.2) (.slice Ao73 t203.length co73)) (fun _ h_ => h_.1)))) hb); replace HO199 := Aside0.mk (Kd.R_below (ztMasks.rl ((Kd.R_mono (Kd.R_far (p := ⟨gb207, 2, none⟩) (Kd.R_far (p := ⟨gb207, 1, none⟩) (Kd.R_far (p := ⟨gb207, 0, none⟩) (Kd.R_types HO199.out BK207.out (by decide)) (fun _ hk => hk.2) (.int .i64 t201)) (fun _ hk => hk.2) (.int .i64 t202)) (fun _ hk => hk.2) (.slice Ao73 t203.length co73)) (fun _ h_ => h_.1)))) hb); replace HO205 := Aside0.mk (Kd.R_below (ztMasks.rl ((Kd.R_mono (Kd.R_far (p := ⟨gb207, 2, none⟩) (Kd.R_far (p := ⟨gb207, 1, none⟩) (Kd.R_far (p := ⟨gb207, 0, none⟩) (Kd.R_types HO205.out BK207.out (by decide)) (fun _ hk => hk.2) (.int .i64 t201)) (fun _ hk => hk.2) (.int .i64 t202)) (fun _ hk => hk.2) (.slice Ao73 t203.length co73)) (fun _ h_ => h_.1)))) hb); replace BK168 := Aside0.mk (blk_below (g := gb168) (o := .cells #[.int .i64 a0_0, .int .i64 a0_1, .slice A0_2 l0_2.length c0_2] 35 (0, 0)) (ztMasks.bf BK168) hb); replace BK169 := Aside0.mk (blk_below (g := gb169) (o := .cells #[.int .i64 a1_0, .int .i64 a1_1, .slice A1_2 l1_2.length c1_2] 35 (0, 0)) (ztMasks.bf BK169) hb); replace BK188 := Aside0.mk (blk_below (g := gb188) (o := .cells #[.int .i64 t182, .int .i64 t183, .slice Ao43 t184.length co43] 37 (0, 0)) (ztMasks.bf BK188) hb); replace BK194 := Aside0.mk (blk_below (g := gb194) (o := .cells #[.int .i64 t189, .int .i64 t190, .slice Ao53 t191.length co53] 37 (0, 0)) (ztMasks.bf BK194) hb); replace BK200 := Aside0.mk (blk_below (g := gb200) (o := .cells #[.int .i64 t195, .int .i64 t196, .slice Ao63 t197.length co63] 37 (0, 0)) (ztMasks.bf BK200) hb); replace BK207 := Aside0.mk (blk_below (g := gb207) (o := .cells #[.int .i64 t201, .int .i64 t202, .slice Ao73 t203.length co73] 37 (0, 0)) (by (with_reducible repeat (first | refine blk_drewN ?_ _ | refine blk_drew ?_ | refine blk_alloc ?_ _)); refine blk_put (cs := #[.int .i64 t201, .int .i64 t202, .slice none 0 0]) ?_ 2 _ rfl; (with_reducible repeat (first | refine blk_drewN ?_ _ | refine blk_drew ?_ | refine blk_alloc ?_ _)); refine blk_put (cs := #[.int .i64 t201, .int .i64 0, .slice none 0 0]) ?_ 1 _ rfl; (with_reducible repeat (first | refine blk_drewN ?_ _ | refine blk_drew ?_ | refine blk_alloc ?_ _)); refine blk_put (cs := #[.int .i64 0, .int .i64 0, .slice none 0 0]) ?_ 0 _ rfl; (with_reducible repeat (first | refine blk_drewN ?_ _ | refine blk_drew ?_ | refine blk_alloc ?_ _)); exact BK207.out) hb); replace HB := Aside0.mk (below_step (ztMasks.bl HB) hb); (try clear hb); (try clear hb2); (try clear hk); (try clear hi)))
     go_meet
     case rel => exact ⟨_, (true), (by first | rfl | (simp; done) | (simp [*]; done)), H', ⟨by first | omega | exact Nat.le_refl _⟩, ⟨ztMasks.rl (Kd.R_mono HO186.out (fun _ hk => ⟨hk.1.1.2, ⟨hk.1.2, hk.2⟩⟩))⟩, ⟨ztMasks.rl (Kd.R_mono HO193.out (fun _ hk => ⟨hk.1.1.2, ⟨hk.1.2, hk.2⟩⟩))⟩, ⟨ztMasks.rl (Kd.R_mono HO199.out (fun _ hk => ⟨hk.1.1.2, ⟨hk.1.2, hk.2⟩⟩))⟩, ⟨ztMasks.rl (Kd.R_mono HO205.out (fun _ hk => ⟨hk.1.1.2, ⟨hk.1.2, hk.2⟩⟩))⟩, ⟨ztMasks.bk BK168⟩, ⟨ztMasks.bk BK169⟩, ⟨ztMasks.bk BK188⟩, ⟨ztMasks.bk BK194⟩, ⟨ztMasks.bk BK200⟩, ⟨ztMasks.bk BK207⟩, ⟨ztMasks.bl HB⟩⟩
   case rest =>
    clear HC25
    try clear c1
    try clear c2
    try clear p2
    try clear c4
    try clear c5
    try clear c6
    try clear c7
    try clear c8
    try clear c9
    try clear c22
    try clear c23
    try clear c24
    try clear c25
    try clear c45
    try clear c49
    try clear c50
    try clear c51
    try clear c54
    try clear c58
    try clear c59
    try clear c60
    try clear c61
    try clear c67
    try clear c68
    try clear c69
    try clear c70
    try clear c71
    try clear c75
    try clear c76
    try clear c77
    try clear c78
    try clear c79
    try clear c80
    try clear c82
    try clear c83
    try clear c84
    try clear c85
    try clear c88
    try clear c89
    try clear c90
    try clear c91
    try clear c92
    try clear c94
    try clear c95
    try clear c96
    try clear c97
    try clear hcz46_0
    try clear hcz46_1
    try clear hcz46_2
    try clear hcz52_0
    try clear hcz52_1
    try clear hcz52_2
    try clear hcz55_0
    try clear hcz55_1
    try clear hcz55_2
    try clear hcz62_0
    try clear hcz62_1
    try clear hcz62_2
    try clear hcz64_0
    try clear hcz64_1
    try clear hcz64_2
    try clear hcz72_0
    try clear hcz72_1
    try clear hcz72_2
    try clear hcz81_0
    try clear hcz81_1
    try clear hcz81_2
    try clear hcz86_0
    try clear hcz86_1
    try clear hcz86_2
    try clear hcz93_0
    try clear hcz93_1
    try clear hcz93_2
    try clear hcz98_0
    try clear hcz98_1
    try clear hcz98_2
    try clear hfz46_0
    try clear hfz46_1
    try clear hfz46_2
    try clear hfz52_0
    try clear hfz52_1
    try clear hfz52_2
    try clear hfz55_0
    try clear hfz55_1
    try clear hfz55_2
    try clear hfz62_0
    try clear hfz62_1
    try clear hfz62_2
    try clear hfz64_0
    try clear hfz64_1
    try clear hfz64_2
    try clear hfz72_0
    try clear hfz72_1
    try clear hfz72_2
    try clear hfz81_0
    try clear hfz81_1
    try clear hfz81_2
    try clear hfz86_0
    try clear hfz86_1
    try clear hfz86_2
    try clear hfz93_0
    try clear hfz93_1
    try clear hfz93_2
    try clear hfz98_0
    try clear hfz98_1
    try clear hfz98_2
    obtain ⟨kq, x53_24, rfl, HA, HJ24, HO_189002, HO_195002, HO_201002, HO_208002, BK168, BK169, BK188, BK194, BK200, BK207, HB⟩ := hcut
    cases kq with
    | zero => exact absurd HA.out (by simp [laws_FnExactMeetMasks.j0])
    | succ kj24 =>
     have H := HA.out
     clear HA
     simp only [laws_FnExactMeetMasks.j0] at H
     by_cases c100 : x53_24 = true
     ·subst c100
      have H1 : (some false) = some r := by rw [if_pos rfl] at H; exact H
      clear H
      have H := H1
      clear H1
      exact absurd (Option.some.inj H) (by rw [hrt]; decide)
     ·replace c100 := Bool.eq_false_iff.mpr c100
      subst c100
      have H1 : ((laws_toMask.f kj24 a0_0 a0_1 l0_2).bind fun bt209 => ((laws_eqMask.f kj24 t189 t190 t191 bt209.1 bt209.2.1 bt209.2.2).bind fun t214 => (if t214 = true then ((laws_toMask.f kj24 a1_0 a1_1 l1_2).bind fun bt215 => ((laws_eqMask.f kj24 t195 t196 t197 bt215.1 bt215.2.1 bt215.2.2).bind fun t220 => (if t220 = true then ((laws_markMask.f kj24 t189 t190 t191 1).bind fun bt221 => ((laws_markMask.f kj24 t195 t196 t197 bt221.1).bind fun bt223 => (if bt223.1 < 0 then (laws_FnExactMeetMasks.j1 kj24 t187 true a0_0 a0_1 l0_2 a1_0 a1_1 l1_2 t182 t183 t184 t201 t202 t203) else ((laws_eqMask.f kj24 t201 t202 t203 t182 t183 t184).bind fun t225 => (if t225 = true then (laws_FnExactMeetMasks.j1 kj24 t187 (t206 != t187) a0_0 a0_1 l0_2 a1_0 a1_1 l1_2 t182 t183 t184 t201 t202 t203) else (laws_FnExactMeetMasks.j1 kj24 t187 true a0_0 a0_1 l0_2 a1_0 a1_1 l1_2 t182 t183 t184 t201 t202 t203)))))) else (some false)))) else (some false)))) = some r := by rw [if_neg (show ¬ (false = true) by decide)] at H; exact H
      clear H
      have H := H1
      clear H1
      replace H := Option.bind_eq_some_iff.mp H
      obtain ⟨⟨t209, t210, t211⟩, A1010, H⟩ := H
      replace H : ((laws_eqMask.f kj24 t189 t190 t191 t209 t210 t211).bind fun t214 => (if t214 = true then ((laws_toMask.f kj24 a1_0 a1_1 l1_2).bind fun bt215 => ((laws_eqMask.f kj24 t195 t196 t197 bt215.1 bt215.2.1 bt215.2.2).bind fun t220 => (if t220 = true then ((laws_markMask.f kj24 t189 t190 t191 1).bind fun bt221 => ((laws_markMask.f kj24 t195 t196 t197 bt221.1).bind fun bt223 => (if bt223.1 < 0 then (laws_FnExactMeetMasks.j1 kj24 t187 true a0_0 a0_1 l0_2 a1_0 a1_1 l1_2 t182 t183 t184 t201 t202 t203) else ((laws_eqMask.f kj24 t201 t202 t203 t182 t183 t184).bind fun t225 => (if t225 = true then (laws_FnExactMeetMasks.j1 kj24 t187 (t206 != t187) a0_0 a0_1 l0_2 a1_0 a1_1 l1_2 t182 t183 t184 t201 t202 t203) else (laws_FnExactMeetMasks.j1 kj24 t187 true a0_0 a0_1 l0_2 a1_0 a1_1 l1_2 t182 t183 t184 t201 t202 t203)))))) else (some false)))) else (some false))) = some r := H
      have A101 := Aside0.mk A1010
      clear A1010
      replace H := Option.bind_eq_some_iff.mp H
      obtain ⟨t214, A1020, H⟩ := H
      replace H : (if t214 = true then ((laws_toMask.f kj24 a1_0 a1_1 l1_2).bind fun bt215 => ((laws_eqMask.f kj24 t195 t196 t197 bt215.1 bt215.2.1 bt215.2.2).bind fun t220 => (if t220 = true then ((laws_markMask.f kj24 t189 t190 t191 1).bind fun bt221 => ((laws_markMask.f kj24 t195 t196 t197 bt221.1).bind fun bt223 => (if bt223.1 < 0 then (laws_FnExactMeetMasks.j1 kj24 t187 true a0_0 a0_1 l0_2 a1_0 a1_1 l1_2 t182 t183 t184 t201 t202 t203) else ((laws_eqMask.f kj24 t201 t202 t203 t182 t183 t184).bind fun t225 => (if t225 = true then (laws_FnExactMeetMasks.j1 kj24 t187 (t206 != t187) a0_0 a0_1 l0_2 a1_0 a1_1 l1_2 t182 t183 t184 t201 t202 t203) else (laws_FnExactMeetMasks.j1 kj24 t187 true a0_0 a0_1 l0_2 a1_0 a1_1 l1_2 t182 t183 t184 t201 t202 t203)))))) else (some false)))) else (some false)) = some r := H
      have A102 := Aside0.mk A1020
      clear A1020
      by_cases c103 : t214 = true
      ·subst c103
       have H1 : ((laws_toMask.f kj24 a1_0 a1_1 l1_2).bind fun bt215 => ((laws_eqMask.f kj24 t195 t196 t197 bt215.1 bt215.2.1 bt215.2.2).bind fun t220 => (if t220 = true then ((laws_markMask.f kj24 t189 t190 t191 1).bind fun bt221 => ((laws_markMask.f kj24 t195 t196 t197 bt221.1).bind fun bt223 => (if bt223.1 < 0 then (laws_FnExactMeetMasks.j1 kj24 t187 true a0_0 a0_1 l0_2 a1_0 a1_1 l1_2 t182 t183 t184 t201 t202 t203) else ((laws_eqMask.f kj24 t201 t202 t203 t182 t183 t184).bind fun t225 => (if t225 = true then (laws_FnExactMeetMasks.j1 kj24 t187 (t206 != t187) a0_0 a0_1 l0_2 a1_0 a1_1 l1_2 t182 t183 t184 t201 t202 t203) else (laws_FnExactMeetMasks.j1 kj24 t187 true a0_0 a0_1 l0_2 a1_0 a1_1 l1_2 t182 t183 t184 t201 t202 t203)))))) else (some false)))) = some r := by rw [if_pos rfl] at H; exact H
       clear H
       have H := H1
       clear H1
       replace H := Option.bind_eq_some_iff.mp H
       obtain ⟨⟨t215, t216, t217⟩, A1040, H⟩ := H
       replace H : ((laws_eqMask.f kj24 t195 t196 t197 t215 t216 t217).bind fun t220 => (if t220 = true then ((laws_markMask.f kj24 t189 t190 t191 1).bind fun bt221 => ((laws_markMask.f kj24 t195 t196 t197 bt221.1).bind fun bt223 => (if bt223.1 < 0 then (laws_FnExactMeetMasks.j1 kj24 t187 true a0_0 a0_1 l0_2 a1_0 a1_1 l1_2 t182 t183 t184 t201 t202 t203) else ((laws_eqMask.f kj24 t201 t202 t203 t182 t183 t184).bind fun t225 => (if t225 = true then (laws_FnExactMeetMasks.j1 kj24 t187 (t206 != t187) a0_0 a0_1 l0_2 a1_0 a1_1 l1_2 t182 t183 t184 t201 t202 t203) else (laws_FnExactMeetMasks.j1 kj24 t187 true a0_0 a0_1 l0_2 a1_0 a1_1 l1_2 t182 t183 t184 t201 t202 t203)))))) else (some false))) = some r := H
       have A104 := Aside0.mk A1040
       clear A1040
       replace H := Option.bind_eq_some_iff.mp H
       obtain ⟨t220, A1050, H⟩ := H
       replace H : (if t220 = true then ((laws_markMask.f kj24 t189 t190 t191 1).bind fun bt221 => ((laws_markMask.f kj24 t195 t196 t197 bt221.1).bind fun bt223 => (if bt223.1 < 0 then (laws_FnExactMeetMasks.j1 kj24 t187 true a0_0 a0_1 l0_2 a1_0 a1_1 l1_2 t182 t183 t184 t201 t202 t203) else ((laws_eqMask.f kj24 t201 t202 t203 t182 t183 t184).bind fun t225 => (if t225 = true then (laws_FnExactMeetMasks.j1 kj24 t187 (t206 != t187) a0_0 a0_1 l0_2 a1_0 a1_1 l1_2 t182 t183 t184 t201 t202 t203) else (laws_FnExactMeetMasks.j1 kj24 t187 true a0_0 a0_1 l0_2 a1_0 a1_1 l1_2 t182 t183 t184 t201 t202 t203)))))) else (some false)) = some r := H
       have A105 := Aside0.mk A1050
       clear A1050
       by_cases c106 : t220 = true
       ·subst c106
        have H1 : ((laws_markMask.f kj24 t189 t190 t191 1).bind fun bt221 => ((laws_markMask.f kj24 t195 t196 t197 bt221.1).bind fun bt223 => (if bt223.1 < 0 then (laws_FnExactMeetMasks.j1 kj24 t187 true a0_0 a0_1 l0_2 a1_0 a1_1 l1_2 t182 t183 t184 t201 t202 t203) else ((laws_eqMask.f kj24 t201 t202 t203 t182 t183 t184).bind fun t225 => (if t225 = true then (laws_FnExactMeetMasks.j1 kj24 t187 (t206 != t187) a0_0 a0_1 l0_2 a1_0 a1_1 l1_2 t182 t183 t184 t201 t202 t203) else (laws_FnExactMeetMasks.j1 kj24 t187 true a0_0 a0_1 l0_2 a1_0 a1_1 l1_2 t182 t183 t184 t201 t202 t203)))))) = some r := by rw [if_pos rfl] at H; exact H
        clear H
        have H := H1
        clear H1
        replace H := Option.bind_eq_some_iff.mp H
        obtain ⟨⟨t221, t222⟩, A1070, H⟩ := H
        replace H : ((laws_markMask.f kj24 t195 t196 t197 t221).bind fun bt223 => (if bt223.1 < 0 then (laws_FnExactMeetMasks.j1 kj24 t187 true a0_0 a0_1 l0_2 a1_0 a1_1 l1_2 t182 t183 t184 t201 t202 t203) else ((laws_eqMask.f kj24 t201 t202 t203 t182 t183 t184).bind fun t225 => (if t225 = true then (laws_FnExactMeetMasks.j1 kj24 t187 (t206 != t187) a0_0 a0_1 l0_2 a1_0 a1_1 l1_2 t182 t183 t184 t201 t202 t203) else (laws_FnExactMeetMasks.j1 kj24 t187 true a0_0 a0_1 l0_2 a1_0 a1_1 l1_2 t182 t183 t184 t201 t202 t203))))) = some r := H
        have A107 := Aside0.mk A1070
        clear A1070
        replace H := Option.bind_eq_some_iff.mp H
        obtain ⟨⟨t223, t224⟩, A1080, H⟩ := H
        replace H : (if t223 < 0 then (laws_FnExactMeetMasks.j1 kj24 t187 true a0_0 a0_1 l0_2 a1_0 a1_1 l1_2 t182 t183 t184 t201 t202 t203) else ((laws_eqMask.f kj24 t201 t202 t203 t182 t183 t184).bind fun t225 => (if t225 = true then (laws_FnExactMeetMasks.j1 kj24 t187 (t206 != t187) a0_0 a0_1 l0_2 a1_0 a1_1 l1_2 t182 t183 t184 t201 t202 t203) else (laws_FnExactMeetMasks.j1 kj24 t187 true a0_0 a0_1 l0_2 a1_0 a1_1 l1_2 t182 t183 t184 t201 t202 t203)))) = some r := H
        have A108 := Aside0.mk A1080
        clear A1080
        have HC109 := Aside0.mk H
        clear H
        try go_wp2
        replace HO_189002 := Aside0.mk (Kd.R_drew HO_189002.out)
        replace HO_195002 := Aside0.mk (Kd.R_drew HO_195002.out)
        replace HO_201002 := Aside0.mk (Kd.R_drew HO_201002.out)
        replace HO_208002 := Aside0.mk (Kd.R_drew HO_208002.out)
        replace BK168 := Aside0.mk (blk_drew BK168.out)
        replace BK169 := Aside0.mk (blk_drew BK169.out)
        replace BK188 := Aside0.mk (blk_drew BK188.out)
        replace BK194 := Aside0.mk (blk_drew BK194.out)
        replace BK200 := Aside0.mk (blk_drew BK200.out)
        replace BK207 := Aside0.mk (blk_drew BK207.out)
        replace HB := Aside0.mk (below_drew1 HB.out)
        refine start_ (n := 5) (S := fun w' => w'.cell? ⟨gb194, 0, none⟩ = some (.int .i64 t189) ∧ w'.cell? ⟨gb194, 1, none⟩ = some (.int .i64 t190) ∧ w'.cell? ⟨gb194, 2, none⟩ = some (.slice Ao53 t191.length co53) ∧ w'.cell? ⟨gb168, 0, none⟩ = some (.int .i64 a0_0) ∧ w'.cell? ⟨gb168, 1, none⟩ = some (.int .i64 a0_1) ∧ w'.cell? ⟨gb168, 2, none⟩ = some (.slice A0_2 l0_2.length c0_2)) (ds := []) #[false, false, false, false, false] (by kernel_rfl) rfl rfl ⟨(blk_cell BK194.out 0).trans rfl, (blk_cell BK194.out 1).trans rfl, (blk_cell BK194.out 2).trans rfl, (blk_cell BK168.out 0).trans rfl, (blk_cell BK168.out 1).trans rfl, (blk_cell BK168.out 2).trans rfl⟩ (fun hHeld => ?_)
        generalize wc.drew = w110 at HO_189002 HO_195002 HO_201002 HO_208002 BK168 BK169 BK188 BK194 BK200 BK207 HB hHeld ⊢
        refine take_ (i := 0) (N := some 54) (v := ?_) (a' := ?_) #[true, false, false, false, false] rfl rfl (by kernel_rfl) (fun _ _ _ h => h) (Or.inl ⟨by rfl, ?_⟩) hHeld ?_ ?_
        rotate_left
        ·rintro w' ⟨s0, s1, s2, s3, s4, s5⟩
         go_simp
         with_reducible rfl
        rotate_left
        ·simp only [Act.put, List.setIfInBounds_toArray, List.set_cons_zero, List.set_cons_succ, i64_w, i32_w]
         rfl
        refine take_ (i := 1) (N := some 55) (v := ?_) (a' := ?_) #[true, true, false, false, false] rfl rfl (by kernel_rfl) (fun _ _ _ h => h) (Or.inl ⟨by rfl, ?_⟩) hHeld ?_ ?_
        rotate_left
        ·rintro w' ⟨s0, s1, s2, s3, s4, s5⟩
         go_simp
         with_reducible rfl
        rotate_left
        ·simp only [Act.put, List.setIfInBounds_toArray, List.set_cons_zero, List.set_cons_succ, i64_w, i32_w]
         rfl
        refine one_ (i := 2) (N := some 56) #[true, true, true, false, false] rfl rfl (by kernel_rfl) (by decide) (fun K hK => ?_)
        refine ztMasks.gs Try.func23 (by kernel_rfl) rfl #[.agg #[.int .i64 a0_0, .int .i64 a0_1, .slice A0_2 l0_2.length c0_2]] (by rfl) rfl rfl ?_
        with_reducible refine (laws_toMask.calls kj24 a0_0 a0_1 _ _ l0_2 t209 t210 t211 _ ?side1 ?side2 A101.out).mono ?_
        (case side1 => repeat (first | exact (Kd.C_below HR0_2.out HB.out) | (with_reducible refine Kd.C_alloc ?_ _) | (with_reducible refine Kd.C_drewN ?_ _) | (with_reducible refine Kd.C_drew ?_)))
        (case side2 => exact HC0_2.out)
        rintro e w111 ⟨v212, rfl, ho0, hb⟩
        refine ⟨_, rfl, ?_⟩
        have HO213 := Aside0.mk (Kd.R_lower (Kd.R_new' (Kd.R_new' (Kd.R_new' (Kd.R_new' ho0 (Kd.R_lt (ztMasks.rl HO_189002.out))) (Kd.R_lt (ztMasks.rl HO_195002.out))) (Kd.R_lt (ztMasks.rl HO_201002.out))) (Kd.R_lt (ztMasks.rl HO_208002.out))) (below_size (ztMasks.bl HB)))
        replace HO_189002 := Aside0.mk (Kd.R_elder' (ztMasks.rl HO_189002.out) (Kd.R_base ho0) hb)
        replace HO_195002 := Aside0.mk (Kd.R_elder' (ztMasks.rl HO_195002.out) (Kd.R_base ho0) hb)
        replace HO_201002 := Aside0.mk (Kd.R_elder' (ztMasks.rl HO_201002.out) (Kd.R_base ho0) hb)
        replace HO_208002 := Aside0.mk (Kd.R_elder' (ztMasks.rl HO_208002.out) (Kd.R_base ho0) hb)
        replace BK168 := ztMasks.bb BK168 hb
        replace BK169 := ztMasks.bb BK169 hb
        replace BK188 := ztMasks.bb BK188 hb
        replace BK194 := ztMasks.bb BK194 hb
        replace BK200 := ztMasks.bb BK200 hb
        replace BK207 := ztMasks.bb BK207 hb
        replace HB := Aside0.mk (below_step (ztMasks.bl HB) hb)
        (try clear hb)
        (try clear hb2)
        (try clear hk)
        (try clear hi)
        (try clear ho0)
        obtain ⟨Ao112, co112, eo112⟩ := Kd.R_slice HO213.out
        (first | subst eo112 | (injection eo112 with f1_ f2_ f3_; have f4_ := f1_.symm; have f5_ := f3_.symm; clear f1_ f2_ f3_; subst f4_; subst f5_))
        refine hK.out _ _ ⟨(blk_cell BK194.out 0).trans rfl, (blk_cell BK194.out 1).trans rfl, (blk_cell BK194.out 2).trans rfl, (blk_cell BK168.out 0).trans rfl, (blk_cell BK168.out 1).trans rfl, (blk_cell BK168.out 2).trans rfl⟩ (fun hHeld => ?_)
        clear hK K
        refine norm_ (a' := ?_) ?_ ?_
        rotate_left
        ·show Act.put _ (some 56) _ = _
         simp only [Act.put, List.setIfInBounds_toArray, List.set_cons_zero, List.set_cons_succ, i64_w, i32_w]
         rfl
        refine one_ (i := 3) (N := some 57) #[true, true, true, true, false] rfl rfl (by kernel_rfl) (by decide) (fun K hK => ?_)
        refine ztMasks.gs Try.func25 (by kernel_rfl) rfl #[.agg #[.int .i64 t189, .int .i64 t190, .slice Ao53 t191.length co53], .agg #[.int .i64 t209, .int .i64 t210, .slice Ao112 t211.length co112]] (by rfl) rfl rfl ?_
        with_reducible refine (laws_eqMask.calls kj24 t189 t190 _ _ t191 t209 t210 _ _ t211 true _ ?side1 ?side2 ?side3 ?side4 A102.out).mono ?_
        (case side1 => repeat (first | exact (Kd.R_reads' HO_195002.out).2.2 | (with_reducible refine Kd.C_alloc ?_ _) | (with_reducible refine Kd.C_drewN ?_ _) | (with_reducible refine Kd.C_drew ?_)))
        (case side2 => exact (Kd.R_reads' HO_195002.out).2.1)
        (case side3 => repeat (first | exact (Kd.R_reads' HO213.out).2.2 | (with_reducible refine Kd.C_alloc ?_ _) | (with_reducible refine Kd.C_drewN ?_ _) | (with_reducible refine Kd.C_drew ?_)))
        (case side4 => exact (Kd.R_reads' HO213.out).2.1)
        rintro e w113 ⟨rfl, hb⟩
        refine ⟨_, rfl, ?_⟩
        replace HO_189002 := ztMasks.rb HO_189002 hb
        replace HO_195002 := ztMasks.rb HO_195002 hb
        replace HO_201002 := ztMasks.rb HO_201002 hb
        replace HO_208002 := ztMasks.rb HO_208002 hb
        replace HO213 := ztMasks.rb HO213 hb
        replace BK168 := ztMasks.bb BK168 hb
        replace BK169 := ztMasks.bb BK169 hb
        replace BK188 := ztMasks.bb BK188 hb
        replace BK194 := ztMasks.bb BK194 hb
        replace BK200 := ztMasks.bb BK200 hb
        replace BK207 := ztMasks.bb BK207 hb
        replace HB := Aside0.mk (below_step (ztMasks.bl HB) hb)
        (try clear hb)
        (try clear hb2)
        (try clear hk)
        (try clear hi)
        refine hK.out _ _ ⟨(blk_cell BK194.out 0).trans rfl, (blk_cell BK194.out 1).trans rfl, (blk_cell BK194.out 2).trans rfl, (blk_cell BK168.out 0).trans rfl, (blk_cell BK168.out 1).trans rfl, (blk_cell BK168.out 2).trans rfl⟩ (fun hHeld => ?_)
        clear hK K
        refine norm_ (a' := ?_) ?_ ?_
        rotate_left
        ·show Act.put _ (some 57) _ = _
         simp only [Act.put, List.setIfInBounds_toArray, List.set_cons_zero, List.set_cons_succ, i64_w, i32_w]
         rfl
        refine pure_ (i := 4) (N := some 58) (v := ?_) (a' := ?_) #[true, true, true, true, true] rfl rfl (by kernel_rfl) (fun _ _ _ h => h) (Or.inl ⟨by rfl, ?_⟩) ?_ ?_
        rotate_left
        ·intro w'
         go_simp
         with_reducible rfl
        rotate_left
        ·simp only [Act.put, List.setIfInBounds_toArray, List.set_cons_zero, List.set_cons_succ, i64_w, i32_w]
         rfl
        refine done_ (by kernel_rfl) ?_
        try go_wp2
        replace HO_189002 := Aside0.mk (Kd.R_drew HO_189002.out)
        replace HO_195002 := Aside0.mk (Kd.R_drew HO_195002.out)
        replace HO_201002 := Aside0.mk (Kd.R_drew HO_201002.out)
        replace HO_208002 := Aside0.mk (Kd.R_drew HO_208002.out)
        replace HO213 := Aside0.mk (Kd.R_drew HO213.out)
        replace BK168 := Aside0.mk (blk_drew BK168.out)
        replace BK169 := Aside0.mk (blk_drew BK169.out)
        replace BK188 := Aside0.mk (blk_drew BK188.out)
        replace BK194 := Aside0.mk (blk_drew BK194.out)
        replace BK200 := Aside0.mk (blk_drew BK200.out)
        replace BK207 := Aside0.mk (blk_drew BK207.out)
        replace HB := Aside0.mk (below_drew1 HB.out)
        refine start_ (n := 5) (S := fun w' => w'.cell? ⟨gb200, 0, none⟩ = some (.int .i64 t195) ∧ w'.cell? ⟨gb200, 1, none⟩ = some (.int .i64 t196) ∧ w'.cell? ⟨gb200, 2, none⟩ = some (.slice Ao63 t197.length co63) ∧ w'.cell? ⟨gb169, 0, none⟩ = some (.int .i64 a1_0) ∧ w'.cell? ⟨gb169, 1, none⟩ = some (.int .i64 a1_1) ∧ w'.cell? ⟨gb169, 2, none⟩ = some (.slice A1_2 l1_2.length c1_2)) (ds := []) #[false, false, false, false, false] (by kernel_rfl) rfl rfl ⟨(blk_cell BK200.out 0).trans rfl, (blk_cell BK200.out 1).trans rfl, (blk_cell BK200.out 2).trans rfl, (blk_cell BK169.out 0).trans rfl, (blk_cell BK169.out 1).trans rfl, (blk_cell BK169.out 2).trans rfl⟩ (fun hHeld => ?_)
        generalize w113.drew = w114 at HO_189002 HO_195002 HO_201002 HO_208002 HO213 BK168 BK169 BK188 BK194 BK200 BK207 HB hHeld ⊢
        refine take_ (i := 0) (N := some 59) (v := ?_) (a' := ?_) #[true, false, false, false, false] rfl rfl (by kernel_rfl) (fun _ _ _ h => h) (Or.inl ⟨by rfl, ?_⟩) hHeld ?_ ?_
        rotate_left
        ·rintro w' ⟨s0, s1, s2, s3, s4, s5⟩
         go_simp
         with_reducible rfl
        rotate_left
        ·simp only [Act.put, List.setIfInBounds_toArray, List.set_cons_zero, List.set_cons_succ, i64_w, i32_w]
         rfl
        refine take_ (i := 1) (N := some 60) (v := ?_) (a' := ?_) #[true, true, false, false, false] rfl rfl (by kernel_rfl) (fun _ _ _ h => h) (Or.inl ⟨by rfl, ?_⟩) hHeld ?_ ?_
        rotate_left
        ·rintro w' ⟨s0, s1, s2, s3, s4, s5⟩
         go_simp
         with_reducible rfl
        rotate_left
        ·simp only [Act.put, List.setIfInBounds_toArray, List.set_cons_zero, List.set_cons_succ, i64_w, i32_w]
         rfl
        refine one_ (i := 2) (N := some 61) #[true, true, true, false, false] rfl rfl (by kernel_rfl) (by decide) (fun K hK => ?_)
        refine ztMasks.gs Try.func23 (by kernel_rfl) rfl #[.agg #[.int .i64 a1_0, .int .i64 a1_1, .slice A1_2 l1_2.length c1_2]] (by rfl) rfl rfl ?_
        with_reducible refine (laws_toMask.calls kj24 a1_0 a1_1 _ _ l1_2 t215 t216 t217 _ ?side1 ?side2 A104.out).mono ?_
        (case side1 => repeat (first | exact (Kd.C_below HR1_2.out HB.out) | (with_reducible refine Kd.C_alloc ?_ _) | (with_reducible refine Kd.C_drewN ?_ _) | (with_reducible refine Kd.C_drew ?_)))
        (case side2 => exact HC1_2.out)
        rintro e w115 ⟨v218, rfl, ho0, hb⟩
        refine ⟨_, rfl, ?_⟩
        have HO219 := Aside0.mk (Kd.R_lower (Kd.R_new' (Kd.R_new' (Kd.R_new' (Kd.R_new' (Kd.R_new' ho0 (Kd.R_lt (ztMasks.rl HO_189002.out))) (Kd.R_lt (ztMasks.rl HO_195002.out))) (Kd.R_lt (ztMasks.rl HO_201002.out))) (Kd.R_lt (ztMasks.rl HO_208002.out))) (Kd.R_lt (ztMasks.rl HO213.out))) (below_size (ztMasks.bl HB)))
        replace HO_189002 := Aside0.mk (Kd.R_elder' (ztMasks.rl HO_189002.out) (Kd.R_base ho0) hb)
        replace HO_195002 := Aside0.mk (Kd.R_elder' (ztMasks.rl HO_195002.out) (Kd.R_base ho0) hb)
        replace HO_201002 := Aside0.mk (Kd.R_elder' (ztMasks.rl HO_201002.out) (Kd.R_base ho0) hb)
        replace HO_208002 := Aside0.mk (Kd.R_elder' (ztMasks.rl HO_208002.out) (Kd.R_base ho0) hb)
        replace HO213 := Aside0.mk (Kd.R_elder' (ztMasks.rl HO213.out) (Kd.R_base ho0) hb)
        replace BK168 := ztMasks.bb BK168 hb
        replace BK169 := ztMasks.bb BK169 hb
        replace BK188 := ztMasks.bb BK188 hb
        replace BK194 := ztMasks.bb BK194 hb
        replace BK200 := ztMasks.bb BK200 hb
        replace BK207 := ztMasks.bb BK207 hb
        replace HB := Aside0.mk (below_step (ztMasks.bl HB) hb)
        (try clear hb)
        (try clear hb2)
        (try clear hk)
        (try clear hi)
        (try clear ho0)
        obtain ⟨Ao116, co116, eo116⟩ := Kd.R_slice HO219.out
        (first | subst eo116 | (injection eo116 with f1_ f2_ f3_; have f4_ := f1_.symm; have f5_ := f3_.symm; clear f1_ f2_ f3_; subst f4_; subst f5_))
        refine hK.out _ _ ⟨(blk_cell BK200.out 0).trans rfl, (blk_cell BK200.out 1).trans rfl, (blk_cell BK200.out 2).trans rfl, (blk_cell BK169.out 0).trans rfl, (blk_cell BK169.out 1).trans rfl, (blk_cell BK169.out 2).trans rfl⟩ (fun hHeld => ?_)
        clear hK K
        refine norm_ (a' := ?_) ?_ ?_
        rotate_left
        ·show Act.put _ (some 61) _ = _
         simp only [Act.put, List.setIfInBounds_toArray, List.set_cons_zero, List.set_cons_succ, i64_w, i32_w]
         rfl
        refine one_ (i := 3) (N := some 62) #[true, true, true, true, false] rfl rfl (by kernel_rfl) (by decide) (fun K hK => ?_)
        refine ztMasks.gs Try.func25 (by kernel_rfl) rfl #[.agg #[.int .i64 t195, .int .i64 t196, .slice Ao63 t197.length co63], .agg #[.int .i64 t215, .int .i64 t216, .slice Ao116 t217.length co116]] (by rfl) rfl rfl ?_
        with_reducible refine (laws_eqMask.calls kj24 t195 t196 _ _ t197 t215 t216 _ _ t217 true _ ?side1 ?side2 ?side3 ?side4 A105.out).mono ?_
        (case side1 => repeat (first | exact (Kd.R_reads' HO_201002.out).2.2 | (with_reducible refine Kd.C_alloc ?_ _) | (with_reducible refine Kd.C_drewN ?_ _) | (with_reducible refine Kd.C_drew ?_)))
        (case side2 => exact (Kd.R_reads' HO_201002.out).2.1)
        (case side3 => repeat (first | exact (Kd.R_reads' HO219.out).2.2 | (with_reducible refine Kd.C_alloc ?_ _) | (with_reducible refine Kd.C_drewN ?_ _) | (with_reducible refine Kd.C_drew ?_)))
        (case side4 => exact (Kd.R_reads' HO219.out).2.1)
        rintro e w117 ⟨rfl, hb⟩
        refine ⟨_, rfl, ?_⟩
        replace HO_189002 := ztMasks.rb HO_189002 hb
        replace HO_195002 := ztMasks.rb HO_195002 hb
        replace HO_201002 := ztMasks.rb HO_201002 hb
        replace HO_208002 := ztMasks.rb HO_208002 hb
        replace HO213 := ztMasks.rb HO213 hb
        replace HO219 := ztMasks.rb HO219 hb
        replace BK168 := ztMasks.bb BK168 hb
        replace BK169 := ztMasks.bb BK169 hb
        replace BK188 := ztMasks.bb BK188 hb
        replace BK194 := ztMasks.bb BK194 hb
        replace BK200 := ztMasks.bb BK200 hb
        replace BK207 := ztMasks.bb BK207 hb
        replace HB := Aside0.mk (below_step (ztMasks.bl HB) hb)
        (try clear hb)
        (try clear hb2)
        (try clear hk)
        (try clear hi)
        refine hK.out _ _ ⟨(blk_cell BK200.out 0).trans rfl, (blk_cell BK200.out 1).trans rfl, (blk_cell BK200.out 2).trans rfl, (blk_cell BK169.out 0).trans rfl, (blk_cell BK169.out 1).trans rfl, (blk_cell BK169.out 2).trans rfl⟩ (fun hHeld => ?_)
        clear hK K
        refine norm_ (a' := ?_) ?_ ?_
        rotate_left
        ·show Act.put _ (some 62) _ = _
         simp only [Act.put, List.setIfInBounds_toArray, List.set_cons_zero, List.set_cons_succ, i64_w, i32_w]
         rfl
        refine pure_ (i := 4) (N := some 63) (v := ?_) (a' := ?_) #[true, true, true, true, true] rfl rfl (by kernel_rfl) (fun _ _ _ h => h) (Or.inl ⟨by rfl, ?_⟩) ?_ ?_
        rotate_left
        ·intro w'
         go_simp
         with_reducible rfl
        rotate_left
        ·simp only [Act.put, List.setIfInBounds_toArray, List.set_cons_zero, List.set_cons_succ, i64_w, i32_w]
         rfl
        refine done_ (by kernel_rfl) ?_
        have hnb118 := NB194_168.out
        have hnc118 := NB168_194.out
        have hnb119 := NB194_169.out
        have hnc119 := NB169_194.out
        have hnb120 := NB194_188.out
        have hnc120 := NB188_194.out
        have hnb121 := NB194_200.out
        have hnc121 := NB200_194.out
        have hnb122 := NB194_207.out
        have hnc122 := NB207_194.out
        have hcz123_0 : w117.cell? ⟨gb194, 0, none⟩ = some (.int .i64 t189) := (blk_cell BK194.out 0).trans rfl
        have hcz123_1 : w117.cell? ⟨gb194, 1, none⟩ = some (.int .i64 t190) := (blk_cell BK194.out 1).trans rfl
        have hcz123_2 : w117.cell? ⟨gb194, 2, none⟩ = some (.slice Ao53 t191.length co53) := (blk_cell BK194.out 2).trans rfl
        have hfz123_0 := blk_frozen BK194.out 0
        have hfz123_1 := blk_frozen BK194.out 1
        have hfz123_2 := blk_frozen BK194.out 2
        go_upto_region 21 with (first | ((with_reducible refine gate_callee (f := 26) rfl ?_); refine ztMasks.gl (some 66) rfl rfl Try.func26 (by kernel_rfl) rfl #[.agg #[.int .i64 t189, .int .i64 t190, .slice Ao53 t191.length co53], .int .i64 1] rfl ?_; (with_reducible refine (laws_markMask.calls kj24 t189 t190 (fun k_ => some k_ = (.slice Ao53 t191.length co53 : Value).ownBlock) (.slice Ao53 t191.length co53) t191 1 t221 t222 w _ ?side1 ?side2 A107.out).mono ?_); (case side1 => exact ztMasks.bl HB); (case side2 => exact Kd.R_tight rfl HO_195002.out); rintro e w124 ⟨rfl, hy0, hb, hkp⟩; refine ⟨_, rfl, ?_⟩; replace HO_189002 := Aside0.mk (Kd.R_mono (ok' := fun k_ => some k_ ≠ (.slice Ao53 t191.length co53 : Value).ownBlock ∧ some k_ ≠ (.slice Ao63 t197.length co63 : Value).ownBlock ∧ some k_ ≠ (.slice Ao73 t203.length co73 : Value).ownBlock ∧ some k_ ≠ (.slice Ao112 t211.length co112 : Value).ownBlock ∧ some k_ ≠ (.slice Ao116 t217.length co116 : Value).ownBlock) (Kd.R_keptB (HO_189002.out) hkp (fun k_ hk_ hs_ => (hk_.1.1.1) hs_)) (fun k_ hk_ => ⟨hk_.1.1.1.1, hk_.1.1.1.2.1, hk_.1.1.1.2.2, hk_.1.1.2, hk_.1.2⟩)); replace HO_201002 := Aside0.mk (Kd.R_mono (ok' := fun k_ => some k_ ≠ (.slice Ao43 t184.length co43 : Value).ownBlock ∧ some k_ ≠ (.slice Ao53 t191.length co53 : Value).ownBlock ∧ some k_ ≠ (.slice Ao73 t203.length co73 : Value).ownBlock ∧ some k_ ≠ (.slice Ao112 t211.length co112 : Value).ownBlock ∧ some k_ ≠ (.slice Ao116 t217.length co116 : Value).ownBlock) (Kd.R_keptB (HO_201002.out) hkp (fun k_ hk_ hs_ => (hk_.1.1.2.1) hs_)) (fun k_ hk_ => ⟨hk_.1.1.1.1, hk_.1.1.1.2.1, hk_.1.1.1.2.2, hk_.1.1.2, hk_.1.2⟩)); replace HO_208002 := Aside0.mk (Kd.R_mono (ok' := fun k_ => some k_ ≠ (.slice Ao43 t184.length co43 : Value).ownBlock ∧ some k_ ≠ (.slice Ao53 t191.length co53 : Value).ownBlock ∧ some k_ ≠ (.slice Ao63 t197.length co63 : Value).ownBlock ∧ some k_ ≠ (.slice Ao112 t211.length co112 : Value).ownBlock ∧ some k_ ≠ (.slice Ao116 t217.length co116 : Value).ownBlock) (Kd.R_keptB (HO_208002.out) hkp (fun k_ hk_ hs_ => (hk_.1.1.2.1) hs_)) (fun k_ hk_ => ⟨hk_.1.1.1.1, hk_.1.1.1.2.1, hk_.1.1.1.2.2, hk_.1.1.2, hk_.1.2⟩)); replace BK168 := Aside0.mk (blk_kept (ztMasks.bk BK168) hkp (fun hs_ => (fun e_ => (Kd.R_ne HO_195002.out BK168.out (by decide)) e_) hs_)); replace BK169 := Aside0.mk (blk_kept (ztMasks.bk BK169) hkp (fun hs_ => (fun e_ => (Kd.R_ne HO_195002.out BK169.out (by decide)) e_) hs_)); replace BK188 := Aside0.mk (blk_kept (ztMasks.bk BK188) hkp (fun hs_ => (fun e_ => (Kd.R_ne HO_195002.out BK188.out (by decide)) e_) hs_)); replace BK194 := Aside0.mk (blk_kept (ztMasks.bk BK194) hkp (fun hs_ => (fun e_ => (Kd.R_ne HO_195002.out BK194.out (by decide)) e_) hs_)); replace BK200 := Aside0.mk (blk_kept (ztMasks.bk BK200) hkp (fun hs_ => (fun e_ => (Kd.R_ne HO_195002.out BK200.out (by decide)) e_) hs_)); replace BK207 := Aside0.mk (blk_kept (ztMasks.bk BK207) hkp (fun hs_ => (fun e_ => (Kd.R_ne HO_195002.out BK207.out (by decide)) e_) hs_)); replace HO_195002 := Aside0.mk (Kd.R_reok rfl hy0 (fun k_ e_ => HO_195002.out.1 k_ e_)); replace HO213 := Aside0.mk (Kd.R_mono (ok' := fun k_ => some k_ ≠ (.slice Ao43 t184.length co43 : Value).ownBlock ∧ some k_ ≠ (.slice Ao53 t191.length co53 : Value).ownBlock ∧ some k_ ≠ (.slice Ao63 t197.length co63 : Value).ownBlock ∧ some k_ ≠ (.slice Ao73 t203.length co73 : Value).ownBlock ∧ some k_ ≠ (.slice Ao116 t217.length co116 : Value).ownBlock) (Kd.R_keptB (HO213.out) hkp (fun k_ hk_ hs_ => (hk_.1.1.1.2) hs_)) (fun k_ hk_ => ⟨hk_.1.1.1.1.1.2, hk_.1.1.1.1.2, hk_.1.1.1.2, hk_.1.1.2, hk_.1.2⟩)); replace HO219 := Aside0.mk (Kd.R_mono (ok' := fun k_ => some k_ ≠ (.slice Ao43 t184.length co43 : Value).ownBlock ∧ some k_ ≠ (.slice Ao53 t191.length co53 : Value).ownBlock ∧ some k_ ≠ (.slice Ao63 t197.length co63 : Value).ownBlock ∧ some k_ ≠ (.slice Ao73 t203.length co73 : Value).ownBlock ∧ some k_ ≠ (.slice Ao112 t211.length co112 : Value).ownBlock) (Kd.R_keptB (HO219.out) hkp (fun k_ hk_ hs_ => (hk_.1.1.1.2) hs_)) (fun k_ hk_ => ⟨hk_.1.1.1.1.1.2, hk_.1.1.1.1.2, hk_.1.1.1.2, hk_.1.1.2, hk_.1.2⟩)); replace HB := Aside0.mk (hb); (try clear hb); (try clear hkp); (try clear hy0); have hnb125 := NB200_168.out; have hnc125 := NB168_200.out; have hnb126 := NB200_169.out; have hnc126 := NB169_200.out; have hnb127 := NB200_188.out; have hnc127 := NB188_200.out; have hnb128 := NB200_207.out; have hnc128 := NB207_200.out; have hcz129_0 : w124.cell? ⟨gb200, 0, none⟩ = some (.int .i64 t195) := (blk_cell BK200.out 0).trans rfl; have hcz129_1 : w124.cell? ⟨gb200, 1, none⟩ = some (.int .i64 t196) := (blk_cell BK200.out 1).trans rfl; have hcz129_2 : w124.cell? ⟨gb200, 2, none⟩ = some (.slice Ao63 t197.length co63) := (blk_cell BK200.out 2).trans rfl; have hfz129_0 := blk_frozen BK200.out 0; have hfz129_1 := blk_frozen BK200.out 1; have hfz129_2 := blk_frozen BK200.out 2) | ((with_reducible refine gate_callee (f := 26) rfl ?_); refine ztMasks.gl (some 69) rfl rfl Try.func26 (by kernel_rfl) rfl #[.agg #[.int .i64 t195, .int .i64 t196, .slice Ao63 t197.length co63], .int .i64 t221] rfl ?_; (with_reducible refine (laws_markMask.calls kj24 t195 t196 (fun k_ => some k_ = (.slice Ao63 t197.length co63 : Value).ownBlock) (.slice Ao63 t197.length co63) t197 t221 t223 t224 w _ ?side1 ?side2 A108.out).mono ?_); (case side1 => exact ztMasks.bl HB); (case side2 => exact Kd.R_tight rfl HO_201002.out); rintro e w130 ⟨rfl, hy0, hb, hkp⟩; refine ⟨_, rfl, ?_⟩; replace HO_189002 := Aside0.mk (Kd.R_mono (ok' := fun k_ => some k_ ≠ (.slice Ao53 t191.length co53 : Value).ownBlock ∧ some k_ ≠ (.slice Ao63 t197.length co63 : Value).ownBlock ∧ some k_ ≠ (.slice Ao73 t203.length co73 : Value).ownBlock ∧ some k_ ≠ (.slice Ao112 t211.length co112 : Value).ownBlock ∧ some k_ ≠ (.slice Ao116 t217.length co116 : Value).ownBlock) (Kd.R_keptB (HO_189002.out) hkp (fun k_ hk_ hs_ => (hk_.2.1) hs_)) (fun k_ hk_ => ⟨hk_.1.1, hk_.1.2.1, hk_.1.2.2.1, hk_.1.2.2.2.1, hk_.1.2.2.2.2⟩)); replace HO_195002 := Aside0.mk (Kd.R_mono (ok' := fun k_ => some k_ ≠ (.slice Ao43 t184.length co43 : Value).ownBlock ∧ some k_ ≠ (.slice Ao63 t197.length co63 : Value).ownBlock ∧ some k_ ≠ (.slice Ao73 t203.length co73 : Value).ownBlock ∧ some k_ ≠ (.slice Ao112 t211.length co112 : Value).ownBlock ∧ some k_ ≠ (.slice Ao116 t217.length co116 : Value).ownBlock) (Kd.R_keptB (HO_195002.out) hkp (fun k_ hk_ hs_ => (hk_.1.1.2.1) hs_)) (fun k_ hk_ => ⟨hk_.1.1.1.1, hk_.1.1.1.2.1, hk_.1.1.1.2.2, hk_.1.1.2, hk_.1.2⟩)); replace HO_208002 := Aside0.mk (Kd.R_mono (ok' := fun k_ => some k_ ≠ (.slice Ao43 t184.length co43 : Value).ownBlock ∧ some k_ ≠ (.slice Ao53 t191.length co53 : Value).ownBlock ∧ some k_ ≠ (.slice Ao63 t197.length co63 : Value).ownBlock ∧ some k_ ≠ (.slice Ao112 t211.length co112 : Value).ownBlock ∧ some k_ ≠ (.slice Ao116 t217.length co116 : Value).ownBlock) (Kd.R_keptB (HO_208002.out) hkp (fun k_ hk_ hs_ => (hk_.2.2.1) hs_)) (fun k_ hk_ => ⟨hk_.1.1, hk_.1.2.1, hk_.1.2.2.1, hk_.1.2.2.2.1, hk_.1.2.2.2.2⟩)); replace BK168 := Aside0.mk (blk_kept (ztMasks.bk BK168) hkp (fun hs_ => (fun e_ => (Kd.R_ne HO_201002.out BK168.out (by decide)) e_) hs_)); replace BK169 := Aside0.mk (blk_kept (ztMasks.bk BK169) hkp (fun hs_ => (fun e_ => (Kd.R_ne HO_201002.out BK169.out (by decide)) e_) hs_)); replace BK188 := Aside0.mk (blk_kept (ztMasks.bk BK188) hkp (fun hs_ => (fun e_ => (Kd.R_ne HO_201002.out BK188.out (by decide)) e_) hs_)); replace BK194 := Aside0.mk (blk_kept (ztMasks.bk BK194) hkp (fun hs_ => (fun e_ => (Kd.R_ne HO_201002.out BK194.out (by decide)) e_) hs_)); replace BK200 := Aside0.mk (blk_kept (ztMasks.bk BK200) hkp (fun hs_ => (fun e_ => (Kd.R_ne HO_201002.out BK200.out (by decide)) e_) hs_)); replace BK207 := Aside0.mk (blk_kept (ztMasks.bk BK207) hkp (fun hs_ => (fun e_ => (Kd.R_ne HO_201002.out BK207.out (by decide)) e_) hs_)); replace HO_201002 := Aside0.mk (Kd.R_reok rfl hy0 (fun k_ e_ => HO_201002.out.1 k_ e_)); replace HO213 := Aside0.mk (Kd.R_mono (ok' := fun k_ => some k_ ≠ (.slice Ao43 t184.length co43 : Value).ownBlock ∧ some k_ ≠ (.slice Ao53 t191.length co53 : Value).ownBlock ∧ some k_ ≠ (.slice Ao63 t197.length co63 : Value).ownBlock ∧ some k_ ≠ (.slice Ao73 t203.length co73 : Value).ownBlock ∧ some k_ ≠ (.slice Ao116 t217.length co116 : Value).ownBlock) (Kd.R_keptB (HO213.out) hkp (fun k_ hk_ hs_ => (hk_.2.2.1) hs_)) (fun k_ hk_ => ⟨hk_.1.1, hk_.1.2.1, hk_.1.2.2.1, hk_.1.2.2.2.1, hk_.1.2.2.2.2⟩)); replace HO219 := Aside0.mk (Kd.R_mono (ok' := fun k_ => some k_ ≠ (.slice Ao43 t184.length co43 : Value).ownBlock ∧ some k_ ≠ (.slice Ao53 t191.length co53 : Value).ownBlock ∧ some k_ ≠ (.slice Ao63 t197.length co63 : Value).ownBlock ∧ some k_ ≠ (.slice Ao73 t203.length co73 : Value).ownBlock ∧ some k_ ≠ (.slice Ao112 t211.length co112 : Value).ownBlock) (Kd.R_keptB (HO219.out) hkp (fun k_ hk_ hs_ => (hk_.2.2.1) hs_)) (fun k_ hk_ => ⟨hk_.1.1, hk_.1.2.1, hk_.1.2.2.1, hk_.1.2.2.2.1, hk_.1.2.2.2.2⟩)); replace HB := Aside0.mk (hb); (try clear hb); (try clear hkp); (try clear hy0)))
        (try simp only [Act.put, List.setIfInBounds_toArray, List.set_cons_zero, List.set_cons_succ])
        go_cut [82] (fun v82 wc => ∃ (kq : Nat) (x82_108 : Bool), v82 = .bool x82_108 ∧ Aside0 (laws_FnExactMeetMasks.j1 kq t187 x82_108 a0_0 a0_1 l0_2 a1_0 a1_1 l1_2 t182 t183 t184 t201 t202 t203 = some r) ∧ Aside0 (kq ≤ kj24) ∧ Aside0 (Kd.R (Kd.int .i64) 3 wc w.heap.size (fun k_ => some k_ ≠ ((.slice Ao53 t191.length co53) : Value).ownBlock ∧ some k_ ≠ ((.slice Ao63 t197.length co63) : Value).ownBlock ∧ some k_ ≠ ((.slice Ao73 t203.length co73) : Value).ownBlock) (.slice Ao43 t184.length co43) t184) ∧ Aside0 (Kd.R (Kd.int .i64) 3 wc w.heap.size (fun k_ => some k_ ≠ ((.slice Ao43 t184.length co43) : Value).ownBlock ∧ some k_ ≠ ((.slice Ao63 t197.length co63) : Value).ownBlock ∧ some k_ ≠ ((.slice Ao73 t203.length co73) : Value).ownBlock) (.slice Ao53 t191.length co53) t222) ∧ Aside0 (Kd.R (Kd.int .i64) 3 wc w.heap.size (fun k_ => some k_ ≠ ((.slice Ao43 t184.length co43) : Value).ownBlock ∧ some k_ ≠ ((.slice Ao53 t191.length co53) : Value).ownBlock ∧ some k_ ≠ ((.slice Ao73 t203.length co73) : Value).ownBlock) (.slice Ao63 t197.length co63) t224) ∧ Aside0 (Kd.R (Kd.int .i64) 3 wc w.heap.size (fun k_ => some k_ ≠ ((.slice Ao43 t184.length co43) : Value).ownBlock ∧ some k_ ≠ ((.slice Ao53 t191.length co53) : Value).ownBlock ∧ some k_ ≠ ((.slice Ao63 t197.length co63) : Value).ownBlock) (.slice Ao73 t203.length co73) t203) ∧ Aside0 (wc.heap[gb168]? = some (.cells #[.int .i64 a0_0, .int .i64 a0_1, (.slice A0_2 l0_2.length c0_2)] 35 (0, 0))) ∧ Aside0 (wc.heap[gb169]? = some (.cells #[.int .i64 a1_0, .int .i64 a1_1, (.slice A1_2 l1_2.length c1_2)] 35 (0, 0))) ∧ Aside0 (wc.heap[gb188]? = some (.cells #[.int .i64 t182, .int .i64 t183, (.slice Ao43 t184.length co43)] 37 (0, 0))) ∧ Aside0 (wc.heap[gb194]? = some (.cells #[.int .i64 t189, .int .i64 t190, (.slice Ao53 t191.length co53)] 37 (0, 0))) ∧ Aside0 (wc.heap[gb200]? = some (.cells #[.int .i64 t195, .int .i64 t196, (.slice Ao63 t197.length co63)] 37 (0, 0))) ∧ Aside0 (wc.heap[gb207]? = some (.cells #[.int .i64 t201, .int .i64 t202, (.slice Ao73 t203.length co73)] 37 (0, 0))) ∧ Aside0 (Below w.heap.size w wc))
        case first =>
         have H := HC109.out
         clear HC109
         by_cases c131 : t223 < 0
         ·rw [if_pos c131] at H
          have c131b0 : decide (t223 < 0) = true := decide_eq_true c131
          clear c131
          (first | rw [c131b0] | (simp only [i64_w, i32_w]; rw [c131b0]) | skip)
          have H' := Aside0.mk H
          clear H
          go_wp2
          go_meet
          case rel => exact ⟨_, (true), (by first | rfl | (simp; done) | (simp [*]; done)), H', ⟨by have := HJ24.out; first | omega | exact Nat.le_refl _⟩, ⟨ztMasks.rl (Kd.R_mono HO_189002.out (fun _ hk => ⟨hk.1, ⟨hk.2.1, hk.2.2.1⟩⟩))⟩, ⟨ztMasks.rl (Kd.R_mono HO_195002.out (fun _ hk => ⟨hk.1, ⟨hk.2.1, hk.2.2.1⟩⟩))⟩, ⟨ztMasks.rl (Kd.R_mono HO_201002.out (fun _ hk => ⟨hk.1, ⟨hk.2.1, hk.2.2.1⟩⟩))⟩, ⟨ztMasks.rl (Kd.R_mono HO_208002.out (fun _ hk => ⟨hk.1, ⟨hk.2.1, hk.2.2.1⟩⟩))⟩, ⟨ztMasks.bk BK168⟩, ⟨ztMasks.bk BK169⟩, ⟨ztMasks.bk BK188⟩, ⟨ztMasks.bk BK194⟩, ⟨ztMasks.bk BK200⟩, ⟨ztMasks.bk BK207⟩, ⟨ztMasks.bl HB⟩⟩
         ·rw [if_neg c131] at H
          have c131b0 : decide (t223 < 0) = false := decide_eq_false c131
          clear c131
          (first | rw [c131b0] | (simp only [i64_w, i32_w]; rw [c131b0]) | skip)
          replace H := Option.bind_eq_some_iff.mp H
          obtain ⟨t225, A1320, H⟩ := H
          replace H : (if t225 = true then (laws_FnExactMeetMasks.j1 kj24 t187 (t206 != t187) a0_0 a0_1 l0_2 a1_0 a1_1 l1_2 t182 t183 t184 t201 t202 t203) else (laws_FnExactMeetMasks.j1 kj24 t187 true a0_0 a0_1 l0_2 a1_0 a1_1 l1_2 t182 t183 t184 t201 t202 t203)) = some r := H
          have A132 := Aside0.mk A1320
          clear A1320
          by_cases c133 : t225 = true
          ·subst c133
           have H1 : (laws_FnExactMeetMasks.j1 kj24 t187 (t206 != t187) a0_0 a0_1 l0_2 a1_0 a1_1 l1_2 t182 t183 t184 t201 t202 t203) = some r := by rw [if_pos rfl] at H; exact H
           clear H
           have H := H1
           clear H1
           have H' := Aside0.mk H
           clear H
           have hnb134 := NB207_168.out
           have hnc134 := NB168_207.out
           have hnb135 := NB207_169.out
           have hnc135 := NB169_207.out
           have hnb136 := NB207_188.out
           have hnc136 := NB188_207.out
           have hnb137 := NB207_194.out
           have hnc137 := NB194_207.out
           have hnb138 := NB207_200.out
           have hnc138 := NB200_207.out
           have hcz139_0 : w130.cell? ⟨gb207, 0, none⟩ = some (.int .i64 t201) := (blk_cell BK207.out 0).trans rfl
           have hcz139_1 : w130.cell? ⟨gb207, 1, none⟩ = some (.int .i64 t202) := (blk_cell BK207.out 1).trans rfl
           have hcz139_2 : w130.cell? ⟨gb207, 2, none⟩ = some (.slice Ao73 t203.length co73) := (blk_cell BK207.out 2).trans rfl
           have hfz139_0 := blk_frozen BK207.out 0
           have hfz139_1 := blk_frozen BK207.out 1
           have hfz139_2 := blk_frozen BK207.out 2
           have hnb140 := NB188_168.out
           have hnc140 := NB168_188.out
           have hnb141 := NB188_169.out
           have hnc141 := NB169_188.out
           have hnb142 := NB188_194.out
           have hnc142 := NB194_188.out
           have hnb143 := NB188_200.out
           have hnc143 := NB200_188.out
           have hcz144_0 : w130.cell? ⟨gb188, 0, none⟩ = some (.int .i64 t182) := (blk_cell BK188.out 0).trans rfl
           have hcz144_1 : w130.cell? ⟨gb188, 1, none⟩ = some (.int .i64 t183) := (blk_cell BK188.out 1).trans rfl
           have hcz144_2 : w130.cell? ⟨gb188, 2, none⟩ = some (.slice Ao43 t184.length co43) := (blk_cell BK188.out 2).trans rfl
           have hfz144_0 := blk_frozen BK188.out 0
           have hfz144_1 := blk_frozen BK188.out 1
           have hfz144_2 := blk_frozen BK188.out 2
           go_wp2_with (first | (go_at_call 25; (with_reducible refine (laws_eqMask.calls kj24 t201 t202 _ _ t203 t182 t183 _ _ t184 true _ ?side1 ?side2 ?side3 ?side4 A132.out).mono ?_); (case side1 => repeat (first | exact (Kd.R_reads' HO_208002.out).2.2 | (with_reducible refine Kd.C_alloc ?_ _) | (with_reducible refine Kd.C_drewN ?_ _) | (with_reducible refine Kd.C_drew ?_))); (case side2 => exact (Kd.R_reads' HO_208002.out).2.1); (case side3 => repeat (first | exact (Kd.R_reads' HO_189002.out).2.2 | (with_reducible refine Kd.C_alloc ?_ _) | (with_reducible refine Kd.C_drewN ?_ _) | (with_reducible refine Kd.C_drew ?_))); (case side4 => exact (Kd.R_reads' HO_189002.out).2.1); rintro e w145 ⟨rfl, hb⟩; replace HO_189002 := ztMasks.rb HO_189002 hb; replace HO_195002 := ztMasks.rb HO_195002 hb; replace HO_201002 := ztMasks.rb HO_201002 hb; replace HO_208002 := ztMasks.rb HO_208002 hb; replace HO213 := ztMasks.rb HO213 hb; replace HO219 := ztMasks.rb HO219 hb; replace BK168 := ztMasks.bb BK168 hb; replace BK169 := ztMasks.bb BK169 hb; replace BK188 := ztMasks.bb BK188 hb; replace BK194 := ztMasks.bb BK194 hb; replace BK200 := ztMasks.bb BK200 hb; replace BK207 := ztMasks.bb BK207 hb; replace HB := Aside0.mk (below_step (ztMasks.bl HB) hb); (try clear hb); (try clear hb2); (try clear hk); (try clear hi)))
           go_meet
           case rel => exact ⟨_, ((t206 != t187)), (by first | rfl | (simp; done) | (simp [*]; done)), H', ⟨by have := HJ24.out; first | omega | exact Nat.le_refl _⟩, ⟨ztMasks.rl (Kd.R_mono HO_189002.out (fun _ hk => ⟨hk.1, ⟨hk.2.1, hk.2.2.1⟩⟩))⟩, ⟨ztMasks.rl (Kd.R_mono HO_195002.out (fun _ hk => ⟨hk.1, ⟨hk.2.1, hk.2.2.1⟩⟩))⟩, ⟨ztMasks.rl (Kd.R_mono HO_201002.out (fun _ hk => ⟨hk.1, ⟨hk.2.1, hk.2.2.1⟩⟩))⟩, ⟨ztMasks.rl (Kd.R_mono HO_208002.out (fun _ hk => ⟨hk.1, ⟨hk.2.1, hk.2.2.1⟩⟩))⟩, ⟨ztMasks.bk BK168⟩, ⟨ztMasks.bk BK169⟩, ⟨ztMasks.bk BK188⟩, ⟨ztMasks.bk BK194⟩, ⟨ztMasks.bk BK200⟩, ⟨ztMasks.bk BK207⟩, ⟨ztMasks.bl HB⟩⟩
          ·replace c133 := Bool.eq_false_iff.mpr c133
           subst c133
           have H1 : (laws_FnExactMeetMasks.j1 kj24 t187 true a0_0 a0_1 l0_2 a1_0 a1_1 l1_2 t182 t183 t184 t201 t202 t203) = some r := by rw [if_neg (show ¬ (false = true) by decide)] at H; exact H
           clear H
           have H := H1
           clear H1
           have H' := Aside0.mk H
           clear H
           have hnb146 := NB207_168.out
           have hnc146 := NB168_207.out
           have hnb147 := NB207_169.out
           have hnc147 := NB169_207.out
           have hnb148 := NB207_188.out
           have hnc148 := NB188_207.out
           have hnb149 := NB207_194.out
           have hnc149 := NB194_207.out
           have hnb150 := NB207_200.out
           have hnc150 := NB200_207.out
           have hcz151_0 : w130.cell? ⟨gb207, 0, none⟩ = some (.int .i64 t201) := (blk_cell BK207.out 0).trans rfl
           have hcz151_1 : w130.cell? ⟨gb207, 1, none⟩ = some (.int .i64 t202) := (blk_cell BK207.out 1).trans rfl
           have hcz151_2 : w130.cell? ⟨gb207, 2, none⟩ = some (.slice Ao73 t203.length co73) := (blk_cell BK207.out 2).trans rfl
           have hfz151_0 := blk_frozen BK207.out 0
           have hfz151_1 := blk_frozen BK207.out 1
           have hfz151_2 := blk_frozen BK207.out 2
           have hnb152 := NB188_168.out
           have hnc152 := NB168_188.out
           have hnb153 := NB188_169.out
           have hnc153 := NB169_188.out
           have hnb154 := NB188_194.out
           have hnc154 := NB194_188.out
           have hnb155 := NB188_200.out
           have hnc155 := NB200_188.out
           have hcz156_0 : w130.cell? ⟨gb188, 0, none⟩ = some (.int .i64 t182) := (blk_cell BK188.out 0).trans rfl
           have hcz156_1 : w130.cell? ⟨gb188, 1, none⟩ = some (.int .i64 t183) := (blk_cell BK188.out 1).trans rfl
           have hcz156_2 : w130.cell? ⟨gb188, 2, none⟩ = some (.slice Ao43 t184.length co43) := (blk_cell BK188.out 2).trans rfl
           have hfz156_0 := blk_frozen BK188.out 0
           have hfz156_1 := blk_frozen BK188.out 1
           have hfz156_2 := blk_frozen BK188.out 2
           go_wp2_with (first | (go_at_call 25; (with_reducible refine (laws_eqMask.calls kj24 t201 t202 _ _ t203 t182 t183 _ _ t184 false _ ?side1 ?side2 ?side3 ?side4 A132.out).mono ?_); (case side1 => repeat (first | exact (Kd.R_reads' HO_208002.out).2.2 | (with_reducible refine Kd.C_alloc ?_ _) | (with_reducible refine Kd.C_drewN ?_ _) | (with_reducible refine Kd.C_drew ?_))); (case side2 => exact (Kd.R_reads' HO_208002.out).2.1); (case side3 => repeat (first | exact (Kd.R_reads' HO_189002.out).2.2 | (with_reducible refine Kd.C_alloc ?_ _) | (with_reducible refine Kd.C_drewN ?_ _) | (with_reducible refine Kd.C_drew ?_))); (case side4 => exact (Kd.R_reads' HO_189002.out).2.1); rintro e w157 ⟨rfl, hb⟩; replace HO_189002 := ztMasks.rb HO_189002 hb; replace HO_195002 := ztMasks.rb HO_195002 hb; replace HO_201002 := ztMasks.rb HO_201002 hb; replace HO_208002 := ztMasks.rb HO_208002 hb; replace HO213 := ztMasks.rb HO213 hb; replace HO219 := ztMasks.rb HO219 hb; replace BK168 := ztMasks.bb BK168 hb; replace BK169 := ztMasks.bb BK169 hb; replace BK188 := ztMasks.bb BK188 hb; replace BK194 := ztMasks.bb BK194 hb; replace BK200 := ztMasks.bb BK200 hb; replace BK207 := ztMasks.bb BK207 hb; replace HB := Aside0.mk (below_step (ztMasks.bl HB) hb); (try clear hb); (try clear hb2); (try clear hk); (try clear hi)))
           go_meet
           case rel => exact ⟨_, (true), (by first | rfl | (simp; done) | (simp [*]; done)), H', ⟨by have := HJ24.out; first | omega | exact Nat.le_refl _⟩, ⟨ztMasks.rl (Kd.R_mono HO_189002.out (fun _ hk => ⟨hk.1, ⟨hk.2.1, hk.2.2.1⟩⟩))⟩, ⟨ztMasks.rl (Kd.R_mono HO_195002.out (fun _ hk => ⟨hk.1, ⟨hk.2.1, hk.2.2.1⟩⟩))⟩, ⟨ztMasks.rl (Kd.R_mono HO_201002.out (fun _ hk => ⟨hk.1, ⟨hk.2.1, hk.2.2.1⟩⟩))⟩, ⟨ztMasks.rl (Kd.R_mono HO_208002.out (fun _ hk => ⟨hk.1, ⟨hk.2.1, hk.2.2.1⟩⟩))⟩, ⟨ztMasks.bk BK168⟩, ⟨ztMasks.bk BK169⟩, ⟨ztMasks.bk BK188⟩, ⟨ztMasks.bk BK194⟩, ⟨ztMasks.bk BK200⟩, ⟨ztMasks.bk BK207⟩, ⟨ztMasks.bl HB⟩⟩
        case rest =>
         clear HC109
         try clear c1
         try clear c2
         try clear p2
         try clear c10
         try clear c11
         try clear c12
         try clear c13
         try clear c14
         try clear c15
         try clear c23
         try clear c25
         try clear c26
         try clear c100
         try clear c103
         try clear c106
         try clear c118
         try clear c119
         try clear c120
         try clear c121
         try clear c122
         try clear c125
         try clear c126
         try clear c127
         try clear c128
         try clear c131
         try clear c131b0
         try clear c133
         try clear c134
         try clear c135
         try clear c136
         try clear c137
         try clear c138
         try clear c140
         try clear c141
         try clear c142
         try clear c143
         try clear c146
         try clear c147
         try clear c148
         try clear c149
         try clear c150
         try clear c152
         try clear c153
         try clear c154
         try clear c155
         try clear hcz123_0
         try clear hcz123_1
         try clear hcz123_2
         try clear hcz129_0
         try clear hcz129_1
         try clear hcz129_2
         try clear hcz139_0
         try clear hcz139_1
         try clear hcz139_2
         try clear hcz144_0
         try clear hcz144_1
         try clear hcz144_2
         try clear hcz151_0
         try clear hcz151_1
         try clear hcz151_2
         try clear hcz156_0
         try clear hcz156_1
         try clear hcz156_2
         try clear hcz64_1
         try clear hcz64_2
         try clear hcz72_0
         try clear hcz72_1
         try clear hcz72_2
         try clear hcz81_0
         try clear hcz81_1
         try clear hcz81_2
         try clear hcz86_0
         try clear hcz86_1
         try clear hcz86_2
         try clear hcz93_0
         try clear hcz93_1
         try clear hcz93_2
         try clear hcz98_0
         try clear hcz98_1
         try clear hcz98_2
         try clear hfz123_0
         try clear hfz123_1
         try clear hfz123_2
         try clear hfz129_0
         try clear hfz129_1
         try clear hfz129_2
         try clear hfz139_0
         try clear hfz139_1
         try clear hfz139_2
         try clear hfz144_0
         try clear hfz144_1
         try clear hfz144_2
         try clear hfz151_0
         try clear hfz151_1
         try clear hfz151_2
         try clear hfz156_0
         try clear hfz156_1
         try clear hfz156_2
         try clear hfz46_0
         try clear hfz46_1
         try clear hfz46_2
         try clear hfz52_0
         try clear hfz52_1
         try clear hfz52_2
         try clear hfz55_0
         try clear hfz55_1
         try clear hfz55_2
         try clear hfz62_0
         try clear hfz62_1
         try clear hfz62_2
         try clear hfz64_0
         try clear hfz64_1
         try clear hfz64_2
         try clear hfz72_0
         try clear hfz72_1
         try clear hfz72_2
         try clear hfz81_0
         try clear hfz81_1
         try clear hfz81_2
         try clear hfz86_0
         try clear hfz86_1
         try clear hfz86_2
         try clear hfz93_0
         try clear hfz93_1
         try clear hfz93_2
         try clear hfz98_0
         try clear hfz98_1
         try clear hfz98_2
         obtain ⟨kq, x82_108, rfl, HA, HJ108, HO_189002, HO_195002, HO_201002, HO_208002, BK168, BK169, BK188, BK194, BK200, BK207, HB⟩ := hcut
         have hl195002_108 := (Kd.R_reads' HO_195002.out).1
         rw [hl195002_108] at HO_195002
         (try simp only [hl195002_108])
         (try simp only [hl195002_108] at BK168)
         (try simp only [hl195002_108] at BK169)
         (try simp only [hl195002_108] at BK188)
         (try simp only [hl195002_108] at BK194)
         (try simp only [hl195002_108] at BK200)
         (try simp only [hl195002_108] at BK207)
         (try simp only [hl195002_108] at HO_189002)
         (try simp only [hl195002_108] at HO_201002)
         (try simp only [hl195002_108] at HO_208002)
         have hl201002_108 := (Kd.R_reads' HO_201002.out).1
         rw [hl201002_108] at HO_201002
         (try simp only [hl201002_108])
         (try simp only [hl201002_108] at BK168)
         (try simp only [hl201002_108] at BK169)
         (try simp only [hl201002_108] at BK188)
         (try simp only [hl201002_108] at BK194)
         (try simp only [hl201002_108] at BK200)
         (try simp only [hl201002_108] at BK207)
         (try simp only [hl201002_108] at HO_189002)
         (try simp only [hl201002_108] at HO_195002)
         (try simp only [hl201002_108] at HO_208002)
         cases kq with
         | zero => exact absurd HA.out (by simp [laws_FnExactMeetMasks.j1])
         | succ kj108 =>
          have H := HA.out
          clear HA
          simp only [laws_FnExactMeetMasks.j1] at H
          by_cases c158 : x82_108 = true
          ·subst c158
           have H1 : (some false) = some r := by rw [if_pos rfl] at H; exact H
           clear H
           have H := H1
           clear H1
           exact absurd (Option.some.inj H) (by rw [hrt]; decide)
          ·replace c158 := Bool.eq_false_iff.mpr c158
           subst c158
           have H1 : ((laws_markMask.f kj108 t201 t202 t203 1).bind fun bt226 => ((laws_heldMask.f kj108 t201 t202 bt226.2 1).bind fun t228 => (if t228 < 0 then (some false) else (if t228 = bt226.1 then ((laws_toMask.f kj108 a0_0 a0_1 l0_2).bind fun bt229 => ((laws_toMask.f kj108 a1_0 a1_1 l1_2).bind fun bt234 => ((impl_MeetMasks.f kj108 bt229.1 bt229.2.1 bt229.2.2 bt234.1 bt234.2.1 bt234.2.2).bind fun bt239 => ((laws_eqMask.f kj108 bt239.1 bt239.2.1 bt239.2.2.1 t182 t183 t184).bind fun t246 => (if t246 = true then (laws_FnExactMeetMasks.j2 kj108 bt226.1 (bt239.2.2.2 != t187) t201 t202 bt226.2) else (laws_FnExactMeetMasks.j2 kj108 bt226.1 true t201 t202 bt226.2)))))) else (some false))))) = some r := by rw [if_neg (show ¬ (false = true) by decide)] at H; exact H
           clear H
           have H := H1
           clear H1
           replace H := Option.bind_eq_some_iff.mp H
           obtain ⟨⟨t226, t227⟩, A1590, H⟩ := H
           replace H : ((laws_heldMask.f kj108 t201 t202 t227 1).bind fun t228 => (if t228 < 0 then (some false) else (if t228 = t226 then ((laws_toMask.f kj108 a0_0 a0_1 l0_2).bind fun bt229 => ((laws_toMask.f kj108 a1_0 a1_1 l1_2).bind fun bt234 => ((impl_MeetMasks.f kj108 bt229.1 bt229.2.1 bt229.2.2 bt234.1 bt234.2.1 bt234.2.2).bind fun bt239 => ((laws_eqMask.f kj108 bt239.1 bt239.2.1 bt239.2.2.1 t182 t183 t184).bind fun t246 => (if t246 = true then (laws_FnExactMeetMasks.j2 kj108 t226 (bt239.2.2.2 != t187) t201 t202 t227) else (laws_FnExactMeetMasks.j2 kj108 t226 true t201 t202 t227)))))) else (some false)))) = some r := H
           have A159 := Aside0.mk A1590
           clear A1590
           replace H := Option.bind_eq_some_iff.mp H
           obtain ⟨t228, A1600, H⟩ := H
           replace H : (if t228 < 0 then (some false) else (if t228 = t226 then ((laws_toMask.f kj108 a0_0 a0_1 l0_2).bind fun bt229 => ((laws_toMask.f kj108 a1_0 a1_1 l1_2).bind fun bt234 => ((impl_MeetMasks.f kj108 bt229.1 bt229.2.1 bt229.2.2 bt234.1 bt234.2.1 bt234.2.2).bind fun bt239 => ((laws_eqMask.f kj108 bt239.1 bt239.2.1 bt239.2.2.1 t182 t183 t184).bind fun t246 => (if t246 = true then (laws_FnExactMeetMasks.j2 kj108 t226 (bt239.2.2.2 != t187) t201 t202 t227) else (laws_FnExactMeetMasks.j2 kj108 t226 true t201 t202 t227)))))) else (some false))) = some r := H
           have A160 := Aside0.mk A1600
           clear A1600
           by_cases c161 : t228 < 0
           ·rw [if_pos c161] at H
            have c161b0 : decide (t228 < 0) = true := decide_eq_true c161
            clear c161
            exact absurd (Option.some.inj H) (by rw [hrt]; decide)
           ·rw [if_neg c161] at H
            have c161b0 : decide (t228 < 0) = false := decide_eq_false c161
            clear c161
            by_cases c171 : t228 = t226
            ·rw [if_pos c171] at H
             have c171b0 : (t228 == t226) = true := beq_iff_eq.mpr c171
             have c171b1 : (t228 != t226) = false := bne_eq_false_iff_eq.mpr c171
             clear c171
             replace H := Option.bind_eq_some_iff.mp H
             obtain ⟨⟨t229, t230, t231⟩, A1720, H⟩ := H
             replace H : ((laws_toMask.f kj108 a1_0 a1_1 l1_2).bind fun bt234 => ((impl_MeetMasks.f kj108 t229 t230 t231 bt234.1 bt234.2.1 bt234.2.2).bind fun bt239 => ((laws_eqMask.f kj108 bt239.1 bt239.2.1 bt239.2.2.1 t182 t183 t184).bind fun t246 => (if t246 = true then (laws_FnExactMeetMasks.j2 kj108 t226 (bt239.2.2.2 != t187) t201 t202 t227) else (laws_FnExactMeetMasks.j2 kj108 t226 true t201 t202 t227))))) = some r := H
             have A172 := Aside0.mk A1720
             clear A1720
             replace H := Option.bind_eq_some_iff.mp H
             obtain ⟨⟨t234, t235, t236⟩, A1730, H⟩ := H
             replace H : ((impl_MeetMasks.f kj108 t229 t230 t231 t234 t235 t236).bind fun bt239 => ((laws_eqMask.f kj108 bt239.1 bt239.2.1 bt239.2.2.1 t182 t183 t184).bind fun t246 => (if t246 = true then (laws_FnExactMeetMasks.j2 kj108 t226 (bt239.2.2.2 != t187) t201 t202 t227) else (laws_FnExactMeetMasks.j2 kj108 t226 true t201 t202 t227)))) = some r := H
             have A173 := Aside0.mk A1730
             clear A1730
             replace H := Option.bind_eq_some_iff.mp H
             obtain ⟨⟨t239, t240, t241, t244⟩, A1740, H⟩ := H
             replace H : ((laws_eqMask.f kj108 t239 t240 t241 t182 t183 t184).bind fun t246 => (if t246 = true then (laws_FnExactMeetMasks.j2 kj108 t226 (t244 != t187) t201 t202 t227) else (laws_FnExactMeetMasks.j2 kj108 t226 true t201 t202 t227))) = some r := H
             have A174 := Aside0.mk A1740
             clear A1740
             have HC175 := Aside0.mk H
             clear H
             have hnb176 := NB207_168.out
             have hnc176 := NB168_207.out
             have hnb177 := NB207_169.out
             have hnc177 := NB169_207.out
             have hnb178 := NB207_188.out
             have hnc178 := NB188_207.out
             have hnb179 := NB207_194.out
             have hnc179 := NB194_207.out
             have hnb180 := NB207_200.out
             have hnc180 := NB200_207.out
             have hcz181_0 : wc.cell? ⟨gb207, 0, none⟩ = some (.int .i64 t201) := (blk_cell BK207.out 0).trans rfl
             have hcz181_1 : wc.cell? ⟨gb207, 1, none⟩ = some (.int .i64 t202) := (blk_cell BK207.out 1).trans rfl
             have hcz181_2 : wc.cell? ⟨gb207, 2, none⟩ = some (.slice Ao73 t203.length co73) := (blk_cell BK207.out 2).trans rfl
             have hfz181_0 := blk_frozen BK207.out 0
             have hfz181_1 := blk_frozen BK207.out 1
             have hfz181_2 := blk_frozen BK207.out 2
             try go_wp2_with (first | ((with_reducible refine gate_callee (f := 26) rfl ?_); refine ztMasks.gl (some 85) rfl rfl Try.func26 (by kernel_rfl) rfl #[.agg #[.int .i64 t201, .int .i64 t202, .slice Ao73 t203.length co73], .int .i64 1] rfl ?_; (with_reducible refine (laws_markMask.calls kj108 t201 t202 (fun k_ => some k_ = (.slice Ao73 t203.length co73 : Value).ownBlock) (.slice Ao73 t203.length co73) t203 1 t226 t227 w _ ?side1 ?side2 A159.out).mono ?_); (case side1 => exact ztMasks.bl HB); (case side2 => exact Kd.R_tight rfl HO_208002.out); rintro e w182 ⟨rfl, hy0, hb, hkp⟩; refine ⟨_, rfl, ?_⟩; replace HO_189002 := Aside0.mk (Kd.R_mono (ok' := fun k_ => some k_ ≠ (.slice Ao53 t222.length co53 : Value).ownBlock ∧ some k_ ≠ (.slice Ao63 t224.length co63 : Value).ownBlock ∧ some k_ ≠ (.slice Ao73 t203.length co73 : Value).ownBlock) (Kd.R_keptB (HO_189002.out) hkp (fun k_ hk_ hs_ => (hk_.2.2) hs_)) (fun k_ hk_ => ⟨hk_.1.1, hk_.1.2.1, hk_.1.2.2⟩)); replace HO_195002 := Aside0.mk (Kd.R_mono (ok' := fun k_ => some k_ ≠ (.slice Ao43 t184.length co43 : Value).ownBlock ∧ some k_ ≠ (.slice Ao63 t224.length co63 : Value).ownBlock ∧ some k_ ≠ (.slice Ao73 t203.length co73 : Value).ownBlock) (Kd.R_keptB (HO_195002.out) hkp (fun k_ hk_ hs_ => (hk_.2.2) hs_)) (fun k_ hk_ => ⟨hk_.1.1, hk_.1.2.1, hk_.1.2.2⟩)); replace HO_201002 := Aside0.mk (Kd.R_mono (ok' := fun k_ => some k_ ≠ (.slice Ao43 t184.length co43 : Value).ownBlock ∧ some k_ ≠ (.slice Ao53 t222.length co53 : Value).ownBlock ∧ some k_ ≠ (.slice Ao73 t203.length co73 : Value).ownBlock) (Kd.R_keptB (HO_201002.out) hkp (fun k_ hk_ hs_ => (hk_.2.2) hs_)) (fun k_ hk_ => ⟨hk_.1.1, hk_.1.2.1, hk_.1.2.2⟩)); replace BK168 := Aside0.mk (blk_kept (ztMasks.bk BK168) hkp (fun hs_ => (fun e_ => (Kd.R_ne HO_208002.out BK168.out (by decide)) e_) hs_)); replace BK169 := Aside0.mk (blk_kept (ztMasks.bk BK169) hkp (fun hs_ => (fun e_ => (Kd.R_ne HO_208002.out BK169.out (by decide)) e_) hs_)); replace BK188 := Aside0.mk (blk_kept (ztMasks.bk BK188) hkp (fun hs_ => (fun e_ => (Kd.R_ne HO_208002.out BK188.out (by decide)) e_) hs_)); replace BK194 := Aside0.mk (blk_kept (ztMasks.bk BK194) hkp (fun hs_ => (fun e_ => (Kd.R_ne HO_208002.out BK194.out (by decide)) e_) hs_)); replace BK200 := Aside0.mk (blk_kept (ztMasks.bk BK200) hkp (fun hs_ => (fun e_ => (Kd.R_ne HO_208002.out BK200.out (by decide)) e_) hs_)); replace BK207 := Aside0.mk (blk_kept (ztMasks.bk BK207) hkp (fun hs_ => (fun e_ => (Kd.R_ne HO_208002.out BK207.out (by decide)) e_) hs_)); replace HO_208002 := Aside0.mk (Kd.R_reok rfl hy0 (fun k_ e_ => HO_208002.out.1 k_ e_)); replace HB := Aside0.mk (hb); (try clear hb); (try clear hkp); (try clear hy0); have hcz183_0 : w182.cell? ⟨gb207, 0, none⟩ = some (.int .i64 t201) := (blk_cell BK207.out 0).trans rfl; have hcz183_1 : w182.cell? ⟨gb207, 1, none⟩ = some (.int .i64 t202) := (blk_cell BK207.out 1).trans rfl; have hcz183_2 : w182.cell? ⟨gb207, 2, none⟩ = some (.slice Ao73 t203.length co73) := (blk_cell BK207.out 2).trans rfl; have hfz183_0 := blk_frozen BK207.out 0; have hfz183_1 := blk_frozen BK207.out 1; have hfz183_2 := blk_frozen BK207.out 2) | ((with_reducible refine gate_callee (f := 27) rfl ?_); refine goesL_ (some 88) rfl rfl Try.func27 (by kernel_rfl) rfl #[.agg #[.int .i64 t201, .int .i64 t202, .slice Ao73 t227.length co73], .int .i64 1] rfl (by (try simp only [List.map_toArray, List.map_cons, List.map_nil]); first | done | (rw [show t227.length = t203.length from (Kd.R_reads' HO_208002.out).1.symm] <;> rfl) | rfl | (simp only [List.length_drop, List.length_take]; rfl)) ?_; (with_reducible refine (laws_heldMask.calls kj108 t201 t202 _ _ t227 1 t228 _ ?side1 ?side2 A160.out).mono ?_); (case side1 => repeat (first | exact (Kd.R_reads' HO_208002.out).2.2 | (with_reducible refine Kd.C_alloc ?_ _) | (with_reducible refine Kd.C_drewN ?_ _) | (with_reducible refine Kd.C_drew ?_))); (case side2 => rw [show t227.length = t203.length from (Kd.R_reads' HO_208002.out).1.symm]; exact (Kd.R_reads' HO_208002.out).2.1); rintro e w184 ⟨rfl, hb⟩; refine ⟨_, rfl, ?_⟩; replace HO_189002 := ztMasks.rb HO_189002 hb; replace HO_195002 := ztMasks.rb HO_195002 hb; replace HO_201002 := ztMasks.rb HO_201002 hb; replace HO_208002 := ztMasks.rb HO_208002 hb; replace BK168 := ztMasks.bb BK168 hb; replace BK169 := ztMasks.bb BK169 hb; replace BK188 := ztMasks.bb BK188 hb; replace BK194 := ztMasks.bb BK194 hb; replace BK200 := ztMasks.bb BK200 hb; replace BK207 := ztMasks.bb BK207 hb; replace HB := Aside0.mk (below_step (ztMasks.bl HB) hb); (try clear hb); (try clear hb2); (try clear hk); (try clear hi)))
             replace HO_189002 := Aside0.mk (Kd.R_drew HO_189002.out)
             replace HO_195002 := Aside0.mk (Kd.R_drew HO_195002.out)
             replace HO_201002 := Aside0.mk (Kd.R_drew HO_201002.out)
             replace HO_208002 := Aside0.mk (Kd.R_drew HO_208002.out)
             replace BK168 := Aside0.mk (blk_drew BK168.out)
             replace BK169 := Aside0.mk (blk_drew BK169.out)
             replace BK188 := Aside0.mk (blk_drew BK188.out)
             replace BK194 := Aside0.mk (blk_drew BK194.out)
             replace BK200 := Aside0.mk (blk_drew BK200.out)
             replace BK207 := Aside0.mk (blk_drew BK207.out)
             replace HB := Aside0.mk (below_drew1 HB.out)
             refine start_ (n := 11) (S := fun w' => w'.cell? ⟨gb168, 0, none⟩ = some (.int .i64 a0_0) ∧ w'.cell? ⟨gb168, 1, none⟩ = some (.int .i64 a0_1) ∧ w'.cell? ⟨gb168, 2, none⟩ = some (.slice A0_2 l0_2.length c0_2) ∧ w'.cell? ⟨gb169, 0, none⟩ = some (.int .i64 a1_0) ∧ w'.cell? ⟨gb169, 1, none⟩ = some (.int .i64 a1_1) ∧ w'.cell? ⟨gb169, 2, none⟩ = some (.slice A1_2 l1_2.length c1_2)) (ds := []) #[false, false, false, false, false, false, false, false, false, false, false] (by kernel_rfl) rfl rfl ⟨(blk_cell BK168.out 0).trans rfl, (blk_cell BK168.out 1).trans rfl, (blk_cell BK168.out 2).trans rfl, (blk_cell BK169.out 0).trans rfl, (blk_cell BK169.out 1).trans rfl, (blk_cell BK169.out 2).trans rfl⟩ (fun hHeld => ?_); refine with_tabW laws_FnExactMeetMasks.tab31 laws_FnExactMeetMasks.bits31 (fun HT_ HW_ => ?_)
             generalize w184.drew = w185 at HO_189002 HO_195002 HO_201002 HO_208002 BK168 BK169 BK188 BK194 BK200 BK207 HB hHeld ⊢
             refine take_ (i := 0) (N := some 95) (v := ?_) (a' := ?_) #[true, false, false, false, false, false, false, false, false, false, false] rfl rfl (take_ofW HT_.out HW_.out (by kernel_rfl)) (fun _ _ _ h => h) (Or.inl ⟨by rfl, ?_⟩) hHeld ?_ ?_
             rotate_left
             ·rintro w' ⟨s0, s1, s2, s3, s4, s5⟩
              go_simp
              with_reducible rfl
             rotate_left
             ·simp only [Act.put, List.setIfInBounds_toArray, List.set_cons_zero, List.set_cons_succ, i64_w, i32_w]
              rfl
             refine take_ (i := 2) (N := some 97) (v := ?_) (a' := ?_) #[true, false, true, false, false, false, false, false, false, false, false] rfl rfl (take_ofW HT_.out HW_.out (by kernel_rfl)) (fun _ _ _ h => h) (Or.inl ⟨by rfl, ?_⟩) hHeld ?_ ?_
             rotate_left
             ·rintro w' ⟨s0, s1, s2, s3, s4, s5⟩
              go_simp
              with_reducible rfl
             rotate_left
             ·simp only [Act.put, List.setIfInBounds_toArray, List.set_cons_zero, List.set_cons_succ, i64_w, i32_w]
              rfl
             refine join_ (σ := Value × Value × Value × Nat) 2 #[true, true, true, true, true, true, true, true, true, false, false] (fun s_ => [(96, .agg #[.int .i64 t229, .int .i64 t230, s_.1]), (98, .agg #[.int .i64 t234, .int .i64 t235, s_.2.1]), (99, .tuple #[.agg #[.int .i64 t239, .int .i64 t240, s_.2.2.1], .bool t244]), (15, .pointer (some ⟨s_.2.2.2, 0, none⟩)), (94, .tuple #[.agg #[.int .i64 t239, .int .i64 t240, s_.2.2.1], .bool t244]), (100, .agg #[.int .i64 t239, .int .i64 t240, s_.2.2.1]), (101, .bool t244)]) (fun s_ w' => (w'.cell? ⟨gb168, 0, none⟩ = some (.int .i64 a0_0) ∧ w'.cell? ⟨gb168, 1, none⟩ = some (.int .i64 a0_1) ∧ w'.cell? ⟨gb168, 2, none⟩ = some (.slice A0_2 l0_2.length c0_2) ∧ w'.cell? ⟨gb169, 0, none⟩ = some (.int .i64 a1_0) ∧ w'.cell? ⟨gb169, 1, none⟩ = some (.int .i64 a1_1) ∧ w'.cell? ⟨gb169, 2, none⟩ = some (.slice A1_2 l1_2.length c1_2)) ∧ (Kd.R (Kd.int .i64) 3 w' w.heap.size (fun k_ => some k_ ≠ (s_.2.1 : Value).ownBlock ∧ some k_ ≠ (s_.2.2.1 : Value).ownBlock ∧ some k_ ≠ (.slice Ao43 t184.length co43 : Value).ownBlock ∧ some k_ ≠ (.slice Ao53 t222.length co53 : Value).ownBlock ∧ some k_ ≠ (.slice Ao63 t224.length co63 : Value).ownBlock ∧ some k_ ≠ (.slice Ao73 t203.length co73 : Value).ownBlock) s_.1 t231) ∧ (Kd.R (Kd.int .i64) 3 w' w.heap.size (fun k_ => some k_ ≠ (s_.1 : Value).ownBlock ∧ some k_ ≠ (s_.2.2.1 : Value).ownBlock ∧ some k_ ≠ (.slice Ao43 t184.length co43 : Value).ownBlock ∧ some k_ ≠ (.slice Ao53 t222.length co53 : Value).ownBlock ∧ some k_ ≠ (.slice Ao63 t224.length co63 : Value).ownBlock ∧ some k_ ≠ (.slice Ao73 t203.length co73 : Value).ownBlock) s_.2.1 t236) ∧ (Kd.R (Kd.int .i64) 3 w' w.heap.size (fun k_ => some k_ ≠ (s_.1 : Value).ownBlock ∧ some k_ ≠ (s_.2.1 : Value).ownBlock ∧ some k_ ≠ (.slice Ao43 t184.length co43 : Value).ownBlock ∧ some k_ ≠ (.slice Ao53 t222.length co53 : Value).ownBlock ∧ some k_ ≠ (.slice Ao63 t224.length co63 : Value).ownBlock ∧ some k_ ≠ (.slice Ao73 t203.length co73 : Value).ownBlock) s_.2.2.1 t241) ∧ (Kd.R (Kd.int .i64) 3 w' w.heap.size (fun k_ => some k_ ≠ (s_.1 : Value).ownBlock ∧ some k_ ≠ (s_.2.1 : Value).ownBlock ∧ some k_ ≠ (s_.2.2.1 : Value).ownBlock ∧ some k_ ≠ (.slice Ao53 t222.length co53 : Value).ownBlock ∧ some k_ ≠ (.slice Ao63 t224.length co63 : Value).ownBlock ∧ some k_ ≠ (.slice Ao73 t203.length co73 : Value).ownBlock) (.slice Ao43 t184.length co43) t184) ∧ (Kd.R (Kd.int .i64) 3 w' w.heap.size (fun k_ => some k_ ≠ (s_.1 : Value).ownBlock ∧ some k_ ≠ (s_.2.1 : Value).ownBlock ∧ some k_ ≠ (s_.2.2.1 : Value).ownBlock ∧ some k_ ≠ (.slice Ao43 t184.length co43 : Value).ownBlock ∧ some k_ ≠ (.slice Ao63 t224.length co63 : Value).ownBlock ∧ some k_ ≠ (.slice Ao73 t203.length co73 : Value).ownBlock) (.slice Ao53 t222.length co53) t222) ∧ (Kd.R (Kd.int .i64) 3 w' w.heap.size (fun k_ => some k_ ≠ (s_.1 : Value).ownBlock ∧ some k_ ≠ (s_.2.1 : Value).ownBlock ∧ some k_ ≠ (s_.2.2.1 : Value).ownBlock ∧ some k_ ≠ (.slice Ao43 t184.length co43 : Value).ownBlock ∧ some k_ ≠ (.slice Ao53 t222.length co53 : Value).ownBlock ∧ some k_ ≠ (.slice Ao73 t203.length co73 : Value).ownBlock) (.slice Ao63 t224.length co63) t224) ∧ (Kd.R (Kd.int .i64) 3 w' w.heap.size (fun k_ => some k_ ≠ (s_.1 : Value).ownBlock ∧ some k_ ≠ (s_.2.1 : Value).ownBlock ∧ some k_ ≠ (s_.2.2.1 : Value).ownBlock ∧ some k_ ≠ (.slice Ao43 t184.length co43 : Value).ownBlock ∧ some k_ ≠ (.slice Ao53 t222.length co53 : Value).ownBlock ∧ some k_ ≠ (.slice Ao63 t224.length co63 : Value).ownBlock) (.slice Ao73 t203.length co73) t227) ∧ (w'.heap[gb168]? = some (.cells #[.int .i64 a0_0, .int .i64 a0_1, .slice A0_2 l0_2.length c0_2] 35 (0, 0))) ∧ (w'.heap[gb169]? = some (.cells #[.int .i64 a1_0, .int .i64 a1_1, .slice A1_2 l1_2.length c1_2] 35 (0, 0))) ∧ (w'.heap[gb188]? = some (.cells #[.int .i64 t182, .int .i64 t183, .slice Ao43 t184.length co43] 37 (0, 0))) ∧ (w'.heap[gb194]? = some (.cells #[.int .i64 t189, .int .i64 t190, .slice Ao53 t222.length co53] 37 (0, 0))) ∧ (w'.heap[gb200]? = some (.cells #[.int .i64 t195, .int .i64 t196, .slice Ao63 t224.length co63] 37 (0, 0))) ∧ (w'.heap[gb207]? = some (.cells #[.int .i64 t201, .int .i64 t202, .slice Ao73 t203.length co73] 37 (0, 0))) ∧ (w'.heap[s_.2.2.2]? = some (.cells #[.int .i64 0, .int .i64 0, .slice none 0 0] 37 (0, 0))) ∧ (w.heap.size ≤ s_.2.2.2) ∧ (w.heap.size ≤ s_.2.2.2) ∧ (gb168 ≠ s_.2.2.2) ∧ (s_.2.2.2 ≠ gb168) ∧ (gb169 ≠ s_.2.2.2) ∧ (s_.2.2.2 ≠ gb169) ∧ (gb188 ≠ s_.2.2.2) ∧ (s_.2.2.2 ≠ gb188) ∧ (gb194 ≠ s_.2.2.2) ∧ (s_.2.2.2 ≠ gb194) ∧ (gb200 ≠ s_.2.2.2) ∧ (s_.2.2.2 ≠ gb200) ∧ (gb207 ≠ s_.2.2.2) ∧ (s_.2.2.2 ≠ gb207) ∧ (Below w.heap.size w w')) ?_ ?_
             rotate_left
             ·intro hCont
              refine two_ (i := 1) (j := 8) (Ni := some 96) (Nj := some 15) #[true, true, true, false, false, false, false, false, false, false, false] #[true, false, true, false, false, false, false, false, true, false, false] rfl rfl rfl rfl (two_of HT_.out (by kernel_rfl)) (by decide) (by decide) (fun K hK => ?_) (fun K hK => ?_)
              ·skip
               refine ztMasks.gs Try.func23 (by kernel_rfl) rfl #[.agg #[.int .i64 a0_0, .int .i64 a0_1, .slice A0_2 l0_2.length c0_2]] (by rfl) rfl rfl ?_
               with_reducible refine (laws_toMask.calls kj108 a0_0 a0_1 _ _ l0_2 t229 t230 t231 _ ?side1 ?side2 A172.out).mono ?_
               (case side1 => repeat (first | exact (Kd.C_below HR0_2.out HB.out) | (with_reducible refine Kd.C_alloc ?_ _) | (with_reducible refine Kd.C_drewN ?_ _) | (with_reducible refine Kd.C_drew ?_)))
               (case side2 => exact HC0_2.out)
               rintro e w186 ⟨v232, rfl, ho0, hb⟩
               refine ⟨_, rfl, ?_⟩
               have HO233 := Aside0.mk (Kd.R_lower (Kd.R_new' (Kd.R_new' (Kd.R_new' (Kd.R_new' ho0 (Kd.R_lt (ztMasks.rl HO_189002.out))) (Kd.R_lt (ztMasks.rl HO_195002.out))) (Kd.R_lt (ztMasks.rl HO_201002.out))) (Kd.R_lt (ztMasks.rl HO_208002.out))) (below_size (ztMasks.bl HB)))
               replace HO_189002 := Aside0.mk (Kd.R_elder' (ztMasks.rl HO_189002.out) (Kd.R_base ho0) hb)
               replace HO_195002 := Aside0.mk (Kd.R_elder' (ztMasks.rl HO_195002.out) (Kd.R_base ho0) hb)
               replace HO_201002 := Aside0.mk (Kd.R_elder' (ztMasks.rl HO_201002.out) (Kd.R_base ho0) hb)
               replace HO_208002 := Aside0.mk (Kd.R_elder' (ztMasks.rl HO_208002.out) (Kd.R_base ho0) hb)
               replace BK168 := ztMasks.bb BK168 hb
               replace BK169 := ztMasks.bb BK169 hb
               replace BK188 := ztMasks.bb BK188 hb
               replace BK194 := ztMasks.bb BK194 hb
               replace BK200 := ztMasks.bb BK200 hb
               replace BK207 := ztMasks.bb BK207 hb
               replace HB := Aside0.mk (below_step (ztMasks.bl HB) hb)
               (try clear hb)
               (try clear hb2)
               (try clear hk)
               (try clear hi)
               (try clear ho0)
               refine hK.out _ _ ⟨(blk_cell BK168.out 0).trans rfl, (blk_cell BK168.out 1).trans rfl, (blk_cell BK168.out 2).trans rfl, (blk_cell BK169.out 0).trans rfl, (blk_cell BK169.out 1).trans rfl, (blk_cell BK169.out 2).trans rfl⟩ (fun hHeld => ?_)
               clear hK K
               refine norm_ (a' := ?_) ?_ ?_
               rotate_left
               ·show Act.put _ (some 96) _ = _
                simp only [Act.put, List.setIfInBounds_toArray, List.set_cons_zero, List.set_cons_succ, i64_w, i32_w]
                rfl
               refine two_ (i := 3) (j := 8) (Ni := some 98) (Nj := some 15) #[true, true, true, true, false, false, false, false, false, false, false] #[true, true, true, false, false, false, false, false, true, false, false] rfl rfl rfl rfl (two_of HT_.out (by kernel_rfl)) (by decide) (by decide) (fun K hK => ?_) (fun K hK => ?_)
               ·skip
                refine ztMasks.gs Try.func23 (by kernel_rfl) rfl #[.agg #[.int .i64 a1_0, .int .i64 a1_1, .slice A1_2 l1_2.length c1_2]] (by rfl) rfl rfl ?_
                with_reducible refine (laws_toMask.calls kj108 a1_0 a1_1 _ _ l1_2 t234 t235 t236 _ ?side1 ?side2 A173.out).mono ?_
                (case side1 => repeat (first | exact (Kd.C_below HR1_2.out HB.out) | (with_reducible refine Kd.C_alloc ?_ _) | (with_reducible refine Kd.C_drewN ?_ _) | (with_reducible refine Kd.C_drew ?_)))
                (case side2 => exact HC1_2.out)
                rintro e w187 ⟨v237, rfl, ho0, hb⟩
                refine ⟨_, rfl, ?_⟩
                have HO238 := Aside0.mk (Kd.R_lower (Kd.R_new' (Kd.R_new' (Kd.R_new' (Kd.R_new' (Kd.R_new' ho0 (Kd.R_lt (ztMasks.rl HO_189002.out))) (Kd.R_lt (ztMasks.rl HO_195002.out))) (Kd.R_lt (ztMasks.rl HO_201002.out))) (Kd.R_lt (ztMasks.rl HO_208002.out))) (Kd.R_lt (ztMasks.rl HO233.out))) (below_size (ztMasks.bl HB)))
                replace HO_189002 := Aside0.mk (Kd.R_elder' (ztMasks.rl HO_189002.out) (Kd.R_base ho0) hb)
                replace HO_195002 := Aside0.mk (Kd.R_elder' (ztMasks.rl HO_195002.out) (Kd.R_base ho0) hb)
                replace HO_201002 := Aside0.mk (Kd.R_elder' (ztMasks.rl HO_201002.out) (Kd.R_base ho0) hb)
                replace HO_208002 := Aside0.mk (Kd.R_elder' (ztMasks.rl HO_208002.out) (Kd.R_base ho0) hb)
                replace HO233 := Aside0.mk (Kd.R_elder' (ztMasks.rl HO233.out) (Kd.R_base ho0) hb)
                replace BK168 := ztMasks.bb BK168 hb
                replace BK169 := ztMasks.bb BK169 hb
                replace BK188 := ztMasks.bb BK188 hb
                replace BK194 := ztMasks.bb BK194 hb
                replace BK200 := ztMasks.bb BK200 hb
                replace BK207 := ztMasks.bb BK207 hb
                replace HB := Aside0.mk (below_step (ztMasks.bl HB) hb)
                (try clear hb)
                (try clear hb2)
                (try clear hk)
                (try clear hi)
                (try clear ho0)
                obtain ⟨Ao188, co188, eo188⟩ := Kd.R_slice HO233.out
                (first | subst eo188 | (injection eo188 with f1_ f2_ f3_; have f4_ := f1_.symm; have f5_ := f3_.symm; clear f1_ f2_ f3_; subst f4_; subst f5_))
                obtain ⟨Ao189, co189, eo189⟩ := Kd.R_slice HO238.out
                (first | subst eo189 | (injection eo189 with f1_ f2_ f3_; have f4_ := f1_.symm; have f5_ := f3_.symm; clear f1_ f2_ f3_; subst f4_; subst f5_))
                refine hK.out _ _ ⟨(blk_cell BK168.out 0).trans rfl, (blk_cell BK168.out 1).trans rfl, (blk_cell BK168.out 2).trans rfl, (blk_cell BK169.out 0).trans rfl, (blk_cell BK169.out 1).trans rfl, (blk_cell BK169.out 2).trans rfl⟩ (fun hHeld => ?_)
                clear hK K
                refine norm_ (a' := ?_) ?_ ?_
                rotate_left
                ·show Act.put _ (some 98) _ = _
                 simp only [Act.put, List.setIfInBounds_toArray, List.set_cons_zero, List.set_cons_succ, i64_w, i32_w]
                 rfl
                refine two_ (i := 4) (j := 8) (Ni := some 99) (Nj := some 15) #[true, true, true, true, true, false, false, false, false, false, false] #[true, true, true, true, false, false, false, false, true, false, false] rfl rfl rfl rfl (two_of HT_.out (by kernel_rfl)) (by decide) (by decide) (fun K hK => ?_) (fun K hK => ?_)
                ·skip
                 refine ztMasks.gs Try.func24 (by kernel_rfl) rfl #[.agg #[.int .i64 t229, .int .i64 t230, .slice Ao188 t231.length co188], .agg #[.int .i64 t234, .int .i64 t235, .slice Ao189 t236.length co189]] (by rfl) rfl rfl ?_
                 with_reducible refine (impl_MeetMasks.calls kj108 t229 t230 _ _ t231 t234 t235 _ _ t236 t239 t240 t241 t244 _ ?side1 ?side2 ?side3 ?side4 A174.out).mono ?_
                 (case side1 => repeat (first | exact (Kd.R_reads' HO233.out).2.2 | (with_reducible refine Kd.C_alloc ?_ _) | (with_reducible refine Kd.C_drewN ?_ _) | (with_reducible refine Kd.C_drew ?_)))
                 (case side2 => exact (Kd.R_reads' HO233.out).2.1)
                 (case side3 => repeat (first | exact (Kd.R_reads' HO238.out).2.2 | (with_reducible refine Kd.C_alloc ?_ _) | (with_reducible refine Kd.C_drewN ?_ _) | (with_reducible refine Kd.C_drew ?_)))
                 (case side4 => exact (Kd.R_reads' HO238.out).2.1)
                 rintro e w190 ⟨v242, rfl, ho0, hb⟩
                 refine ⟨_, rfl, ?_⟩
                 have HO243 := Aside0.mk (Kd.R_lower (Kd.R_new' (Kd.R_new' (Kd.R_new' (Kd.R_new' (Kd.R_new' (Kd.R_new' ho0 (Kd.R_lt (ztMasks.rl HO_189002.out))) (Kd.R_lt (ztMasks.rl HO_195002.out))) (Kd.R_lt (ztMasks.rl HO_201002.out))) (Kd.R_lt (ztMasks.rl HO_208002.out))) (Kd.R_lt (ztMasks.rl HO233.out))) (Kd.R_lt (ztMasks.rl HO238.out))) (below_size (ztMasks.bl HB)))
                 replace HO_189002 := Aside0.mk (Kd.R_elder' (ztMasks.rl HO_189002.out) (Kd.R_base ho0) hb)
                 replace HO_195002 := Aside0.mk (Kd.R_elder' (ztMasks.rl HO_195002.out) (Kd.R_base ho0) hb)
                 replace HO_201002 := Aside0.mk (Kd.R_elder' (ztMasks.rl HO_201002.out) (Kd.R_base ho0) hb)
                 replace HO_208002 := Aside0.mk (Kd.R_elder' (ztMasks.rl HO_208002.out) (Kd.R_base ho0) hb)
                 replace HO233 := Aside0.mk (Kd.R_elder' (ztMasks.rl HO233.out) (Kd.R_base ho0) hb)
                 replace HO238 := Aside0.mk (Kd.R_elder' (ztMasks.rl HO238.out) (Kd.R_base ho0) hb)
                 replace BK168 := ztMasks.bb BK168 hb
                 replace BK169 := ztMasks.bb BK169 hb
                 replace BK188 := ztMasks.bb BK188 hb
                 replace BK194 := ztMasks.bb BK194 hb
                 replace BK200 := ztMasks.bb BK200 hb
                 replace BK207 := ztMasks.bb BK207 hb
                 replace HB := Aside0.mk (below_step (ztMasks.bl HB) hb)
                 (try clear hb)
                 (try clear hb2)
                 (try clear hk)
                 (try clear hi)
                 (try clear ho0)
                 refine hK.out _ _ ⟨(blk_cell BK168.out 0).trans rfl, (blk_cell BK168.out 1).trans rfl, (blk_cell BK168.out 2).trans rfl, (blk_cell BK169.out 0).trans rfl, (blk_cell BK169.out 1).trans rfl, (blk_cell BK169.out 2).trans rfl⟩ (fun hHeld => ?_)
                 clear hK K
                 refine norm_ (a' := ?_) ?_ ?_
                 rotate_left
                 ·show Act.put _ (some 99) _ = _
                  simp only [Act.put, List.setIfInBounds_toArray, List.set_cons_zero, List.set_cons_succ, i64_w, i32_w]
                  rfl
                 refine pure_ (i := 5) (N := some 94) (v := ?_) (a' := ?_) #[true, true, true, true, true, true, false, false, false, false, false] rfl rfl (any_of HT_.out (by kernel_rfl)) (fun _ _ _ h => h) (Or.inl ⟨by rfl, ?_⟩) ?_ ?_
                 rotate_left
                 ·intro w'
                  go_simp
                  with_reducible rfl
                 rotate_left
                 ·simp only [Act.put, List.setIfInBounds_toArray, List.set_cons_zero, List.set_cons_succ, i64_w, i32_w]
                  rfl
                 refine pure_ (i := 6) (N := some 100) (v := ?_) (a' := ?_) #[true, true, true, true, true, true, true, false, false, false, false] rfl rfl (any_of HT_.out (by kernel_rfl)) (fun _ _ _ h => h) (Or.inl ⟨by rfl, ?_⟩) ?_ ?_
                 rotate_left
                 ·intro w'
                  go_simp
                  with_reducible rfl
                 rotate_left
                 ·simp only [Act.put, List.setIfInBounds_toArray, List.set_cons_zero, List.set_cons_succ, i64_w, i32_w]
                  rfl
                 refine pure_ (i := 7) (N := some 101) (v := ?_) (a' := ?_) #[true, true, true, true, true, true, true, true, false, false, false] rfl rfl (any_of HT_.out (by kernel_rfl)) (fun _ _ _ h => h) (Or.inl ⟨by rfl, ?_⟩) ?_ ?_
                 rotate_left
                 ·intro w'
                  go_simp
                  with_reducible rfl
                 rotate_left
                 ·simp only [Act.put, List.setIfInBounds_toArray, List.set_cons_zero, List.set_cons_succ, i64_w, i32_w]
                  rfl
                 refine one_ (i := 8) (N := some 15) #[true, true, true, true, true, true, true, true, true, false, false] rfl rfl (one_of HT_.out (by kernel_rfl)) (by decide) (fun K hK => ?_)
                 refine box_step ?hg (N := 15) ?hd (cs := #[.int .i64 0, .int .i64 0, .slice none 0 0]) (t := 37) ?hr ?_; (case hd => rfl); (case hg => rfl); (case hr => first | (go_simp; done) | (go_simp; rfl))
                 intro gb245 hg w191 hbox hb
                 replace HO_189002 := ztMasks.rb HO_189002 hb
                 replace HO_195002 := ztMasks.rb HO_195002 hb
                 replace HO_201002 := ztMasks.rb HO_201002 hb
                 replace HO_208002 := ztMasks.rb HO_208002 hb
                 replace HO233 := ztMasks.rb HO233 hb
                 replace HO238 := ztMasks.rb HO238 hb
                 replace HO243 := ztMasks.rb HO243 hb
                 have BK245 := Aside0.mk (hbox)
                 have GW245 := Aside0.mk ((by rw [hg]; exact (below_size (ztMasks.bl HB)) : w.heap.size ≤ gb245))
                 have GE245 := Aside0.mk ((by rw [hg]; exact (below_size (ztMasks.bl HB)) : w.heap.size ≤ gb245))
                 replace HB := Aside0.mk (below_step (ztMasks.bl HB) hb)
                 have NB168_245 := ztMasks.ht BK168 hg
                 have NB245_168 := ztMasks.hu BK168 hg
                 replace BK168 := ztMasks.bb BK168 hb
                 have NB169_245 := ztMasks.ht BK169 hg
                 have NB245_169 := ztMasks.hu BK169 hg
                 replace BK169 := ztMasks.bb BK169 hb
                 have NB188_245 := ztMasks.ht BK188 hg
                 have NB245_188 := ztMasks.hu BK188 hg
                 replace BK188 := ztMasks.bb BK188 hb
                 have NB194_245 := ztMasks.ht BK194 hg
                 have NB245_194 := ztMasks.hu BK194 hg
                 replace BK194 := ztMasks.bb BK194 hb
                 have NB200_245 := ztMasks.ht BK200 hg
                 have NB245_200 := ztMasks.hu BK200 hg
                 replace BK200 := ztMasks.bb BK200 hb
                 have NB207_245 := ztMasks.ht BK207 hg
                 have NB245_207 := ztMasks.hu BK207 hg
                 replace BK207 := ztMasks.bb BK207 hb
                 clear hb hbox hg
                 refine hK.out _ _ ⟨(blk_cell BK168.out 0).trans rfl, (blk_cell BK168.out 1).trans rfl, (blk_cell BK168.out 2).trans rfl, (blk_cell BK169.out 0).trans rfl, (blk_cell BK169.out 1).trans rfl, (blk_cell BK169.out 2).trans rfl⟩ (fun hHeld => ?_)
                 clear hK K
                 refine norm_ (a' := ?_) ?_ ?_
                 rotate_left
                 ·show Act.put _ (some 15) _ = _
                  simp only [Act.put, List.setIfInBounds_toArray, List.set_cons_zero, List.set_cons_succ, i64_w, i32_w]
                  rfl
                 exact norm_ (by simp only [putAll, Act.put, List.setIfInBounds_toArray, List.set_cons_zero, List.set_cons_succ]) (hCont (.slice Ao188 t231.length co188, .slice Ao189 t236.length co189, v242, gb245) _ ⟨hHeld, (ztMasks.rl (Kd.R_mono HO233.out (fun _ hk => ⟨hk.1.2, ⟨hk.2, ⟨hk.1.1.1.1.1.2, ⟨hk.1.1.1.1.2, ⟨hk.1.1.1.2, hk.1.1.2⟩⟩⟩⟩⟩))), (ztMasks.rl (Kd.R_mono HO238.out (fun _ hk => ⟨hk.1.2, ⟨hk.2, ⟨hk.1.1.1.1.1.2, ⟨hk.1.1.1.1.2, ⟨hk.1.1.1.2, hk.1.1.2⟩⟩⟩⟩⟩))), (ztMasks.rl (Kd.R_mono HO243.out (fun _ hk => ⟨hk.1.2, ⟨hk.2, ⟨hk.1.1.1.1.1.2, ⟨hk.1.1.1.1.2, ⟨hk.1.1.1.2, hk.1.1.2⟩⟩⟩⟩⟩))), (ztMasks.rl (Kd.R_mono HO_189002.out (fun _ hk => ⟨hk.1.1.2, ⟨hk.1.2, ⟨hk.2, ⟨hk.1.1.1.1, ⟨hk.1.1.1.2.1, hk.1.1.1.2.2⟩⟩⟩⟩⟩))), (ztMasks.rl (Kd.R_mono HO_195002.out (fun _ hk => ⟨hk.1.1.2, ⟨hk.1.2, ⟨hk.2, ⟨hk.1.1.1.1, ⟨hk.1.1.1.2.1, hk.1.1.1.2.2⟩⟩⟩⟩⟩))), (ztMasks.rl (Kd.R_mono HO_201002.out (fun _ hk => ⟨hk.1.1.2, ⟨hk.1.2, ⟨hk.2, ⟨hk.1.1.1.1, ⟨hk.1.1.1.2.1, hk.1.1.1.2.2⟩⟩⟩⟩⟩))), (ztMasks.rl (Kd.R_mono HO_208002.out (fun _ hk => ⟨hk.1.1.2, ⟨hk.1.2, ⟨hk.2, ⟨hk.1.1.1.1, ⟨hk.1.1.1.2.1, hk.1.1.1.2.2⟩⟩⟩⟩⟩))), (ztMasks.bk BK168), (ztMasks.bk BK169), (ztMasks.bk BK188), (ztMasks.bk BK194), (ztMasks.bk BK200), (ztMasks.bk BK207), (ztMasks.bk BK245), GW245.out, GE245.out, NB168_245.out, NB245_168.out, NB169_245.out, NB245_169.out, NB188_245.out, NB245_188.out, NB194_245.out, NB245_194.out, NB200_245.out, NB245_200.out, NB207_245.out, NB245_207.out, (ztMasks.bl HB)⟩)
                ·skip
                 refine box_step ?hg (N := 15) ?hd (cs := #[.int .i64 0, .int .i64 0, .slice none 0 0]) (t := 37) ?hr ?_; (case hd => rfl); (case hg => rfl); (case hr => first | (go_simp; done) | (go_simp; rfl))
                 intro gb245 hg w188 hbox hb
                 replace HO_189002 := ztMasks.rb HO_189002 hb
                 replace HO_195002 := ztMasks.rb HO_195002 hb
                 replace HO_201002 := ztMasks.rb HO_201002 hb
                 replace HO_208002 := ztMasks.rb HO_208002 hb
                 replace HO233 := ztMasks.rb HO233 hb
                 replace HO238 := ztMasks.rb HO238 hb
                 have BK245 := Aside0.mk (hbox)
                 have GW245 := Aside0.mk ((by rw [hg]; exact (below_size (ztMasks.bl HB)) : w.heap.size ≤ gb245))
                 have GE245 := Aside0.mk ((by rw [hg]; exact (below_size (ztMasks.bl HB)) : w.heap.size ≤ gb245))
                 replace HB := Aside0.mk (below_step (ztMasks.bl HB) hb)
                 have NB168_245 := ztMasks.ht BK168 hg
                 have NB245_168 := ztMasks.hu BK168 hg
                 replace BK168 := ztMasks.bb BK168 hb
                 have NB169_245 := ztMasks.ht BK169 hg
                 have NB245_169 := ztMasks.hu BK169 hg
                 replace BK169 := ztMasks.bb BK169 hb
                 have NB188_245 := ztMasks.ht BK188 hg
                 have NB245_188 := ztMasks.hu BK188 hg
                 replace BK188 := ztMasks.bb BK188 hb
                 have NB194_245 := ztMasks.ht BK194 hg
                 have NB245_194 := ztMasks.hu BK194 hg
                 replace BK194 := ztMasks.bb BK194 hb
                 have NB200_245 := ztMasks.ht BK200 hg
                 have NB245_200 := ztMasks.hu BK200 hg
                 replace BK200 := ztMasks.bb BK200 hb
                 have NB207_245 := ztMasks.ht BK207 hg
                 have NB245_207 := ztMasks.hu BK207 hg
                 replace BK207 := ztMasks.bb BK207 hb
                 clear hb hbox hg
                 obtain ⟨Ao189, co189, eo189⟩ := Kd.R_slice HO233.out
                 (first | subst eo189 | (injection eo189 with f1_ f2_ f3_; have f4_ := f1_.symm; have f5_ := f3_.symm; clear f1_ f2_ f3_; subst f4_; subst f5_))
                 obtain ⟨Ao190, co190, eo190⟩ := Kd.R_slice HO238.out
                 (first | subst eo190 | (injection eo190 with f1_ f2_ f3_; have f4_ := f1_.symm; have f5_ := f3_.symm; clear f1_ f2_ f3_; subst f4_; subst f5_))
                 refine hK.out _ _ ⟨(blk_cell BK168.out 0).trans rfl, (blk_cell BK168.out 1).trans rfl, (blk_cell BK168.out 2).trans rfl, (blk_cell BK169.out 0).trans rfl, (blk_cell BK169.out 1).trans rfl, (blk_cell BK169.out 2).trans rfl⟩ (fun hHeld => ?_)
                 clear hK K
                 refine norm_ (a' := ?_) ?_ ?_
                 rotate_left
                 ·show Act.put _ (some 15) _ = _
                  simp only [Act.put, List.setIfInBounds_toArray, List.set_cons_zero, List.set_cons_succ, i64_w, i32_w]
                  rfl
                 refine one_ (i := 4) (N := some 99) #[true, true, true, true, true, false, false, false, true, false, false] rfl rfl (one_of HT_.out (by kernel_rfl)) (by decide) (fun K hK => ?_)
                 refine ztMasks.gs Try.func24 (by kernel_rfl) rfl #[.agg #[.int .i64 t229, .int .i64 t230, .slice Ao189 t231.length co189], .agg #[.int .i64 t234, .int .i64 t235, .slice Ao190 t236.length co190]] (by rfl) rfl rfl ?_
                 with_reducible refine (impl_MeetMasks.calls kj108 t229 t230 _ _ t231 t234 t235 _ _ t236 t239 t240 t241 t244 _ ?side1 ?side2 ?side3 ?side4 A174.out).mono ?_
                 (case side1 => repeat (first | exact (Kd.R_reads' HO233.out).2.2 | (with_reducible refine Kd.C_alloc ?_ _) | (with_reducible refine Kd.C_drewN ?_ _) | (with_reducible refine Kd.C_drew ?_)))
                 (case side2 => exact (Kd.R_reads' HO233.out).2.1)
                 (case side3 => repeat (first | exact (Kd.R_reads' HO238.out).2.2 | (with_reducible refine Kd.C_alloc ?_ _) | (with_reducible refine Kd.C_drewN ?_ _) | (with_reducible refine Kd.C_drew ?_)))
                 (case side4 => exact (Kd.R_reads' HO238.out).2.1)
                 rintro e w191 ⟨v242, rfl, ho0, hb⟩
                 refine ⟨_, rfl, ?_⟩
                 have HO243 := Aside0.mk (Kd.R_lower (Kd.R_new' (Kd.R_new' (Kd.R_new' (Kd.R_new' (Kd.R_new' (Kd.R_new' ho0 (Kd.R_lt (ztMasks.rl HO_189002.out))) (Kd.R_lt (ztMasks.rl HO_195002.out))) (Kd.R_lt (ztMasks.rl HO_201002.out))) (Kd.R_lt (ztMasks.rl HO_208002.out))) (Kd.R_lt (ztMasks.rl HO233.out))) (Kd.R_lt (ztMasks.rl HO238.out))) (below_size (ztMasks.bl HB)))
                 replace HO_189002 := Aside0.mk (Kd.R_elder' (ztMasks.rl HO_189002.out) (Kd.R_base ho0) hb)
                 replace HO_195002 := Aside0.mk (Kd.R_elder' (ztMasks.rl HO_195002.out) (Kd.R_base ho0) hb)
                 replace HO_201002 := Aside0.mk (Kd.R_elder' (ztMasks.rl HO_201002.out) (Kd.R_base ho0) hb)
                 replace HO_208002 := Aside0.mk (Kd.R_elder' (ztMasks.rl HO_208002.out) (Kd.R_base ho0) hb)
                 replace HO233 := Aside0.mk (Kd.R_elder' (ztMasks.rl HO233.out) (Kd.R_base ho0) hb)
                 replace HO238 := Aside0.mk (Kd.R_elder' (ztMasks.rl HO238.out) (Kd.R_base ho0) hb)
                 replace BK168 := ztMasks.bb BK168 hb
                 replace BK169 := ztMasks.bb BK169 hb
                 replace BK188 := ztMasks.bb BK188 hb
                 replace BK194 := ztMasks.bb BK194 hb
                 replace BK200 := ztMasks.bb BK200 hb
                 replace BK207 := ztMasks.bb BK207 hb
                 replace BK245 := ztMasks.bb BK245 hb
                 replace HB := Aside0.mk (below_step (ztMasks.bl HB) hb)
                 (try clear hb)
                 (try clear hb2)
                 (try clear hk)
                 (try clear hi)
                 (try clear ho0)
                 refine hK.out _ _ ⟨(blk_cell BK168.out 0).trans rfl, (blk_cell BK168.out 1).trans rfl, (blk_cell BK168.out 2).trans rfl, (blk_cell BK169.out 0).trans rfl, (blk_cell BK169.out 1).trans rfl, (blk_cell BK169.out 2).trans rfl⟩ (fun hHeld => ?_)
                 clear hK K
                 refine norm_ (a' := ?_) ?_ ?_
                 rotate_left
                 ·show Act.put _ (some 99) _ = _
                  simp only [Act.put, List.setIfInBounds_toArray, List.set_cons_zero, List.set_cons_succ, i64_w, i32_w]
                  rfl
                 refine pure_ (i := 5) (N := some 94) (v := ?_) (a' := ?_) #[true, true, true, true, true, true, false, false, true, false, false] rfl rfl (any_of HT_.out (by kernel_rfl)) (fun _ _ _ h => h) (Or.inl ⟨by rfl, ?_⟩) ?_ ?_
                 rotate_left
                 ·intro w'
                  go_simp
                  with_reducible rfl
                 rotate_left
                 ·simp only [Act.put, List.setIfInBounds_toArray, List.set_cons_zero, List.set_cons_succ, i64_w, i32_w]
                  rfl
                 refine pure_ (i := 6) (N := some 100) (v := ?_) (a' := ?_) #[true, true, true, true, true, true, true, false, true, false, false] rfl rfl (any_of HT_.out (by kernel_rfl)) (fun _ _ _ h => h) (Or.inl ⟨by rfl, ?_⟩) ?_ ?_
                 rotate_left
                 ·intro w'
                  go_simp
                  with_reducible rfl
                 rotate_left
                 ·simp only [Act.put, List.setIfInBounds_toArray, List.set_cons_zero, List.set_cons_succ, i64_w, i32_w]
                  rfl
                 refine pure_ (i := 7) (N := some 101) (v := ?_) (a' := ?_) #[true, true, true, true, true, true, true, true, true, false, false] rfl rfl (any_of HT_.out (by kernel_rfl)) (fun _ _ _ h => h) (Or.inl ⟨by rfl, ?_⟩) ?_ ?_
                 rotate_left
                 ·intro w'
                  go_simp
                  with_reducible rfl
                 rotate_left
                 ·simp only [Act.put, List.setIfInBounds_toArray, List.set_cons_zero, List.set_cons_succ, i64_w, i32_w]
                  rfl
                 exact norm_ (by simp only [putAll, Act.put, List.setIfInBounds_toArray, List.set_cons_zero, List.set_cons_succ]) (hCont (.slice Ao189 t231.length co189, .slice Ao190 t236.length co190, v242, gb245) _ ⟨hHeld, (ztMasks.rl (Kd.R_mono HO233.out (fun _ hk => ⟨hk.1.2, ⟨hk.2, ⟨hk.1.1.1.1.1.2, ⟨hk.1.1.1.1.2, ⟨hk.1.1.1.2, hk.1.1.2⟩⟩⟩⟩⟩))), (ztMasks.rl (Kd.R_mono HO238.out (fun _ hk => ⟨hk.1.2, ⟨hk.2, ⟨hk.1.1.1.1.1.2, ⟨hk.1.1.1.1.2, ⟨hk.1.1.1.2, hk.1.1.2⟩⟩⟩⟩⟩))), (ztMasks.rl (Kd.R_mono HO243.out (fun _ hk => ⟨hk.1.2, ⟨hk.2, ⟨hk.1.1.1.1.1.2, ⟨hk.1.1.1.1.2, ⟨hk.1.1.1.2, hk.1.1.2⟩⟩⟩⟩⟩))), (ztMasks.rl (Kd.R_mono HO_189002.out (fun _ hk => ⟨hk.1.1.2, ⟨hk.1.2, ⟨hk.2, ⟨hk.1.1.1.1, ⟨hk.1.1.1.2.1, hk.1.1.1.2.2⟩⟩⟩⟩⟩))), (ztMasks.rl (Kd.R_mono HO_195002.out (fun _ hk => ⟨hk.1.1.2, ⟨hk.1.2, ⟨hk.2, ⟨hk.1.1.1.1, ⟨hk.1.1.1.2.1, hk.1.1.1.2.2⟩⟩⟩⟩⟩))), (ztMasks.rl (Kd.R_mono HO_201002.out (fun _ hk => ⟨hk.1.1.2, ⟨hk.1.2, ⟨hk.2, ⟨hk.1.1.1.1, ⟨hk.1.1.1.2.1, hk.1.1.1.2.2⟩⟩⟩⟩⟩))), (ztMasks.rl (Kd.R_mono HO_208002.out (fun _ hk => ⟨hk.1.1.2, ⟨hk.1.2, ⟨hk.2, ⟨hk.1.1.1.1, ⟨hk.1.1.1.2.1, hk.1.1.1.2.2⟩⟩⟩⟩⟩))), (ztMasks.bk BK168), (ztMasks.bk BK169), (ztMasks.bk BK188), (ztMasks.bk BK194), (ztMasks.bk BK200), (ztMasks.bk BK207), (ztMasks.bk BK245), GW245.out, GE245.out, NB168_245.out, NB245_168.out, NB169_245.out, NB245_169.out, NB188_245.out, NB245_188.out, NB194_245.out, NB245_194.out, NB200_245.out, NB245_200.out, NB207_245.out, NB245_207.out, (ztMasks.bl HB)⟩)
               ·skip
                refine box_step ?hg (N := 15) ?hd (cs := #[.int .i64 0, .int .i64 0, .slice none 0 0]) (t := 37) ?hr ?_; (case hd => rfl); (case hg => rfl); (case hr => first | (go_simp; done) | (go_simp; rfl))
                intro gb245 hg w187 hbox hb
                replace HO_189002 := ztMasks.rb HO_189002 hb
                replace HO_195002 := ztMasks.rb HO_195002 hb
                replace HO_201002 := ztMasks.rb HO_201002 hb
                replace HO_208002 := ztMasks.rb HO_208002 hb
                replace HO233 := ztMasks.rb HO233 hb
                have BK245 := Aside0.mk (hbox)
                have GW245 := Aside0.mk ((by rw [hg]; exact (below_size (ztMasks.bl HB)) : w.heap.size ≤ gb245))
                have GE245 := Aside0.mk ((by rw [hg]; exact (below_size (ztMasks.bl HB)) : w.heap.size ≤ gb245))
                replace HB := Aside0.mk (below_step (ztMasks.bl HB) hb)
                have NB168_245 := ztMasks.ht BK168 hg
                have NB245_168 := ztMasks.hu BK168 hg
                replace BK168 := ztMasks.bb BK168 hb
                have NB169_245 := ztMasks.ht BK169 hg
                have NB245_169 := ztMasks.hu BK169 hg
                replace BK169 := ztMasks.bb BK169 hb
                have NB188_245 := ztMasks.ht BK188 hg
                have NB245_188 := ztMasks.hu BK188 hg
                replace BK188 := ztMasks.bb BK188 hb
                have NB194_245 := ztMasks.ht BK194 hg
                have NB245_194 := ztMasks.hu BK194 hg
                replace BK194 := ztMasks.bb BK194 hb
                have NB200_245 := ztMasks.ht BK200 hg
                have NB245_200 := ztMasks.hu BK200 hg
                replace BK200 := ztMasks.bb BK200 hb
                have NB207_245 := ztMasks.ht BK207 hg
                have NB245_207 := ztMasks.hu BK207 hg
                replace BK207 := ztMasks.bb BK207 hb
                clear hb hbox hg
                refine hK.out _ _ ⟨(blk_cell BK168.out 0).trans rfl, (blk_cell BK168.out 1).trans rfl, (blk_cell BK168.out 2).trans rfl, (blk_cell BK169.out 0).trans rfl, (blk_cell BK169.out 1).trans rfl, (blk_cell BK169.out 2).trans rfl⟩ (fun hHeld => ?_)
                clear hK K
                refine norm_ (a' := ?_) ?_ ?_
                rotate_left
                ·show Act.put _ (some 15) _ = _
                 simp only [Act.put, List.setIfInBounds_toArray, List.set_cons_zero, List.set_cons_succ, i64_w, i32_w]
                 rfl
                refine one_ (i := 3) (N := some 98) #[true, true, true, true, false, false, false, false, true, false, false] rfl rfl (one_of HT_.out (by kernel_rfl)) (by decide) (fun K hK => ?_)
                refine ztMasks.gs Try.func23 (by kernel_rfl) rfl #[.agg #[.int .i64 a1_0, .int .i64 a1_1, .slice A1_2 l1_2.length c1_2]] (by rfl) rfl rfl ?_
                with_reducible refine (laws_toMask.calls kj108 a1_0 a1_1 _ _ l1_2 t234 t235 t236 _ ?side1 ?side2 A173.out).mono ?_
                (case side1 => repeat (first | exact (Kd.C_below HR1_2.out HB.out) | (with_reducible refine Kd.C_alloc ?_ _) | (with_reducible refine Kd.C_drewN ?_ _) | (with_reducible refine Kd.C_drew ?_)))
                (case side2 => exact HC1_2.out)
                rintro e w188 ⟨v237, rfl, ho0, hb⟩
                refine ⟨_, rfl, ?_⟩
                have HO238 := Aside0.mk (Kd.R_lower (Kd.R_new' (Kd.R_new' (Kd.R_new' (Kd.R_new' (Kd.R_new' ho0 (Kd.R_lt (ztMasks.rl HO_189002.out))) (Kd.R_lt (ztMasks.rl HO_195002.out))) (Kd.R_lt (ztMasks.rl HO_201002.out))) (Kd.R_lt (ztMasks.rl HO_208002.out))) (Kd.R_lt (ztMasks.rl HO233.out))) (below_size (ztMasks.bl HB)))
                replace HO_189002 := Aside0.mk (Kd.R_elder' (ztMasks.rl HO_189002.out) (Kd.R_base ho0) hb)
                replace HO_195002 := Aside0.mk (Kd.R_elder' (ztMasks.rl HO_195002.out) (Kd.R_base ho0) hb)
                replace HO_201002 := Aside0.mk (Kd.R_elder' (ztMasks.rl HO_201002.out) (Kd.R_base ho0) hb)
                replace HO_208002 := Aside0.mk (Kd.R_elder' (ztMasks.rl HO_208002.out) (Kd.R_base ho0) hb)
                replace HO233 := Aside0.mk (Kd.R_elder' (ztMasks.rl HO233.out) (Kd.R_base ho0) hb)
                replace BK168 := ztMasks.bb BK168 hb
                replace BK169 := ztMasks.bb BK169 hb
                replace BK188 := ztMasks.bb BK188 hb
                replace BK194 := ztMasks.bb BK194 hb
                replace BK200 := ztMasks.bb BK200 hb
                replace BK207 := ztMasks.bb BK207 hb
                replace BK245 := ztMasks.bb BK245 hb
                replace HB := Aside0.mk (below_step (ztMasks.bl HB) hb)
                (try clear hb)
                (try clear hb2)
                (try clear hk)
                (try clear hi)
                (try clear ho0)
                obtain ⟨Ao189, co189, eo189⟩ := Kd.R_slice HO233.out
                (first | subst eo189 | (injection eo189 with f1_ f2_ f3_; have f4_ := f1_.symm; have f5_ := f3_.symm; clear f1_ f2_ f3_; subst f4_; subst f5_))
                obtain ⟨Ao190, co190, eo190⟩ := Kd.R_slice HO238.out
                (first | subst eo190 | (injection eo190 with f1_ f2_ f3_; have f4_ := f1_.symm; have f5_ := f3_.symm; clear f1_ f2_ f3_; subst f4_; subst f5_))
                refine hK.out _ _ ⟨(blk_cell BK168.out 0).trans rfl, (blk_cell BK168.out 1).trans rfl, (blk_cell BK168.out 2).trans rfl, (blk_cell BK169.out 0).trans rfl, (blk_cell BK169.out 1).trans rfl, (blk_cell BK169.out 2).trans rfl⟩ (fun hHeld => ?_)
                clear hK K
                refine norm_ (a' := ?_) ?_ ?_
                rotate_left
                ·show Act.put _ (some 98) _ = _
                 simp only [Act.put, List.setIfInBounds_toArray, List.set_cons_zero, List.set_cons_succ, i64_w, i32_w]
                 rfl
                refine one_ (i := 4) (N := some 99) #[true, true, true, true, true, false, false, false, true, false, false] rfl rfl (one_of HT_.out (by kernel_rfl)) (by decide) (fun K hK => ?_)
                refine ztMasks.gs Try.func24 (by kernel_rfl) rfl #[.agg #[.int .i64 t229, .int .i64 t230, .slice Ao189 t231.length co189], .agg #[.int .i64 t234, .int .i64 t235, .slice Ao190 t236.length co190]] (by rfl) rfl rfl ?_
                with_reducible refine (impl_MeetMasks.calls kj108 t229 t230 _ _ t231 t234 t235 _ _ t236 t239 t240 t241 t244 _ ?side1 ?side2 ?side3 ?side4 A174.out).mono ?_
                (case side1 => repeat (first | exact (Kd.R_reads' HO233.out).2.2 | (with_reducible refine Kd.C_alloc ?_ _) | (with_reducible refine Kd.C_drewN ?_ _) | (with_reducible refine Kd.C_drew ?_)))
                (case side2 => exact (Kd.R_reads' HO233.out).2.1)
                (case side3 => repeat (first | exact (Kd.R_reads' HO238.out).2.2 | (with_reducible refine Kd.C_alloc ?_ _) | (with_reducible refine Kd.C_drewN ?_ _) | (with_reducible refine Kd.C_drew ?_)))
                (case side4 => exact (Kd.R_reads' HO238.out).2.1)
                rintro e w191 ⟨v242, rfl, ho0, hb⟩
                refine ⟨_, rfl, ?_⟩
                have HO243 := Aside0.mk (Kd.R_lower (Kd.R_new' (Kd.R_new' (Kd.R_new' (Kd.R_new' (Kd.R_new' (Kd.R_new' ho0 (Kd.R_lt (ztMasks.rl HO_189002.out))) (Kd.R_lt (ztMasks.rl HO_195002.out))) (Kd.R_lt (ztMasks.rl HO_201002.out))) (Kd.R_lt (ztMasks.rl HO_208002.out))) (Kd.R_lt (ztMasks.rl HO233.out))) (Kd.R_lt (ztMasks.rl HO238.out))) (below_size (ztMasks.bl HB)))
                replace HO_189002 := Aside0.mk (Kd.R_elder' (ztMasks.rl HO_189002.out) (Kd.R_base ho0) hb)
                replace HO_195002 := Aside0.mk (Kd.R_elder' (ztMasks.rl HO_195002.out) (Kd.R_base ho0) hb)
                replace HO_201002 := Aside0.mk (Kd.R_elder' (ztMasks.rl HO_201002.out) (Kd.R_base ho0) hb)
                replace HO_208002 := Aside0.mk (Kd.R_elder' (ztMasks.rl HO_208002.out) (Kd.R_base ho0) hb)
                replace HO233 := Aside0.mk (Kd.R_elder' (ztMasks.rl HO233.out) (Kd.R_base ho0) hb)
                replace HO238 := Aside0.mk (Kd.R_elder' (ztMasks.rl HO238.out) (Kd.R_base ho0) hb)
                replace BK168 := ztMasks.bb BK168 hb
                replace BK169 := ztMasks.bb BK169 hb
                replace BK188 := ztMasks.bb BK188 hb
                replace BK194 := ztMasks.bb BK194 hb
                replace BK200 := ztMasks.bb BK200 hb
                replace BK207 := ztMasks.bb BK207 hb
                replace BK245 := ztMasks.bb BK245 hb
                replace HB := Aside0.mk (below_step (ztMasks.bl HB) hb)
                (try clear hb)
                (try clear hb2)
                (try clear hk)
                (try clear hi)
                (try clear ho0)
                refine hK.out _ _ ⟨(blk_cell BK168.out 0).trans rfl, (blk_cell BK168.out 1).trans rfl, (blk_cell BK168.out 2).trans rfl, (blk_cell BK169.out 0).trans rfl, (blk_cell BK169.out 1).trans rfl, (blk_cell BK169.out 2).trans rfl⟩ (fun hHeld => ?_)
                clear hK K
                refine norm_ (a' := ?_) ?_ ?_
                rotate_left
                ·show Act.put _ (some 99) _ = _
                 simp only [Act.put, List.setIfInBounds_toArray, List.set_cons_zero, List.set_cons_succ, i64_w, i32_w]
                 rfl
                refine pure_ (i := 5) (N := some 94) (v := ?_) (a' := ?_) #[true, true, true, true, true, true, false, false, true, false, false] rfl rfl (any_of HT_.out (by kernel_rfl)) (fun _ _ _ h => h) (Or.inl ⟨by rfl, ?_⟩) ?_ ?_
                rotate_left
                ·intro w'
                 go_simp
                 with_reducible rfl
                rotate_left
                ·simp only [Act.put, List.setIfInBounds_toArray, List.set_cons_zero, List.set_cons_succ, i64_w, i32_w]
                 rfl
                refine pure_ (i := 6) (N := some 100) (v := ?_) (a' := ?_) #[true, true, true, true, true, true, true, false, true, false, false] rfl rfl (any_of HT_.out (by kernel_rfl)) (fun _ _ _ h => h) (Or.inl ⟨by rfl, ?_⟩) ?_ ?_
                rotate_left
                ·intro w'
                 go_simp
                 with_reducible rfl
                rotate_left
                ·simp only [Act.put, List.setIfInBounds_toArray, List.set_cons_zero, List.set_cons_succ, i64_w, i32_w]
                 rfl
                refine pure_ (i := 7) (N := some 101) (v := ?_) (a' := ?_) #[true, true, true, true, true, true, true, true, true, false, false] rfl rfl (any_of HT_.out (by kernel_rfl)) (fun _ _ _ h => h) (Or.inl ⟨by rfl, ?_⟩) ?_ ?_
                rotate_left
                ·intro w'
                 go_simp
                 with_reducible rfl
                rotate_left
                ·simp only [Act.put, List.setIfInBounds_toArray, List.set_cons_zero, List.set_cons_succ, i64_w, i32_w]
                 rfl
                exact norm_ (by simp only [putAll, Act.put, List.setIfInBounds_toArray, List.set_cons_zero, List.set_cons_succ]) (hCont (.slice Ao189 t231.length co189, .slice Ao190 t236.length co190, v242, gb245) _ ⟨hHeld, (ztMasks.rl (Kd.R_mono HO233.out (fun _ hk => ⟨hk.1.2, ⟨hk.2, ⟨hk.1.1.1.1.1.2, ⟨hk.1.1.1.1.2, ⟨hk.1.1.1.2, hk.1.1.2⟩⟩⟩⟩⟩))), (ztMasks.rl (Kd.R_mono HO238.out (fun _ hk => ⟨hk.1.2, ⟨hk.2, ⟨hk.1.1.1.1.1.2, ⟨hk.1.1.1.1.2, ⟨hk.1.1.1.2, hk.1.1.2⟩⟩⟩⟩⟩))), (ztMasks.rl (Kd.R_mono HO243.out (fun _ hk => ⟨hk.1.2, ⟨hk.2, ⟨hk.1.1.1.1.1.2, ⟨hk.1.1.1.1.2, ⟨hk.1.1.1.2, hk.1.1.2⟩⟩⟩⟩⟩))), (ztMasks.rl (Kd.R_mono HO_189002.out (fun _ hk => ⟨hk.1.1.2, ⟨hk.1.2, ⟨hk.2, ⟨hk.1.1.1.1, ⟨hk.1.1.1.2.1, hk.1.1.1.2.2⟩⟩⟩⟩⟩))), (ztMasks.rl (Kd.R_mono HO_195002.out (fun _ hk => ⟨hk.1.1.2, ⟨hk.1.2, ⟨hk.2, ⟨hk.1.1.1.1, ⟨hk.1.1.1.2.1, hk.1.1.1.2.2⟩⟩⟩⟩⟩))), (ztMasks.rl (Kd.R_mono HO_201002.out (fun _ hk => ⟨hk.1.1.2, ⟨hk.1.2, ⟨hk.2, ⟨hk.1.1.1.1, ⟨hk.1.1.1.2.1, hk.1.1.1.2.2⟩⟩⟩⟩⟩))), (ztMasks.rl (Kd.R_mono HO_208002.out (fun _ hk => ⟨hk.1.1.2, ⟨hk.1.2, ⟨hk.2, ⟨hk.1.1.1.1, ⟨hk.1.1.1.2.1, hk.1.1.1.2.2⟩⟩⟩⟩⟩))), (ztMasks.bk BK168), (ztMasks.bk BK169), (ztMasks.bk BK188), (ztMasks.bk BK194), (ztMasks.bk BK200), (ztMasks.bk BK207), (ztMasks.bk BK245), GW245.out, GE245.out, NB168_245.out, NB245_168.out, NB169_245.out, NB245_169.out, NB188_245.out, NB245_188.out, NB194_245.out, NB245_194.out, NB200_245.out, NB245_200.out, NB207_245.out, NB245_207.out, (ztMasks.bl HB)⟩)
              ·skip
               refine box_step ?hg (N := 15) ?hd (cs := #[.int .i64 0, .int .i64 0, .slice none 0 0]) (t := 37) ?hr ?_; (case hd => rfl); (case hg => rfl); (case hr => first | (go_simp; done) | (go_simp; rfl))
               intro gb245 hg w186 hbox hb
               replace HO_189002 := ztMasks.rb HO_189002 hb
               replace HO_195002 := ztMasks.rb HO_195002 hb
               replace HO_201002 := ztMasks.rb HO_201002 hb
               replace HO_208002 := ztMasks.rb HO_208002 hb
               have BK245 := Aside0.mk (hbox)
               have GW245 := Aside0.mk ((by rw [hg]; exact (below_size (ztMasks.bl HB)) : w.heap.size ≤ gb245))
               have GE245 := Aside0.mk ((by rw [hg]; exact (below_size (ztMasks.bl HB)) : w.heap.size ≤ gb245))
               replace HB := Aside0.mk (below_step (ztMasks.bl HB) hb)
               have NB168_245 := ztMasks.ht BK168 hg
               have NB245_168 := ztMasks.hu BK168 hg
               replace BK168 := ztMasks.bb BK168 hb
               have NB169_245 := ztMasks.ht BK169 hg
               have NB245_169 := ztMasks.hu BK169 hg
               replace BK169 := ztMasks.bb BK169 hb
               have NB188_245 := ztMasks.ht BK188 hg
               have NB245_188 := ztMasks.hu BK188 hg
               replace BK188 := ztMasks.bb BK188 hb
               have NB194_245 := ztMasks.ht BK194 hg
               have NB245_194 := ztMasks.hu BK194 hg
               replace BK194 := ztMasks.bb BK194 hb
               have NB200_245 := ztMasks.ht BK200 hg
               have NB245_200 := ztMasks.hu BK200 hg
               replace BK200 := ztMasks.bb BK200 hb
               have NB207_245 := ztMasks.ht BK207 hg
               have NB245_207 := ztMasks.hu BK207 hg
               replace BK207 := ztMasks.bb BK207 hb
               clear hb hbox hg
               refine hK.out _ _ ⟨(blk_cell BK168.out 0).trans rfl, (blk_cell BK168.out 1).trans rfl, (blk_cell BK168.out 2).trans rfl, (blk_cell BK169.out 0).trans rfl, (blk_cell BK169.out 1).trans rfl, (blk_cell BK169.out 2).trans rfl⟩ (fun hHeld => ?_)
               clear hK K
               refine norm_ (a' := ?_) ?_ ?_
               rotate_left
               ·show Act.put _ (some 15) _ = _
                simp only [Act.put, List.setIfInBounds_toArray, List.set_cons_zero, List.set_cons_succ, i64_w, i32_w]
                rfl
               refine one_ (i := 1) (N := some 96) #[true, true, true, false, false, false, false, false, true, false, false] rfl rfl (one_of HT_.out (by kernel_rfl)) (by decide) (fun K hK => ?_)
               refine ztMasks.gs Try.func23 (by kernel_rfl) rfl #[.agg #[.int .i64 a0_0, .int .i64 a0_1, .slice A0_2 l0_2.length c0_2]] (by rfl) rfl rfl ?_
               with_reducible refine (laws_toMask.calls kj108 a0_0 a0_1 _ _ l0_2 t229 t230 t231 _ ?side1 ?side2 A172.out).mono ?_
               (case side1 => repeat (first | exact (Kd.C_below HR0_2.out HB.out) | (with_reducible refine Kd.C_alloc ?_ _) | (with_reducible refine Kd.C_drewN ?_ _) | (with_reducible refine Kd.C_drew ?_)))
               (case side2 => exact HC0_2.out)
               rintro e w187 ⟨v232, rfl, ho0, hb⟩
               refine ⟨_, rfl, ?_⟩
               have HO233 := Aside0.mk (Kd.R_lower (Kd.R_new' (Kd.R_new' (Kd.R_new' (Kd.R_new' ho0 (Kd.R_lt (ztMasks.rl HO_189002.out))) (Kd.R_lt (ztMasks.rl HO_195002.out))) (Kd.R_lt (ztMasks.rl HO_201002.out))) (Kd.R_lt (ztMasks.rl HO_208002.out))) (below_size (ztMasks.bl HB)))
               replace HO_189002 := Aside0.mk (Kd.R_elder' (ztMasks.rl HO_189002.out) (Kd.R_base ho0) hb)
               replace HO_195002 := Aside0.mk (Kd.R_elder' (ztMasks.rl HO_195002.out) (Kd.R_base ho0) hb)
               replace HO_201002 := Aside0.mk (Kd.R_elder' (ztMasks.rl HO_201002.out) (Kd.R_base ho0) hb)
               replace HO_208002 := Aside0.mk (Kd.R_elder' (ztMasks.rl HO_208002.out) (Kd.R_base ho0) hb)
               replace BK168 := ztMasks.bb BK168 hb
               replace BK169 := ztMasks.bb BK169 hb
               replace BK188 := ztMasks.bb BK188 hb
               replace BK194 := ztMasks.bb BK194 hb
               replace BK200 := ztMasks.bb BK200 hb
               replace BK207 := ztMasks.bb BK207 hb
               replace BK245 := ztMasks.bb BK245 hb
               replace HB := Aside0.mk (below_step (ztMasks.bl HB) hb)
               (try clear hb)
               (try clear hb2)
               (try clear hk)
               (try clear hi)
               (try clear ho0)
               refine hK.out _ _ ⟨(blk_cell BK168.out 0).trans rfl, (blk_cell BK168.out 1).trans rfl, (blk_cell BK168.out 2).trans rfl, (blk_cell BK169.out 0).trans rfl, (blk_cell BK169.out 1).trans rfl, (blk_cell BK169.out 2).trans rfl⟩ (fun hHeld => ?_)
               clear hK K
               refine norm_ (a' := ?_) ?_ ?_
               rotate_left
               ·show Act.put _ (some 96) _ = _
                simp only [Act.put, List.setIfInBounds_toArray, List.set_cons_zero, List.set_cons_succ, i64_w, i32_w]
                rfl
               refine one_ (i := 3) (N := some 98) #[true, true, true, true, false, false, false, false, true, false, false] rfl rfl (one_of HT_.out (by kernel_rfl)) (by decide) (fun K hK => ?_)
               refine ztMasks.gs Try.func23 (by kernel_rfl) rfl #[.agg #[.int .i64 a1_0, .int .i64 a1_1, .slice A1_2 l1_2.length c1_2]] (by rfl) rfl rfl ?_
               with_reducible refine (laws_toMask.calls kj108 a1_0 a1_1 _ _ l1_2 t234 t235 t236 _ ?side1 ?side2 A173.out).mono ?_
               (case side1 => repeat (first | exact (Kd.C_below HR1_2.out HB.out) | (with_reducible refine Kd.C_alloc ?_ _) | (with_reducible refine Kd.C_drewN ?_ _) | (with_reducible refine Kd.C_drew ?_)))
               (case side2 => exact HC1_2.out)
               rintro e w188 ⟨v237, rfl, ho0, hb⟩
               refine ⟨_, rfl, ?_⟩
               have HO238 := Aside0.mk (Kd.R_lower (Kd.R_new' (Kd.R_new' (Kd.R_new' (Kd.R_new' (Kd.R_new' ho0 (Kd.R_lt (ztMasks.rl HO_189002.out))) (Kd.R_lt (ztMasks.rl HO_195002.out))) (Kd.R_lt (ztMasks.rl HO_201002.out))) (Kd.R_lt (ztMasks.rl HO_208002.out))) (Kd.R_lt (ztMasks.rl HO233.out))) (below_size (ztMasks.bl HB)))
               replace HO_189002 := Aside0.mk (Kd.R_elder' (ztMasks.rl HO_189002.out) (Kd.R_base ho0) hb)
               replace HO_195002 := Aside0.mk (Kd.R_elder' (ztMasks.rl HO_195002.out) (Kd.R_base ho0) hb)
               replace HO_201002 := Aside0.mk (Kd.R_elder' (ztMasks.rl HO_201002.out) (Kd.R_base ho0) hb)
               replace HO_208002 := Aside0.mk (Kd.R_elder' (ztMasks.rl HO_208002.out) (Kd.R_base ho0) hb)
               replace HO233 := Aside0.mk (Kd.R_elder' (ztMasks.rl HO233.out) (Kd.R_base ho0) hb)
               replace BK168 := ztMasks.bb BK168 hb
               replace BK169 := ztMasks.bb BK169 hb
               replace BK188 := ztMasks.bb BK188 hb
               replace BK194 := ztMasks.bb BK194 hb
               replace BK200 := ztMasks.bb BK200 hb
               replace BK207 := ztMasks.bb BK207 hb
               replace BK245 := ztMasks.bb BK245 hb
               replace HB := Aside0.mk (below_step (ztMasks.bl HB) hb)
               (try clear hb)
               (try clear hb2)
               (try clear hk)
               (try clear hi)
               (try clear ho0)
               obtain ⟨Ao189, co189, eo189⟩ := Kd.R_slice HO233.out
               (first | subst eo189 | (injection eo189 with f1_ f2_ f3_; have f4_ := f1_.symm; have f5_ := f3_.symm; clear f1_ f2_ f3_; subst f4_; subst f5_))
               obtain ⟨Ao190, co190, eo190⟩ := Kd.R_slice HO238.out
               (first | subst eo190 | (injection eo190 with f1_ f2_ f3_; have f4_ := f1_.symm; have f5_ := f3_.symm; clear f1_ f2_ f3_; subst f4_; subst f5_))
               refine hK.out _ _ ⟨(blk_cell BK168.out 0).trans rfl, (blk_cell BK168.out 1).trans rfl, (blk_cell BK168.out 2).trans rfl, (blk_cell BK169.out 0).trans rfl, (blk_cell BK169.out 1).trans rfl, (blk_cell BK169.out 2).trans rfl⟩ (fun hHeld => ?_)
               clear hK K
               refine norm_ (a' := ?_) ?_ ?_
               rotate_left
               ·show Act.put _ (some 98) _ = _
                simp only [Act.put, List.setIfInBounds_toArray, List.set_cons_zero, List.set_cons_succ, i64_w, i32_w]
                rfl
               refine one_ (i := 4) (N := some 99) #[true, true, true, true, true, false, false, false, true, false, false] rfl rfl (one_of HT_.out (by kernel_rfl)) (by decide) (fun K hK => ?_)
               refine ztMasks.gs Try.func24 (by kernel_rfl) rfl #[.agg #[.int .i64 t229, .int .i64 t230, .slice Ao189 t231.length co189], .agg #[.int .i64 t234, .int .i64 t235, .slice Ao190 t236.length co190]] (by rfl) rfl rfl ?_
               with_reducible refine (impl_MeetMasks.calls kj108 t229 t230 _ _ t231 t234 t235 _ _ t236 t239 t240 t241 t244 _ ?side1 ?side2 ?side3 ?side4 A174.out).mono ?_
               (case side1 => repeat (first | exact (Kd.R_reads' HO233.out).2.2 | (with_reducible refine Kd.C_alloc ?_ _) | (with_reducible refine Kd.C_drewN ?_ _) | (with_reducible refine Kd.C_drew ?_)))
               (case side2 => exact (Kd.R_reads' HO233.out).2.1)
               (case side3 => repeat (first | exact (Kd.R_reads' HO238.out).2.2 | (with_reducible refine Kd.C_alloc ?_ _) | (with_reducible refine Kd.C_drewN ?_ _) | (with_reducible refine Kd.C_drew ?_)))
               (case side4 => exact (Kd.R_reads' HO238.out).2.1)
               rintro e w191 ⟨v242, rfl, ho0, hb⟩
               refine ⟨_, rfl, ?_⟩
               have HO243 := Aside0.mk (Kd.R_lower (Kd.R_new' (Kd.R_new' (Kd.R_new' (Kd.R_new' (Kd.R_new' (Kd.R_new' ho0 (Kd.R_lt (ztMasks.rl HO_189002.out))) (Kd.R_lt (ztMasks.rl HO_195002.out))) (Kd.R_lt (ztMasks.rl HO_201002.out))) (Kd.R_lt (ztMasks.rl HO_208002.out))) (Kd.R_lt (ztMasks.rl HO233.out))) (Kd.R_lt (ztMasks.rl HO238.out))) (below_size (ztMasks.bl HB)))
               replace HO_189002 := Aside0.mk (Kd.R_elder' (ztMasks.rl HO_189002.out) (Kd.R_base ho0) hb)
               replace HO_195002 := Aside0.mk (Kd.R_elder' (ztMasks.rl HO_195002.out) (Kd.R_base ho0) hb)
               replace HO_201002 := Aside0.mk (Kd.R_elder' (ztMasks.rl HO_201002.out) (Kd.R_base ho0) hb)
               replace HO_208002 := Aside0.mk (Kd.R_elder' (ztMasks.rl HO_208002.out) (Kd.R_base ho0) hb)
               replace HO233 := Aside0.mk (Kd.R_elder' (ztMasks.rl HO233.out) (Kd.R_base ho0) hb)
               replace HO238 := Aside0.mk (Kd.R_elder' (ztMasks.rl HO238.out) (Kd.R_base ho0) hb)
               replace BK168 := ztMasks.bb BK168 hb
               replace BK169 := ztMasks.bb BK169 hb
               replace BK188 := ztMasks.bb BK188 hb
               replace BK194 := ztMasks.bb BK194 hb
               replace BK200 := ztMasks.bb BK200 hb
               replace BK207 := ztMasks.bb BK207 hb
               replace BK245 := ztMasks.bb BK245 hb
               replace HB := Aside0.mk (below_step (ztMasks.bl HB) hb)
               (try clear hb)
               (try clear hb2)
               (try clear hk)
               (try clear hi)
               (try clear ho0)
               refine hK.out _ _ ⟨(blk_cell BK168.out 0).trans rfl, (blk_cell BK168.out 1).trans rfl, (blk_cell BK168.out 2).trans rfl, (blk_cell BK169.out 0).trans rfl, (blk_cell BK169.out 1).trans rfl, (blk_cell BK169.out 2).trans rfl⟩ (fun hHeld => ?_)
               clear hK K
               refine norm_ (a' := ?_) ?_ ?_
               rotate_left
               ·show Act.put _ (some 99) _ = _
                simp only [Act.put, List.setIfInBounds_toArray, List.set_cons_zero, List.set_cons_succ, i64_w, i32_w]
                rfl
               refine pure_ (i := 5) (N := some 94) (v := ?_) (a' := ?_) #[true, true, true, true, true, true, false, false, true, false, false] rfl rfl (any_of HT_.out (by kernel_rfl)) (fun _ _ _ h => h) (Or.inl ⟨by rfl, ?_⟩) ?_ ?_
               rotate_left
               ·intro w'
                go_simp
                with_reducible rfl
               rotate_left
               ·simp only [Act.put, List.setIfInBounds_toArray, List.set_cons_zero, List.set_cons_succ, i64_w, i32_w]
                rfl
               refine pure_ (i := 6) (N := some 100) (v := ?_) (a' := ?_) #[true, true, true, true, true, true, true, false, true, false, false] rfl rfl (any_of HT_.out (by kernel_rfl)) (fun _ _ _ h => h) (Or.inl ⟨by rfl, ?_⟩) ?_ ?_
               rotate_left
               ·intro w'
                go_simp
                with_reducible rfl
               rotate_left
               ·simp only [Act.put, List.setIfInBounds_toArray, List.set_cons_zero, List.set_cons_succ, i64_w, i32_w]
                rfl
               refine pure_ (i := 7) (N := some 101) (v := ?_) (a' := ?_) #[true, true, true, true, true, true, true, true, true, false, false] rfl rfl (any_of HT_.out (by kernel_rfl)) (fun _ _ _ h => h) (Or.inl ⟨by rfl, ?_⟩) ?_ ?_
               rotate_left
               ·intro w'
                go_simp
                with_reducible rfl
               rotate_left
               ·simp only [Act.put, List.setIfInBounds_toArray, List.set_cons_zero, List.set_cons_succ, i64_w, i32_w]
                rfl
               exact norm_ (by simp only [putAll, Act.put, List.setIfInBounds_toArray, List.set_cons_zero, List.set_cons_succ]) (hCont (.slice Ao189 t231.length co189, .slice Ao190 t236.length co190, v242, gb245) _ ⟨hHeld, (ztMasks.rl (Kd.R_mono HO233.out (fun _ hk => ⟨hk.1.2, ⟨hk.2, ⟨hk.1.1.1.1.1.2, ⟨hk.1.1.1.1.2, ⟨hk.1.1.1.2, hk.1.1.2⟩⟩⟩⟩⟩))), (ztMasks.rl (Kd.R_mono HO238.out (fun _ hk => ⟨hk.1.2, ⟨hk.2, ⟨hk.1.1.1.1.1.2, ⟨hk.1.1.1.1.2, ⟨hk.1.1.1.2, hk.1.1.2⟩⟩⟩⟩⟩))), (ztMasks.rl (Kd.R_mono HO243.out (fun _ hk => ⟨hk.1.2, ⟨hk.2, ⟨hk.1.1.1.1.1.2, ⟨hk.1.1.1.1.2, ⟨hk.1.1.1.2, hk.1.1.2⟩⟩⟩⟩⟩))), (ztMasks.rl (Kd.R_mono HO_189002.out (fun _ hk => ⟨hk.1.1.2, ⟨hk.1.2, ⟨hk.2, ⟨hk.1.1.1.1, ⟨hk.1.1.1.2.1, hk.1.1.1.2.2⟩⟩⟩⟩⟩))), (ztMasks.rl (Kd.R_mono HO_195002.out (fun _ hk => ⟨hk.1.1.2, ⟨hk.1.2, ⟨hk.2, ⟨hk.1.1.1.1, ⟨hk.1.1.1.2.1, hk.1.1.1.2.2⟩⟩⟩⟩⟩))), (ztMasks.rl (Kd.R_mono HO_201002.out (fun _ hk => ⟨hk.1.1.2, ⟨hk.1.2, ⟨hk.2, ⟨hk.1.1.1.1, ⟨hk.1.1.1.2.1, hk.1.1.1.2.2⟩⟩⟩⟩⟩))), (ztMasks.rl (Kd.R_mono HO_208002.out (fun _ hk => ⟨hk.1.1.2, ⟨hk.1.2, ⟨hk.2, ⟨hk.1.1.1.1, ⟨hk.1.1.1.2.1, hk.1.1.1.2.2⟩⟩⟩⟩⟩))), (ztMasks.bk BK168), (ztMasks.bk BK169), (ztMasks.bk BK188), (ztMasks.bk BK194), (ztMasks.bk BK200), (ztMasks.bk BK207), (ztMasks.bk BK245), GW245.out, GE245.out, NB168_245.out, NB245_168.out, NB169_245.out, NB245_169.out, NB188_245.out, NB245_188.out, NB194_245.out, NB245_194.out, NB200_245.out, NB245_200.out, NB207_245.out, NB245_207.out, (ztMasks.bl HB)⟩)
             rintro ⟨v232, v237, v242, gb245⟩ w192 ⟨hS_, h0_, h1_, h2_, h3_, h4_, h5_, h6_, h7_, h8_, h9_, h10_, h11_, h12_, h13_, h14_, h15_, h16_, h17_, h18_, h19_, h20_, h21_, h22_, h23_, h24_, h25_, h26_, h27_, h28_⟩
             have n0_ : Aside0 (Kd.R (Kd.int .i64) 3 w192 w.heap.size (fun k_ => some k_ ≠ (v237 : Value).ownBlock ∧ some k_ ≠ (v242 : Value).ownBlock ∧ some k_ ≠ (.slice Ao43 t184.length co43 : Value).ownBlock ∧ some k_ ≠ (.slice Ao53 t222.length co53 : Value).ownBlock ∧ some k_ ≠ (.slice Ao63 t224.length co63 : Value).ownBlock ∧ some k_ ≠ (.slice Ao73 t203.length co73 : Value).ownBlock) v232 t231) := ⟨h0_⟩
             have n1_ : Aside0 (Kd.R (Kd.int .i64) 3 w192 w.heap.size (fun k_ => some k_ ≠ (v232 : Value).ownBlock ∧ some k_ ≠ (v242 : Value).ownBlock ∧ some k_ ≠ (.slice Ao43 t184.length co43 : Value).ownBlock ∧ some k_ ≠ (.slice Ao53 t222.length co53 : Value).ownBlock ∧ some k_ ≠ (.slice Ao63 t224.length co63 : Value).ownBlock ∧ some k_ ≠ (.slice Ao73 t203.length co73 : Value).ownBlock) v237 t236) := ⟨h1_⟩
             have n2_ : Aside0 (Kd.R (Kd.int .i64) 3 w192 w.heap.size (fun k_ => some k_ ≠ (v232 : Value).ownBlock ∧ some k_ ≠ (v237 : Value).ownBlock ∧ some k_ ≠ (.slice Ao43 t184.length co43 : Value).ownBlock ∧ some k_ ≠ (.slice Ao53 t222.length co53 : Value).ownBlock ∧ some k_ ≠ (.slice Ao63 t224.length co63 : Value).ownBlock ∧ some k_ ≠ (.slice Ao73 t203.length co73 : Value).ownBlock) v242 t241) := ⟨h2_⟩
             have n3_ : Aside0 (Kd.R (Kd.int .i64) 3 w192 w.heap.size (fun k_ => some k_ ≠ (v232 : Value).ownBlock ∧ some k_ ≠ (v237 : Value).ownBlock ∧ some k_ ≠ (v242 : Value).ownBlock ∧ some k_ ≠ (.slice Ao53 t222.length co53 : Value).ownBlock ∧ some k_ ≠ (.slice Ao63 t224.length co63 : Value).ownBlock ∧ some k_ ≠ (.slice Ao73 t203.length co73 : Value).ownBlock) (.slice Ao43 t184.length co43) t184) := ⟨h3_⟩
             have n4_ : Aside0 (Kd.R (Kd.int .i64) 3 w192 w.heap.size (fun k_ => some k_ ≠ (v232 : Value).ownBlock ∧ some k_ ≠ (v237 : Value).ownBlock ∧ some k_ ≠ (v242 : Value).ownBlock ∧ some k_ ≠ (.slice Ao43 t184.length co43 : Value).ownBlock ∧ some k_ ≠ (.slice Ao63 t224.length co63 : Value).ownBlock ∧ some k_ ≠ (.slice Ao73 t203.length co73 : Value).ownBlock) (.slice Ao53 t222.length co53) t222) := ⟨h4_⟩
             have n5_ : Aside0 (Kd.R (Kd.int .i64) 3 w192 w.heap.size (fun k_ => some k_ ≠ (v232 : Value).ownBlock ∧ some k_ ≠ (v237 : Value).ownBlock ∧ some k_ ≠ (v242 : Value).ownBlock ∧ some k_ ≠ (.slice Ao43 t184.length co43 : Value).ownBlock ∧ some k_ ≠ (.slice Ao53 t222.length co53 : Value).ownBlock ∧ some k_ ≠ (.slice Ao73 t203.length co73 : Value).ownBlock) (.slice Ao63 t224.length co63) t224) := ⟨h5_⟩
             have n6_ : Aside0 (Kd.R (Kd.int .i64) 3 w192 w.heap.size (fun k_ => some k_ ≠ (v232 : Value).ownBlock ∧ some k_ ≠ (v237 : Value).ownBlock ∧ some k_ ≠ (v242 : Value).ownBlock ∧ some k_ ≠ (.slice Ao43 t184.length co43 : Value).ownBlock ∧ some k_ ≠ (.slice Ao53 t222.length co53 : Value).ownBlock ∧ some k_ ≠ (.slice Ao63 t224.length co63 : Value).ownBlock) (.slice Ao73 t203.length co73) t227) := ⟨h6_⟩
             have n7_ : Aside0 (w192.heap[gb168]? = some (.cells #[.int .i64 a0_0, .int .i64 a0_1, .slice A0_2 l0_2.length c0_2] 35 (0, 0))) := ⟨h7_⟩
             have n8_ : Aside0 (w192.heap[gb169]? = some (.cells #[.int .i64 a1_0, .int .i64 a1_1, .slice A1_2 l1_2.length c1_2] 35 (0, 0))) := ⟨h8_⟩
             have n9_ : Aside0 (w192.heap[gb188]? = some (.cells #[.int .i64 t182, .int .i64 t183, .slice Ao43 t184.length co43] 37 (0, 0))) := ⟨h9_⟩
             have n10_ : Aside0 (w192.heap[gb194]? = some (.cells #[.int .i64 t189, .int .i64 t190, .slice Ao53 t222.length co53] 37 (0, 0))) := ⟨h10_⟩
             have n11_ : Aside0 (w192.heap[gb200]? = some (.cells #[.int .i64 t195, .int .i64 t196, .slice Ao63 t224.length co63] 37 (0, 0))) := ⟨h11_⟩
             have n12_ : Aside0 (w192.heap[gb207]? = some (.cells #[.int .i64 t201, .int .i64 t202, .slice Ao73 t203.length co73] 37 (0, 0))) := ⟨h12_⟩
             have n13_ : Aside0 (w192.heap[gb245]? = some (.cells #[.int .i64 0, .int .i64 0, .slice none 0 0] 37 (0, 0))) := ⟨h13_⟩
             have n14_ : Aside0 (w.heap.size ≤ gb245) := ⟨h14_⟩
             have n15_ : Aside0 (w.heap.size ≤ gb245) := ⟨h15_⟩
             have n16_ : Aside0 (gb168 ≠ gb245) := ⟨h16_⟩
             have n17_ : Aside0 (gb245 ≠ gb168) := ⟨h17_⟩
             have n18_ : Aside0 (gb169 ≠ gb245) := ⟨h18_⟩
             have n19_ : Aside0 (gb245 ≠ gb169) := ⟨h19_⟩
             have n20_ : Aside0 (gb188 ≠ gb245) := ⟨h20_⟩
             have n21_ : Aside0 (gb245 ≠ gb188) := ⟨h21_⟩
             have n22_ : Aside0 (gb194 ≠ gb245) := ⟨h22_⟩
             have n23_ : Aside0 (gb245 ≠ gb194) := ⟨h23_⟩
             have n24_ : Aside0 (gb200 ≠ gb245) := ⟨h24_⟩
             have n25_ : Aside0 (gb245 ≠ gb200) := ⟨h25_⟩
             have n26_ : Aside0 (gb207 ≠ gb245) := ⟨h26_⟩
             have n27_ : Aside0 (gb245 ≠ gb207) := ⟨h27_⟩
             have n28_ : Aside0 (Below w.heap.size w w192) := ⟨h28_⟩
             clear HO_189002
             clear HO_195002
             clear HO_201002
             clear HO_208002
             clear BK168
             clear BK169
             clear BK188
             clear BK194
             clear BK200
             clear BK207
             clear HB
             clear h0_ h1_ h2_ h3_ h4_ h5_ h6_ h7_ h8_ h9_ h10_ h11_ h12_ h13_ h14_ h15_ h16_ h17_ h18_ h19_ h20_ h21_ h22_ h23_ h24_ h25_ h26_ h27_ h28_
             have HO233 := n0_
             have HO238 := n1_
             have HO243 := n2_
             have HO_189002 := n3_
             have HO_195002 := n4_
             have HO_201002 := n5_
             have HO_208002 := n6_
             have BK168 := n7_
             have BK169 := n8_
             have BK188 := n9_
             have BK194 := n10_
             have BK200 := n11_
             have BK207 := n12_
             have BK245 := n13_
             have GW245 := n14_
             have GE245 := n15_
             have NB168_245 := n16_
             have NB245_168 := n17_
             have NB169_245 := n18_
             have NB245_169 := n19_
             have NB188_245 := n20_
             have NB245_188 := n21_
             have NB194_245 := n22_
             have NB245_194 := n23_
             have NB200_245 := n24_
             have NB245_200 := n25_
             have NB207_245 := n26_
             have NB245_207 := n27_
             have HB := n28_
             clear n0_ n1_ n2_ n3_ n4_ n5_ n6_ n7_ n8_ n9_ n10_ n11_ n12_ n13_ n14_ n15_ n16_ n17_ n18_ n19_ n20_ n21_ n22_ n23_ n24_ n25_ n26_ n27_ n28_
             have hHeld : w192.cell? ⟨gb168, 0, none⟩ = some (.int .i64 a0_0) ∧ w192.cell? ⟨gb168, 1, none⟩ = some (.int .i64 a0_1) ∧ w192.cell? ⟨gb168, 2, none⟩ = some (.slice A0_2 l0_2.length c0_2) ∧ w192.cell? ⟨gb169, 0, none⟩ = some (.int .i64 a1_0) ∧ w192.cell? ⟨gb169, 1, none⟩ = some (.int .i64 a1_1) ∧ w192.cell? ⟨gb169, 2, none⟩ = some (.slice A1_2 l1_2.length c1_2) := hS_
             obtain ⟨Ao195, co195, eo195⟩ := Kd.R_slice HO243.out
             (first | subst eo195 | (injection eo195 with f1_ f2_ f3_; have f4_ := f1_.symm; have f5_ := f3_.symm; clear f1_ f2_ f3_; subst f4_; subst f5_))
             refine norm_ (a' := ?_) ?_ ?_
             rotate_left
             ·simp only [putAll, Act.put, List.setIfInBounds_toArray, List.set_cons_zero, List.set_cons_succ]
              rfl
             refine one_ (i := 9) (N := none) #[true, true, true, true, true, true, true, true, true, true, false] rfl rfl (one_of HT_.out (by kernel_rfl)) (by decide) (fun K hK => ?_)
             have hs193 : w192.cell? ⟨gb245, 0, none⟩ = some (.int .i64 0) := (blk_cell BK245.out 0).trans rfl
             have hfs193 := blk_frozen BK245.out 0
             have hns193_0 := NB168_245.out
             have hns193_1 := NB169_245.out
             have hns193_2 := NB188_245.out
             have hns193_3 := NB194_245.out
             have hns193_4 := NB200_245.out
             have hns193_5 := NB207_245.out
             have hms193_0 := NB245_168.out
             have hms193_1 := NB245_169.out
             have hms193_2 := NB245_188.out
             have hms193_3 := NB245_194.out
             have hms193_4 := NB245_200.out
             have hms193_5 := NB245_207.out
             have hs194 : w192.cell? ⟨gb245, 1, none⟩ = some (.int .i64 0) := (blk_cell BK245.out 1).trans rfl
             have hfs194 := blk_frozen BK245.out 1
             have hns194_0 := NB168_245.out
             have hns194_1 := NB169_245.out
             have hns194_2 := NB188_245.out
             have hns194_3 := NB194_245.out
             have hns194_4 := NB200_245.out
             have hns194_5 := NB207_245.out
             have hms194_0 := NB245_168.out
             have hms194_1 := NB245_169.out
             have hms194_2 := NB245_188.out
             have hms194_3 := NB245_194.out
             have hms194_4 := NB245_200.out
             have hms194_5 := NB245_207.out
             have hs196 : w192.cell? ⟨gb245, 2, none⟩ = some (.slice none 0 0) := (blk_cell BK245.out 2).trans rfl
             have hfs196 := blk_frozen BK245.out 2
             have hns196_0 := NB168_245.out
             have hns196_1 := NB169_245.out
             have hns196_2 := NB188_245.out
             have hns196_3 := NB194_245.out
             have hns196_4 := NB200_245.out
             have hns196_5 := NB207_245.out
             have hms196_0 := NB245_168.out
             have hms196_1 := NB245_169.out
             have hms196_2 := NB245_188.out
             have hms196_3 := NB245_194.out
             have hms196_4 := NB245_200.out
             have hms196_5 := NB245_207.out
             refine skip_ (w1 := ?_) (by rfl) rfl ?_ ?_
             rotate_left
             ·go_simp
              rfl
             refine hK.out _ _ ⟨((cell_far (p := ⟨gb245, _, none⟩) NB168_245.out _).trans (((cell_far (p := ⟨gb245, _, none⟩) NB168_245.out _).trans (((cell_far (p := ⟨gb245, _, none⟩) NB168_245.out _).trans (hHeld.1)))))), ((cell_far (p := ⟨gb245, _, none⟩) NB168_245.out _).trans (((cell_far (p := ⟨gb245, _, none⟩) NB168_245.out _).trans (((cell_far (p := ⟨gb245, _, none⟩) NB168_245.out _).trans (hHeld.2.1)))))), ((cell_far (p := ⟨gb245, _, none⟩) NB168_245.out _).trans (((cell_far (p := ⟨gb245, _, none⟩) NB168_245.out _).trans (((cell_far (p := ⟨gb245, _, none⟩) NB168_245.out _).trans (hHeld.2.2.1)))))), ((cell_far (p := ⟨gb245, _, none⟩) NB169_245.out _).trans (((cell_far (p := ⟨gb245, _, none⟩) NB169_245.out _).trans (((cell_far (p := ⟨gb245, _, none⟩) NB169_245.out _).trans (hHeld.2.2.2.1)))))), ((cell_far (p := ⟨gb245, _, none⟩) NB169_245.out _).trans (((cell_far (p := ⟨gb245, _, none⟩) NB169_245.out _).trans (((cell_far (p := ⟨gb245, _, none⟩) NB169_245.out _).trans (hHeld.2.2.2.2.1)))))), ((cell_far (p := ⟨gb245, _, none⟩) NB169_245.out _).trans (((cell_far (p := ⟨gb245, _, none⟩) NB169_245.out _).trans (((cell_far (p := ⟨gb245, _, none⟩) NB169_245.out _).trans (hHeld.2.2.2.2.2))))))⟩ (fun hHeld => ?_)
             clear hK K
             refine pure_ (i := 10) (N := some 16) (v := ?_) (a' := ?_) #[true, true, true, true, true, true, true, true, true, true, true] rfl rfl (any_of HT_.out (by kernel_rfl)) (fun _ _ _ h => h) (Or.inl ⟨by rfl, ?_⟩) ?_ ?_
             rotate_left
             ·intro w'
              go_simp
              with_reducible rfl
             rotate_left
             ·simp only [Act.put, List.setIfInBounds_toArray, List.set_cons_zero, List.set_cons_succ, i64_w, i32_w]
              rfl
             refine done_ (done_of HT_.out (by kernel_rfl)) ?_
             go_upto_region 32 with (fail)
             go_cut [110] (fun v110 wc => ∃ (kq : Nat) (x110_174 : Bool), v110 = .bool x110_174 ∧ Aside0 (laws_FnExactMeetMasks.j2 kq t226 x110_174 t201 t202 t227 = some r) ∧ Aside0 (kq ≤ kj108) ∧ Aside0 (Kd.R (Kd.int .i64) 3 wc w.heap.size (fun k_ => some k_ ≠ ((.slice Ao53 t222.length co53) : Value).ownBlock ∧ some k_ ≠ ((.slice Ao63 t224.length co63) : Value).ownBlock ∧ some k_ ≠ ((.slice Ao73 t203.length co73) : Value).ownBlock ∧ some k_ ≠ ((.slice Ao195 t241.length co195) : Value).ownBlock) (.slice Ao43 t184.length co43) t184) ∧ Aside0 (Kd.R (Kd.int .i64) 3 wc w.heap.size (fun k_ => some k_ ≠ ((.slice Ao43 t184.length co43) : Value).ownBlock ∧ some k_ ≠ ((.slice Ao63 t224.length co63) : Value).ownBlock ∧ some k_ ≠ ((.slice Ao73 t203.length co73) : Value).ownBlock ∧ some k_ ≠ ((.slice Ao195 t241.length co195) : Value).ownBlock) (.slice Ao53 t222.length co53) t222) ∧ Aside0 (Kd.R (Kd.int .i64) 3 wc w.heap.size (fun k_ => some k_ ≠ ((.slice Ao43 t184.length co43) : Value).ownBlock ∧ some k_ ≠ ((.slice Ao53 t222.length co53) : Value).ownBlock ∧ some k_ ≠ ((.slice Ao73 t203.length co73) : Value).ownBlock ∧ some k_ ≠ ((.slice Ao195 t241.length co195) : Value).ownBlock) (.slice Ao63 t224.length co63) t224) ∧ Aside0 (Kd.R (Kd.int .i64) 3 wc w.heap.size (fun k_ => some k_ ≠ ((.slice Ao43 t184.length co43) : Value).ownBlock ∧ some k_ ≠ ((.slice Ao53 t222.length co53) : Value).ownBlock ∧ some k_ ≠ ((.slice Ao63 t224.length co63) : Value).ownBlock ∧ some k_ ≠ ((.slice Ao195 t241.length co195) : Value).ownBlock) (.slice Ao73 t203.length co73) t227) ∧ Aside0 (Kd.R (Kd.int .i64) 3 wc w.heap.size (fun k_ => some k_ ≠ ((.slice Ao43 t184.length co43) : Value).ownBlock ∧ some k_ ≠ ((.slice Ao53 t222.length co53) : Value).ownBlock ∧ some k_ ≠ ((.slice Ao63 t224.length co63) : Value).ownBlock ∧ some k_ ≠ ((.slice Ao73 t203.length co73) : Value).ownBlock) (.slice Ao195 t241.length co195) t241) ∧ Aside0 (wc.heap[gb168]? = some (.cells #[.int .i64 a0_0, .int .i64 a0_1, (.slice A0_2 l0_2.length c0_2)] 35 (0, 0))) ∧ Aside0 (wc.heap[gb169]? = some (.cells #[.int .i64 a1_0, .int .i64 a1_1, (.slice A1_2 l1_2.length c1_2)] 35 (0, 0))) ∧ Aside0 (wc.heap[gb188]? = some (.cells #[.int .i64 t182, .int .i64 t183, (.slice Ao43 t184.length co43)] 37 (0, 0))) ∧ Aside0 (wc.heap[gb194]? = some (.cells #[.int .i64 t189, .int .i64 t190, (.slice Ao53 t222.length co53)] 37 (0, 0))) ∧ Aside0 (wc.heap[gb200]? = some (.cells #[.int .i64 t195, .int .i64 t196, (.slice Ao63 t224.length co63)] 37 (0, 0))) ∧ Aside0 (wc.heap[gb207]? = some (.cells #[.int .i64 t201, .int .i64 t202, (.slice Ao73 t203.length co73)] 37 (0, 0))) ∧ Aside0 (wc.heap[gb245]? = some (.cells #[.int .i64 t239, .int .i64 t240, (.slice Ao195 t241.length co195)] 37 (0, 0))) ∧ Aside0 (Below w.heap.size w wc))
             case first =>
              have H := HC175.out
              clear HC175
              replace H := Option.bind_eq_some_iff.mp H
              obtain ⟨t246, A1970, H⟩ := H
              replace H : (if t246 = true then (laws_FnExactMeetMasks.j2 kj108 t226 (t244 != t187) t201 t202 t227) else (laws_FnExactMeetMasks.j2 kj108 t226 true t201 t202 t227)) = some r := H
              have A197 := Aside0.mk A1970
              clear A1970
              by_cases c198 : t246 = true
              ·subst c198
               have H1 : (laws_FnExactMeetMasks.j2 kj108 t226 (t244 != t187) t201 t202 t227) = some r := by rw [if_pos rfl] at H; exact H
               clear H
               have H := H1
               clear H1
               have H' := Aside0.mk H
               clear H
               have hnb199 := NB245_168.out
               have hnc199 := NB168_245.out
               have hnb200 := NB245_169.out
               have hnc200 := NB169_245.out
               have hnb201 := NB245_188.out
               have hnc201 := NB188_245.out
               have hnb202 := NB245_194.out
               have hnc202 := NB194_245.out
               have hnb203 := NB245_200.out
               have hnc203 := NB200_245.out
               have hnb204 := NB245_207.out
               have hnc204 := NB207_245.out
               have hcz205_0 : w192.cell? ⟨gb245, 0, none⟩ = some (.int .i64 0) := (blk_cell BK245.out 0).trans rfl
               have hcz205_1 : w192.cell? ⟨gb245, 1, none⟩ = some (.int .i64 0) := (blk_cell BK245.out 1).trans rfl
               have hcz205_2 : w192.cell? ⟨gb245, 2, none⟩ = some (.slice none 0 0) := (blk_cell BK245.out 2).trans rfl
               have hfz205_0 := blk_frozen BK245.out 0
               have hfz205_1 := blk_frozen BK245.out 1
               have hfz205_2 := blk_frozen BK245.out 2
               have hnb206 := NB188_168.out
               have hnc206 := NB168_188.out
               have hnb207 := NB188_169.out
               have hnc207 := NB169_188.out
               have hnb208 := NB188_194.out
               have hnc208 := NB194_188.out
               have hnb209 := NB188_200.out
               have hnc209 := NB200_188.out
               have hnb210 := NB188_207.out
               have hnc210 := NB207_188.out
               have hcz211_0 : w192.cell? ⟨gb188, 0, none⟩ = some (.int .i64 t182) := (blk_cell BK188.out 0).trans rfl
               have hcz211_1 : w192.cell? ⟨gb188, 1, none⟩ = some (.int .i64 t183) := (blk_cell BK188.out 1).trans rfl
               have hcz211_2 : w192.cell? ⟨gb188, 2, none⟩ = some (.slice Ao43 t184.length co43) := (blk_cell BK188.out 2).trans rfl
               have hfz211_0 := blk_frozen BK188.out 0
               have hfz211_1 := blk_frozen BK188.out 1
               have hfz211_2 := blk_frozen BK188.out 2
               go_wp2_with (first | ((with_reducible refine gate_callee (f := 25) rfl ?_); refine ztMasks.gl (some 104) rfl rfl Try.func25 (by kernel_rfl) rfl #[.agg #[.int .i64 t239, .int .i64 t240, .slice Ao195 t241.length co195], .agg #[.int .i64 t182, .int .i64 t183, .slice Ao43 t184.length co43]] rfl ?_; (with_reducible refine (laws_eqMask.calls kj108 t239 t240 _ _ t241 t182 t183 _ _ t184 true _ ?side1 ?side2 ?side3 ?side4 A197.out).mono ?_); (case side1 => refine (Kd.R_reads' (e := 3) (base := w.heap.size) (ok := fun k_ => (some k_ ≠ (v232 : Value).ownBlock ∧ (some k_ ≠ (v237 : Value).ownBlock ∧ (some k_ ≠ (.slice Ao43 t184.length co43 : Value).ownBlock ∧ (some k_ ≠ (.slice Ao53 t222.length co53 : Value).ownBlock ∧ (some k_ ≠ (.slice Ao63 t224.length co63 : Value).ownBlock ∧ some k_ ≠ (.slice Ao73 t203.length co73 : Value).ownBlock)))))) (n := t241.length) (c := co195) ?_).2.2; exact (ztMasks.rl ((Kd.R_mono (Kd.R_far (p := ⟨gb245, 2, none⟩) (Kd.R_far (p := ⟨gb245, 1, none⟩) (Kd.R_far (p := ⟨gb245, 0, none⟩) (Kd.R_types HO243.out BK245.out (by decide)) (fun _ hk => hk.2) (.int .i64 t239)) (fun _ hk => hk.2) (.int .i64 t240)) (fun _ hk => hk.2) (.slice Ao195 t241.length co195)) (fun _ h_ => h_.1))))); (case side2 => exact (Kd.R_reads' HO243.out).2.1); (case side3 => refine (Kd.R_reads' (e := 3) (base := w.heap.size) (ok := fun k_ => (some k_ ≠ (v232 : Value).ownBlock ∧ (some k_ ≠ (v237 : Value).ownBlock ∧ (some k_ ≠ (.slice Ao195 t241.length co195 : Value).ownBlock ∧ (some k_ ≠ (.slice Ao53 t222.length co53 : Value).ownBlock ∧ (some k_ ≠ (.slice Ao63 t224.length co63 : Value).ownBlock ∧ some k_ ≠ (.slice Ao73 t203.length co73 : Value).ownBlock)))))) (n := t184.length) (c := co43) ?_).2.2; exact (ztMasks.rl ((Kd.R_mono (Kd.R_far (p := ⟨gb245, 2, none⟩) (Kd.R_far (p := ⟨gb245, 1, none⟩) (Kd.R_far (p := ⟨gb245, 0, none⟩) (Kd.R_types HO_189002.out BK245.out (by decide)) (fun _ hk => hk.2) (.int .i64 t239)) (fun _ hk => hk.2) (.int .i64 t240)) (fun _ hk => hk.2) (.slice Ao195 t241.length co195)) (fun _ h_ => h_.1))))); (case side4 => exact (Kd.R_reads' HO_189002.out).2.1); rintro e w212 ⟨rfl, hb⟩; refine ⟨_, rfl, ?_⟩; replace HO_189002 := Aside0.mk (Kd.R_below (ztMasks.rl ((Kd.R_mono (Kd.R_far (p := ⟨gb245, 2, none⟩) (Kd.R_far (p := ⟨gb245, 1, none⟩) (Kd.R_far (p := ⟨gb245, 0, none⟩) (Kd.R_types HO_189002.out BK245.out (by decide)) (fun _ hk => hk.2) (.int .i64 t239)) (fun _ hk => hk.2) (.int .i64 t240)) (fun _ hk => hk.2) (.slice Ao195 t241.length co195)) (fun _ h_ => h_.1)))) hb); replace HO_195002 := Aside0.mk (Kd.R_below (ztMasks.rl ((Kd.R_mono (Kd.R_far (p := ⟨gb245, 2, none⟩) (Kd.R_far (p := ⟨gb245, 1, none⟩) (Kd.R_far (p := ⟨gb245, 0, none⟩) (Kd.R_types HO_195002.out BK245.out (by decide)) (fun _ hk => hk.2) (.int .i64 t239)) (fun _ hk => hk.2) (.int .i64 t240)) (fun _ hk => hk.2) (.slice Ao195 t241.length co195)) (fun _ h_ => h_.1)))) hb); replace HO_201002 := Aside0.mk (Kd.R_below (ztMasks.rl ((Kd.R_mono (Kd.R_far (p := ⟨gb245, 2, none⟩) (Kd.R_far (p := ⟨gb245, 1, none⟩) (Kd.R_far (p := ⟨gb245, 0, none⟩) (Kd.R_types HO_201002.out BK245.out (by decide)) (fun _ hk => hk.2) (.int .i64 t239)) (fun _ hk => hk.2) (.int .i64 t240)) (fun _ hk => hk.2) (.slice Ao195 t241.length co195)) (fun _ h_ => h_.1)))) hb); replace HO_208002 := Aside0.mk (Kd.R_below (ztMasks.rl ((Kd.R_mono (Kd.R_far (p := ⟨gb245, 2, none⟩) (Kd.R_far (p := ⟨gb245, 1, none⟩) (Kd.R_far (p := ⟨gb245, 0, none⟩) (Kd.R_types HO_208002.out BK245.out (by decide)) (fun _ hk => hk.2) (.int .i64 t239)) (fun _ hk => hk.2) (.int .i64 t240)) (fun _ hk => hk.2) (.slice Ao195 t241.length co195)) (fun _ h_ => h_.1)))) hb); replace HO233 := Aside0.mk (Kd.R_below (ztMasks.rl ((Kd.R_mono (Kd.R_far (p := ⟨gb245, 2, none⟩) (Kd.R_far (p := ⟨gb245, 1, none⟩) (Kd.R_far (p := ⟨gb245, 0, none⟩) (Kd.R_types HO233.out BK245.out (by decide)) (fun _ hk => hk.2) (.int .i64 t239)) (fun _ hk => hk.2) (.int .i64 t240)) (fun _ hk => hk.2) (.slice Ao195 t241.length co195)) (fun _ h_ => h_.1)))) hb); replace HO238 := Aside0.mk (Kd.R_below (ztMasks.rl ((Kd.R_mono (Kd.R_far (p := ⟨gb245, 2, none⟩) (Kd.R_far (p := ⟨gb245, 1, none⟩) (Kd.R_far (p := ⟨gb245, 0, none⟩) (Kd.R_types HO238.out BK245.out (by decide)) (fun _ hk => hk.2) (.int .i64 t239)) (fun _ hk => hk.2) (.int .i64 t240)) (fun _ hk => hk.2) (.slice Ao195 t241.length co195)) (fun _ h_ => h_.1)))) hb); replace HO243 := Aside0.mk (Kd.R_below (ztMasks.rl ((Kd.R_mono (Kd.R_far (p := ⟨gb245, 2, none⟩) (Kd.R_far (p := ⟨gb245, 1, none⟩) (Kd.R_far (p := ⟨gb245, 0, none⟩) (Kd.R_types HO243.out BK245.out (by decide)) (fun _ hk => hk.2) (.int .i64 t239)) (fun _ hk => hk.2) (.int .i64 t240)) (fun _ hk => hk.2) (.slice Ao195 t241.length co195)) (fun _ h_ => h_.1)))) hb); replace BK168 := Aside0.mk (blk_below (g := gb168) (o := .cells #[.int .i64 a0_0, .int .i64 a0_1, .slice A0_2 l0_2.length c0_2] 35 (0, 0)) (ztMasks.bf BK168) hb); replace BK169 := Aside0.mk (blk_below (g := gb169) (o := .cells #[.int .i64 a1_0, .int .i64 a1_1, .slice A1_2 l1_2.length c1_2] 35 (0, 0)) (ztMasks.bf BK169) hb); replace BK188 := Aside0.mk (blk_below (g := gb188) (o := .cells #[.int .i64 t182, .int .i64 t183, .slice Ao43 t184.length co43] 37 (0, 0)) (ztMasks.bf BK188) hb); replace BK194 := Aside0.mk (blk_below (g := gb194) (o := .cells #[.int .i64 t189, .int .i64 t190, .slice Ao53 t222.length co53] 37 (0, 0)) (ztMasks.bf BK194) hb); replace BK200 := Aside0.mk (blk_below (g := gb200) (o := .cells #[.int .i64 t195, .int .i64 t196, .slice Ao63 t224.length co63] 37 (0, 0)) (ztMasks.bf BK200) hb); replace BK207 := Aside0.mk (blk_below (g := gb207) (o := .cells #[.int .i64 t201, .int .i64 t202, .slice Ao73 t203.length co73] 37 (0, 0)) (ztMasks.bf BK207) hb); replace BK245 := Aside0.mk (blk_below (g := gb245) (o := .cells #[.int .i64 t239, .int .i64 t240, .slice Ao195 t241.length co195] 37 (0, 0)) (by (with_reducible repeat (first | refine blk_drewN ?_ _ | refine blk_drew ?_ | refine blk_alloc ?_ _)); refine blk_put (cs := #[.int .i64 t239, .int .i64 t240, .slice none 0 0]) ?_ 2 _ rfl; (with_reducible repeat (first | refine blk_drewN ?_ _ | refine blk_drew ?_ | refine blk_alloc ?_ _)); refine blk_put (cs := #[.int .i64 t239, .int .i64 0, .slice none 0 0]) ?_ 1 _ rfl; (with_reducible repeat (first | refine blk_drewN ?_ _ | refine blk_drew ?_ | refine blk_alloc ?_ _)); refine blk_put (cs := #[.int .i64 0, .int .i64 0, .slice none 0 0]) ?_ 0 _ rfl; (with_reducible repeat (first | refine blk_drewN ?_ _ | refine blk_drew ?_ | refine blk_alloc ?_ _)); exact BK245.out) hb); replace HB := Aside0.mk (below_step (ztMasks.bl HB) hb); (try clear hb); (try clear hb2); (try clear hk); (try clear hi)))
               go_meet
               case rel => exact ⟨_, ((t244 != t187)), (by first | rfl | (simp; done) | (simp [*]; done)), H', ⟨by have := HJ24.out; have := HJ108.out; first | omega | exact Nat.le_refl _⟩, ⟨by (try simp only [hl195002_108]); (try simp only [hl201002_108]); (with_reducible repeat (first | apply Kd.R_alloc | apply Kd.R_drewN | apply Kd.R_drew)); exact Kd.R_mono HO_189002.out (fun _ hk => ⟨hk.2.2.2.1, ⟨hk.2.2.2.2.1, ⟨hk.2.2.2.2.2, hk.2.2.1⟩⟩⟩)⟩, ⟨by (try simp only [hl195002_108]); (try simp only [hl201002_108]); (with_reducible repeat (first | apply Kd.R_alloc | apply Kd.R_drewN | apply Kd.R_drew)); exact Kd.R_mono HO_195002.out (fun _ hk => ⟨hk.2.2.2.1, ⟨hk.2.2.2.2.1, ⟨hk.2.2.2.2.2, hk.2.2.1⟩⟩⟩)⟩, ⟨by (try simp only [hl195002_108]); (try simp only [hl201002_108]); (with_reducible repeat (first | apply Kd.R_alloc | apply Kd.R_drewN | apply Kd.R_drew)); exact Kd.R_mono HO_201002.out (fun _ hk => ⟨hk.2.2.2.1, ⟨hk.2.2.2.2.1, ⟨hk.2.2.2.2.2, hk.2.2.1⟩⟩⟩)⟩, ⟨by (try simp only [hl195002_108]); (try simp only [hl201002_108]); (with_reducible repeat (first | apply Kd.R_alloc | apply Kd.R_drewN | apply Kd.R_drew)); exact Kd.R_mono HO_208002.out (fun _ hk => ⟨hk.2.2.2.1, ⟨hk.2.2.2.2.1, ⟨hk.2.2.2.2.2, hk.2.2.1⟩⟩⟩)⟩, ⟨by (try simp only [hl195002_108]); (try simp only [hl201002_108]); (with_reducible repeat (first | apply Kd.R_alloc | apply Kd.R_drewN | apply Kd.R_drew)); exact Kd.R_mono HO243.out (fun _ hk => ⟨hk.2.2.1, ⟨hk.2.2.2.1, ⟨hk.2.2.2.2.1, hk.2.2.2.2.2⟩⟩⟩)⟩, ⟨by (try simp only [hl195002_108]); (try simp only [hl201002_108]); (with_reducible repeat (first | refine blk_drewN ?_ _ | refine blk_drew ?_ | refine blk_alloc ?_ _)); exact BK168.out⟩, ⟨by (try simp only [hl195002_108]); (try simp only [hl201002_108]); (with_reducible repeat (first | refine blk_drewN ?_ _ | refine blk_drew ?_ | refine blk_alloc ?_ _)); exact BK169.out⟩, ⟨by (try simp only [hl195002_108]); (try simp only [hl201002_108]); (with_reducible repeat (first | refine blk_drewN ?_ _ | refine blk_drew ?_ | refine blk_alloc ?_ _)); exact BK188.out⟩, ⟨by (try simp only [hl195002_108]); (try simp only [hl201002_108]); (with_reducible repeat (first | refine blk_drewN ?_ _ | refine blk_drew ?_ | refine blk_alloc ?_ _)); exact BK194.out⟩, ⟨by (try simp only [hl195002_108]); (try simp only [hl201002_108]); (with_reducible repeat (first | refine blk_drewN ?_ _ | refine blk_drew ?_ | refine blk_alloc ?_ _)); exact BK200.out⟩, ⟨by (try simp only [hl195002_108]); (try simp only [hl201002_108]); (with_reducible repeat (first | refine blk_drewN ?_ _ | refine blk_drew ?_ | refine blk_alloc ?_ _)); exact BK207.out⟩, ⟨by (try simp only [hl195002_108]); (try simp only [hl201002_108]); (with_reducible repeat (first | refine blk_drewN ?_ _ | refine blk_drew ?_ | refine blk_alloc ?_ _)); exact BK245.out⟩, ⟨ztMasks.bl HB⟩⟩
              ·replace c198 := Bool.eq_false_iff.mpr c198
               subst c198
               have H1 : (laws_FnExactMeetMasks.j2 kj108 t226 true t201 t202 t227) = some r := by rw [if_neg (show ¬ (false = true) by decide)] at H; exact H
               clear H
               have H := H1
               clear H1
               have H' := Aside0.mk H
               clear H
               have hnb213 := NB245_168.out
               have hnc213 := NB168_245.out
               have hnb214 := NB245_169.out
               have hnc214 := NB169_245.out
               have hnb215 := NB245_188.out
               have hnc215 := NB188_245.out
               have hnb216 := NB245_194.out
               have hnc216 := NB194_245.out
               have hnb217 := NB245_200.out
               have hnc217 := NB200_245.out
               have hnb218 := NB245_207.out
               have hnc218 := NB207_245.out
               have hcz219_0 : w192.cell? ⟨gb245, 0, none⟩ = some (.int .i64 0) := (blk_cell BK245.out 0).trans rfl
               have hcz219_1 : w192.cell? ⟨gb245, 1, none⟩ = some (.int .i64 0) := (blk_cell BK245.out 1).trans rfl
               have hcz219_2 : w192.cell? ⟨gb245, 2, none⟩ = some (.slice none 0 0) := (blk_cell BK245.out 2).trans rfl
               have hfz219_0 := blk_frozen BK245.out 0
               have hfz219_1 := blk_frozen BK245.out 1
               have hfz219_2 := blk_frozen BK245.out 2
               have hnb220 := NB188_168.out
               have hnc220 := NB168_188.out
               have hnb221 := NB188_169.out
               have hnc221 := NB169_188.out
               have hnb222 := NB188_194.out
               have hnc222 := NB194_188.out
               have hnb223 := NB188_200.out
               have hnc223 := NB200_188.out
               have hnb224 := NB188_207.out
               have hnc224 := NB207_188.out
               have hcz225_0 : w192.cell? ⟨gb188, 0, none⟩ = some (.int .i64 t182) := (blk_cell BK188.out 0).trans rfl
               have hcz225_1 : w192.cell? ⟨gb188, 1, none⟩ = some (.int .i64 t183) := (blk_cell BK188.out 1).trans rfl
               have hcz225_2 : w192.cell? ⟨gb188, 2, none⟩ = some (.slice Ao43 t184.length co43) := (blk_cell BK188.out 2).trans rfl
               have hfz225_0 := blk_frozen BK188.out 0
               have hfz225_1 := blk_frozen BK188.out 1
               have hfz225_2 := blk_frozen BK188.out 2
               go_wp2_with (first | ((with_reducible refine gate_callee (f := 25) rfl ?_); refine ztMasks.gl (some 104) rfl rfl Try.func25 (by kernel_rfl) rfl #[.agg #[.int .i64 t239, .int .i64 t240, .slice Ao195 t241.length co195], .agg #[.int .i64 t182, .int .i64 t183, .slice Ao43 t184.length co43]] rfl ?_; (with_reducible refine (laws_eqMask.calls kj108 t239 t240 _ _ t241 t182 t183 _ _ t184 false _ ?side1 ?side2 ?side3 ?side4 A197.out).mono ?_); (case side1 => refine (Kd.R_reads' (e := 3) (base := w.heap.size) (ok := fun k_ => (some k_ ≠ (v232 : Value).ownBlock ∧ (some k_ ≠ (v237 : Value).ownBlock ∧ (some k_ ≠ (.slice Ao43 t184.length co43 : Value).ownBlock ∧ (some k_ ≠ (.slice Ao53 t222.length co53 : Value).ownBlock ∧ (some k_ ≠ (.slice Ao63 t224.length co63 : Value).ownBlock ∧ some k_ ≠ (.slice Ao73 t203.length co73 : Value).ownBlock)))))) (n := t241.length) (c := co195) ?_).2.2; exact (ztMasks.rl ((Kd.R_mono (Kd.R_far (p := ⟨gb245, 2, none⟩) (Kd.R_far (p := ⟨gb245, 1, none⟩) (Kd.R_far (p := ⟨gb245, 0, none⟩) (Kd.R_types HO243.out BK245.out (by decide)) (fun _ hk => hk.2) (.int .i64 t239)) (fun _ hk => hk.2) (.int .i64 t240)) (fun _ hk => hk.2) (.slice Ao195 t241.length co195)) (fun _ h_ => h_.1))))); (case side2 => exact (Kd.R_reads' HO243.out).2.1); (case side3 => refine (Kd.R_reads' (e := 3) (base := w.heap.size) (ok := fun k_ => (some k_ ≠ (v232 : Value).ownBlock ∧ (some k_ ≠ (v237 : Value).ownBlock ∧ (some k_ ≠ (.slice Ao195 t241.length co195 : Value).ownBlock ∧ (some k_ ≠ (.slice Ao53 t222.length co53 : Value).ownBlock ∧ (some k_ ≠ (.slice Ao63 t224.length co63 : Value).ownBlock ∧ some k_ ≠ (.slice Ao73 t203.length co73 : Value).ownBlock)))))) (n := t184.length) (c := co43) ?_).2.2; exact (ztMasks.rl ((Kd.R_mono (Kd.R_far (p := ⟨gb245, 2, none⟩) (Kd.R_far (p := ⟨gb245, 1, none⟩) (Kd.R_far (p := ⟨gb245, 0, none⟩) (Kd.R_types HO_189002.out BK245.out (by decide)) (fun _ hk => hk.2) (.int .i64 t239)) (fun _ hk => hk.2) (.int .i64 t240)) (fun _ hk => hk.2) (.slice Ao195 t241.length co195)) (fun _ h_ => h_.1))))); (case side4 => exact (Kd.R_reads' HO_189002.out).2.1); rintro e w226 ⟨rfl, hb⟩; refine ⟨_, rfl, ?_⟩; replace HO_189002 := Aside0.mk (Kd.R_below (ztMasks.rl ((Kd.R_mono (Kd.R_far (p := ⟨gb245, 2, none⟩) (Kd.R_far (p := ⟨gb245, 1, none⟩) (Kd.R_far (p := ⟨gb245, 0, none⟩) (Kd.R_types HO_189002.out BK245.out (by decide)) (fun _ hk => hk.2) (.int .i64 t239)) (fun _ hk => hk.2) (.int .i64 t240)) (fun _ hk => hk.2) (.slice Ao195 t241.length co195)) (fun _ h_ => h_.1)))) hb); replace HO_195002 := Aside0.mk (Kd.R_below (ztMasks.rl ((Kd.R_mono (Kd.R_far (p := ⟨gb245, 2, none⟩) (Kd.R_far (p := ⟨gb245, 1, none⟩) (Kd.R_far (p := ⟨gb245, 0, none⟩) (Kd.R_types HO_195002.out BK245.out (by decide)) (fun _ hk => hk.2) (.int .i64 t239)) (fun _ hk => hk.2) (.int .i64 t240)) (fun _ hk => hk.2) (.slice Ao195 t241.length co195)) (fun _ h_ => h_.1)))) hb); replace HO_201002 := Aside0.mk (Kd.R_below (ztMasks.rl ((Kd.R_mono (Kd.R_far (p := ⟨gb245, 2, none⟩) (Kd.R_far (p := ⟨gb245, 1, none⟩) (Kd.R_far (p := ⟨gb245, 0, none⟩) (Kd.R_types HO_201002.out BK245.out (by decide)) (fun _ hk => hk.2) (.int .i64 t239)) (fun _ hk => hk.2) (.int .i64 t240)) (fun _ hk => hk.2) (.slice Ao195 t241.length co195)) (fun _ h_ => h_.1)))) hb); replace HO_208002 := Aside0.mk (Kd.R_below (ztMasks.rl ((Kd.R_mono (Kd.R_far (p := ⟨gb245, 2, none⟩) (Kd.R_far (p := ⟨gb245, 1, none⟩) (Kd.R_far (p := ⟨gb245, 0, none⟩) (Kd.R_types HO_208002.out BK245.out (by decide)) (fun _ hk => hk.2) (.int .i64 t239)) (fun _ hk => hk.2) (.int .i64 t240)) (fun _ hk => hk.2) (.slice Ao195 t241.length co195)) (fun _ h_ => h_.1)))) hb); replace HO233 := Aside0.mk (Kd.R_below (ztMasks.rl ((Kd.R_mono (Kd.R_far (p := ⟨gb245, 2, none⟩) (Kd.R_far (p := ⟨gb245, 1, none⟩) (Kd.R_far (p := ⟨gb245, 0, none⟩) (Kd.R_types HO233.out BK245.out (by decide)) (fun _ hk => hk.2) (.int .i64 t239)) (fun _ hk => hk.2) (.int .i64 t240)) (fun _ hk => hk.2) (.slice Ao195 t241.length co195)) (fun _ h_ => h_.1)))) hb); replace HO238 := Aside0.mk (Kd.R_below (ztMasks.rl ((Kd.R_mono (Kd.R_far (p := ⟨gb245, 2, none⟩) (Kd.R_far (p := ⟨gb245, 1, none⟩) (Kd.R_far (p := ⟨gb245, 0, none⟩) (Kd.R_types HO238.out BK245.out (by decide)) (fun _ hk => hk.2) (.int .i64 t239)) (fun _ hk => hk.2) (.int .i64 t240)) (fun _ hk => hk.2) (.slice Ao195 t241.length co195)) (fun _ h_ => h_.1)))) hb); replace HO243 := Aside0.mk (Kd.R_below (ztMasks.rl ((Kd.R_mono (Kd.R_far (p := ⟨gb245, 2, none⟩) (Kd.R_far (p := ⟨gb245, 1, none⟩) (Kd.R_far (p := ⟨gb245, 0, none⟩) (Kd.R_types HO243.out BK245.out (by decide)) (fun _ hk => hk.2) (.int .i64 t239)) (fun _ hk => hk.2) (.int .i64 t240)) (fun _ hk => hk.2) (.slice Ao195 t241.length co195)) (fun _ h_ => h_.1)))) hb); replace BK168 := Aside0.mk (blk_below (g := gb168) (o := .cells #[.int .i64 a0_0, .int .i64 a0_1, .slice A0_2 l0_2.length c0_2] 35 (0, 0)) (ztMasks.bf BK168) hb); replace BK169 := Aside0.mk (blk_below (g := gb169) (o := .cells #[.int .i64 a1_0, .int .i64 a1_1, .slice A1_2 l1_2.length c1_2] 35 (0, 0)) (ztMasks.bf BK169) hb); replace BK188 := Aside0.mk (blk_below (g := gb188) (o := .cells #[.int .i64 t182, .int .i64 t183, .slice Ao43 t184.length co43] 37 (0, 0)) (ztMasks.bf BK188) hb); replace BK194 := Aside0.mk (blk_below (g := gb194) (o := .cells #[.int .i64 t189, .int .i64 t190, .slice Ao53 t222.length co53] 37 (0, 0)) (ztMasks.bf BK194) hb); replace BK200 := Aside0.mk (blk_below (g := gb200) (o := .cells #[.int .i64 t195, .int .i64 t196, .slice Ao63 t224.length co63] 37 (0, 0)) (ztMasks.bf BK200) hb); replace BK207 := Aside0.mk (blk_below (g := gb207) (o := .cells #[.int .i64 t201, .int .i64 t202, .slice Ao73 t203.length co73] 37 (0, 0)) (ztMasks.bf BK207) hb); replace BK245 := Aside0.mk (blk_below (g := gb245) (o := .cells #[.int .i64 t239, .int .i64 t240, .slice Ao195 t241.length co195] 37 (0, 0)) (by (with_reducible repeat (first | refine blk_drewN ?_ _ | refine blk_drew ?_ | refine blk_alloc ?_ _)); refine blk_put (cs := #[.int .i64 t239, .int .i64 t240, .slice none 0 0]) ?_ 2 _ rfl; (with_reducible repeat (first | refine blk_drewN ?_ _ | refine blk_drew ?_ | refine blk_alloc ?_ _)); refine blk_put (cs := #[.int .i64 t239, .int .i64 0, .slice none 0 0]) ?_ 1 _ rfl; (with_reducible repeat (first | refine blk_drewN ?_ _ | refine blk_drew ?_ | refine blk_alloc ?_ _)); refine blk_put (cs := #[.int .i64 0, .int .i64 0, .slice none 0 0]) ?_ 0 _ rfl; (with_reducible repeat (first | refine blk_drewN ?_ _ | refine blk_drew ?_ | refine blk_alloc ?_ _)); exact BK245.out) hb); replace HB := Aside0.mk (below_step (ztMasks.bl HB) hb); (try clear hb); (try clear hb2); (try clear hk); (try clear hi)))
               go_meet
               case rel => exact ⟨_, (true), (by first | rfl | (simp; done) | (simp [*]; done)), H', ⟨by have := HJ24.out; have := HJ108.out; first | omega | exact Nat.le_refl _⟩, ⟨by (try simp only [hl195002_108]); (try simp only [hl201002_108]); (with_reducible repeat (first | apply Kd.R_alloc | apply Kd.R_drewN | apply Kd.R_drew)); exact Kd.R_mono HO_189002.out (fun _ hk => ⟨hk.2.2.2.1, ⟨hk.2.2.2.2.1, ⟨hk.2.2.2.2.2, hk.2.2.1⟩⟩⟩)⟩, ⟨by (try simp only [hl195002_108]); (try simp only [hl201002_108]); (with_reducible repeat (first | apply Kd.R_alloc | apply Kd.R_drewN | apply Kd.R_drew)); exact Kd.R_mono HO_195002.out (fun _ hk => ⟨hk.2.2.2.1, ⟨hk.2.2.2.2.1, ⟨hk.2.2.2.2.2, hk.2.2.1⟩⟩⟩)⟩, ⟨by (try simp only [hl195002_108]); (try simp only [hl201002_108]); (with_reducible repeat (first | apply Kd.R_alloc | apply Kd.R_drewN | apply Kd.R_drew)); exact Kd.R_mono HO_201002.out (fun _ hk => ⟨hk.2.2.2.1, ⟨hk.2.2.2.2.1, ⟨hk.2.2.2.2.2, hk.2.2.1⟩⟩⟩)⟩, ⟨by (try simp only [hl195002_108]); (try simp only [hl201002_108]); (with_reducible repeat (first | apply Kd.R_alloc | apply Kd.R_drewN | apply Kd.R_drew)); exact Kd.R_mono HO_208002.out (fun _ hk => ⟨hk.2.2.2.1, ⟨hk.2.2.2.2.1, ⟨hk.2.2.2.2.2, hk.2.2.1⟩⟩⟩)⟩, ⟨by (try simp only [hl195002_108]); (try simp only [hl201002_108]); (with_reducible repeat (first | apply Kd.R_alloc | apply Kd.R_drewN | apply Kd.R_drew)); exact Kd.R_mono HO243.out (fun _ hk => ⟨hk.2.2.1, ⟨hk.2.2.2.1, ⟨hk.2.2.2.2.1, hk.2.2.2.2.2⟩⟩⟩)⟩, ⟨by (try simp only [hl195002_108]); (try simp only [hl201002_108]); (with_reducible repeat (first | refine blk_drewN ?_ _ | refine blk_drew ?_ | refine blk_alloc ?_ _)); exact BK168.out⟩, ⟨by (try simp only [hl195002_108]); (try simp only [hl201002_108]); (with_reducible repeat (first | refine blk_drewN ?_ _ | refine blk_drew ?_ | refine blk_alloc ?_ _)); exact BK169.out⟩, ⟨by (try simp only [hl195002_108]); (try simp only [hl201002_108]); (with_reducible repeat (first | refine blk_drewN ?_ _ | refine blk_drew ?_ | refine blk_alloc ?_ _)); exact BK188.out⟩, ⟨by (try simp only [hl195002_108]); (try simp only [hl201002_108]); (with_reducible repeat (first | refine blk_drewN ?_ _ | refine blk_drew ?_ | refine blk_alloc ?_ _)); exact BK194.out⟩, ⟨by (try simp only [hl195002_108]); (try simp only [hl201002_108]); (with_reducible repeat (first | refine blk_drewN ?_ _ | refine blk_drew ?_ | refine blk_alloc ?_ _)); exact BK200.out⟩, ⟨by (try simp only [hl195002_108]); (try simp only [hl201002_108]); (with_reducible repeat (first | refine blk_drewN ?_ _ | refine blk_drew ?_ | refine blk_alloc ?_ _)); exact BK207.out⟩, ⟨by (try simp only [hl195002_108]); (try simp only [hl201002_108]); (with_reducible repeat (first | refine blk_drewN ?_ _ | refine blk_drew ?_ | refine blk_alloc ?_ _)); exact BK245.out⟩, ⟨ztMasks.bl HB⟩⟩
             case rest =>
              clear HC175
              try clear c1
              try clear c2
              try clear p2
              try clear c19
              try clear c20
              try clear c21
              try clear c22
              try clear c23
              try clear c24
              try clear c25
              try clear c198
              try clear c199
              try clear c200
              try clear c201
              try clear c202
              try clear c203
              try clear c204
              try clear c206
              try clear c207
              try clear c208
              try clear c209
              try clear c210
              try clear c213
              try clear c214
              try clear c215
              try clear c216
              try clear c217
              try clear c218
              try clear c220
              try clear c221
              try clear c222
              try clear c223
              try clear c224
              try clear hcz205_0
              try clear hcz205_1
              try clear hcz205_2
              try clear hcz211_0
              try clear hcz211_1
              try clear hcz211_2
              try clear hcz219_0
              try clear hcz219_1
              try clear hcz219_2
              try clear hcz225_0
              try clear hcz225_1
              try clear hcz225_2
              try clear hfz205_0
              try clear hfz205_1
              try clear hfz205_2
              try clear hfz211_0
              try clear hfz211_1
              try clear hfz211_2
              try clear hfz219_0
              try clear hfz219_1
              try clear hfz219_2
              try clear hfz225_0
              try clear hfz225_1
              try clear hfz225_2
              obtain ⟨kq, x110_174, rfl, HA, HJ174, HO_189002, HO_195002, HO_201002, HO_208002, HO_246002, BK168, BK169, BK188, BK194, BK200, BK207, BK245, HB⟩ := hcut
              have hl208002_174 := (Kd.R_reads' HO_208002.out).1
              rw [hl208002_174] at HO_208002
              (try simp only [hl208002_174])
              (try simp only [hl208002_174] at BK168)
              (try simp only [hl208002_174] at BK169)
              (try simp only [hl208002_174] at BK188)
              (try simp only [hl208002_174] at BK194)
              (try simp only [hl208002_174] at BK200)
              (try simp only [hl208002_174] at BK207)
              (try simp only [hl208002_174] at BK245)
              (try simp only [hl208002_174] at HO_189002)
              (try simp only [hl208002_174] at HO_195002)
              (try simp only [hl208002_174] at HO_201002)
              (try simp only [hl208002_174] at HO_246002)
              cases kq with
              | zero => exact absurd HA.out (by simp [laws_FnExactMeetMasks.j2])
              | succ kj174 =>
               have H := HA.out
               clear HA
               simp only [laws_FnExactMeetMasks.j2] at H
               by_cases c227 : x110_174 = true
               ·subst c227
                have H1 : (some false) = some r := by rw [if_pos rfl] at H; exact H
                clear H
                have H := H1
                clear H1
                exact absurd (Option.some.inj H) (by rw [hrt]; decide)
               ·replace c227 := Bool.eq_false_iff.mpr c227
                subst c227
                have H1 : ((laws_heldMask.f kj174 t201 t202 t227 1).bind fun t247 => (if t247 < 0 then (some false) else (if t247 = t226 then (some true) else (some false)))) = some r := by rw [if_neg (show ¬ (false = true) by decide)] at H; exact H
                clear H
                have H := H1
                clear H1
                replace H := Option.bind_eq_some_iff.mp H
                obtain ⟨t247, A2280, H⟩ := H
                replace H : (if t247 < 0 then (some false) else (if t247 = t226 then (some true) else (some false))) = some r := H
                have A228 := Aside0.mk A2280
                clear A2280
                by_cases c229 : t247 < 0
                ·rw [if_pos c229] at H
                 have c229b0 : decide (t247 < 0) = true := decide_eq_true c229
                 clear c229
                 exact absurd (Option.some.inj H) (by rw [hrt]; decide)
                ·rw [if_neg c229] at H
                 have c229b0 : decide (t247 < 0) = false := decide_eq_false c229
                 clear c229
                 by_cases c238 : t247 = t226
                 ·rw [if_pos c238] at H
                  have c238b0 : (t247 == t226) = true := beq_iff_eq.mpr c238
                  have c238b1 : (t247 != t226) = false := bne_eq_false_iff_eq.mpr c238
                  clear c238
                  obtain rfl := Option.some.inj H
                  have hnb239 := NB207_168.out
                  have hnc239 := NB168_207.out
                  have hnb240 := NB207_169.out
                  have hnc240 := NB169_207.out
                  have hnb241 := NB207_188.out
                  have hnc241 := NB188_207.out
                  have hnb242 := NB207_194.out
                  have hnc242 := NB194_207.out
                  have hnb243 := NB207_200.out
                  have hnc243 := NB200_207.out
                  have hnb244 := NB207_245.out
                  have hnc244 := NB245_207.out
                  have hcz245_0 : wc.cell? ⟨gb207, 0, none⟩ = some (.int .i64 t201) := (blk_cell BK207.out 0).trans rfl
                  have hcz245_1 : wc.cell? ⟨gb207, 1, none⟩ = some (.int .i64 t202) := (blk_cell BK207.out 1).trans rfl
                  have hcz245_2 : wc.cell? ⟨gb207, 2, none⟩ = some (.slice Ao73 t227.length co73) := (blk_cell BK207.out 2).trans rfl
                  have hfz245_0 := blk_frozen BK207.out 0
                  have hfz245_1 := blk_frozen BK207.out 1
                  have hfz245_2 := blk_frozen BK207.out 2
                  go_wp2_with (first | ((with_reducible refine gate_callee (f := 27) rfl ?_); refine ztMasks.gl (some 113) rfl rfl Try.func27 (by kernel_rfl) rfl #[.agg #[.int .i64 t201, .int .i64 t202, .slice Ao73 t227.length co73], .int .i64 1] rfl ?_; (with_reducible refine (laws_heldMask.calls kj174 t201 t202 _ _ t227 1 t247 _ ?side1 ?side2 A228.out).mono ?_); (case side1 => repeat (first | exact (Kd.R_reads' HO_208002.out).2.2 | (with_reducible refine Kd.C_alloc ?_ _) | (with_reducible refine Kd.C_drewN ?_ _) | (with_reducible refine Kd.C_drew ?_))); (case side2 => exact (Kd.R_reads' HO_208002.out).2.1); rintro e w246 ⟨rfl, hb⟩; refine ⟨_, rfl, ?_⟩; replace HO_189002 := ztMasks.rb HO_189002 hb; replace HO_195002 := ztMasks.rb HO_195002 hb; replace HO_201002 := ztMasks.rb HO_201002 hb; replace HO_208002 := ztMasks.rb HO_208002 hb; replace HO_246002 := ztMasks.rb HO_246002 hb; replace BK168 := ztMasks.bb BK168 hb; replace BK169 := ztMasks.bb BK169 hb; replace BK188 := ztMasks.bb BK188 hb; replace BK194 := ztMasks.bb BK194 hb; replace BK200 := ztMasks.bb BK200 hb; replace BK207 := ztMasks.bb BK207 hb; replace BK245 := ztMasks.bb BK245 hb; replace HB := Aside0.mk (below_step (ztMasks.bl HB) hb); (try clear hb); (try clear hb2); (try clear hk); (try clear hi)))
                  go_ret
                  exact ⟨by first | rfl | (simp [errW_none, errW_some] <;> rfl) | (simp [*, errW_none, errW_some] <;> rfl), ztMasks.bl HB⟩
                 ·rw [if_neg c238] at H
                  have c238b0 : (t247 == t226) = false := beq_eq_false_iff_ne.mpr c238
                  have c238b1 : (t247 != t226) = true := bne_iff_ne.mpr c238
                  exact absurd (Option.some.inj H) (by rw [hrt]; decide)
            ·rw [if_neg c171] at H
             have c171b0 : (t228 == t226) = false := beq_eq_false_iff_ne.mpr c171
             have c171b1 : (t228 != t226) = true := bne_iff_ne.mpr c171
             exact absurd (Option.some.inj H) (by rw [hrt]; decide)
       ·replace c106 := Bool.eq_false_iff.mpr c106
        subst c106
        have H1 : (some false) = some r := by rw [if_neg (show ¬ (false = true) by decide)] at H; exact H
        clear H
        have H := H1
        clear H1
        exact absurd (Option.some.inj H) (by rw [hrt]; decide)
      ·replace c103 := Bool.eq_false_iff.mpr c103
       subst c103
       have H1 : (some false) = some r := by rw [if_neg (show ¬ (false = true) by decide)] at H; exact H
       clear H
       have H := H1
       clear H1
       exact absurd (Option.some.inj H) (by rw [hrt]; decide)
end Go.Proofs.Ytdmndbehfdnneaa.HFnExactMeetMasks
