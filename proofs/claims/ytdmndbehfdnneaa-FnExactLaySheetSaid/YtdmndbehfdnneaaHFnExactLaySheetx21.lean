-- Printed by a program of this session over the kit's print; functions that the print does not take stand here by hand.
import Derived.Test.YtdmndbehfdnneaaHFnExactLaySheetx0
import Derived.Test.YtdmndbehfdnneaaHFnExactLaySheetx1
import Derived.Test.YtdmndbehfdnneaaHFnExactLaySheetx3
import Derived.Test.YtdmndbehfdnneaaHFnExactLaySheetx5
import Derived.Test.YtdmndbehfdnneaaHFnExactLaySheetx7
import Derived.Test.YtdmndbehfdnneaaHFnExactLaySheetx11
import Derived.Test.YtdmndbehfdnneaaHFnExactLaySheetx18
import Derived.Test.YtdmndbehfdnneaaHFnExactLaySheetx20
namespace Go.Proofs.Ytdmndbehfdnneaa.HFnExactLaySheet
open Go.RowKit Go.Proofs.YtdmndbehfdnneaaW.PrintWords Go.Proofs.YtdmndbehfdnneaaW.PrintLast Go.Proofs.YtdmndbehfdnneaaW.PrintMore
attribute [local go_sem] max2_int min2_int max_two min_two max_three min_three max_four min_four   -- for this text's walks alone
set_option linter.unusedVariables false
set_option linter.unusedSimpArgs false

/-! ### laws_FnExactLaySheet: function 8 -/
mutual
def laws_FnExactLaySheet.j0 : Nat → Int → Bool → Bool → Bool → Int → Int → List (S109) → Int → Int → List (S109) → Int → Int → List (S54) → Int → Int → List (S54) → Int → Int → List (S54) → Int → Int → List (S54) → Option (Bool)
  | 0, _, _, _, _, _, _, _, _, _, _, _, _, _, _, _, _, _, _, _, _, _, _ => none
  | k + 1, x2, x9, x13, x57, x220000, x220001, x220002, x221000, x221001, x221002, x240000, x240001, x240002, x246000, x246001, x246002, x252000, x252001, x252002, x259000, x259001, x259002 => if x57 = true then (some false) else ((laws_toSheet.f k x220000 x220001 x220002).bind fun bt260 => ((laws_eqSheet.f k x246000 x246001 x246002 bt260.1 bt260.2.1 bt260.2.2).bind fun t265 => (if t265 = true then ((laws_toSheet.f k x221000 x221001 x221002).bind fun bt266 => ((laws_eqSheet.f k x252000 x252001 x252002 bt266.1 bt266.2.1 bt266.2.2).bind fun t271 => (if t271 = true then ((laws_markSheet.f k x246000 x246001 x246002 1).bind fun bt272 => ((laws_markSheet.f k x252000 x252001 x252002 bt272.1).bind fun bt274 => (if bt274.1 < 0 then (laws_FnExactLaySheet.j1 k x2 x9 true x220000 x220001 x220002 x221000 x221001 x221002 x240000 x240001 x240002 x259000 x259001 x259002) else ((laws_eqSheet.f k x259000 x259001 x259002 x240000 x240001 x240002).bind fun t276 => (if t276 = true then (laws_FnExactLaySheet.j1 k x2 x9 (x13 != x9) x220000 x220001 x220002 x221000 x221001 x221002 x240000 x240001 x240002 x259000 x259001 x259002) else (laws_FnExactLaySheet.j1 k x2 x9 true x220000 x220001 x220002 x221000 x221001 x221002 x240000 x240001 x240002 x259000 x259001 x259002)))))) else (some false)))) else (some false))))
def laws_FnExactLaySheet.j1 : Nat → Int → Bool → Bool → Int → Int → List (S109) → Int → Int → List (S109) → Int → Int → List (S54) → Int → Int → List (S54) → Option (Bool)
  | 0, _, _, _, _, _, _, _, _, _, _, _, _, _, _, _ => none
  | k + 1, x2, x9, x86, x220000, x220001, x220002, x221000, x221001, x221002, x240000, x240001, x240002, x259000, x259001, x259002 => if x86 = true then (some false) else ((laws_markSheet.f k x259000 x259001 x259002 1).bind fun bt277 => ((laws_heldSheet.f k x259000 x259001 bt277.2 1).bind fun t279 => (if t279 < 0 then (some false) else (if t279 = bt277.1 then ((laws_toSheet.f k x220000 x220001 x220002).bind fun bt280 => ((laws_toSheet.f k x221000 x221001 x221002).bind fun bt285 => ((impl_LaySheet.f k bt280.1 bt280.2.1 bt280.2.2 bt285.1 bt285.2.1 bt285.2.2 x2).bind fun bt290 => ((laws_eqSheet.f k bt290.1 bt290.2.1 bt290.2.2.1 x240000 x240001 x240002).bind fun t297 => (if t297 = true then (laws_FnExactLaySheet.j2 k bt277.1 (bt290.2.2.2 != x9) x259000 x259001 bt277.2) else (laws_FnExactLaySheet.j2 k bt277.1 true x259000 x259001 bt277.2)))))) else (some false)))))
def laws_FnExactLaySheet.j2 : Nat → Int → Bool → Int → Int → List (S54) → Option (Bool)
  | 0, _, _, _, _, _ => none
  | k + 1, x15, x115, x259000, x259001, x259002 => if x115 = true then (some false) else ((laws_heldSheet.f k x259000 x259001 x259002 1).bind fun t298 => (if t298 < 0 then (some false) else (if t298 = x15 then (some true) else (some false))))
end
def laws_FnExactLaySheet.f (k : Nat) (a0_0 : Int) (a0_1 : Int) (l0_2 : List (S109)) (a1_0 : Int) (a1_1 : Int) (l1_2 : List (S109)) (a2 : Int) : Option (Bool) := (laws_szSheet.f a0_0 a0_1 l0_2 1048576).bind fun t221 => (if t221 < 0 then (some true) else ((laws_szSheet.f a1_0 a1_1 l1_2 t221).bind fun t222 => (if t222 < 0 then (some true) else ((laws_toSheet.f k a0_0 a0_1 l0_2).bind fun bt223 => ((laws_toSheet.f k a1_0 a1_1 l1_2).bind fun bt228 => ((spec_LaySheet.f k bt223.1 bt223.2.1 bt223.2.2 bt228.1 bt228.2.1 bt228.2.2 a2).bind fun bt233 => ((laws_toSheet.f k a0_0 a0_1 l0_2).bind fun bt240 => ((laws_toSheet.f k a1_0 a1_1 l1_2).bind fun bt246 => ((impl_LaySheet.f k bt240.1 bt240.2.1 bt240.2.2 bt246.1 bt246.2.1 bt246.2.2 a2).bind fun bt252 => ((laws_eqSheet.f k bt252.1 bt252.2.1 bt252.2.2.1 bt233.1 bt233.2.1 bt233.2.2.1).bind fun t259 => (if t259 = true then (laws_FnExactLaySheet.j0 k a2 bt233.2.2.2 bt252.2.2.2 (bt252.2.2.2 != bt233.2.2.2) a0_0 a0_1 l0_2 a1_0 a1_1 l1_2 bt233.1 bt233.2.1 bt233.2.2.1 bt240.1 bt240.2.1 bt240.2.2 bt246.1 bt246.2.1 bt246.2.2 bt252.1 bt252.2.1 bt252.2.2.1) else (laws_FnExactLaySheet.j0 k a2 bt233.2.2.2 bt252.2.2.2 true a0_0 a0_1 l0_2 a1_0 a1_1 l1_2 bt233.1 bt233.2.1 bt233.2.2.1 bt240.1 bt240.2.1 bt240.2.2 bt246.1 bt246.2.1 bt246.2.2 bt252.1 bt252.2.1 bt252.2.2.1))))))))))))
theorem laws_FnExactLaySheet.mono_l : ∀ k, (∀ y0 y1 y2 y3 y4 y5 y6 y7 y8 y9 y10 y11 y12 y13 y14 y15 y16 y17 y18 y19 y20 y21, LeO (laws_FnExactLaySheet.j0 k y0 y1 y2 y3 y4 y5 y6 y7 y8 y9 y10 y11 y12 y13 y14 y15 y16 y17 y18 y19 y20 y21) (laws_FnExactLaySheet.j0 (k + 1) y0 y1 y2 y3 y4 y5 y6 y7 y8 y9 y10 y11 y12 y13 y14 y15 y16 y17 y18 y19 y20 y21)) ∧ (∀ y0 y1 y2 y3 y4 y5 y6 y7 y8 y9 y10 y11 y12 y13 y14, LeO (laws_FnExactLaySheet.j1 k y0 y1 y2 y3 y4 y5 y6 y7 y8 y9 y10 y11 y12 y13 y14) (laws_FnExactLaySheet.j1 (k + 1) y0 y1 y2 y3 y4 y5 y6 y7 y8 y9 y10 y11 y12 y13 y14)) ∧ (∀ y0 y1 y2 y3 y4, LeO (laws_FnExactLaySheet.j2 k y0 y1 y2 y3 y4) (laws_FnExactLaySheet.j2 (k + 1) y0 y1 y2 y3 y4))
  | 0 => ⟨fun _ _ _ _ _ _ _ _ _ _ _ _ _ _ _ _ _ _ _ _ _ _ r h => by simp [laws_FnExactLaySheet.j0] at h, fun _ _ _ _ _ _ _ _ _ _ _ _ _ _ _ r h => by simp [laws_FnExactLaySheet.j1] at h, fun _ _ _ _ _ r h => by simp [laws_FnExactLaySheet.j2] at h⟩
  | k + 1 => by
    obtain ⟨ih0, ih1, ih2⟩ := laws_FnExactLaySheet.mono_l k
    refine ⟨?_, ?_, ?_⟩
    · intro y0 y1 y2 y3 y4 y5 y6 y7 y8 y9 y10 y11 y12 y13 y14 y15 y16 y17 y18 y19 y20 y21
      unfold laws_FnExactLaySheet.j0
      repeat' first
      | (with_reducible exact ih0 _ _ _ _ _ _ _ _ _ _ _ _ _ _ _ _ _ _ _ _ _ _)
      | (with_reducible exact ih1 _ _ _ _ _ _ _ _ _ _ _ _ _ _ _)
      | (with_reducible exact ih2 _ _ _ _ _)
      | (with_reducible exact impl_LaySheet.mono _ _ _ _ _ _ _ _)
      | (with_reducible exact laws_eqSheet.mono _ _ _ _ _ _ _)
      | (with_reducible exact laws_heldSheet.mono _ _ _ _ _)
      | (with_reducible exact laws_markSheet.mono _ _ _ _ _)
      | (with_reducible exact laws_toSheet.mono _ _ _ _)
      | (with_reducible exact spec_LaySheet.mono _ _ _ _ _ _ _ _)
      | (with_reducible exact LeO.refl _)
      | (with_reducible exact LeO.none _)
      | (with_reducible refine LeO.ite ?_ ?_)
      | (with_reducible refine LeO.bind ?_ (fun _ => ?_))
      | exact ih0 _ _ _ _ _ _ _ _ _ _ _ _ _ _ _ _ _ _ _ _ _ _
      | exact ih1 _ _ _ _ _ _ _ _ _ _ _ _ _ _ _
      | exact ih2 _ _ _ _ _
      | exact impl_LaySheet.mono _ _ _ _ _ _ _ _
      | exact laws_eqSheet.mono _ _ _ _ _ _ _
      | exact laws_heldSheet.mono _ _ _ _ _
      | exact laws_markSheet.mono _ _ _ _ _
      | exact laws_toSheet.mono _ _ _ _
      | exact spec_LaySheet.mono _ _ _ _ _ _ _ _
      | exact LeO.none _
      | refine LeO.ite ?_ ?_
      | refine LeO.bind ?_ (fun _ => ?_)
    · intro y0 y1 y2 y3 y4 y5 y6 y7 y8 y9 y10 y11 y12 y13 y14
      unfold laws_FnExactLaySheet.j1
      repeat' first
      | (with_reducible exact ih0 _ _ _ _ _ _ _ _ _ _ _ _ _ _ _ _ _ _ _ _ _ _)
      | (with_reducible exact ih1 _ _ _ _ _ _ _ _ _ _ _ _ _ _ _)
      | (with_reducible exact ih2 _ _ _ _ _)
      | (with_reducible exact impl_LaySheet.mono _ _ _ _ _ _ _ _)
      | (with_reducible exact laws_eqSheet.mono _ _ _ _ _ _ _)
      | (with_reducible exact laws_heldSheet.mono _ _ _ _ _)
      | (with_reducible exact laws_markSheet.mono _ _ _ _ _)
      | (with_reducible exact laws_toSheet.mono _ _ _ _)
      | (with_reducible exact spec_LaySheet.mono _ _ _ _ _ _ _ _)
      | (with_reducible exact LeO.refl _)
      | (with_reducible exact LeO.none _)
      | (with_reducible refine LeO.ite ?_ ?_)
      | (with_reducible refine LeO.bind ?_ (fun _ => ?_))
      | exact ih0 _ _ _ _ _ _ _ _ _ _ _ _ _ _ _ _ _ _ _ _ _ _
      | exact ih1 _ _ _ _ _ _ _ _ _ _ _ _ _ _ _
      | exact ih2 _ _ _ _ _
      | exact impl_LaySheet.mono _ _ _ _ _ _ _ _
      | exact laws_eqSheet.mono _ _ _ _ _ _ _
      | exact laws_heldSheet.mono _ _ _ _ _
      | exact laws_markSheet.mono _ _ _ _ _
      | exact laws_toSheet.mono _ _ _ _
      | exact spec_LaySheet.mono _ _ _ _ _ _ _ _
      | exact LeO.none _
      | refine LeO.ite ?_ ?_
      | refine LeO.bind ?_ (fun _ => ?_)
    · intro y0 y1 y2 y3 y4
      unfold laws_FnExactLaySheet.j2
      repeat' first
      | (with_reducible exact ih0 _ _ _ _ _ _ _ _ _ _ _ _ _ _ _ _ _ _ _ _ _ _)
      | (with_reducible exact ih1 _ _ _ _ _ _ _ _ _ _ _ _ _ _ _)
      | (with_reducible exact ih2 _ _ _ _ _)
      | (with_reducible exact impl_LaySheet.mono _ _ _ _ _ _ _ _)
      | (with_reducible exact laws_eqSheet.mono _ _ _ _ _ _ _)
      | (with_reducible exact laws_heldSheet.mono _ _ _ _ _)
      | (with_reducible exact laws_markSheet.mono _ _ _ _ _)
      | (with_reducible exact laws_toSheet.mono _ _ _ _)
      | (with_reducible exact spec_LaySheet.mono _ _ _ _ _ _ _ _)
      | (with_reducible exact LeO.refl _)
      | (with_reducible exact LeO.none _)
      | (with_reducible refine LeO.ite ?_ ?_)
      | (with_reducible refine LeO.bind ?_ (fun _ => ?_))
      | exact ih0 _ _ _ _ _ _ _ _ _ _ _ _ _ _ _ _ _ _ _ _ _ _
      | exact ih1 _ _ _ _ _ _ _ _ _ _ _ _ _ _ _
      | exact ih2 _ _ _ _ _
      | exact impl_LaySheet.mono _ _ _ _ _ _ _ _
      | exact laws_eqSheet.mono _ _ _ _ _ _ _
      | exact laws_heldSheet.mono _ _ _ _ _
      | exact laws_markSheet.mono _ _ _ _ _
      | exact laws_toSheet.mono _ _ _ _
      | exact spec_LaySheet.mono _ _ _ _ _ _ _ _
      | exact LeO.none _
      | refine LeO.ite ?_ ?_
      | refine LeO.bind ?_ (fun _ => ?_)
theorem laws_FnExactLaySheet.mono : ∀ a0 a1 a2 a3 a4 a5 a6 k, LeO (laws_FnExactLaySheet.f k a0 a1 a2 a3 a4 a5 a6) (laws_FnExactLaySheet.f (k + 1) a0 a1 a2 a3 a4 a5 a6) := by
  intro a0 a1 a2 a3 a4 a5 a6 k
  obtain ⟨ih0, ih1, ih2⟩ := laws_FnExactLaySheet.mono_l k
  unfold laws_FnExactLaySheet.f
  repeat' first
      | (with_reducible exact ih0 _ _ _ _ _ _ _ _ _ _ _ _ _ _ _ _ _ _ _ _ _ _)
      | (with_reducible exact ih1 _ _ _ _ _ _ _ _ _ _ _ _ _ _ _)
      | (with_reducible exact ih2 _ _ _ _ _)
      | (with_reducible exact impl_LaySheet.mono _ _ _ _ _ _ _ _)
      | (with_reducible exact laws_eqSheet.mono _ _ _ _ _ _ _)
      | (with_reducible exact laws_heldSheet.mono _ _ _ _ _)
      | (with_reducible exact laws_markSheet.mono _ _ _ _ _)
      | (with_reducible exact laws_toSheet.mono _ _ _ _)
      | (with_reducible exact spec_LaySheet.mono _ _ _ _ _ _ _ _)
      | (with_reducible exact LeO.refl _)
      | (with_reducible exact LeO.none _)
      | (with_reducible refine LeO.ite ?_ ?_)
      | (with_reducible refine LeO.bind ?_ (fun _ => ?_))
      | exact ih0 _ _ _ _ _ _ _ _ _ _ _ _ _ _ _ _ _ _ _ _ _ _
      | exact ih1 _ _ _ _ _ _ _ _ _ _ _ _ _ _ _
      | exact ih2 _ _ _ _ _
      | exact impl_LaySheet.mono _ _ _ _ _ _ _ _
      | exact laws_eqSheet.mono _ _ _ _ _ _ _
      | exact laws_heldSheet.mono _ _ _ _ _
      | exact laws_markSheet.mono _ _ _ _ _
      | exact laws_toSheet.mono _ _ _ _
      | exact spec_LaySheet.mono _ _ _ _ _ _ _ _
      | exact LeO.none _
      | refine LeO.ite ?_ ?_
      | refine LeO.bind ?_ (fun _ => ?_)
def laws_FnExactLaySheet.T8 : Bool × List (List Nat × List Nat) := (true, [([], []), ([0], [0]), ([], []), ([2, 1], [2]), ([], []), ([1, 3, 4, 3], [1, 3, 4]), ([5], [5]), ([6], [6]), ([6], [6]), ([], []), ([9, 7, 5, 0, 1, 2, 3, 4, 5, 6, 7, 9], [7, 9]), ([8, 10, 0, 1, 2, 3, 4, 5, 6, 7, 8, 9, 10], [8])])
def laws_FnExactLaySheet.B8 : List Nat := [0, 1, 0, 7, 0, 31, 63, 127, 127, 0, 767, 2047]
theorem laws_FnExactLaySheet.tab8 : rtab .any (opsOf Try.f8 8) = laws_FnExactLaySheet.T8 := by kernel_rfl
theorem laws_FnExactLaySheet.bits8 : waitsOk laws_FnExactLaySheet.T8.2 laws_FnExactLaySheet.B8 = true := by kernel_rfl
def laws_FnExactLaySheet.T31 : Bool × List (List Nat × List Nat) := (true, [([], []), ([0], [0]), ([], []), ([2, 1], [2]), ([], []), ([1, 3, 4, 3], [1, 3, 4]), ([5], [5]), ([6], [6]), ([6], [6]), ([], []), ([9, 7, 5, 0, 1, 2, 3, 4, 5, 6, 7, 9], [7, 9]), ([8, 10, 0, 1, 2, 3, 4, 5, 6, 7, 8, 9, 10], [8])])
def laws_FnExactLaySheet.B31 : List Nat := [0, 1, 0, 7, 0, 31, 63, 127, 127, 0, 767, 2047]
theorem laws_FnExactLaySheet.tab31 : rtab .any (opsOf Try.f8 31) = laws_FnExactLaySheet.T31 := by kernel_rfl
theorem laws_FnExactLaySheet.bits31 : waitsOk laws_FnExactLaySheet.T31.2 laws_FnExactLaySheet.B31 = true := by kernel_rfl
theorem z6669.bk {g : Nat} {o : Obj} {W V : World} (h : Aside0 (W.heap[g]? = some o)) (k : W.heap[g]? = some o → V.heap[g]? = some o := by intro h_; (with_reducible repeat (first | refine blk_drewN ?_ _ | refine blk_drew ?_ | refine blk_alloc ?_ _)); exact h_) : V.heap[g]? = some o := k h.out
theorem z6669.bb {g : Nat} {o : Obj} {W V w1 : World} (h : Aside0 (W.heap[g]? = some o)) (hb : Below V.heap.size V w1) (k : W.heap[g]? = some o → V.heap[g]? = some o := by intro h_; (with_reducible repeat (first | refine blk_drewN ?_ _ | refine blk_drew ?_ | refine blk_alloc ?_ _)); exact h_) : Aside0 (w1.heap[g]? = some o) := ⟨blk_below (k h.out) hb⟩
theorem z6669.bf {g : Nat} {o : Obj} {W V : World} (h : Aside0 (W.heap[g]? = some o)) (k : W.heap[g]? = some o → V.heap[g]? = some o := by intro h_; (with_reducible repeat (first | refine blk_drewN ?_ _ | refine blk_drew ?_ | refine blk_alloc ?_ _ | refine blk_far ?_ (Aside0.out (by assumption)) _)); exact h_) : V.heap[g]? = some o := k h.out
theorem z6669.rl {T : Type} {d : Kd T} {e : TypeId} {base : Nat} {ok : Nat → Prop} {v : Value} {xs : List T} {W V : World} (h : d.R e W base ok v xs) (k : d.R e W base ok v xs → d.R e V base ok v xs := by intro h_; (with_reducible repeat (first | apply Kd.R_alloc | apply Kd.R_drewN | apply Kd.R_drew)); exact h_) : d.R e V base ok v xs := k h
theorem z6669.rb {T : Type} {d : Kd T} {e : TypeId} {base : Nat} {ok : Nat → Prop} {v : Value} {xs : List T} {W V w1 : World} (h : Aside0 (d.R e W base ok v xs)) (hb : Below V.heap.size V w1) (k : d.R e W base ok v xs → d.R e V base ok v xs := by intro h_; (with_reducible repeat (first | apply Kd.R_alloc | apply Kd.R_drewN | apply Kd.R_drew)); exact h_) : Aside0 (d.R e w1 base ok v xs) := ⟨Kd.R_below (k h.out) hb⟩
theorem z6669.ht {g : Nat} {o : Obj} {W V : World} {b : Nat} (h : Aside0 (W.heap[g]? = some o)) (hg : b = V.heap.size) (k : W.heap[g]? = some o → V.heap[g]? = some o := by intro h_; (with_reducible repeat (first | refine blk_drewN ?_ _ | refine blk_drew ?_ | refine blk_alloc ?_ _)); exact h_) : Aside0 (g ≠ b) := ⟨by rw [hg]; exact Nat.ne_of_lt (blk_lt (k h.out))⟩
theorem z6669.hu {g : Nat} {o : Obj} {W V : World} {b : Nat} (h : Aside0 (W.heap[g]? = some o)) (hg : b = V.heap.size) (k : W.heap[g]? = some o → V.heap[g]? = some o := by intro h_; (with_reducible repeat (first | refine blk_drewN ?_ _ | refine blk_drew ?_ | refine blk_alloc ?_ _)); exact h_) : Aside0 (b ≠ g) := ⟨by rw [hg]; exact Nat.ne_of_gt (blk_lt (k h.out))⟩
theorem z6669.gl {P : Program} {ops : Array Oper} {Q : Exit → Act → World → Prop} {rest : List Oper} {oi : Oper} {a : Act} {w : World} (N : Option Tmp) (hd : oi.dst = N) (hg : oi.guard = none) {f : FuncId} {fn : Func} {av : Array Operand} {ts : Array TypeId} (hf : P.funcs[f]? = some fn) (hname : (fn.name == "runtime.NumGoroutine") = false) (hb : fn.body.isSome = true) (args : Array Value) (hop : oi.op = .call { callee := .value (.func f), args := av, argTypes := ts }) (h : Calls P f args w fun e w' => ∃ v, e = .returned v ∧ wpList P ops Q rest (a.put N v) w') (hargs : av.map a.eval = args := by (try simp only [List.map_toArray, List.map_cons, List.map_nil]); first | done | rfl | (simp only [List.length_drop, List.length_take]; rfl)) : wpList P ops Q (oi :: rest) a w := goesL_ N hd hg hf hname hb args hop hargs h
theorem z6669.gs {P : Program} {ops : Array Oper} {Q : Exit → Act → World → Prop} {oi : Oper} {N : Option Tmp} {a : Act} {w : World} {K : Act → World → Prop} {f : FuncId} {fn : Func} {av : Array Operand} {ts : Array TypeId} (hf : P.funcs[f]? = some fn) (hname : (fn.name == "runtime.NumGoroutine") = false) (hb : fn.body.isSome = true) (args : Array Value) (hw : Region.wanted oi (yielded ops a.tmps) = true) (hN : oi.dst = N) (hop : oi.op = .call { callee := .value (.func f), args := av, argTypes := ts }) (h : Calls P f args w fun e w' => ∃ v, e = .returned v ∧ K (a.put N v) w') (hargs : av.map a.eval = args := by (try simp only [List.map_toArray, List.map_cons, List.map_nil]); first | done | rfl | (simp only [List.length_drop, List.length_take]; rfl)) : if Region.wanted oi (yielded ops a.tmps) = true then Oper.wp P oi a w K Q else K (a.put N undef) w := goes_ hf hname hb args hw hN hop hargs h
theorem z6669.bl {w W V : World} (h : Aside0 (Below w.heap.size w W)) (k : Below w.heap.size w W → Below w.heap.size w V := by intro h_; repeat (first | (with_reducible first | exact h_ | apply below_alloc | apply pw_below_drewN | apply below_drew1 | refine below_set ?_ (Aside0.out (by assumption))) | exact h_)) : Below w.heap.size w V := k h.out
set_option maxHeartbeats 8000000 in
set_option maxRecDepth 100000 in
theorem laws_FnExactLaySheet.calls (k : Nat) (a0_0 : Int) (a0_1 : Int) (A0_2 : Option Addr) (c0_2 : Nat) (l0_2 : List (S109)) (a1_0 : Int) (a1_1 : Int) (A1_2 : Option Addr) (c1_2 : Nat) (l1_2 : List (S109)) (a2 : Int) (r : Bool) (hrt : r = true) (w : World) (hr0_2 : Kd.C k109 w A0_2 l0_2.length l0_2) (hc0_2 : l0_2.length ≤ c0_2) (hr1_2 : Kd.C k109 w A1_2 l1_2.length l1_2) (hc1_2 : l1_2.length ≤ c1_2) (h : laws_FnExactLaySheet.f k a0_0 a0_1 l0_2 a1_0 a1_1 l1_2 a2 = some r) :
    Calls Try.prog 8 #[.agg #[.int .i64 a0_0, .int .i64 a0_1, .slice A0_2 l0_2.length c0_2], .agg #[.int .i64 a1_0, .int .i64 a1_1, .slice A1_2 l1_2.length c1_2], .int .i64 a2] w fun e w' => e = .returned (.bool r) ∧ Below w.heap.size w w' := by
 have hu64 := Try.underlying64
 have hu70 := Try.underlying70
 have HR0_2 := Aside0.mk hr0_2
 have HC0_2 := Aside0.mk hc0_2
 clear hr0_2 hc0_2
 have HR1_2 := Aside0.mk hr1_2
 have HC1_2 := Aside0.mk hc1_2
 clear hr1_2 hc1_2
 have HB := Aside0.mk (Below.refl w.heap.size w)
 have H : ((laws_szSheet.f a0_0 a0_1 l0_2 1048576).bind fun t221 => (if t221 < 0 then (some true) else ((laws_szSheet.f a1_0 a1_1 l1_2 t221).bind fun t222 => (if t222 < 0 then (some true) else ((laws_toSheet.f k a0_0 a0_1 l0_2).bind fun bt223 => ((laws_toSheet.f k a1_0 a1_1 l1_2).bind fun bt228 => ((spec_LaySheet.f k bt223.1 bt223.2.1 bt223.2.2 bt228.1 bt228.2.1 bt228.2.2 a2).bind fun bt233 => ((laws_toSheet.f k a0_0 a0_1 l0_2).bind fun bt240 => ((laws_toSheet.f k a1_0 a1_1 l1_2).bind fun bt246 => ((impl_LaySheet.f k bt240.1 bt240.2.1 bt240.2.2 bt246.1 bt246.2.1 bt246.2.2 a2).bind fun bt252 => ((laws_eqSheet.f k bt252.1 bt252.2.1 bt252.2.2.1 bt233.1 bt233.2.1 bt233.2.2.1).bind fun t259 => (if t259 = true then (laws_FnExactLaySheet.j0 k a2 bt233.2.2.2 bt252.2.2.2 (bt252.2.2.2 != bt233.2.2.2) a0_0 a0_1 l0_2 a1_0 a1_1 l1_2 bt233.1 bt233.2.1 bt233.2.2.1 bt240.1 bt240.2.1 bt240.2.2 bt246.1 bt246.2.1 bt246.2.2 bt252.1 bt252.2.1 bt252.2.2.1) else (laws_FnExactLaySheet.j0 k a2 bt233.2.2.2 bt252.2.2.2 true a0_0 a0_1 l0_2 a1_0 a1_1 l1_2 bt233.1 bt233.2.1 bt233.2.2.1 bt240.1 bt240.2.1 bt240.2.2 bt246.1 bt246.2.1 bt246.2.2 bt252.1 bt252.2.1 bt252.2.2.1))))))))))))) = some r := h
 clear h
 replace H := Option.bind_eq_some_iff.mp H
 obtain ⟨t221, A40, H⟩ := H
 replace H : (if t221 < 0 then (some true) else ((laws_szSheet.f a1_0 a1_1 l1_2 t221).bind fun t222 => (if t222 < 0 then (some true) else ((laws_toSheet.f k a0_0 a0_1 l0_2).bind fun bt223 => ((laws_toSheet.f k a1_0 a1_1 l1_2).bind fun bt228 => ((spec_LaySheet.f k bt223.1 bt223.2.1 bt223.2.2 bt228.1 bt228.2.1 bt228.2.2 a2).bind fun bt233 => ((laws_toSheet.f k a0_0 a0_1 l0_2).bind fun bt240 => ((laws_toSheet.f k a1_0 a1_1 l1_2).bind fun bt246 => ((impl_LaySheet.f k bt240.1 bt240.2.1 bt240.2.2 bt246.1 bt246.2.1 bt246.2.2 a2).bind fun bt252 => ((laws_eqSheet.f k bt252.1 bt252.2.1 bt252.2.2.1 bt233.1 bt233.2.1 bt233.2.2.1).bind fun t259 => (if t259 = true then (laws_FnExactLaySheet.j0 k a2 bt233.2.2.2 bt252.2.2.2 (bt252.2.2.2 != bt233.2.2.2) a0_0 a0_1 l0_2 a1_0 a1_1 l1_2 bt233.1 bt233.2.1 bt233.2.2.1 bt240.1 bt240.2.1 bt240.2.2 bt246.1 bt246.2.1 bt246.2.2 bt252.1 bt252.2.1 bt252.2.2.1) else (laws_FnExactLaySheet.j0 k a2 bt233.2.2.2 bt252.2.2.2 true a0_0 a0_1 l0_2 a1_0 a1_1 l1_2 bt233.1 bt233.2.1 bt233.2.2.1 bt240.1 bt240.2.1 bt240.2.2 bt246.1 bt246.2.1 bt246.2.2 bt252.1 bt252.2.1 bt252.2.2.1)))))))))))) = some r := H
 have A4 := Aside0.mk A40
 clear A40
 by_cases c5 : t221 < 0
 ·rw [if_pos c5] at H
  have c5b0 : decide (t221 < 0) = true := decide_eq_true c5
  clear c5
  obtain rfl := Option.some.inj H
  go_enter Try.func8, Try.ntmps8
  go_wp2_with (first | ((with_reducible refine gate_dst (N := 3) rfl ?_); refine box_event ?hg (N := 3) ?hd (cs := #[.int .i64 a0_0, .int .i64 a0_1, .slice A0_2 l0_2.length c0_2]) (t := 64) ?hr ?_; (case hd => rfl); (case hg => rfl); (case hr => first | (go_simp; done) | (go_simp; rfl)); intro gb219 hg w6 hbox hb; have BK219 := Aside0.mk (hbox); have GW219 := Aside0.mk ((by rw [hg]; exact (below_size (z6669.bl HB)) : w.heap.size ≤ gb219)); have GE219 := Aside0.mk ((by rw [hg]; exact (below_size (z6669.bl HB)) : w.heap.size ≤ gb219)); replace HB := Aside0.mk (below_step (z6669.bl HB) hb); clear hb hbox hg) | ((with_reducible refine gate_dst (N := 4) rfl ?_); refine box_event ?hg (N := 4) ?hd (cs := #[.int .i64 a1_0, .int .i64 a1_1, .slice A1_2 l1_2.length c1_2]) (t := 64) ?hr ?_; (case hd => rfl); (case hg => rfl); (case hr => first | (go_simp; done) | (go_simp; rfl)); intro gb220 hg w7 hbox hb; have BK220 := Aside0.mk (hbox); have GW220 := Aside0.mk ((by rw [hg]; exact (below_size (z6669.bl HB)) : w.heap.size ≤ gb220)); have GE220 := Aside0.mk ((by rw [hg]; exact (below_size (z6669.bl HB)) : w.heap.size ≤ gb220)); replace HB := Aside0.mk (below_step (z6669.bl HB) hb); have NB219_220 := z6669.ht BK219 hg; have NB220_219 := z6669.hu BK219 hg; replace BK219 := z6669.bb BK219 hb; clear hb hbox hg; have hnb8 := NB219_220.out; have hnc8 := NB220_219.out; have hcz9_0 : w7.cell? ⟨gb219, 0, none⟩ = some (.int .i64 a0_0) := (blk_cell BK219.out 0).trans rfl; have hcz9_1 : w7.cell? ⟨gb219, 1, none⟩ = some (.int .i64 a0_1) := (blk_cell BK219.out 1).trans rfl; have hcz9_2 : w7.cell? ⟨gb219, 2, none⟩ = some (.slice A0_2 l0_2.length c0_2) := (blk_cell BK219.out 2).trans rfl; have hfz9_0 := blk_frozen BK219.out 0; have hfz9_1 := blk_frozen BK219.out 1; have hfz9_2 := blk_frozen BK219.out 2) | ((with_reducible refine gate_callee (f := 38) rfl ?_); refine z6669.gl (some 21) rfl rfl Try.func38 (by kernel_rfl) rfl #[.agg #[.int .i64 a0_0, .int .i64 a0_1, .slice A0_2 l0_2.length c0_2], .int .i64 1048576] rfl ?_; (with_reducible refine (laws_szSheet.calls a0_0 a0_1 _ _ l0_2 1048576 t221 _ ?side1 ?side2 A4.out).mono ?_); (case side1 => repeat (first | exact (Kd.C_below HR0_2.out HB.out) | (with_reducible refine Kd.C_alloc ?_ _) | (with_reducible refine Kd.C_drewN ?_ _) | (with_reducible refine Kd.C_drew ?_))); (case side2 => exact HC0_2.out); rintro e w10 ⟨rfl, hb⟩; refine ⟨_, rfl, ?_⟩; replace BK219 := z6669.bb BK219 hb; replace BK220 := z6669.bb BK220 hb; replace HB := Aside0.mk (below_step (z6669.bl HB) hb); (try clear hb); (try clear hb2); (try clear hk); (try clear hi)))
  go_ret
  exact ⟨by first | rfl | (simp [errW_none, errW_some] <;> rfl) | (simp [*, errW_none, errW_some] <;> rfl), z6669.bl HB⟩
 ·rw [if_neg c5] at H
  have c5b0 : decide (t221 < 0) = false := decide_eq_false c5
  clear c5
  replace H := Option.bind_eq_some_iff.mp H
  obtain ⟨t222, A110, H⟩ := H
  replace H : (if t222 < 0 then (some true) else ((laws_toSheet.f k a0_0 a0_1 l0_2).bind fun bt223 => ((laws_toSheet.f k a1_0 a1_1 l1_2).bind fun bt228 => ((spec_LaySheet.f k bt223.1 bt223.2.1 bt223.2.2 bt228.1 bt228.2.1 bt228.2.2 a2).bind fun bt233 => ((laws_toSheet.f k a0_0 a0_1 l0_2).bind fun bt240 => ((laws_toSheet.f k a1_0 a1_1 l1_2).bind fun bt246 => ((impl_LaySheet.f k bt240.1 bt240.2.1 bt240.2.2 bt246.1 bt246.2.1 bt246.2.2 a2).bind fun bt252 => ((laws_eqSheet.f k bt252.1 bt252.2.1 bt252.2.2.1 bt233.1 bt233.2.1 bt233.2.2.1).bind fun t259 => (if t259 = true then (laws_FnExactLaySheet.j0 k a2 bt233.2.2.2 bt252.2.2.2 (bt252.2.2.2 != bt233.2.2.2) a0_0 a0_1 l0_2 a1_0 a1_1 l1_2 bt233.1 bt233.2.1 bt233.2.2.1 bt240.1 bt240.2.1 bt240.2.2 bt246.1 bt246.2.1 bt246.2.2 bt252.1 bt252.2.1 bt252.2.2.1) else (laws_FnExactLaySheet.j0 k a2 bt233.2.2.2 bt252.2.2.2 true a0_0 a0_1 l0_2 a1_0 a1_1 l1_2 bt233.1 bt233.2.1 bt233.2.2.1 bt240.1 bt240.2.1 bt240.2.2 bt246.1 bt246.2.1 bt246.2.2 bt252.1 bt252.2.1 bt252.2.2.1)))))))))) = some r := H
  have A11 := Aside0.mk A110
  clear A110
  by_cases c12 : t222 < 0
  ·rw [if_pos c12] at H
   have c12b0 : decide (t222 < 0) = true := decide_eq_true c12
   clear c12
   obtain rfl := Option.some.inj H
   go_enter Try.func8, Try.ntmps8
   go_wp2_with (first | ((with_reducible refine gate_dst (N := 3) rfl ?_); refine box_event ?hg (N := 3) ?hd (cs := #[.int .i64 a0_0, .int .i64 a0_1, .slice A0_2 l0_2.length c0_2]) (t := 64) ?hr ?_; (case hd => rfl); (case hg => rfl); (case hr => first | (go_simp; done) | (go_simp; rfl)); intro gb219 hg w13 hbox hb; have BK219 := Aside0.mk (hbox); have GW219 := Aside0.mk ((by rw [hg]; exact (below_size (z6669.bl HB)) : w.heap.size ≤ gb219)); have GE219 := Aside0.mk ((by rw [hg]; exact (below_size (z6669.bl HB)) : w.heap.size ≤ gb219)); replace HB := Aside0.mk (below_step (z6669.bl HB) hb); clear hb hbox hg) | ((with_reducible refine gate_dst (N := 4) rfl ?_); refine box_event ?hg (N := 4) ?hd (cs := #[.int .i64 a1_0, .int .i64 a1_1, .slice A1_2 l1_2.length c1_2]) (t := 64) ?hr ?_; (case hd => rfl); (case hg => rfl); (case hr => first | (go_simp; done) | (go_simp; rfl)); intro gb220 hg w14 hbox hb; have BK220 := Aside0.mk (hbox); have GW220 := Aside0.mk ((by rw [hg]; exact (below_size (z6669.bl HB)) : w.heap.size ≤ gb220)); have GE220 := Aside0.mk ((by rw [hg]; exact (below_size (z6669.bl HB)) : w.heap.size ≤ gb220)); replace HB := Aside0.mk (below_step (z6669.bl HB) hb); have NB219_220 := z6669.ht BK219 hg; have NB220_219 := z6669.hu BK219 hg; replace BK219 := z6669.bb BK219 hb; clear hb hbox hg; have hnb15 := NB219_220.out; have hnc15 := NB220_219.out; have hcz16_0 : w14.cell? ⟨gb219, 0, none⟩ = some (.int .i64 a0_0) := (blk_cell BK219.out 0).trans rfl; have hcz16_1 : w14.cell? ⟨gb219, 1, none⟩ = some (.int .i64 a0_1) := (blk_cell BK219.out 1).trans rfl; have hcz16_2 : w14.cell? ⟨gb219, 2, none⟩ = some (.slice A0_2 l0_2.length c0_2) := (blk_cell BK219.out 2).trans rfl; have hfz16_0 := blk_frozen BK219.out 0; have hfz16_1 := blk_frozen BK219.out 1; have hfz16_2 := blk_frozen BK219.out 2) | ((with_reducible refine gate_callee (f := 38) rfl ?_); refine z6669.gl (some 21) rfl rfl Try.func38 (by kernel_rfl) rfl #[.agg #[.int .i64 a0_0, .int .i64 a0_1, .slice A0_2 l0_2.length c0_2], .int .i64 1048576] rfl ?_; (with_reducible refine (laws_szSheet.calls a0_0 a0_1 _ _ l0_2 1048576 t221 _ ?side1 ?side2 A4.out).mono ?_); (case side1 => repeat (first | exact (Kd.C_below HR0_2.out HB.out) | (with_reducible refine Kd.C_alloc ?_ _) | (with_reducible refine Kd.C_drewN ?_ _) | (with_reducible refine Kd.C_drew ?_))); (case side2 => exact HC0_2.out); rintro e w17 ⟨rfl, hb⟩; refine ⟨_, rfl, ?_⟩; replace BK219 := z6669.bb BK219 hb; replace BK220 := z6669.bb BK220 hb; replace HB := Aside0.mk (below_step (z6669.bl HB) hb); (try clear hb); (try clear hb2); (try clear hk); (try clear hi); have hcz18_0 : w17.cell? ⟨gb220, 0, none⟩ = some (.int .i64 a1_0) := (blk_cell BK220.out 0).trans rfl; have hcz18_1 : w17.cell? ⟨gb220, 1, none⟩ = some (.int .i64 a1_1) := (blk_cell BK220.out 1).trans rfl; have hcz18_2 : w17.cell? ⟨gb220, 2, none⟩ = some (.slice A1_2 l1_2.length c1_2) := (blk_cell BK220.out 2).trans rfl; have hfz18_0 := blk_frozen BK220.out 0; have hfz18_1 := blk_frozen BK220.out 1; have hfz18_2 := blk_frozen BK220.out 2) | ((with_reducible refine gate_callee (f := 38) rfl ?_); refine z6669.gl (some 26) rfl rfl Try.func38 (by kernel_rfl) rfl #[.agg #[.int .i64 a1_0, .int .i64 a1_1, .slice A1_2 l1_2.length c1_2], .int .i64 t221] rfl ?_; (with_reducible refine (laws_szSheet.calls a1_0 a1_1 _ _ l1_2 t221 t222 _ ?side1 ?side2 A11.out).mono ?_); (case side1 => repeat (first | exact (Kd.C_below HR1_2.out HB.out) | (with_reducible refine Kd.C_alloc ?_ _) | (with_reducible refine Kd.C_drewN ?_ _) | (with_reducible refine Kd.C_drew ?_))); (case side2 => exact HC1_2.out); rintro e w19 ⟨rfl, hb⟩; refine ⟨_, rfl, ?_⟩; replace BK219 := z6669.bb BK219 hb; replace BK220 := z6669.bb BK220 hb; replace HB := Aside0.mk (below_step (z6669.bl HB) hb); (try clear hb); (try clear hb2); (try clear hk); (try clear hi)))
   go_ret
   exact ⟨by first | rfl | (simp [errW_none, errW_some] <;> rfl) | (simp [*, errW_none, errW_some] <;> rfl), z6669.bl HB⟩
  ·rw [if_neg c12] at H
   have c12b0 : decide (t222 < 0) = false := decide_eq_false c12
   clear c12
   replace H := Option.bind_eq_some_iff.mp H
   obtain ⟨⟨t223, t224, t225⟩, A200, H⟩ := H
   replace H : ((laws_toSheet.f k a1_0 a1_1 l1_2).bind fun bt228 => ((spec_LaySheet.f k t223 t224 t225 bt228.1 bt228.2.1 bt228.2.2 a2).bind fun bt233 => ((laws_toSheet.f k a0_0 a0_1 l0_2).bind fun bt240 => ((laws_toSheet.f k a1_0 a1_1 l1_2).bind fun bt246 => ((impl_LaySheet.f k bt240.1 bt240.2.1 bt240.2.2 bt246.1 bt246.2.1 bt246.2.2 a2).bind fun bt252 => ((laws_eqSheet.f k bt252.1 bt252.2.1 bt252.2.2.1 bt233.1 bt233.2.1 bt233.2.2.1).bind fun t259 => (if t259 = true then (laws_FnExactLaySheet.j0 k a2 bt233.2.2.2 bt252.2.2.2 (bt252.2.2.2 != bt233.2.2.2) a0_0 a0_1 l0_2 a1_0 a1_1 l1_2 bt233.1 bt233.2.1 bt233.2.2.1 bt240.1 bt240.2.1 bt240.2.2 bt246.1 bt246.2.1 bt246.2.2 bt252.1 bt252.2.1 bt252.2.2.1) else (laws_FnExactLaySheet.j0 k a2 bt233.2.2.2 bt252.2.2.2 true a0_0 a0_1 l0_2 a1_0 a1_1 l1_2 bt233.1 bt233.2.1 bt233.2.2.1 bt240.1 bt240.2.1 bt240.2.2 bt246.1 bt246.2.1 bt246.2.2 bt252.1 bt252.2.1 bt252.2.2.1)))))))) = some r := H
   have A20 := Aside0.mk A200
   clear A200
   replace H := Option.bind_eq_some_iff.mp H
   obtain ⟨⟨t228, t229, t230⟩, A210, H⟩ := H
   replace H : ((spec_LaySheet.f k t223 t224 t225 t228 t229 t230 a2).bind fun bt233 => ((laws_toSheet.f k a0_0 a0_1 l0_2).bind fun bt240 => ((laws_toSheet.f k a1_0 a1_1 l1_2).bind fun bt246 => ((impl_LaySheet.f k bt240.1 bt240.2.1 bt240.2.2 bt246.1 bt246.2.1 bt246.2.2 a2).bind fun bt252 => ((laws_eqSheet.f k bt252.1 bt252.2.1 bt252.2.2.1 bt233.1 bt233.2.1 bt233.2.2.1).bind fun t259 => (if t259 = true then (laws_FnExactLaySheet.j0 k a2 bt233.2.2.2 bt252.2.2.2 (bt252.2.2.2 != bt233.2.2.2) a0_0 a0_1 l0_2 a1_0 a1_1 l1_2 bt233.1 bt233.2.1 bt233.2.2.1 bt240.1 bt240.2.1 bt240.2.2 bt246.1 bt246.2.1 bt246.2.2 bt252.1 bt252.2.1 bt252.2.2.1) else (laws_FnExactLaySheet.j0 k a2 bt233.2.2.2 bt252.2.2.2 true a0_0 a0_1 l0_2 a1_0 a1_1 l1_2 bt233.1 bt233.2.1 bt233.2.2.1 bt240.1 bt240.2.1 bt240.2.2 bt246.1 bt246.2.1 bt246.2.2 bt252.1 bt252.2.1 bt252.2.2.1))))))) = some r := H
   have A21 := Aside0.mk A210
   clear A210
   replace H := Option.bind_eq_some_iff.mp H
   obtain ⟨⟨t233, t234, t235, t238⟩, A220, H⟩ := H
   replace H : ((laws_toSheet.f k a0_0 a0_1 l0_2).bind fun bt240 => ((laws_toSheet.f k a1_0 a1_1 l1_2).bind fun bt246 => ((impl_LaySheet.f k bt240.1 bt240.2.1 bt240.2.2 bt246.1 bt246.2.1 bt246.2.2 a2).bind fun bt252 => ((laws_eqSheet.f k bt252.1 bt252.2.1 bt252.2.2.1 t233 t234 t235).bind fun t259 => (if t259 = true then (laws_FnExactLaySheet.j0 k a2 t238 bt252.2.2.2 (bt252.2.2.2 != t238) a0_0 a0_1 l0_2 a1_0 a1_1 l1_2 t233 t234 t235 bt240.1 bt240.2.1 bt240.2.2 bt246.1 bt246.2.1 bt246.2.2 bt252.1 bt252.2.1 bt252.2.2.1) else (laws_FnExactLaySheet.j0 k a2 t238 bt252.2.2.2 true a0_0 a0_1 l0_2 a1_0 a1_1 l1_2 t233 t234 t235 bt240.1 bt240.2.1 bt240.2.2 bt246.1 bt246.2.1 bt246.2.2 bt252.1 bt252.2.1 bt252.2.2.1)))))) = some r := H
   have A22 := Aside0.mk A220
   clear A220
   replace H := Option.bind_eq_some_iff.mp H
   obtain ⟨⟨t240, t241, t242⟩, A230, H⟩ := H
   replace H : ((laws_toSheet.f k a1_0 a1_1 l1_2).bind fun bt246 => ((impl_LaySheet.f k t240 t241 t242 bt246.1 bt246.2.1 bt246.2.2 a2).bind fun bt252 => ((laws_eqSheet.f k bt252.1 bt252.2.1 bt252.2.2.1 t233 t234 t235).bind fun t259 => (if t259 = true then (laws_FnExactLaySheet.j0 k a2 t238 bt252.2.2.2 (bt252.2.2.2 != t238) a0_0 a0_1 l0_2 a1_0 a1_1 l1_2 t233 t234 t235 t240 t241 t242 bt246.1 bt246.2.1 bt246.2.2 bt252.1 bt252.2.1 bt252.2.2.1) else (laws_FnExactLaySheet.j0 k a2 t238 bt252.2.2.2 true a0_0 a0_1 l0_2 a1_0 a1_1 l1_2 t233 t234 t235 t240 t241 t242 bt246.1 bt246.2.1 bt246.2.2 bt252.1 bt252.2.1 bt252.2.2.1))))) = some r := H
   have A23 := Aside0.mk A230
   clear A230
   replace H := Option.bind_eq_some_iff.mp H
   obtain ⟨⟨t246, t247, t248⟩, A240, H⟩ := H
   replace H : ((impl_LaySheet.f k t240 t241 t242 t246 t247 t248 a2).bind fun bt252 => ((laws_eqSheet.f k bt252.1 bt252.2.1 bt252.2.2.1 t233 t234 t235).bind fun t259 => (if t259 = true then (laws_FnExactLaySheet.j0 k a2 t238 bt252.2.2.2 (bt252.2.2.2 != t238) a0_0 a0_1 l0_2 a1_0 a1_1 l1_2 t233 t234 t235 t240 t241 t242 t246 t247 t248 bt252.1 bt252.2.1 bt252.2.2.1) else (laws_FnExactLaySheet.j0 k a2 t238 bt252.2.2.2 true a0_0 a0_1 l0_2 a1_0 a1_1 l1_2 t233 t234 t235 t240 t241 t242 t246 t247 t248 bt252.1 bt252.2.1 bt252.2.2.1)))) = some r := H
   have A24 := Aside0.mk A240
   clear A240
   replace H := Option.bind_eq_some_iff.mp H
   obtain ⟨⟨t252, t253, t254, t257⟩, A250, H⟩ := H
   replace H : ((laws_eqSheet.f k t252 t253 t254 t233 t234 t235).bind fun t259 => (if t259 = true then (laws_FnExactLaySheet.j0 k a2 t238 t257 (t257 != t238) a0_0 a0_1 l0_2 a1_0 a1_1 l1_2 t233 t234 t235 t240 t241 t242 t246 t247 t248 t252 t253 t254) else (laws_FnExactLaySheet.j0 k a2 t238 t257 true a0_0 a0_1 l0_2 a1_0 a1_1 l1_2 t233 t234 t235 t240 t241 t242 t246 t247 t248 t252 t253 t254))) = some r := H
   have A25 := Aside0.mk A250
   clear A250
   have HC26 := Aside0.mk H
   clear H
   go_enter Try.func8, Try.ntmps8
   try go_wp2_with (first | ((with_reducible refine gate_dst (N := 3) rfl ?_); refine box_event ?hg (N := 3) ?hd (cs := #[.int .i64 a0_0, .int .i64 a0_1, .slice A0_2 l0_2.length c0_2]) (t := 64) ?hr ?_; (case hd => rfl); (case hg => rfl); (case hr => first | (go_simp; done) | (go_simp; rfl)); intro gb219 hg w27 hbox hb; have BK219 := Aside0.mk (hbox); have GW219 := Aside0.mk ((by rw [hg]; exact (below_size (z6669.bl HB)) : w.heap.size ≤ gb219)); have GE219 := Aside0.mk ((by rw [hg]; exact (below_size (z6669.bl HB)) : w.heap.size ≤ gb219)); replace HB := Aside0.mk (below_step (z6669.bl HB) hb); clear hb hbox hg) | ((with_reducible refine gate_dst (N := 4) rfl ?_); refine box_event ?hg (N := 4) ?hd (cs := #[.int .i64 a1_0, .int .i64 a1_1, .slice A1_2 l1_2.length c1_2]) (t := 64) ?hr ?_; (case hd => rfl); (case hg => rfl); (case hr => first | (go_simp; done) | (go_simp; rfl)); intro gb220 hg w28 hbox hb; have BK220 := Aside0.mk (hbox); have GW220 := Aside0.mk ((by rw [hg]; exact (below_size (z6669.bl HB)) : w.heap.size ≤ gb220)); have GE220 := Aside0.mk ((by rw [hg]; exact (below_size (z6669.bl HB)) : w.heap.size ≤ gb220)); replace HB := Aside0.mk (below_step (z6669.bl HB) hb); have NB219_220 := z6669.ht BK219 hg; have NB220_219 := z6669.hu BK219 hg; replace BK219 := z6669.bb BK219 hb; clear hb hbox hg; have hnb29 := NB219_220.out; have hnc29 := NB220_219.out; have hcz30_0 : w28.cell? ⟨gb219, 0, none⟩ = some (.int .i64 a0_0) := (blk_cell BK219.out 0).trans rfl; have hcz30_1 : w28.cell? ⟨gb219, 1, none⟩ = some (.int .i64 a0_1) := (blk_cell BK219.out 1).trans rfl; have hcz30_2 : w28.cell? ⟨gb219, 2, none⟩ = some (.slice A0_2 l0_2.length c0_2) := (blk_cell BK219.out 2).trans rfl; have hfz30_0 := blk_frozen BK219.out 0; have hfz30_1 := blk_frozen BK219.out 1; have hfz30_2 := blk_frozen BK219.out 2) | ((with_reducible refine gate_callee (f := 38) rfl ?_); refine z6669.gl (some 21) rfl rfl Try.func38 (by kernel_rfl) rfl #[.agg #[.int .i64 a0_0, .int .i64 a0_1, .slice A0_2 l0_2.length c0_2], .int .i64 1048576] rfl ?_; (with_reducible refine (laws_szSheet.calls a0_0 a0_1 _ _ l0_2 1048576 t221 _ ?side1 ?side2 A4.out).mono ?_); (case side1 => repeat (first | exact (Kd.C_below HR0_2.out HB.out) | (with_reducible refine Kd.C_alloc ?_ _) | (with_reducible refine Kd.C_drewN ?_ _) | (with_reducible refine Kd.C_drew ?_))); (case side2 => exact HC0_2.out); rintro e w31 ⟨rfl, hb⟩; refine ⟨_, rfl, ?_⟩; replace BK219 := z6669.bb BK219 hb; replace BK220 := z6669.bb BK220 hb; replace HB := Aside0.mk (below_step (z6669.bl HB) hb); (try clear hb); (try clear hb2); (try clear hk); (try clear hi); have hcz32_0 : w31.cell? ⟨gb220, 0, none⟩ = some (.int .i64 a1_0) := (blk_cell BK220.out 0).trans rfl; have hcz32_1 : w31.cell? ⟨gb220, 1, none⟩ = some (.int .i64 a1_1) := (blk_cell BK220.out 1).trans rfl; have hcz32_2 : w31.cell? ⟨gb220, 2, none⟩ = some (.slice A1_2 l1_2.length c1_2) := (blk_cell BK220.out 2).trans rfl; have hfz32_0 := blk_frozen BK220.out 0; have hfz32_1 := blk_frozen BK220.out 1; have hfz32_2 := blk_frozen BK220.out 2) | ((with_reducible refine gate_callee (f := 38) rfl ?_); refine z6669.gl (some 26) rfl rfl Try.func38 (by kernel_rfl) rfl #[.agg #[.int .i64 a1_0, .int .i64 a1_1, .slice A1_2 l1_2.length c1_2], .int .i64 t221] rfl ?_; (with_reducible refine (laws_szSheet.calls a1_0 a1_1 _ _ l1_2 t221 t222 _ ?side1 ?side2 A11.out).mono ?_); (case side1 => repeat (first | exact (Kd.C_below HR1_2.out HB.out) | (with_reducible refine Kd.C_alloc ?_ _) | (with_reducible refine Kd.C_drewN ?_ _) | (with_reducible refine Kd.C_drew ?_))); (case side2 => exact HC1_2.out); rintro e w33 ⟨rfl, hb⟩; refine ⟨_, rfl, ?_⟩; replace BK219 := z6669.bb BK219 hb; replace BK220 := z6669.bb BK220 hb; replace HB := Aside0.mk (below_step (z6669.bl HB) hb); (try clear hb); (try clear hb2); (try clear hk); (try clear hi)))
   replace BK219 := Aside0.mk (blk_drew BK219.out)
   replace BK220 := Aside0.mk (blk_drew BK220.out)
   replace HB := Aside0.mk (below_drew1 HB.out)
   refine start_ (n := 12) (S := fun w' => w'.cell? ⟨gb219, 0, none⟩ = some (.int .i64 a0_0) ∧ w'.cell? ⟨gb219, 1, none⟩ = some (.int .i64 a0_1) ∧ w'.cell? ⟨gb219, 2, none⟩ = some (.slice A0_2 l0_2.length c0_2) ∧ w'.cell? ⟨gb220, 0, none⟩ = some (.int .i64 a1_0) ∧ w'.cell? ⟨gb220, 1, none⟩ = some (.int .i64 a1_1) ∧ w'.cell? ⟨gb220, 2, none⟩ = some (.slice A1_2 l1_2.length c1_2)) (ds := []) #[false, false, false, false, false, false, false, false, false, false, false, false] (by kernel_rfl) rfl rfl ⟨(blk_cell BK219.out 0).trans rfl, (blk_cell BK219.out 1).trans rfl, (blk_cell BK219.out 2).trans rfl, (blk_cell BK220.out 0).trans rfl, (blk_cell BK220.out 1).trans rfl, (blk_cell BK220.out 2).trans rfl⟩ (fun hHeld => ?_); refine with_tabW laws_FnExactLaySheet.tab8 laws_FnExactLaySheet.bits8 (fun HT_ HW_ => ?_)
   generalize w33.drew = w34 at BK219 BK220 HB hHeld ⊢
   refine pure_ (i := 4) (N := some 34) (v := ?_) (a' := ?_) #[false, false, false, false, true, false, false, false, false, false, false, false] rfl rfl (any_of HT_.out (by kernel_rfl)) (fun _ _ _ h => h) (Or.inl ⟨by rfl, ?_⟩) ?_ ?_
   rotate_left
   ·intro w'
    go_simp
    with_reducible rfl
   rotate_left
   ·simp only [Act.put, List.setIfInBounds_toArray, List.set_cons_zero, List.set_cons_succ, i64_w, i32_w]
    rfl
   refine take_ (i := 0) (N := some 30) (v := ?_) (a' := ?_) #[true, false, false, false, true, false, false, false, false, false, false, false] rfl rfl (take_ofW HT_.out HW_.out (by kernel_rfl)) (fun _ _ _ h => h) (Or.inl ⟨by rfl, ?_⟩) hHeld ?_ ?_
   rotate_left
   ·rintro w' ⟨s0, s1, s2, s3, s4, s5⟩
    go_simp
    with_reducible rfl
   rotate_left
   ·simp only [Act.put, List.setIfInBounds_toArray, List.set_cons_zero, List.set_cons_succ, i64_w, i32_w]
    rfl
   refine take_ (i := 2) (N := some 32) (v := ?_) (a' := ?_) #[true, false, true, false, true, false, false, false, false, false, false, false] rfl rfl (take_ofW HT_.out HW_.out (by kernel_rfl)) (fun _ _ _ h => h) (Or.inl ⟨by rfl, ?_⟩) hHeld ?_ ?_
   rotate_left
   ·rintro w' ⟨s0, s1, s2, s3, s4, s5⟩
    go_simp
    with_reducible rfl
   rotate_left
   ·simp only [Act.put, List.setIfInBounds_toArray, List.set_cons_zero, List.set_cons_succ, i64_w, i32_w]
    rfl
   refine join_ (σ := Value × Value × Value × Nat) 2 #[true, true, true, true, true, true, true, true, true, true, false, false] (fun s_ => [(31, .agg #[.int .i64 t223, .int .i64 t224, s_.1]), (33, .agg #[.int .i64 t228, .int .i64 t229, s_.2.1]), (35, .tuple #[.agg #[.int .i64 t233, .int .i64 t234, s_.2.2.1], .bool t238]), (8, .pointer (some ⟨s_.2.2.2, 0, none⟩)), (29, .tuple #[.agg #[.int .i64 t233, .int .i64 t234, s_.2.2.1], .bool t238]), (36, .agg #[.int .i64 t233, .int .i64 t234, s_.2.2.1]), (37, .bool t238)]) (fun s_ w' => (w'.cell? ⟨gb219, 0, none⟩ = some (.int .i64 a0_0) ∧ w'.cell? ⟨gb219, 1, none⟩ = some (.int .i64 a0_1) ∧ w'.cell? ⟨gb219, 2, none⟩ = some (.slice A0_2 l0_2.length c0_2) ∧ w'.cell? ⟨gb220, 0, none⟩ = some (.int .i64 a1_0) ∧ w'.cell? ⟨gb220, 1, none⟩ = some (.int .i64 a1_1) ∧ w'.cell? ⟨gb220, 2, none⟩ = some (.slice A1_2 l1_2.length c1_2)) ∧ (Kd.R k54 54 w' w.heap.size (fun k_ => some k_ ≠ (s_.2.1 : Value).ownBlock ∧ some k_ ≠ (s_.2.2.1 : Value).ownBlock) s_.1 t225) ∧ (Kd.R k54 54 w' w.heap.size (fun k_ => some k_ ≠ (s_.1 : Value).ownBlock ∧ some k_ ≠ (s_.2.2.1 : Value).ownBlock) s_.2.1 t230) ∧ (Kd.R k54 54 w' w.heap.size (fun k_ => some k_ ≠ (s_.1 : Value).ownBlock ∧ some k_ ≠ (s_.2.1 : Value).ownBlock) s_.2.2.1 t235) ∧ (w'.heap[gb219]? = some (.cells #[.int .i64 a0_0, .int .i64 a0_1, .slice A0_2 l0_2.length c0_2] 64 (0, 0))) ∧ (w'.heap[gb220]? = some (.cells #[.int .i64 a1_0, .int .i64 a1_1, .slice A1_2 l1_2.length c1_2] 64 (0, 0))) ∧ (w'.heap[s_.2.2.2]? = some (.cells #[.int .i64 0, .int .i64 0, .slice none 0 0] 70 (0, 0))) ∧ (w.heap.size ≤ s_.2.2.2) ∧ (w.heap.size ≤ s_.2.2.2) ∧ (gb219 ≠ s_.2.2.2) ∧ (s_.2.2.2 ≠ gb219) ∧ (gb220 ≠ s_.2.2.2) ∧ (s_.2.2.2 ≠ gb220) ∧ (Below w.heap.size w w')) ?_ ?_
   rotate_left
   ·intro hCont
    refine two_ (i := 1) (j := 9) (Ni := some 31) (Nj := some 8) #[true, true, true, false, true, false, false, false, false, false, false, false] #[true, false, true, false, true, false, false, false, false, true, false, false] rfl rfl rfl rfl (two_of HT_.out (by kernel_rfl)) (by decide) (by decide) (fun K hK => ?_) (fun K hK => ?_)
    ·skip
     refine z6669.gs Try.func40 (by kernel_rfl) rfl #[.agg #[.int .i64 a0_0, .int .i64 a0_1, .slice A0_2 l0_2.length c0_2]] (by rfl) rfl rfl ?_
     with_reducible refine (laws_toSheet.calls k a0_0 a0_1 _ _ l0_2 t223 t224 t225 _ ?side1 ?side2 A20.out).mono ?_
     (case side1 => repeat (first | exact (Kd.C_below HR0_2.out HB.out) | (with_reducible refine Kd.C_alloc ?_ _) | (with_reducible refine Kd.C_drewN ?_ _) | (with_reducible refine Kd.C_drew ?_)))
     (case side2 => exact HC0_2.out)
     rintro e w35 ⟨v226, rfl, ho0, hb⟩
     refine ⟨_, rfl, ?_⟩
     have HO227 := Aside0.mk (Kd.R_lower ho0 (below_size (z6669.bl HB)))
     replace BK219 := z6669.bb BK219 hb
     replace BK220 := z6669.bb BK220 hb
     replace HB := Aside0.mk (below_step (z6669.bl HB) hb)
     (try clear hb)
     (try clear hb2)
     (try clear hk)
     (try clear hi)
     (try clear ho0)
     refine hK.out _ _ ⟨(blk_cell BK219.out 0).trans rfl, (blk_cell BK219.out 1).trans rfl, (blk_cell BK219.out 2).trans rfl, (blk_cell BK220.out 0).trans rfl, (blk_cell BK220.out 1).trans rfl, (blk_cell BK220.out 2).trans rfl⟩ (fun hHeld => ?_)
     clear hK K
     refine norm_ (a' := ?_) ?_ ?_
     rotate_left
     ·show Act.put _ (some 31) _ = _
      simp only [Act.put, List.setIfInBounds_toArray, List.set_cons_zero, List.set_cons_succ, i64_w, i32_w]
      rfl
     refine two_ (i := 3) (j := 9) (Ni := some 33) (Nj := some 8) #[true, true, true, true, true, false, false, false, false, false, false, false] #[true, true, true, false, true, false, false, false, false, true, false, false] rfl rfl rfl rfl (two_of HT_.out (by kernel_rfl)) (by decide) (by decide) (fun K hK => ?_) (fun K hK => ?_)
     ·skip
      refine z6669.gs Try.func40 (by kernel_rfl) rfl #[.agg #[.int .i64 a1_0, .int .i64 a1_1, .slice A1_2 l1_2.length c1_2]] (by rfl) rfl rfl ?_
      with_reducible refine (laws_toSheet.calls k a1_0 a1_1 _ _ l1_2 t228 t229 t230 _ ?side1 ?side2 A21.out).mono ?_
      (case side1 => repeat (first | exact (Kd.C_below HR1_2.out HB.out) | (with_reducible refine Kd.C_alloc ?_ _) | (with_reducible refine Kd.C_drewN ?_ _) | (with_reducible refine Kd.C_drew ?_)))
      (case side2 => exact HC1_2.out)
      rintro e w36 ⟨v231, rfl, ho0, hb⟩
      refine ⟨_, rfl, ?_⟩
      have HO232 := Aside0.mk (Kd.R_lower (Kd.R_new' ho0 (Kd.R_lt (z6669.rl HO227.out))) (below_size (z6669.bl HB)))
      replace HO227 := Aside0.mk (Kd.R_elder' (z6669.rl HO227.out) (Kd.R_base ho0) hb)
      replace BK219 := z6669.bb BK219 hb
      replace BK220 := z6669.bb BK220 hb
      replace HB := Aside0.mk (below_step (z6669.bl HB) hb)
      (try clear hb)
      (try clear hb2)
      (try clear hk)
      (try clear hi)
      (try clear ho0)
      obtain ⟨Ao37, co37, eo37⟩ := Kd.R_slice HO227.out
      (first | subst eo37 | (injection eo37 with f1_ f2_ f3_; have f4_ := f1_.symm; have f5_ := f3_.symm; clear f1_ f2_ f3_; subst f4_; subst f5_))
      obtain ⟨Ao38, co38, eo38⟩ := Kd.R_slice HO232.out
      (first | subst eo38 | (injection eo38 with f1_ f2_ f3_; have f4_ := f1_.symm; have f5_ := f3_.symm; clear f1_ f2_ f3_; subst f4_; subst f5_))
      refine hK.out _ _ ⟨(blk_cell BK219.out 0).trans rfl, (blk_cell BK219.out 1).trans rfl, (blk_cell BK219.out 2).trans rfl, (blk_cell BK220.out 0).trans rfl, (blk_cell BK220.out 1).trans rfl, (blk_cell BK220.out 2).trans rfl⟩ (fun hHeld => ?_)
      clear hK K
      refine norm_ (a' := ?_) ?_ ?_
      rotate_left
      ·show Act.put _ (some 33) _ = _
       simp only [Act.put, List.setIfInBounds_toArray, List.set_cons_zero, List.set_cons_succ, i64_w, i32_w]
       rfl
      refine two_ (i := 5) (j := 9) (Ni := some 35) (Nj := some 8) #[true, true, true, true, true, true, false, false, false, false, false, false] #[true, true, true, true, true, false, false, false, false, true, false, false] rfl rfl rfl rfl (two_of HT_.out (by kernel_rfl)) (by decide) (by decide) (fun K hK => ?_) (fun K hK => ?_)
      ·skip
       refine z6669.gs Try.func47 (by kernel_rfl) rfl #[.agg #[.int .i64 t223, .int .i64 t224, .slice Ao37 t225.length co37], .agg #[.int .i64 t228, .int .i64 t229, .slice Ao38 t230.length co38], .int .i64 a2] (by rfl) rfl rfl ?_
       with_reducible refine (spec_LaySheet.calls k t223 t224 _ _ t225 t228 t229 _ _ t230 a2 t233 t234 t235 t238 _ ?side1 ?side2 ?side3 ?side4 A22.out).mono ?_
       (case side1 => repeat (first | exact (Kd.R_reads' HO227.out).2.2 | (with_reducible refine Kd.C_alloc ?_ _) | (with_reducible refine Kd.C_drewN ?_ _) | (with_reducible refine Kd.C_drew ?_)))
       (case side2 => exact (Kd.R_reads' HO227.out).2.1)
       (case side3 => repeat (first | exact (Kd.R_reads' HO232.out).2.2 | (with_reducible refine Kd.C_alloc ?_ _) | (with_reducible refine Kd.C_drewN ?_ _) | (with_reducible refine Kd.C_drew ?_)))
       (case side4 => exact (Kd.R_reads' HO232.out).2.1)
       rintro e w39 ⟨v236, rfl, ho0, hb⟩
       refine ⟨_, rfl, ?_⟩
       have HO237 := Aside0.mk (Kd.R_lower (Kd.R_new' (Kd.R_new' ho0 (Kd.R_lt (z6669.rl HO227.out))) (Kd.R_lt (z6669.rl HO232.out))) (below_size (z6669.bl HB)))
       replace HO227 := Aside0.mk (Kd.R_elder' (z6669.rl HO227.out) (Kd.R_base ho0) hb)
       replace HO232 := Aside0.mk (Kd.R_elder' (z6669.rl HO232.out) (Kd.R_base ho0) hb)
       replace BK219 := z6669.bb BK219 hb
       replace BK220 := z6669.bb BK220 hb
       replace HB := Aside0.mk (below_step (z6669.bl HB) hb)
       (try clear hb)
       (try clear hb2)
       (try clear hk)
       (try clear hi)
       (try clear ho0)
       refine hK.out _ _ ⟨(blk_cell BK219.out 0).trans rfl, (blk_cell BK219.out 1).trans rfl, (blk_cell BK219.out 2).trans rfl, (blk_cell BK220.out 0).trans rfl, (blk_cell BK220.out 1).trans rfl, (blk_cell BK220.out 2).trans rfl⟩ (fun hHeld => ?_)
       clear hK K
       refine norm_ (a' := ?_) ?_ ?_
       rotate_left
       ·show Act.put _ (some 35) _ = _
        simp only [Act.put, List.setIfInBounds_toArray, List.set_cons_zero, List.set_cons_succ, i64_w, i32_w]
        rfl
       refine pure_ (i := 6) (N := some 29) (v := ?_) (a' := ?_) #[true, true, true, true, true, true, true, false, false, false, false, false] rfl rfl (any_of HT_.out (by kernel_rfl)) (fun _ _ _ h => h) (Or.inl ⟨by rfl, ?_⟩) ?_ ?_
       rotate_left
       ·intro w'
        go_simp
        with_reducible rfl
       rotate_left
       ·simp only [Act.put, List.setIfInBounds_toArray, List.set_cons_zero, List.set_cons_succ, i64_w, i32_w]
        rfl
       refine pure_ (i := 7) (N := some 36) (v := ?_) (a' := ?_) #[true, true, true, true, true, true, true, true, false, false, false, false] rfl rfl (any_of HT_.out (by kernel_rfl)) (fun _ _ _ h => h) (Or.inl ⟨by rfl, ?_⟩) ?_ ?_
       rotate_left
       ·intro w'
        go_simp
        with_reducible rfl
       rotate_left
       ·simp only [Act.put, List.setIfInBounds_toArray, List.set_cons_zero, List.set_cons_succ, i64_w, i32_w]
        rfl
       refine pure_ (i := 8) (N := some 37) (v := ?_) (a' := ?_) #[true, true, true, true, true, true, true, true, true, false, false, false] rfl rfl (any_of HT_.out (by kernel_rfl)) (fun _ _ _ h => h) (Or.inl ⟨by rfl, ?_⟩) ?_ ?_
       rotate_left
       ·intro w'
        go_simp
        with_reducible rfl
       rotate_left
       ·simp only [Act.put, List.setIfInBounds_toArray, List.set_cons_zero, List.set_cons_succ, i64_w, i32_w]
        rfl
       refine one_ (i := 9) (N := some 8) #[true, true, true, true, true, true, true, true, true, true, false, false] rfl rfl (one_of HT_.out (by kernel_rfl)) (by decide) (fun K hK => ?_)
       refine box_step ?hg (N := 8) ?hd (cs := #[.int .i64 0, .int .i64 0, .slice none 0 0]) (t := 70) ?hr ?_; (case hd => rfl); (case hg => rfl); (case hr => first | (go_simp; done) | (go_simp; rfl))
       intro gb239 hg w40 hbox hb
       replace HO227 := z6669.rb HO227 hb
       replace HO232 := z6669.rb HO232 hb
       replace HO237 := z6669.rb HO237 hb
       have BK239 := Aside0.mk (hbox)
       have GW239 := Aside0.mk ((by rw [hg]; exact (below_size (z6669.bl HB)) : w.heap.size ≤ gb239))
       have GE239 := Aside0.mk ((by rw [hg]; exact (below_size (z6669.bl HB)) : w.heap.size ≤ gb239))
       replace HB := Aside0.mk (below_step (z6669.bl HB) hb)
       have NB219_239 := z6669.ht BK219 hg
       have NB239_219 := z6669.hu BK219 hg
       replace BK219 := z6669.bb BK219 hb
       have NB220_239 := z6669.ht BK220 hg
       have NB239_220 := z6669.hu BK220 hg
       replace BK220 := z6669.bb BK220 hb
       clear hb hbox hg
       refine hK.out _ _ ⟨(blk_cell BK219.out 0).trans rfl, (blk_cell BK219.out 1).trans rfl, (blk_cell BK219.out 2).trans rfl, (blk_cell BK220.out 0).trans rfl, (blk_cell BK220.out 1).trans rfl, (blk_cell BK220.out 2).trans rfl⟩ (fun hHeld => ?_)
       clear hK K
       refine norm_ (a' := ?_) ?_ ?_
       rotate_left
       ·show Act.put _ (some 8) _ = _
        simp only [Act.put, List.setIfInBounds_toArray, List.set_cons_zero, List.set_cons_succ, i64_w, i32_w]
        rfl
       exact norm_ (by simp only [putAll, Act.put, List.setIfInBounds_toArray, List.set_cons_zero, List.set_cons_succ]) (hCont (.slice Ao37 t225.length co37, .slice Ao38 t230.length co38, v236, gb239) _ ⟨hHeld, (z6669.rl (Kd.R_mono HO227.out (fun _ hk => ⟨hk.1.2, hk.2⟩))), (z6669.rl (Kd.R_mono HO232.out (fun _ hk => ⟨hk.1.2, hk.2⟩))), (z6669.rl (Kd.R_mono HO237.out (fun _ hk => ⟨hk.1.2, hk.2⟩))), (z6669.bk BK219), (z6669.bk BK220), (z6669.bk BK239), GW239.out, GE239.out, NB219_239.out, NB239_219.out, NB220_239.out, NB239_220.out, (z6669.bl HB)⟩)
      ·skip
       refine box_step ?hg (N := 8) ?hd (cs := #[.int .i64 0, .int .i64 0, .slice none 0 0]) (t := 70) ?hr ?_; (case hd => rfl); (case hg => rfl); (case hr => first | (go_simp; done) | (go_simp; rfl))
       intro gb239 hg w37 hbox hb
       replace HO227 := z6669.rb HO227 hb
       replace HO232 := z6669.rb HO232 hb
       have BK239 := Aside0.mk (hbox)
       have GW239 := Aside0.mk ((by rw [hg]; exact (below_size (z6669.bl HB)) : w.heap.size ≤ gb239))
       have GE239 := Aside0.mk ((by rw [hg]; exact (below_size (z6669.bl HB)) : w.heap.size ≤ gb239))
       replace HB := Aside0.mk (below_step (z6669.bl HB) hb)
       have NB219_239 := z6669.ht BK219 hg
       have NB239_219 := z6669.hu BK219 hg
       replace BK219 := z6669.bb BK219 hb
       have NB220_239 := z6669.ht BK220 hg
       have NB239_220 := z6669.hu BK220 hg
       replace BK220 := z6669.bb BK220 hb
       clear hb hbox hg
       obtain ⟨Ao38, co38, eo38⟩ := Kd.R_slice HO227.out
       (first | subst eo38 | (injection eo38 with f1_ f2_ f3_; have f4_ := f1_.symm; have f5_ := f3_.symm; clear f1_ f2_ f3_; subst f4_; subst f5_))
       obtain ⟨Ao39, co39, eo39⟩ := Kd.R_slice HO232.out
       (first | subst eo39 | (injection eo39 with f1_ f2_ f3_; have f4_ := f1_.symm; have f5_ := f3_.symm; clear f1_ f2_ f3_; subst f4_; subst f5_))
       refine hK.out _ _ ⟨(blk_cell BK219.out 0).trans rfl, (blk_cell BK219.out 1).trans rfl, (blk_cell BK219.out 2).trans rfl, (blk_cell BK220.out 0).trans rfl, (blk_cell BK220.out 1).trans rfl, (blk_cell BK220.out 2).trans rfl⟩ (fun hHeld => ?_)
       clear hK K
       refine norm_ (a' := ?_) ?_ ?_
       rotate_left
       ·show Act.put _ (some 8) _ = _
        simp only [Act.put, List.setIfInBounds_toArray, List.set_cons_zero, List.set_cons_succ, i64_w, i32_w]
        rfl
       refine one_ (i := 5) (N := some 35) #[true, true, true, true, true, true, false, false, false, true, false, false] rfl rfl (one_of HT_.out (by kernel_rfl)) (by decide) (fun K hK => ?_)
       refine z6669.gs Try.func47 (by kernel_rfl) rfl #[.agg #[.int .i64 t223, .int .i64 t224, .slice Ao38 t225.length co38], .agg #[.int .i64 t228, .int .i64 t229, .slice Ao39 t230.length co39], .int .i64 a2] (by rfl) rfl rfl ?_
       with_reducible refine (spec_LaySheet.calls k t223 t224 _ _ t225 t228 t229 _ _ t230 a2 t233 t234 t235 t238 _ ?side1 ?side2 ?side3 ?side4 A22.out).mono ?_
       (case side1 => repeat (first | exact (Kd.R_reads' HO227.out).2.2 | (with_reducible refine Kd.C_alloc ?_ _) | (with_reducible refine Kd.C_drewN ?_ _) | (with_reducible refine Kd.C_drew ?_)))
       (case side2 => exact (Kd.R_reads' HO227.out).2.1)
       (case side3 => repeat (first | exact (Kd.R_reads' HO232.out).2.2 | (with_reducible refine Kd.C_alloc ?_ _) | (with_reducible refine Kd.C_drewN ?_ _) | (with_reducible refine Kd.C_drew ?_)))
       (case side4 => exact (Kd.R_reads' HO232.out).2.1)
       rintro e w40 ⟨v236, rfl, ho0, hb⟩
       refine ⟨_, rfl, ?_⟩
       have HO237 := Aside0.mk (Kd.R_lower (Kd.R_new' (Kd.R_new' ho0 (Kd.R_lt (z6669.rl HO227.out))) (Kd.R_lt (z6669.rl HO232.out))) (below_size (z6669.bl HB)))
       replace HO227 := Aside0.mk (Kd.R_elder' (z6669.rl HO227.out) (Kd.R_base ho0) hb)
       replace HO232 := Aside0.mk (Kd.R_elder' (z6669.rl HO232.out) (Kd.R_base ho0) hb)
       replace BK219 := z6669.bb BK219 hb
       replace BK220 := z6669.bb BK220 hb
       replace BK239 := z6669.bb BK239 hb
       replace HB := Aside0.mk (below_step (z6669.bl HB) hb)
       (try clear hb)
       (try clear hb2)
       (try clear hk)
       (try clear hi)
       (try clear ho0)
       refine hK.out _ _ ⟨(blk_cell BK219.out 0).trans rfl, (blk_cell BK219.out 1).trans rfl, (blk_cell BK219.out 2).trans rfl, (blk_cell BK220.out 0).trans rfl, (blk_cell BK220.out 1).trans rfl, (blk_cell BK220.out 2).trans rfl⟩ (fun hHeld => ?_)
       clear hK K
       refine norm_ (a' := ?_) ?_ ?_
       rotate_left
       ·show Act.put _ (some 35) _ = _
        simp only [Act.put, List.setIfInBounds_toArray, List.set_cons_zero, List.set_cons_succ, i64_w, i32_w]
        rfl
       refine pure_ (i := 6) (N := some 29) (v := ?_) (a' := ?_) #[true, true, true, true, true, true, true, false, false, true, false, false] rfl rfl (any_of HT_.out (by kernel_rfl)) (fun _ _ _ h => h) (Or.inl ⟨by rfl, ?_⟩) ?_ ?_
       rotate_left
       ·intro w'
        go_simp
        with_reducible rfl
       rotate_left
       ·simp only [Act.put, List.setIfInBounds_toArray, List.set_cons_zero, List.set_cons_succ, i64_w, i32_w]
        rfl
       refine pure_ (i := 7) (N := some 36) (v := ?_) (a' := ?_) #[true, true, true, true, true, true, true, true, false, true, false, false] rfl rfl (any_of HT_.out (by kernel_rfl)) (fun _ _ _ h => h) (Or.inl ⟨by rfl, ?_⟩) ?_ ?_
       rotate_left
       ·intro w'
        go_simp
        with_reducible rfl
       rotate_left
       ·simp only [Act.put, List.setIfInBounds_toArray, List.set_cons_zero, List.set_cons_succ, i64_w, i32_w]
        rfl
       refine pure_ (i := 8) (N := some 37) (v := ?_) (a' := ?_) #[true, true, true, true, true, true, true, true, true, true, false, false] rfl rfl (any_of HT_.out (by kernel_rfl)) (fun _ _ _ h => h) (Or.inl ⟨by rfl, ?_⟩) ?_ ?_
       rotate_left
       ·intro w'
        go_simp
        with_reducible rfl
       rotate_left
       ·simp only [Act.put, List.setIfInBounds_toArray, List.set_cons_zero, List.set_cons_succ, i64_w, i32_w]
        rfl
       exact norm_ (by simp only [putAll, Act.put, List.setIfInBounds_toArray, List.set_cons_zero, List.set_cons_succ]) (hCont (.slice Ao38 t225.length co38, .slice Ao39 t230.length co39, v236, gb239) _ ⟨hHeld, (z6669.rl (Kd.R_mono HO227.out (fun _ hk => ⟨hk.1.2, hk.2⟩))), (z6669.rl (Kd.R_mono HO232.out (fun _ hk => ⟨hk.1.2, hk.2⟩))), (z6669.rl (Kd.R_mono HO237.out (fun _ hk => ⟨hk.1.2, hk.2⟩))), (z6669.bk BK219), (z6669.bk BK220), (z6669.bk BK239), GW239.out, GE239.out, NB219_239.out, NB239_219.out, NB220_239.out, NB239_220.out, (z6669.bl HB)⟩)
     ·skip
      refine box_step ?hg (N := 8) ?hd (cs := #[.int .i64 0, .int .i64 0, .slice none 0 0]) (t := 70) ?hr ?_; (case hd => rfl); (case hg => rfl); (case hr => first | (go_simp; done) | (go_simp; rfl))
      intro gb239 hg w36 hbox hb
      replace HO227 := z6669.rb HO227 hb
      have BK239 := Aside0.mk (hbox)
      have GW239 := Aside0.mk ((by rw [hg]; exact (below_size (z6669.bl HB)) : w.heap.size ≤ gb239))
      have GE239 := Aside0.mk ((by rw [hg]; exact (below_size (z6669.bl HB)) : w.heap.size ≤ gb239))
      replace HB := Aside0.mk (below_step (z6669.bl HB) hb)
      have NB219_239 := z6669.ht BK219 hg
      have NB239_219 := z6669.hu BK219 hg
      replace BK219 := z6669.bb BK219 hb
      have NB220_239 := z6669.ht BK220 hg
      have NB239_220 := z6669.hu BK220 hg
      replace BK220 := z6669.bb BK220 hb
      clear hb hbox hg
      refine hK.out _ _ ⟨(blk_cell BK219.out 0).trans rfl, (blk_cell BK219.out 1).trans rfl, (blk_cell BK219.out 2).trans rfl, (blk_cell BK220.out 0).trans rfl, (blk_cell BK220.out 1).trans rfl, (blk_cell BK220.out 2).trans rfl⟩ (fun hHeld => ?_)
      clear hK K
      refine norm_ (a' := ?_) ?_ ?_
      rotate_left
      ·show Act.put _ (some 8) _ = _
       simp only [Act.put, List.setIfInBounds_toArray, List.set_cons_zero, List.set_cons_succ, i64_w, i32_w]
       rfl
      refine one_ (i := 3) (N := some 33) #[true, true, true, true, true, false, false, false, false, true, false, false] rfl rfl (one_of HT_.out (by kernel_rfl)) (by decide) (fun K hK => ?_)
      refine z6669.gs Try.func40 (by kernel_rfl) rfl #[.agg #[.int .i64 a1_0, .int .i64 a1_1, .slice A1_2 l1_2.length c1_2]] (by rfl) rfl rfl ?_
      with_reducible refine (laws_toSheet.calls k a1_0 a1_1 _ _ l1_2 t228 t229 t230 _ ?side1 ?side2 A21.out).mono ?_
      (case side1 => repeat (first | exact (Kd.C_below HR1_2.out HB.out) | (with_reducible refine Kd.C_alloc ?_ _) | (with_reducible refine Kd.C_drewN ?_ _) | (with_reducible refine Kd.C_drew ?_)))
      (case side2 => exact HC1_2.out)
      rintro e w37 ⟨v231, rfl, ho0, hb⟩
      refine ⟨_, rfl, ?_⟩
      have HO232 := Aside0.mk (Kd.R_lower (Kd.R_new' ho0 (Kd.R_lt (z6669.rl HO227.out))) (below_size (z6669.bl HB)))
      replace HO227 := Aside0.mk (Kd.R_elder' (z6669.rl HO227.out) (Kd.R_base ho0) hb)
      replace BK219 := z6669.bb BK219 hb
      replace BK220 := z6669.bb BK220 hb
      replace BK239 := z6669.bb BK239 hb
      replace HB := Aside0.mk (below_step (z6669.bl HB) hb)
      (try clear hb)
      (try clear hb2)
      (try clear hk)
      (try clear hi)
      (try clear ho0)
      obtain ⟨Ao38, co38, eo38⟩ := Kd.R_slice HO227.out
      (first | subst eo38 | (injection eo38 with f1_ f2_ f3_; have f4_ := f1_.symm; have f5_ := f3_.symm; clear f1_ f2_ f3_; subst f4_; subst f5_))
      obtain ⟨Ao39, co39, eo39⟩ := Kd.R_slice HO232.out
      (first | subst eo39 | (injection eo39 with f1_ f2_ f3_; have f4_ := f1_.symm; have f5_ := f3_.symm; clear f1_ f2_ f3_; subst f4_; subst f5_))
      refine hK.out _ _ ⟨(blk_cell BK219.out 0).trans rfl, (blk_cell BK219.out 1).trans rfl, (blk_cell BK219.out 2).trans rfl, (blk_cell BK220.out 0).trans rfl, (blk_cell BK220.out 1).trans rfl, (blk_cell BK220.out 2).trans rfl⟩ (fun hHeld => ?_)
      clear hK K
      refine norm_ (a' := ?_) ?_ ?_
      rotate_left
      ·show Act.put _ (some 33) _ = _
       simp only [Act.put, List.setIfInBounds_toArray, List.set_cons_zero, List.set_cons_succ, i64_w, i32_w]
       rfl
      refine one_ (i := 5) (N := some 35) #[true, true, true, true, true, true, false, false, false, true, false, false] rfl rfl (one_of HT_.out (by kernel_rfl)) (by decide) (fun K hK => ?_)
      refine z6669.gs Try.func47 (by kernel_rfl) rfl #[.agg #[.int .i64 t223, .int .i64 t224, .slice Ao38 t225.length co38], .agg #[.int .i64 t228, .int .i64 t229, .slice Ao39 t230.length co39], .int .i64 a2] (by rfl) rfl rfl ?_
      with_reducible refine (spec_LaySheet.calls k t223 t224 _ _ t225 t228 t229 _ _ t230 a2 t233 t234 t235 t238 _ ?side1 ?side2 ?side3 ?side4 A22.out).mono ?_
      (case side1 => repeat (first | exact (Kd.R_reads' HO227.out).2.2 | (with_reducible refine Kd.C_alloc ?_ _) | (with_reducible refine Kd.C_drewN ?_ _) | (with_reducible refine Kd.C_drew ?_)))
      (case side2 => exact (Kd.R_reads' HO227.out).2.1)
      (case side3 => repeat (first | exact (Kd.R_reads' HO232.out).2.2 | (with_reducible refine Kd.C_alloc ?_ _) | (with_reducible refine Kd.C_drewN ?_ _) | (with_reducible refine Kd.C_drew ?_)))
      (case side4 => exact (Kd.R_reads' HO232.out).2.1)
      rintro e w40 ⟨v236, rfl, ho0, hb⟩
      refine ⟨_, rfl, ?_⟩
      have HO237 := Aside0.mk (Kd.R_lower (Kd.R_new' (Kd.R_new' ho0 (Kd.R_lt (z6669.rl HO227.out))) (Kd.R_lt (z6669.rl HO232.out))) (below_size (z6669.bl HB)))
      replace HO227 := Aside0.mk (Kd.R_elder' (z6669.rl HO227.out) (Kd.R_base ho0) hb)
      replace HO232 := Aside0.mk (Kd.R_elder' (z6669.rl HO232.out) (Kd.R_base ho0) hb)
      replace BK219 := z6669.bb BK219 hb
      replace BK220 := z6669.bb BK220 hb
      replace BK239 := z6669.bb BK239 hb
      replace HB := Aside0.mk (below_step (z6669.bl HB) hb)
      (try clear hb)
      (try clear hb2)
      (try clear hk)
      (try clear hi)
      (try clear ho0)
      refine hK.out _ _ ⟨(blk_cell BK219.out 0).trans rfl, (blk_cell BK219.out 1).trans rfl, (blk_cell BK219.out 2).trans rfl, (blk_cell BK220.out 0).trans rfl, (blk_cell BK220.out 1).trans rfl, (blk_cell BK220.out 2).trans rfl⟩ (fun hHeld => ?_)
      clear hK K
      refine norm_ (a' := ?_) ?_ ?_
      rotate_left
      ·show Act.put _ (some 35) _ = _
       simp only [Act.put, List.setIfInBounds_toArray, List.set_cons_zero, List.set_cons_succ, i64_w, i32_w]
       rfl
      refine pure_ (i := 6) (N := some 29) (v := ?_) (a' := ?_) #[true, true, true, true, true, true, true, false, false, true, false, false] rfl rfl (any_of HT_.out (by kernel_rfl)) (fun _ _ _ h => h) (Or.inl ⟨by rfl, ?_⟩) ?_ ?_
      rotate_left
      ·intro w'
       go_simp
       with_reducible rfl
      rotate_left
      ·simp only [Act.put, List.setIfInBounds_toArray, List.set_cons_zero, List.set_cons_succ, i64_w, i32_w]
       rfl
      refine pure_ (i := 7) (N := some 36) (v := ?_) (a' := ?_) #[true, true, true, true, true, true, true, true, false, true, false, false] rfl rfl (any_of HT_.out (by kernel_rfl)) (fun _ _ _ h => h) (Or.inl ⟨by rfl, ?_⟩) ?_ ?_
      rotate_left
      ·intro w'
       go_simp
       with_reducible rfl
      rotate_left
      ·simp only [Act.put, List.setIfInBounds_toArray, List.set_cons_zero, List.set_cons_succ, i64_w, i32_w]
       rfl
      refine pure_ (i := 8) (N := some 37) (v := ?_) (a' := ?_) #[true, true, true, true, true, true, true, true, true, true, false, false] rfl rfl (any_of HT_.out (by kernel_rfl)) (fun _ _ _ h => h) (Or.inl ⟨by rfl, ?_⟩) ?_ ?_
      rotate_left
      ·intro w'
       go_simp
       with_reducible rfl
      rotate_left
      ·simp only [Act.put, List.setIfInBounds_toArray, List.set_cons_zero, List.set_cons_succ, i64_w, i32_w]
       rfl
      exact norm_ (by simp only [putAll, Act.put, List.setIfInBounds_toArray, List.set_cons_zero, List.set_cons_succ]) (hCont (.slice Ao38 t225.length co38, .slice Ao39 t230.length co39, v236, gb239) _ ⟨hHeld, (z6669.rl (Kd.R_mono HO227.out (fun _ hk => ⟨hk.1.2, hk.2⟩))), (z6669.rl (Kd.R_mono HO232.out (fun _ hk => ⟨hk.1.2, hk.2⟩))), (z6669.rl (Kd.R_mono HO237.out (fun _ hk => ⟨hk.1.2, hk.2⟩))), (z6669.bk BK219), (z6669.bk BK220), (z6669.bk BK239), GW239.out, GE239.out, NB219_239.out, NB239_219.out, NB220_239.out, NB239_220.out, (z6669.bl HB)⟩)
    ·skip
     refine box_step ?hg (N := 8) ?hd (cs := #[.int .i64 0, .int .i64 0, .slice none 0 0]) (t := 70) ?hr ?_; (case hd => rfl); (case hg => rfl); (case hr => first | (go_simp; done) | (go_simp; rfl))
     intro gb239 hg w35 hbox hb
     have BK239 := Aside0.mk (hbox)
     have GW239 := Aside0.mk ((by rw [hg]; exact (below_size (z6669.bl HB)) : w.heap.size ≤ gb239))
     have GE239 := Aside0.mk ((by rw [hg]; exact (below_size (z6669.bl HB)) : w.heap.size ≤ gb239))
     replace HB := Aside0.mk (below_step (z6669.bl HB) hb)
     have NB219_239 := z6669.ht BK219 hg
     have NB239_219 := z6669.hu BK219 hg
     replace BK219 := z6669.bb BK219 hb
     have NB220_239 := z6669.ht BK220 hg
     have NB239_220 := z6669.hu BK220 hg
     replace BK220 := z6669.bb BK220 hb
     clear hb hbox hg
     refine hK.out _ _ ⟨(blk_cell BK219.out 0).trans rfl, (blk_cell BK219.out 1).trans rfl, (blk_cell BK219.out 2).trans rfl, (blk_cell BK220.out 0).trans rfl, (blk_cell BK220.out 1).trans rfl, (blk_cell BK220.out 2).trans rfl⟩ (fun hHeld => ?_)
     clear hK K
     refine norm_ (a' := ?_) ?_ ?_
     rotate_left
     ·show Act.put _ (some 8) _ = _
      simp only [Act.put, List.setIfInBounds_toArray, List.set_cons_zero, List.set_cons_succ, i64_w, i32_w]
      rfl
     refine one_ (i := 1) (N := some 31) #[true, true, true, false, true, false, false, false, false, true, false, false] rfl rfl (one_of HT_.out (by kernel_rfl)) (by decide) (fun K hK => ?_)
     refine z6669.gs Try.func40 (by kernel_rfl) rfl #[.agg #[.int .i64 a0_0, .int .i64 a0_1, .slice A0_2 l0_2.length c0_2]] (by rfl) rfl rfl ?_
     with_reducible refine (laws_toSheet.calls k a0_0 a0_1 _ _ l0_2 t223 t224 t225 _ ?side1 ?side2 A20.out).mono ?_
     (case side1 => repeat (first | exact (Kd.C_below HR0_2.out HB.out) | (with_reducible refine Kd.C_alloc ?_ _) | (with_reducible refine Kd.C_drewN ?_ _) | (with_reducible refine Kd.C_drew ?_)))
     (case side2 => exact HC0_2.out)
     rintro e w36 ⟨v226, rfl, ho0, hb⟩
     refine ⟨_, rfl, ?_⟩
     have HO227 := Aside0.mk (Kd.R_lower ho0 (below_size (z6669.bl HB)))
     replace BK219 := z6669.bb BK219 hb
     replace BK220 := z6669.bb BK220 hb
     replace BK239 := z6669.bb BK239 hb
     replace HB := Aside0.mk (below_step (z6669.bl HB) hb)
     (try clear hb)
     (try clear hb2)
     (try clear hk)
     (try clear hi)
     (try clear ho0)
     refine hK.out _ _ ⟨(blk_cell BK219.out 0).trans rfl, (blk_cell BK219.out 1).trans rfl, (blk_cell BK219.out 2).trans rfl, (blk_cell BK220.out 0).trans rfl, (blk_cell BK220.out 1).trans rfl, (blk_cell BK220.out 2).trans rfl⟩ (fun hHeld => ?_)
     clear hK K
     refine norm_ (a' := ?_) ?_ ?_
     rotate_left
     ·show Act.put _ (some 31) _ = _
      simp only [Act.put, List.setIfInBounds_toArray, List.set_cons_zero, List.set_cons_succ, i64_w, i32_w]
      rfl
     refine one_ (i := 3) (N := some 33) #[true, true, true, true, true, false, false, false, false, true, false, false] rfl rfl (one_of HT_.out (by kernel_rfl)) (by decide) (fun K hK => ?_)
     refine z6669.gs Try.func40 (by kernel_rfl) rfl #[.agg #[.int .i64 a1_0, .int .i64 a1_1, .slice A1_2 l1_2.length c1_2]] (by rfl) rfl rfl ?_
     with_reducible refine (laws_toSheet.calls k a1_0 a1_1 _ _ l1_2 t228 t229 t230 _ ?side1 ?side2 A21.out).mono ?_
     (case side1 => repeat (first | exact (Kd.C_below HR1_2.out HB.out) | (with_reducible refine Kd.C_alloc ?_ _) | (with_reducible refine Kd.C_drewN ?_ _) | (with_reducible refine Kd.C_drew ?_)))
     (case side2 => exact HC1_2.out)
     rintro e w37 ⟨v231, rfl, ho0, hb⟩
     refine ⟨_, rfl, ?_⟩
     have HO232 := Aside0.mk (Kd.R_lower (Kd.R_new' ho0 (Kd.R_lt (z6669.rl HO227.out))) (below_size (z6669.bl HB)))
     replace HO227 := Aside0.mk (Kd.R_elder' (z6669.rl HO227.out) (Kd.R_base ho0) hb)
     replace BK219 := z6669.bb BK219 hb
     replace BK220 := z6669.bb BK220 hb
     replace BK239 := z6669.bb BK239 hb
     replace HB := Aside0.mk (below_step (z6669.bl HB) hb)
     (try clear hb)
     (try clear hb2)
     (try clear hk)
     (try clear hi)
     (try clear ho0)
     obtain ⟨Ao38, co38, eo38⟩ := Kd.R_slice HO227.out
     (first | subst eo38 | (injection eo38 with f1_ f2_ f3_; have f4_ := f1_.symm; have f5_ := f3_.symm; clear f1_ f2_ f3_; subst f4_; subst f5_))
     obtain ⟨Ao39, co39, eo39⟩ := Kd.R_slice HO232.out
     (first | subst eo39 | (injection eo39 with f1_ f2_ f3_; have f4_ := f1_.symm; have f5_ := f3_.symm; clear f1_ f2_ f3_; subst f4_; subst f5_))
     refine hK.out _ _ ⟨(blk_cell BK219.out 0).trans rfl, (blk_cell BK219.out 1).trans rfl, (blk_cell BK219.out 2).trans rfl, (blk_cell BK220.out 0).trans rfl, (blk_cell BK220.out 1).trans rfl, (blk_cell BK220.out 2).trans rfl⟩ (fun hHeld => ?_)
     clear hK K
     refine norm_ (a' := ?_) ?_ ?_
     rotate_left
     ·show Act.put _ (some 33) _ = _
      simp only [Act.put, List.setIfInBounds_toArray, List.set_cons_zero, List.set_cons_succ, i64_w, i32_w]
      rfl
     refine one_ (i := 5) (N := some 35) #[true, true, true, true, true, true, false, false, false, true, false, false] rfl rfl (one_of HT_.out (by kernel_rfl)) (by decide) (fun K hK => ?_)
     refine z6669.gs Try.func47 (by kernel_rfl) rfl #[.agg #[.int .i64 t223, .int .i64 t224, .slice Ao38 t225.length co38], .agg #[.int .i64 t228, .int .i64 t229, .slice Ao39 t230.length co39], .int .i64 a2] (by rfl) rfl rfl ?_
     with_reducible refine (spec_LaySheet.calls k t223 t224 _ _ t225 t228 t229 _ _ t230 a2 t233 t234 t235 t238 _ ?side1 ?side2 ?side3 ?side4 A22.out).mono ?_
     (case side1 => repeat (first | exact (Kd.R_reads' HO227.out).2.2 | (with_reducible refine Kd.C_alloc ?_ _) | (with_reducible refine Kd.C_drewN ?_ _) | (with_reducible refine Kd.C_drew ?_)))
     (case side2 => exact (Kd.R_reads' HO227.out).2.1)
     (case side3 => repeat (first | exact (Kd.R_reads' HO232.out).2.2 | (with_reducible refine Kd.C_alloc ?_ _) | (with_reducible refine Kd.C_drewN ?_ _) | (with_reducible refine Kd.C_drew ?_)))
     (case side4 => exact (Kd.R_reads' HO232.out).2.1)
     rintro e w40 ⟨v236, rfl, ho0, hb⟩
     refine ⟨_, rfl, ?_⟩
     have HO237 := Aside0.mk (Kd.R_lower (Kd.R_new' (Kd.R_new' ho0 (Kd.R_lt (z6669.rl HO227.out))) (Kd.R_lt (z6669.rl HO232.out))) (below_size (z6669.bl HB)))
     replace HO227 := Aside0.mk (Kd.R_elder' (z6669.rl HO227.out) (Kd.R_base ho0) hb)
     replace HO232 := Aside0.mk (Kd.R_elder' (z6669.rl HO232.out) (Kd.R_base ho0) hb)
     replace BK219 := z6669.bb BK219 hb
     replace BK220 := z6669.bb BK220 hb
     replace BK239 := z6669.bb BK239 hb
     replace HB := Aside0.mk (below_step (z6669.bl HB) hb)
     (try clear hb)
     (try clear hb2)
     (try clear hk)
     (try clear hi)
     (try clear ho0)
     refine hK.out _ _ ⟨(blk_cell BK219.out 0).trans rfl, (blk_cell BK219.out 1).trans rfl, (blk_cell BK219.out 2).trans rfl, (blk_cell BK220.out 0).trans rfl, (blk_cell BK220.out 1).trans rfl, (blk_cell BK220.out 2).trans rfl⟩ (fun hHeld => ?_)
     clear hK K
     refine norm_ (a' := ?_) ?_ ?_
     rotate_left
     ·show Act.put _ (some 35) _ = _
      simp only [Act.put, List.setIfInBounds_toArray, List.set_cons_zero, List.set_cons_succ, i64_w, i32_w]
      rfl
     refine pure_ (i := 6) (N := some 29) (v := ?_) (a' := ?_) #[true, true, true, true, true, true, true, false, false, true, false, false] rfl rfl (any_of HT_.out (by kernel_rfl)) (fun _ _ _ h => h) (Or.inl ⟨by rfl, ?_⟩) ?_ ?_
     rotate_left
     ·intro w'
      go_simp
      with_reducible rfl
     rotate_left
     ·simp only [Act.put, List.setIfInBounds_toArray, List.set_cons_zero, List.set_cons_succ, i64_w, i32_w]
      rfl
     refine pure_ (i := 7) (N := some 36) (v := ?_) (a' := ?_) #[true, true, true, true, true, true, true, true, false, true, false, false] rfl rfl (any_of HT_.out (by kernel_rfl)) (fun _ _ _ h => h) (Or.inl ⟨by rfl, ?_⟩) ?_ ?_
     rotate_left
     ·intro w'
      go_simp
      with_reducible rfl
     rotate_left
     ·simp only [Act.put, List.setIfInBounds_toArray, List.set_cons_zero, List.set_cons_succ, i64_w, i32_w]
      rfl
     refine pure_ (i := 8) (N := some 37) (v := ?_) (a' := ?_) #[true, true, true, true, true, true, true, true, true, true, false, false] rfl rfl (any_of HT_.out (by kernel_rfl)) (fun _ _ _ h => h) (Or.inl ⟨by rfl, ?_⟩) ?_ ?_
     rotate_left
     ·intro w'
      go_simp
      with_reducible rfl
     rotate_left
     ·simp only [Act.put, List.setIfInBounds_toArray, List.set_cons_zero, List.set_cons_succ, i64_w, i32_w]
      rfl
     exact norm_ (by simp only [putAll, Act.put, List.setIfInBounds_toArray, List.set_cons_zero, List.set_cons_succ]) (hCont (.slice Ao38 t225.length co38, .slice Ao39 t230.length co39, v236, gb239) _ ⟨hHeld, (z6669.rl (Kd.R_mono HO227.out (fun _ hk => ⟨hk.1.2, hk.2⟩))), (z6669.rl (Kd.R_mono HO232.out (fun _ hk => ⟨hk.1.2, hk.2⟩))), (z6669.rl (Kd.R_mono HO237.out (fun _ hk => ⟨hk.1.2, hk.2⟩))), (z6669.bk BK219), (z6669.bk BK220), (z6669.bk BK239), GW239.out, GE239.out, NB219_239.out, NB239_219.out, NB220_239.out, NB239_220.out, (z6669.bl HB)⟩)
   rintro ⟨v226, v231, v236, gb239⟩ w41 ⟨hS_, h0_, h1_, h2_, h3_, h4_, h5_, h6_, h7_, h8_, h9_, h10_, h11_, h12_⟩
   have n0_ : Aside0 (Kd.R k54 54 w41 w.heap.size (fun k_ => some k_ ≠ (v231 : Value).ownBlock ∧ some k_ ≠ (v236 : Value).ownBlock) v226 t225) := ⟨h0_⟩
   have n1_ : Aside0 (Kd.R k54 54 w41 w.heap.size (fun k_ => some k_ ≠ (v226 : Value).ownBlock ∧ some k_ ≠ (v236 : Value).ownBlock) v231 t230) := ⟨h1_⟩
   have n2_ : Aside0 (Kd.R k54 54 w41 w.heap.size (fun k_ => some k_ ≠ (v226 : Value).ownBlock ∧ some k_ ≠ (v231 : Value).ownBlock) v236 t235) := ⟨h2_⟩
   have n3_ : Aside0 (w41.heap[gb219]? = some (.cells #[.int .i64 a0_0, .int .i64 a0_1, .slice A0_2 l0_2.length c0_2] 64 (0, 0))) := ⟨h3_⟩
   have n4_ : Aside0 (w41.heap[gb220]? = some (.cells #[.int .i64 a1_0, .int .i64 a1_1, .slice A1_2 l1_2.length c1_2] 64 (0, 0))) := ⟨h4_⟩
   have n5_ : Aside0 (w41.heap[gb239]? = some (.cells #[.int .i64 0, .int .i64 0, .slice none 0 0] 70 (0, 0))) := ⟨h5_⟩
   have n6_ : Aside0 (w.heap.size ≤ gb239) := ⟨h6_⟩
   have n7_ : Aside0 (w.heap.size ≤ gb239) := ⟨h7_⟩
   have n8_ : Aside0 (gb219 ≠ gb239) := ⟨h8_⟩
   have n9_ : Aside0 (gb239 ≠ gb219) := ⟨h9_⟩
   have n10_ : Aside0 (gb220 ≠ gb239) := ⟨h10_⟩
   have n11_ : Aside0 (gb239 ≠ gb220) := ⟨h11_⟩
   have n12_ : Aside0 (Below w.heap.size w w41) := ⟨h12_⟩
   clear BK219
   clear BK220
   clear HB
   clear h0_ h1_ h2_ h3_ h4_ h5_ h6_ h7_ h8_ h9_ h10_ h11_ h12_
   have HO227 := n0_
   have HO232 := n1_
   have HO237 := n2_
   have BK219 := n3_
   have BK220 := n4_
   have BK239 := n5_
   have GW239 := n6_
   have GE239 := n7_
   have NB219_239 := n8_
   have NB239_219 := n9_
   have NB220_239 := n10_
   have NB239_220 := n11_
   have HB := n12_
   clear n0_ n1_ n2_ n3_ n4_ n5_ n6_ n7_ n8_ n9_ n10_ n11_ n12_
   have hHeld : w41.cell? ⟨gb219, 0, none⟩ = some (.int .i64 a0_0) ∧ w41.cell? ⟨gb219, 1, none⟩ = some (.int .i64 a0_1) ∧ w41.cell? ⟨gb219, 2, none⟩ = some (.slice A0_2 l0_2.length c0_2) ∧ w41.cell? ⟨gb220, 0, none⟩ = some (.int .i64 a1_0) ∧ w41.cell? ⟨gb220, 1, none⟩ = some (.int .i64 a1_1) ∧ w41.cell? ⟨gb220, 2, none⟩ = some (.slice A1_2 l1_2.length c1_2) := hS_
   obtain ⟨Ao44, co44, eo44⟩ := Kd.R_slice HO237.out
   (first | subst eo44 | (injection eo44 with f1_ f2_ f3_; have f4_ := f1_.symm; have f5_ := f3_.symm; clear f1_ f2_ f3_; subst f4_; subst f5_))
   refine norm_ (a' := ?_) ?_ ?_
   rotate_left
   ·simp only [putAll, Act.put, List.setIfInBounds_toArray, List.set_cons_zero, List.set_cons_succ]
    rfl
   refine one_ (i := 10) (N := none) #[true, true, true, true, true, true, true, true, true, true, true, false] rfl rfl (one_of HT_.out (by kernel_rfl)) (by decide) (fun K hK => ?_)
   have hs42 : w41.cell? ⟨gb239, 0, none⟩ = some (.int .i64 0) := (blk_cell BK239.out 0).trans rfl
   have hfs42 := blk_frozen BK239.out 0
   have hns42_0 := NB219_239.out
   have hns42_1 := NB220_239.out
   have hms42_0 := NB239_219.out
   have hms42_1 := NB239_220.out
   have hs43 : w41.cell? ⟨gb239, 1, none⟩ = some (.int .i64 0) := (blk_cell BK239.out 1).trans rfl
   have hfs43 := blk_frozen BK239.out 1
   have hns43_0 := NB219_239.out
   have hns43_1 := NB220_239.out
   have hms43_0 := NB239_219.out
   have hms43_1 := NB239_220.out
   have hs45 : w41.cell? ⟨gb239, 2, none⟩ = some (.slice none 0 0) := (blk_cell BK239.out 2).trans rfl
   have hfs45 := blk_frozen BK239.out 2
   have hns45_0 := NB219_239.out
   have hns45_1 := NB220_239.out
   have hms45_0 := NB239_219.out
   have hms45_1 := NB239_220.out
   refine skip_ (w1 := ?_) (by rfl) rfl ?_ ?_
   rotate_left
   ·go_simp
    rfl
   refine hK.out _ _ ⟨((cell_far (p := ⟨gb239, _, none⟩) NB219_239.out _).trans (((cell_far (p := ⟨gb239, _, none⟩) NB219_239.out _).trans (((cell_far (p := ⟨gb239, _, none⟩) NB219_239.out _).trans (hHeld.1)))))), ((cell_far (p := ⟨gb239, _, none⟩) NB219_239.out _).trans (((cell_far (p := ⟨gb239, _, none⟩) NB219_239.out _).trans (((cell_far (p := ⟨gb239, _, none⟩) NB219_239.out _).trans (hHeld.2.1)))))), ((cell_far (p := ⟨gb239, _, none⟩) NB219_239.out _).trans (((cell_far (p := ⟨gb239, _, none⟩) NB219_239.out _).trans (((cell_far (p := ⟨gb239, _, none⟩) NB219_239.out _).trans (hHeld.2.2.1)))))), ((cell_far (p := ⟨gb239, _, none⟩) NB220_239.out _).trans (((cell_far (p := ⟨gb239, _, none⟩) NB220_239.out _).trans (((cell_far (p := ⟨gb239, _, none⟩) NB220_239.out _).trans (hHeld.2.2.2.1)))))), ((cell_far (p := ⟨gb239, _, none⟩) NB220_239.out _).trans (((cell_far (p := ⟨gb239, _, none⟩) NB220_239.out _).trans (((cell_far (p := ⟨gb239, _, none⟩) NB220_239.out _).trans (hHeld.2.2.2.2.1)))))), ((cell_far (p := ⟨gb239, _, none⟩) NB220_239.out _).trans (((cell_far (p := ⟨gb239, _, none⟩) NB220_239.out _).trans (((cell_far (p := ⟨gb239, _, none⟩) NB220_239.out _).trans (hHeld.2.2.2.2.2))))))⟩ (fun hHeld => ?_)
   clear hK K
   refine pure_ (i := 11) (N := some 9) (v := ?_) (a' := ?_) #[true, true, true, true, true, true, true, true, true, true, true, true] rfl rfl (any_of HT_.out (by kernel_rfl)) (fun _ _ _ h => h) (Or.inl ⟨by rfl, ?_⟩) ?_ ?_
   rotate_left
   ·intro w'
    go_simp
    with_reducible rfl
   rotate_left
   ·simp only [Act.put, List.setIfInBounds_toArray, List.set_cons_zero, List.set_cons_succ, i64_w, i32_w]
    rfl
   refine done_ (done_of HT_.out (by kernel_rfl)) ?_
   have hnb46 := NB219_239.out
   have hnc46 := NB239_219.out
   have hcz47_0 : w41.cell? ⟨gb219, 0, none⟩ = some (.int .i64 a0_0) := (blk_cell BK219.out 0).trans rfl
   have hcz47_1 : w41.cell? ⟨gb219, 1, none⟩ = some (.int .i64 a0_1) := (blk_cell BK219.out 1).trans rfl
   have hcz47_2 : w41.cell? ⟨gb219, 2, none⟩ = some (.slice A0_2 l0_2.length c0_2) := (blk_cell BK219.out 2).trans rfl
   have hfz47_0 := blk_frozen BK219.out 0
   have hfz47_1 := blk_frozen BK219.out 1
   have hfz47_2 := blk_frozen BK219.out 2
   go_upto_region 12 with (first | ((with_reducible refine gate_callee (f := 40) rfl ?_); refine z6669.gl (some 39) rfl rfl Try.func40 (by kernel_rfl) rfl #[.agg #[.int .i64 a0_0, .int .i64 a0_1, .slice A0_2 l0_2.length c0_2]] rfl ?_; (with_reducible refine (laws_toSheet.calls k a0_0 a0_1 _ _ l0_2 t240 t241 t242 _ ?side1 ?side2 A23.out).mono ?_); (case side1 => exact Kd.C_below HR0_2.out (z6669.bl HB)); (case side2 => exact HC0_2.out); rintro e w48 ⟨v243, rfl, ho0, hb⟩; refine ⟨_, rfl, ?_⟩; have HO244 := Aside0.mk (Kd.R_lower (Kd.R_new' (Kd.R_new' (Kd.R_new' ho0 (Kd.R_lt (z6669.rl ((Kd.R_mono (Kd.R_far (p := ⟨gb239, 2, none⟩) (Kd.R_far (p := ⟨gb239, 1, none⟩) (Kd.R_far (p := ⟨gb239, 0, none⟩) (Kd.R_types HO227.out BK239.out (by decide)) (fun _ hk => hk.2) (.int .i64 t233)) (fun _ hk => hk.2) (.int .i64 t234)) (fun _ hk => hk.2) (.slice Ao44 t235.length co44)) (fun _ h_ => h_.1)))))) (Kd.R_lt (z6669.rl ((Kd.R_mono (Kd.R_far (p := ⟨gb239, 2, none⟩) (Kd.R_far (p := ⟨gb239, 1, none⟩) (Kd.R_far (p := ⟨gb239, 0, none⟩) (Kd.R_types HO232.out BK239.out (by decide)) (fun _ hk => hk.2) (.int .i64 t233)) (fun _ hk => hk.2) (.int .i64 t234)) (fun _ hk => hk.2) (.slice Ao44 t235.length co44)) (fun _ h_ => h_.1)))))) (Kd.R_lt (z6669.rl ((Kd.R_mono (Kd.R_far (p := ⟨gb239, 2, none⟩) (Kd.R_far (p := ⟨gb239, 1, none⟩) (Kd.R_far (p := ⟨gb239, 0, none⟩) (Kd.R_types HO237.out BK239.out (by decide)) (fun _ hk => hk.2) (.int .i64 t233)) (fun _ hk => hk.2) (.int .i64 t234)) (fun _ hk => hk.2) (.slice Ao44 t235.length co44)) (fun _ h_ => h_.1)))))) (below_size (z6669.bl HB))); replace HO227 := Aside0.mk (Kd.R_elder' (z6669.rl ((Kd.R_mono (Kd.R_far (p := ⟨gb239, 2, none⟩) (Kd.R_far (p := ⟨gb239, 1, none⟩) (Kd.R_far (p := ⟨gb239, 0, none⟩) (Kd.R_types HO227.out BK239.out (by decide)) (fun _ hk => hk.2) (.int .i64 t233)) (fun _ hk => hk.2) (.int .i64 t234)) (fun _ hk => hk.2) (.slice Ao44 t235.length co44)) (fun _ h_ => h_.1)))) (Kd.R_base ho0) hb); replace HO232 := Aside0.mk (Kd.R_elder' (z6669.rl ((Kd.R_mono (Kd.R_far (p := ⟨gb239, 2, none⟩) (Kd.R_far (p := ⟨gb239, 1, none⟩) (Kd.R_far (p := ⟨gb239, 0, none⟩) (Kd.R_types HO232.out BK239.out (by decide)) (fun _ hk => hk.2) (.int .i64 t233)) (fun _ hk => hk.2) (.int .i64 t234)) (fun _ hk => hk.2) (.slice Ao44 t235.length co44)) (fun _ h_ => h_.1)))) (Kd.R_base ho0) hb); replace HO237 := Aside0.mk (Kd.R_elder' (z6669.rl ((Kd.R_mono (Kd.R_far (p := ⟨gb239, 2, none⟩) (Kd.R_far (p := ⟨gb239, 1, none⟩) (Kd.R_far (p := ⟨gb239, 0, none⟩) (Kd.R_types HO237.out BK239.out (by decide)) (fun _ hk => hk.2) (.int .i64 t233)) (fun _ hk => hk.2) (.int .i64 t234)) (fun _ hk => hk.2) (.slice Ao44 t235.length co44)) (fun _ h_ => h_.1)))) (Kd.R_base ho0) hb); replace BK219 := Aside0.mk (blk_below (g := gb219) (o := .cells #[.int .i64 a0_0, .int .i64 a0_1, .slice A0_2 l0_2.length c0_2] 64 (0, 0)) (z6669.bf BK219) hb); replace BK220 := Aside0.mk (blk_below (g := gb220) (o := .cells #[.int .i64 a1_0, .int .i64 a1_1, .slice A1_2 l1_2.length c1_2] 64 (0, 0)) (z6669.bf BK220) hb); replace BK239 := Aside0.mk (blk_below (g := gb239) (o := .cells #[.int .i64 t233, .int .i64 t234, .slice Ao44 t235.length co44] 70 (0, 0)) (by (with_reducible repeat (first | refine blk_drewN ?_ _ | refine blk_drew ?_ | refine blk_alloc ?_ _)); refine blk_put (cs := #[.int .i64 t233, .int .i64 t234, .slice none 0 0]) ?_ 2 _ rfl; (with_reducible repeat (first | refine blk_drewN ?_ _ | refine blk_drew ?_ | refine blk_alloc ?_ _)); refine blk_put (cs := #[.int .i64 t233, .int .i64 0, .slice none 0 0]) ?_ 1 _ rfl; (with_reducible repeat (first | refine blk_drewN ?_ _ | refine blk_drew ?_ | refine blk_alloc ?_ _)); refine blk_put (cs := #[.int .i64 0, .int .i64 0, .slice none 0 0]) ?_ 0 _ rfl; (with_reducible repeat (first | refine blk_drewN ?_ _ | refine blk_drew ?_ | refine blk_alloc ?_ _)); exact BK239.out) hb); replace HB := Aside0.mk (below_step (z6669.bl HB) hb); (try clear hb); (try clear hb2); (try clear hk); (try clear hi); (try clear ho0)) | ((with_reducible refine gate_dst (N := 10) rfl ?_); refine box_event ?hg (N := 10) ?hd (cs := #[.int .i64 0, .int .i64 0, .slice none 0 0]) (t := 70) ?hr ?_; (case hd => rfl); (case hg => rfl); (case hr => first | (go_simp; done) | (go_simp; rfl)); intro gb245 hg w49 hbox hb; replace HO227 := z6669.rb HO227 hb; replace HO232 := z6669.rb HO232 hb; replace HO237 := z6669.rb HO237 hb; replace HO244 := z6669.rb HO244 hb; have BK245 := Aside0.mk (hbox); have GW245 := Aside0.mk ((by rw [hg]; exact (below_size (z6669.bl HB)) : w.heap.size ≤ gb245)); have GE245 := Aside0.mk ((by rw [hg]; exact (below_size (z6669.bl HB)) : w.heap.size ≤ gb245)); replace HB := Aside0.mk (below_step (z6669.bl HB) hb); have NB219_245 := z6669.ht BK219 hg; have NB245_219 := z6669.hu BK219 hg; replace BK219 := z6669.bb BK219 hb; have NB220_245 := z6669.ht BK220 hg; have NB245_220 := z6669.hu BK220 hg; replace BK220 := z6669.bb BK220 hb; have NB239_245 := z6669.ht BK239 hg; have NB245_239 := z6669.hu BK239 hg; replace BK239 := z6669.bb BK239 hb; clear hb hbox hg; have hnb50 := NB245_219.out; have hnc50 := NB219_245.out; have hnb51 := NB245_220.out; have hnc51 := NB220_245.out; have hnb52 := NB245_239.out; have hnc52 := NB239_245.out; have hcz53_0 : w49.cell? ⟨gb245, 0, none⟩ = some (.int .i64 0) := (blk_cell BK245.out 0).trans rfl; have hcz53_1 : w49.cell? ⟨gb245, 1, none⟩ = some (.int .i64 0) := (blk_cell BK245.out 1).trans rfl; have hcz53_2 : w49.cell? ⟨gb245, 2, none⟩ = some (.slice none 0 0) := (blk_cell BK245.out 2).trans rfl; have hfz53_0 := blk_frozen BK245.out 0; have hfz53_1 := blk_frozen BK245.out 1; have hfz53_2 := blk_frozen BK245.out 2; obtain ⟨Ao54, co54, eo54⟩ := Kd.R_slice HO244.out; subst eo54; have hnb55 := NB220_239.out; have hnc55 := NB239_220.out; have hcz56_0 : w49.cell? ⟨gb220, 0, none⟩ = some (.int .i64 a1_0) := (blk_cell BK220.out 0).trans rfl; have hcz56_1 : w49.cell? ⟨gb220, 1, none⟩ = some (.int .i64 a1_1) := (blk_cell BK220.out 1).trans rfl; have hcz56_2 : w49.cell? ⟨gb220, 2, none⟩ = some (.slice A1_2 l1_2.length c1_2) := (blk_cell BK220.out 2).trans rfl; have hfz56_0 := blk_frozen BK220.out 0; have hfz56_1 := blk_frozen BK220.out 1; have hfz56_2 := blk_frozen BK220.out 2) | ((with_reducible refine gate_callee (f := 40) rfl ?_); refine z6669.gl (some 41) rfl rfl Try.func40 (by kernel_rfl) rfl #[.agg #[.int .i64 a1_0, .int .i64 a1_1, .slice A1_2 l1_2.length c1_2]] rfl ?_; (with_reducible refine (laws_toSheet.calls k a1_0 a1_1 _ _ l1_2 t246 t247 t248 _ ?side1 ?side2 A24.out).mono ?_); (case side1 => exact Kd.C_below HR1_2.out (z6669.bl HB)); (case side2 => exact HC1_2.out); rintro e w57 ⟨v249, rfl, ho0, hb⟩; refine ⟨_, rfl, ?_⟩; have HO250 := Aside0.mk (Kd.R_lower (Kd.R_new' (Kd.R_new' (Kd.R_new' (Kd.R_new' ho0 (Kd.R_lt (z6669.rl ((Kd.R_mono (Kd.R_far (p := ⟨gb245, 2, none⟩) (Kd.R_far (p := ⟨gb245, 1, none⟩) (Kd.R_far (p := ⟨gb245, 0, none⟩) (Kd.R_types HO227.out BK245.out (by decide)) (fun _ hk => hk.2) (.int .i64 t240)) (fun _ hk => hk.2) (.int .i64 t241)) (fun _ hk => hk.2) (.slice Ao54 t242.length co54)) (fun _ h_ => h_.1)))))) (Kd.R_lt (z6669.rl ((Kd.R_mono (Kd.R_far (p := ⟨gb245, 2, none⟩) (Kd.R_far (p := ⟨gb245, 1, none⟩) (Kd.R_far (p := ⟨gb245, 0, none⟩) (Kd.R_types HO232.out BK245.out (by decide)) (fun _ hk => hk.2) (.int .i64 t240)) (fun _ hk => hk.2) (.int .i64 t241)) (fun _ hk => hk.2) (.slice Ao54 t242.length co54)) (fun _ h_ => h_.1)))))) (Kd.R_lt (z6669.rl ((Kd.R_mono (Kd.R_far (p := ⟨gb245, 2, none⟩) (Kd.R_far (p := ⟨gb245, 1, none⟩) (Kd.R_far (p := ⟨gb245, 0, none⟩) (Kd.R_types HO237.out BK245.out (by decide)) (fun _ hk => hk.2) (.int .i64 t240)) (fun _ hk => hk.2) (.int .i64 t241)) (fun _ hk => hk.2) (.slice Ao54 t242.length co54)) (fun _ h_ => h_.1)))))) (Kd.R_lt (z6669.rl ((Kd.R_mono (Kd.R_far (p := ⟨gb245, 2, none⟩) (Kd.R_far (p := ⟨gb245, 1, none⟩) (Kd.R_far (p := ⟨gb245, 0, none⟩) (Kd.R_types HO244.out BK245.out (by decide)) (fun _ hk => hk.2) (.int .i64 t240)) (fun _ hk => hk.2) (.int .i64 t241)) (fun _ hk => hk.2) (.slice Ao54 t242.length co54)) (fun _ h_ => h_.1)))))) (below_size (z6669.bl HB))); replace HO227 := Aside0.mk (Kd.R_elder' (z6669.rl ((Kd.R_mono (Kd.R_far (p := ⟨gb245, 2, none⟩) (Kd.R_far (p := ⟨gb245, 1, none⟩) (Kd.R_far (p := ⟨gb245, 0, none⟩) (Kd.R_types HO227.out BK245.out (by decide)) (fun _ hk => hk.2) (.int .i64 t240)) (fun _ hk => hk.2) (.int .i64 t241)) (fun _ hk => hk.2) (.slice Ao54 t242.length co54)) (fun _ h_ => h_.1)))) (Kd.R_base ho0) hb); replace HO232 := Aside0.mk (Kd.R_elder' (z6669.rl ((Kd.R_mono (Kd.R_far (p := ⟨gb245, 2, none⟩) (Kd.R_far (p := ⟨gb245, 1, none⟩) (Kd.R_far (p := ⟨gb245, 0, none⟩) (Kd.R_types HO232.out BK245.out (by decide)) (fun _ hk => hk.2) (.int .i64 t240)) (fun _ hk => hk.2) (.int .i64 t241)) (fun _ hk => hk.2) (.slice Ao54 t242.length co54)) (fun _ h_ => h_.1)))) (Kd.R_base ho0) hb); replace HO237 := Aside0.mk (Kd.R_elder' (z6669.rl ((Kd.R_mono (Kd.R_far (p := ⟨gb245, 2, none⟩) (Kd.R_far (p := ⟨gb245, 1, none⟩) (Kd.R_far (p := ⟨gb245, 0, none⟩) (Kd.R_types HO237.out BK245.out (by decide)) (fun _ hk => hk.2) (.int .i64 t240)) (fun _ hk => hk.2) (.int .i64 t241)) (fun _ hk => hk.2) (.slice Ao54 t242.length co54)) (fun _ h_ => h_.1)))) (Kd.R_base ho0) hb); replace HO244 := Aside0.mk (Kd.R_elder' (z6669.rl ((Kd.R_mono (Kd.R_far (p := ⟨gb245, 2, none⟩) (Kd.R_far (p := ⟨gb245, 1, none⟩) (Kd.R_far (p := ⟨gb245, 0, none⟩) (Kd.R_types HO244.out BK245.out (by decide)) (fun _ hk => hk.2) (.int .i64 t240)) (fun _ hk => hk.2) (.int .i64 t241)) (fun _ hk => hk.2) (.slice Ao54 t242.length co54)) (fun _ h_ => h_.1)))) (Kd.R_base ho0) hb); replace BK219 := Aside0.mk (blk_below (g := gb219) (o := .cells #[.int .i64 a0_0, .int .i64 a0_1, .slice A0_2 l0_2.length c0_2] 64 (0, 0)) (z6669.bf BK219) hb); replace BK220 := Aside0.mk (blk_below (g := gb220) (o := .cells #[.int .i64 a1_0, .int .i64 a1_1, .slice A1_2 l1_2.length c1_2] 64 (0, 0)) (z6669.bf BK220) hb); replace BK239 := Aside0.mk (blk_below (g := gb239) (o := .cells #[.int .i64 t233, .int .i64 t234, .slice Ao44 t235.length co44] 70 (0, 0)) (z6669.bf BK239) hb); replace BK245 := Aside0.mk (blk_below (g := gb245) (o := .cells #[.int .i64 t240, .int .i64 t241, .slice Ao54 t242.length co54] 70 (0, 0)) (by (with_reducible repeat (first | refine blk_drewN ?_ _ | refine blk_drew ?_ | refine blk_alloc ?_ _)); refine blk_put (cs := #[.int .i64 t240, .int .i64 t241, .slice none 0 0]) ?_ 2 _ rfl; (with_reducible repeat (first | refine blk_drewN ?_ _ | refine blk_drew ?_ | refine blk_alloc ?_ _)); refine blk_put (cs := #[.int .i64 t240, .int .i64 0, .slice none 0 0]) ?_ 1 _ rfl; (with_reducible repeat (first | refine blk_drewN ?_ _ | refine blk_drew ?_ | refine blk_alloc ?_ _)); refine blk_put (cs := #[.int .i64 0, .int .i64 0, .slice none 0 0]) ?_ 0 _ rfl; (with_reducible repeat (first | refine blk_drewN ?_ _ | refine blk_drew ?_ | refine blk_alloc ?_ _)); exact BK245.out) hb); replace HB := Aside0.mk (below_step (z6669.bl HB) hb); (try clear hb); (try clear hb2); (try clear hk); (try clear hi); (try clear ho0)) | ((with_reducible refine gate_dst (N := 11) rfl ?_); refine box_event ?hg (N := 11) ?hd (cs := #[.int .i64 0, .int .i64 0, .slice none 0 0]) (t := 70) ?hr ?_; (case hd => rfl); (case hg => rfl); (case hr => first | (go_simp; done) | (go_simp; rfl)); intro gb251 hg w58 hbox hb; replace HO227 := z6669.rb HO227 hb; replace HO232 := z6669.rb HO232 hb; replace HO237 := z6669.rb HO237 hb; replace HO244 := z6669.rb HO244 hb; replace HO250 := z6669.rb HO250 hb; have BK251 := Aside0.mk (hbox); have GW251 := Aside0.mk ((by rw [hg]; exact (below_size (z6669.bl HB)) : w.heap.size ≤ gb251)); have GE251 := Aside0.mk ((by rw [hg]; exact (below_size (z6669.bl HB)) : w.heap.size ≤ gb251)); replace HB := Aside0.mk (below_step (z6669.bl HB) hb); have NB219_251 := z6669.ht BK219 hg; have NB251_219 := z6669.hu BK219 hg; replace BK219 := z6669.bb BK219 hb; have NB220_251 := z6669.ht BK220 hg; have NB251_220 := z6669.hu BK220 hg; replace BK220 := z6669.bb BK220 hb; have NB239_251 := z6669.ht BK239 hg; have NB251_239 := z6669.hu BK239 hg; replace BK239 := z6669.bb BK239 hb; have NB245_251 := z6669.ht BK245 hg; have NB251_245 := z6669.hu BK245 hg; replace BK245 := z6669.bb BK245 hb; clear hb hbox hg; have hnb59 := NB251_219.out; have hnc59 := NB219_251.out; have hnb60 := NB251_220.out; have hnc60 := NB220_251.out; have hnb61 := NB251_239.out; have hnc61 := NB239_251.out; have hnb62 := NB251_245.out; have hnc62 := NB245_251.out; have hcz63_0 : w58.cell? ⟨gb251, 0, none⟩ = some (.int .i64 0) := (blk_cell BK251.out 0).trans rfl; have hcz63_1 : w58.cell? ⟨gb251, 1, none⟩ = some (.int .i64 0) := (blk_cell BK251.out 1).trans rfl; have hcz63_2 : w58.cell? ⟨gb251, 2, none⟩ = some (.slice none 0 0) := (blk_cell BK251.out 2).trans rfl; have hfz63_0 := blk_frozen BK251.out 0; have hfz63_1 := blk_frozen BK251.out 1; have hfz63_2 := blk_frozen BK251.out 2; obtain ⟨Ao64, co64, eo64⟩ := Kd.R_slice HO250.out; subst eo64; have hcz65_0 : w58.cell? ⟨gb245, 0, none⟩ = some (.int .i64 t240) := (blk_cell BK245.out 0).trans rfl; have hcz65_1 : w58.cell? ⟨gb245, 1, none⟩ = some (.int .i64 t241) := (blk_cell BK245.out 1).trans rfl; have hcz65_2 : w58.cell? ⟨gb245, 2, none⟩ = some (.slice Ao54 t242.length co54) := (blk_cell BK245.out 2).trans rfl; have hfz65_0 := blk_frozen BK245.out 0; have hfz65_1 := blk_frozen BK245.out 1; have hfz65_2 := blk_frozen BK245.out 2) | ((with_reducible refine gate_callee (f := 48) rfl ?_); refine z6669.gl (some 46) rfl rfl Try.func48 (by kernel_rfl) rfl #[.agg #[.int .i64 t240, .int .i64 t241, .slice Ao54 t242.length co54], .agg #[.int .i64 t246, .int .i64 t247, .slice Ao64 t248.length co64], .int .i64 a2] rfl ?_; (with_reducible refine (impl_LaySheet.calls k t240 t241 _ _ t242 t246 t247 _ _ t248 a2 t252 t253 t254 t257 _ ?side1 ?side2 ?side3 ?side4 A25.out).mono ?_); (case side1 => refine (Kd.R_reads' (e := 54) (base := w.heap.size) (ok := fun k_ => ((((True ∧ some k_ ≠ (v226 : Value).ownBlock) ∧ some k_ ≠ (v231 : Value).ownBlock) ∧ some k_ ≠ (.slice Ao44 t235.length co44 : Value).ownBlock) ∧ some k_ ≠ (.slice Ao64 t248.length co64 : Value).ownBlock)) (n := t242.length) (c := co54) ?_).2.2; exact (z6669.rl ((Kd.R_mono (Kd.R_far (p := ⟨gb251, 2, none⟩) (Kd.R_far (p := ⟨gb251, 1, none⟩) (Kd.R_far (p := ⟨gb251, 0, none⟩) (Kd.R_types HO244.out BK251.out (by decide)) (fun _ hk => hk.2) (.int .i64 t246)) (fun _ hk => hk.2) (.int .i64 t247)) (fun _ hk => hk.2) (.slice Ao64 t248.length co64)) (fun _ h_ => h_.1))))); (case side2 => exact (Kd.R_reads' HO244.out).2.1); (case side3 => refine (Kd.R_reads' (e := 54) (base := w.heap.size) (ok := fun k_ => ((((True ∧ some k_ ≠ (v226 : Value).ownBlock) ∧ some k_ ≠ (v231 : Value).ownBlock) ∧ some k_ ≠ (.slice Ao44 t235.length co44 : Value).ownBlock) ∧ some k_ ≠ (.slice Ao54 t242.length co54 : Value).ownBlock)) (n := t248.length) (c := co64) ?_).2.2; exact (z6669.rl ((Kd.R_mono (Kd.R_far (p := ⟨gb251, 2, none⟩) (Kd.R_far (p := ⟨gb251, 1, none⟩) (Kd.R_far (p := ⟨gb251, 0, none⟩) (Kd.R_types HO250.out BK251.out (by decide)) (fun _ hk => hk.2) (.int .i64 t246)) (fun _ hk => hk.2) (.int .i64 t247)) (fun _ hk => hk.2) (.slice Ao64 t248.length co64)) (fun _ h_ => h_.1))))); (case side4 => exact (Kd.R_reads' HO250.out).2.1); rintro e w66 ⟨v255, rfl, ho0, hb⟩; refine ⟨_, rfl, ?_⟩; have HO256 := Aside0.mk (Kd.R_lower (Kd.R_new' (Kd.R_new' (Kd.R_new' (Kd.R_new' (Kd.R_new' ho0 (Kd.R_lt (z6669.rl ((Kd.R_mono (Kd.R_far (p := ⟨gb251, 2, none⟩) (Kd.R_far (p := ⟨gb251, 1, none⟩) (Kd.R_far (p := ⟨gb251, 0, none⟩) (Kd.R_types HO227.out BK251.out (by decide)) (fun _ hk => hk.2) (.int .i64 t246)) (fun _ hk => hk.2) (.int .i64 t247)) (fun _ hk => hk.2) (.slice Ao64 t248.length co64)) (fun _ h_ => h_.1)))))) (Kd.R_lt (z6669.rl ((Kd.R_mono (Kd.R_far (p := ⟨gb251, 2, none⟩) (Kd.R_far (p := ⟨gb251, 1, none⟩) (Kd.R_far (p := ⟨gb251, 0, none⟩) (Kd.R_types HO232.out BK251.out (by decide)) (fun _ hk => hk.2) (.int .i64 t246)) (fun _ hk => hk.2) (.int .i64 t247)) (fun _ hk => hk.2) (.slice Ao64 t248.length co64)) (fun _ h_ => h_.1)))))) (Kd.R_lt (z6669.rl ((Kd.R_mono (Kd.R_far (p := ⟨gb251, 2, none⟩) (Kd.R_far (p := ⟨gb251, 1, none⟩) (Kd.R_far (p := ⟨gb251, 0, none⟩) (Kd.R_types HO237.out BK251.out (by decide)) (fun _ hk => hk.2) (.int .i64 t246)) (fun _ hk => hk.2) (.int .i64 t247)) (fun _ hk => hk.2) (.slice Ao64 t248.length co64)) (fun _ h_ => h_.1)))))) (Kd.R_lt (z6669.rl ((Kd.R_mono (Kd.R_far (p := ⟨gb251, 2, none⟩) (Kd.R_far (p := ⟨gb251, 1, none⟩) (Kd.R_far (p := ⟨gb251, 0, none⟩) (Kd.R_types HO244.out BK251.out (by decide)) (fun _ hk => hk.2) (.int .i64 t246)) (fun _ hk => hk.2) (.int .i64 t247)) (fun _ hk => hk.2) (.slice Ao64 t248.length co64)) (fun _ h_ => h_.1)))))) (Kd.R_lt (z6669.rl ((Kd.R_mono (Kd.R_far (p := ⟨gb251, 2, none⟩) (Kd.R_far (p := ⟨gb251, 1, none⟩) (Kd.R_far (p := ⟨gb251, 0, none⟩) (Kd.R_types HO250.out BK251.out (by decide)) (fun _ hk => hk.2) (.int .i64 t246)) (fun _ hk => hk.2) (.int .i64 t247)) (fun _ hk => hk.2) (.slice Ao64 t248.length co64)) (fun _ h_ => h_.1)))))) (below_size (z6669.bl HB))); replace HO227 := Aside0.mk (Kd.R_elder' (z6669.rl ((Kd.R_mono (Kd.R_far (p := ⟨gb251, 2, none⟩) (Kd.R_far (p := ⟨gb251, 1, none⟩) (Kd.R_far (p := ⟨gb251, 0, none⟩) (Kd.R_types HO227.out BK251.out (by decide)) (fun _ hk => hk.2) (.int .i64 t246)) (fun _ hk => hk.2) (.int .i64 t247)) (fun _ hk => hk.2) (.slice Ao64 t248.length co64)) (fun _ h_ => h_.1)))) (Kd.R_base ho0) hb); replace HO232 := Aside0.mk (Kd.R_elder' (z6669.rl ((Kd.R_mono (Kd.R_far (p := ⟨gb251, 2, none⟩) (Kd.R_far (p := ⟨gb251, 1, none⟩) (Kd.R_far (p := ⟨gb251, 0, none⟩) (Kd.R_types HO232.out BK251.out (by decide)) (fun _ hk => hk.2) (.int .i64 t246)) (fun _ hk => hk.2) (.int .i64 t247)) (fun _ hk => hk.2) (.slice Ao64 t248.length co64)) (fun _ h_ => h_.1)))) (Kd.R_base ho0) hb); replace HO237 := Aside0.mk (Kd.R_elder' (z6669.rl ((Kd.R_mono (Kd.R_far (p := ⟨gb251, 2, none⟩) (Kd.R_far (p := ⟨gb251, 1, none⟩) (Kd.R_far (p := ⟨gb251, 0, none⟩) (Kd.R_types HO237.out BK251.out (by decide)) (fun _ hk => hk.2) (.int .i64 t246)) (fun _ hk => hk.2) (.int .i64 t247)) (fun _ hk => hk.2) (.slice Ao64 t248.length co64)) (fun _ h_ => h_.1)))) (Kd.R_base ho0) hb); replace HO244 := Aside0.mk (Kd.R_elder' (z6669.rl ((Kd.R_mono (Kd.R_far (p := ⟨gb251, 2, none⟩) (Kd.R_far (p := ⟨gb251, 1, none⟩) (Kd.R_far (p := ⟨gb251, 0, none⟩) (Kd.R_types HO244.out BK251.out (by decide)) (fun _ hk => hk.2) (.int .i64 t246)) (fun _ hk => hk.2) (.int .i64 t247)) (fun _ hk => hk.2) (.slice Ao64 t248.length co64)) (fun _ h_ => h_.1)))) (Kd.R_base ho0) hb); replace HO250 := Aside0.mk (Kd.R_elder' (z6669.rl ((Kd.R_mono (Kd.R_far (p := ⟨gb251, 2, none⟩) (Kd.R_far (p := ⟨gb251, 1, none⟩) (Kd.R_far (p := ⟨gb251, 0, none⟩) (Kd.R_types HO250.out BK251.out (by decide)) (fun _ hk => hk.2) (.int .i64 t246)) (fun _ hk => hk.2) (.int .i64 t247)) (fun _ hk => hk.2) (.slice Ao64 t248.length co64)) (fun _ h_ => h_.1)))) (Kd.R_base ho0) hb); replace BK219 := Aside0.mk (blk_below (g := gb219) (o := .cells #[.int .i64 a0_0, .int .i64 a0_1, .slice A0_2 l0_2.length c0_2] 64 (0, 0)) (z6669.bf BK219) hb); replace BK220 := Aside0.mk (blk_below (g := gb220) (o := .cells #[.int .i64 a1_0, .int .i64 a1_1, .slice A1_2 l1_2.length c1_2] 64 (0, 0)) (z6669.bf BK220) hb); replace BK239 := Aside0.mk (blk_below (g := gb239) (o := .cells #[.int .i64 t233, .int .i64 t234, .slice Ao44 t235.length co44] 70 (0, 0)) (z6669.bf BK239) hb); replace BK245 := Aside0.mk (blk_below (g := gb245) (o := .cells #[.int .i64 t240, .int .i64 t241, .slice Ao54 t242.length co54] 70 (0, 0)) (z6669.bf BK245) hb); replace BK251 := Aside0.mk (blk_below (g := gb251) (o := .cells #[.int .i64 t246, .int .i64 t247, .slice Ao64 t248.length co64] 70 (0, 0)) (by (with_reducible repeat (first | refine blk_drewN ?_ _ | refine blk_drew ?_ | refine blk_alloc ?_ _)); refine blk_put (cs := #[.int .i64 t246, .int .i64 t247, .slice none 0 0]) ?_ 2 _ rfl; (with_reducible repeat (first | refine blk_drewN ?_ _ | refine blk_drew ?_ | refine blk_alloc ?_ _)); refine blk_put (cs := #[.int .i64 t246, .int .i64 0, .slice none 0 0]) ?_ 1 _ rfl; (with_reducible repeat (first | refine blk_drewN ?_ _ | refine blk_drew ?_ | refine blk_alloc ?_ _)); refine blk_put (cs := #[.int .i64 0, .int .i64 0, .slice none 0 0]) ?_ 0 _ rfl; (with_reducible repeat (first | refine blk_drewN ?_ _ | refine blk_drew ?_ | refine blk_alloc ?_ _)); exact BK251.out) hb); replace HB := Aside0.mk (below_step (z6669.bl HB) hb); (try clear hb); (try clear hb2); (try clear hk); (try clear hi); (try clear ho0)) | ((with_reducible refine gate_dst (N := 12) rfl ?_); refine box_event ?hg (N := 12) ?hd (cs := #[.int .i64 0, .int .i64 0, .slice none 0 0]) (t := 70) ?hr ?_; (case hd => rfl); (case hg => rfl); (case hr => first | (go_simp; done) | (go_simp; rfl)); intro gb258 hg w67 hbox hb; replace HO227 := z6669.rb HO227 hb; replace HO232 := z6669.rb HO232 hb; replace HO237 := z6669.rb HO237 hb; replace HO244 := z6669.rb HO244 hb; replace HO250 := z6669.rb HO250 hb; replace HO256 := z6669.rb HO256 hb; have BK258 := Aside0.mk (hbox); have GW258 := Aside0.mk ((by rw [hg]; exact (below_size (z6669.bl HB)) : w.heap.size ≤ gb258)); have GE258 := Aside0.mk ((by rw [hg]; exact (below_size (z6669.bl HB)) : w.heap.size ≤ gb258)); replace HB := Aside0.mk (below_step (z6669.bl HB) hb); have NB219_258 := z6669.ht BK219 hg; have NB258_219 := z6669.hu BK219 hg; replace BK219 := z6669.bb BK219 hb; have NB220_258 := z6669.ht BK220 hg; have NB258_220 := z6669.hu BK220 hg; replace BK220 := z6669.bb BK220 hb; have NB239_258 := z6669.ht BK239 hg; have NB258_239 := z6669.hu BK239 hg; replace BK239 := z6669.bb BK239 hb; have NB245_258 := z6669.ht BK245 hg; have NB258_245 := z6669.hu BK245 hg; replace BK245 := z6669.bb BK245 hb; have NB251_258 := z6669.ht BK251 hg; have NB258_251 := z6669.hu BK251 hg; replace BK251 := z6669.bb BK251 hb; clear hb hbox hg; have hnb68 := NB258_219.out; have hnc68 := NB219_258.out; have hnb69 := NB258_220.out; have hnc69 := NB220_258.out; have hnb70 := NB258_239.out; have hnc70 := NB239_258.out; have hnb71 := NB258_245.out; have hnc71 := NB245_258.out; have hnb72 := NB258_251.out; have hnc72 := NB251_258.out; have hcz73_0 : w67.cell? ⟨gb258, 0, none⟩ = some (.int .i64 0) := (blk_cell BK258.out 0).trans rfl; have hcz73_1 : w67.cell? ⟨gb258, 1, none⟩ = some (.int .i64 0) := (blk_cell BK258.out 1).trans rfl; have hcz73_2 : w67.cell? ⟨gb258, 2, none⟩ = some (.slice none 0 0) := (blk_cell BK258.out 2).trans rfl; have hfz73_0 := blk_frozen BK258.out 0; have hfz73_1 := blk_frozen BK258.out 1; have hfz73_2 := blk_frozen BK258.out 2; obtain ⟨Ao74, co74, eo74⟩ := Kd.R_slice HO256.out; subst eo74))
   (try simp only [Act.put, List.setIfInBounds_toArray, List.set_cons_zero, List.set_cons_succ])
   go_cut [57] (fun v57 wc => ∃ (kq : Nat) (x57_25 : Bool), v57 = .bool x57_25 ∧ Aside0 (laws_FnExactLaySheet.j0 kq a2 t238 t257 x57_25 a0_0 a0_1 l0_2 a1_0 a1_1 l1_2 t233 t234 t235 t240 t241 t242 t246 t247 t248 t252 t253 t254 = some r) ∧ Aside0 (kq ≤ k) ∧ Aside0 (Kd.R k54 54 wc w.heap.size (fun k_ => some k_ ≠ ((.slice Ao54 t242.length co54) : Value).ownBlock ∧ some k_ ≠ ((.slice Ao64 t248.length co64) : Value).ownBlock ∧ some k_ ≠ ((.slice Ao74 t254.length co74) : Value).ownBlock) (.slice Ao44 t235.length co44) t235) ∧ Aside0 (Kd.R k54 54 wc w.heap.size (fun k_ => some k_ ≠ ((.slice Ao44 t235.length co44) : Value).ownBlock ∧ some k_ ≠ ((.slice Ao64 t248.length co64) : Value).ownBlock ∧ some k_ ≠ ((.slice Ao74 t254.length co74) : Value).ownBlock) (.slice Ao54 t242.length co54) t242) ∧ Aside0 (Kd.R k54 54 wc w.heap.size (fun k_ => some k_ ≠ ((.slice Ao44 t235.length co44) : Value).ownBlock ∧ some k_ ≠ ((.slice Ao54 t242.length co54) : Value).ownBlock ∧ some k_ ≠ ((.slice Ao74 t254.length co74) : Value).ownBlock) (.slice Ao64 t248.length co64) t248) ∧ Aside0 (Kd.R k54 54 wc w.heap.size (fun k_ => some k_ ≠ ((.slice Ao44 t235.length co44) : Value).ownBlock ∧ some k_ ≠ ((.slice Ao54 t242.length co54) : Value).ownBlock ∧ some k_ ≠ ((.slice Ao64 t248.length co64) : Value).ownBlock) (.slice Ao74 t254.length co74) t254) ∧ Aside0 (wc.heap[gb219]? = some (.cells #[.int .i64 a0_0, .int .i64 a0_1, (.slice A0_2 l0_2.length c0_2)] 64 (0, 0))) ∧ Aside0 (wc.heap[gb220]? = some (.cells #[.int .i64 a1_0, .int .i64 a1_1, (.slice A1_2 l1_2.length c1_2)] 64 (0, 0))) ∧ Aside0 (wc.heap[gb239]? = some (.cells #[.int .i64 t233, .int .i64 t234, (.slice Ao44 t235.length co44)] 70 (0, 0))) ∧ Aside0 (wc.heap[gb245]? = some (.cells #[.int .i64 t240, .int .i64 t241, (.slice Ao54 t242.length co54)] 70 (0, 0))) ∧ Aside0 (wc.heap[gb251]? = some (.cells #[.int .i64 t246, .int .i64 t247, (.slice Ao64 t248.length co64)] 70 (0, 0))) ∧ Aside0 (wc.heap[gb258]? = some (.cells #[.int .i64 t252, .int .i64 t253, (.slice Ao74 t254.length co74)] 70 (0, 0))) ∧ Aside0 (Below w.heap.size w wc))
   case first =>
    have H := HC26.out
    clear HC26
    replace H := Option.bind_eq_some_iff.mp H
    obtain ⟨t259, A750, H⟩ := H
    replace H : (if t259 = true then (laws_FnExactLaySheet.j0 k a2 t238 t257 (t257 != t238) a0_0 a0_1 l0_2 a1_0 a1_1 l1_2 t233 t234 t235 t240 t241 t242 t246 t247 t248 t252 t253 t254) else (laws_FnExactLaySheet.j0 k a2 t238 t257 true a0_0 a0_1 l0_2 a1_0 a1_1 l1_2 t233 t234 t235 t240 t241 t242 t246 t247 t248 t252 t253 t254)) = some r := H
    have A75 := Aside0.mk A750
    clear A750
    by_cases c76 : t259 = true
    ·subst c76
     have H1 : (laws_FnExactLaySheet.j0 k a2 t238 t257 (t257 != t238) a0_0 a0_1 l0_2 a1_0 a1_1 l1_2 t233 t234 t235 t240 t241 t242 t246 t247 t248 t252 t253 t254) = some r := by rw [if_pos rfl] at H; exact H
     clear H
     have H := H1
     clear H1
     have H' := Aside0.mk H
     clear H
     have hnb77 := NB258_219.out
     have hnc77 := NB219_258.out
     have hnb78 := NB258_220.out
     have hnc78 := NB220_258.out
     have hnb79 := NB258_239.out
     have hnc79 := NB239_258.out
     have hnb80 := NB258_245.out
     have hnc80 := NB245_258.out
     have hnb81 := NB258_251.out
     have hnc81 := NB251_258.out
     have hcz82_0 : w67.cell? ⟨gb258, 0, none⟩ = some (.int .i64 0) := (blk_cell BK258.out 0).trans rfl
     have hcz82_1 : w67.cell? ⟨gb258, 1, none⟩ = some (.int .i64 0) := (blk_cell BK258.out 1).trans rfl
     have hcz82_2 : w67.cell? ⟨gb258, 2, none⟩ = some (.slice none 0 0) := (blk_cell BK258.out 2).trans rfl
     have hfz82_0 := blk_frozen BK258.out 0
     have hfz82_1 := blk_frozen BK258.out 1
     have hfz82_2 := blk_frozen BK258.out 2
     have hnb83 := NB239_219.out
     have hnc83 := NB219_239.out
     have hnb84 := NB239_220.out
     have hnc84 := NB220_239.out
     have hnb85 := NB239_245.out
     have hnc85 := NB245_239.out
     have hnb86 := NB239_251.out
     have hnc86 := NB251_239.out
     have hcz87_0 : w67.cell? ⟨gb239, 0, none⟩ = some (.int .i64 t233) := (blk_cell BK239.out 0).trans rfl
     have hcz87_1 : w67.cell? ⟨gb239, 1, none⟩ = some (.int .i64 t234) := (blk_cell BK239.out 1).trans rfl
     have hcz87_2 : w67.cell? ⟨gb239, 2, none⟩ = some (.slice Ao44 t235.length co44) := (blk_cell BK239.out 2).trans rfl
     have hfz87_0 := blk_frozen BK239.out 0
     have hfz87_1 := blk_frozen BK239.out 1
     have hfz87_2 := blk_frozen BK239.out 2
     go_wp2_with (first | ((with_reducible refine gate_callee (f := 43) rfl ?_); refine z6669.gl (some 51) rfl rfl Try.func43 (by kernel_rfl) rfl #[.agg #[.int .i64 t252, .int .i64 t253, .slice Ao74 t254.length co74], .agg #[.int .i64 t233, .int .i64 t234, .slice Ao44 t235.length co44]] rfl ?_; (with_reducible refine (laws_eqSheet.calls k t252 t253 _ _ t254 t233 t234 _ _ t235 true _ ?side1 ?side2 ?side3 ?side4 A75.out).mono ?_); (case side1 => refine (Kd.R_reads' (e := 54) (base := w.heap.size) (ok := fun k_ => (((((True ∧ some k_ ≠ (v226 : Value).ownBlock) ∧ some k_ ≠ (v231 : Value).ownBlock) ∧ some k_ ≠ (.slice Ao44 t235.length co44 : Value).ownBlock) ∧ some k_ ≠ (.slice Ao54 t242.length co54 : Value).ownBlock) ∧ some k_ ≠ (.slice Ao64 t248.length co64 : Value).ownBlock)) (n := t254.length) (c := co74) ?_).2.2; exact (z6669.rl ((Kd.R_mono (Kd.R_far (p := ⟨gb258, 2, none⟩) (Kd.R_far (p := ⟨gb258, 1, none⟩) (Kd.R_far (p := ⟨gb258, 0, none⟩) (Kd.R_types HO256.out BK258.out (by decide)) (fun _ hk => hk.2) (.int .i64 t252)) (fun _ hk => hk.2) (.int .i64 t253)) (fun _ hk => hk.2) (.slice Ao74 t254.length co74)) (fun _ h_ => h_.1))))); (case side2 => exact (Kd.R_reads' HO256.out).2.1); (case side3 => refine (Kd.R_reads' (e := 54) (base := w.heap.size) (ok := fun k_ => ((((some k_ ≠ (v226 : Value).ownBlock ∧ some k_ ≠ (v231 : Value).ownBlock) ∧ some k_ ≠ (.slice Ao54 t242.length co54 : Value).ownBlock) ∧ some k_ ≠ (.slice Ao64 t248.length co64 : Value).ownBlock) ∧ some k_ ≠ (.slice Ao74 t254.length co74 : Value).ownBlock)) (n := t235.length) (c := co44) ?_).2.2; exact (z6669.rl ((Kd.R_mono (Kd.R_far (p := ⟨gb258, 2, none⟩) (Kd.R_far (p := ⟨gb258, 1, none⟩) (Kd.R_far (p := ⟨gb258, 0, none⟩) (Kd.R_types HO237.out BK258.out (by decide)) (fun _ hk => hk.2) (.int .i64 t252)) (fun _ hk => hk.2) (.int .i64 t253)) (fun _ hk => hk.2) (.slice Ao74 t254.length co74)) (fun _ h_ => h_.1))))); (case side4 => exact (Kd.R_reads' HO237.out).2.1); rintro e w88 ⟨rfl, hb⟩; refine ⟨_, rfl, ?_⟩; replace HO227 := Aside0.mk (Kd.R_below (z6669.rl ((Kd.R_mono (Kd.R_far (p := ⟨gb258, 2, none⟩) (Kd.R_far (p := ⟨gb258, 1, none⟩) (Kd.R_far (p := ⟨gb258, 0, none⟩) (Kd.R_types HO227.out BK258.out (by decide)) (fun _ hk => hk.2) (.int .i64 t252)) (fun _ hk => hk.2) (.int .i64 t253)) (fun _ hk => hk.2) (.slice Ao74 t254.length co74)) (fun _ h_ => h_.1)))) hb); replace HO232 := Aside0.mk (Kd.R_below (z6669.rl ((Kd.R_mono (Kd.R_far (p := ⟨gb258, 2, none⟩) (Kd.R_far (p := ⟨gb258, 1, none⟩) (Kd.R_far (p := ⟨gb258, 0, none⟩) (Kd.R_types HO232.out BK258.out (by decide)) (fun _ hk => hk.2) (.int .i64 t252)) (fun _ hk => hk.2) (.int .i64 t253)) (fun _ hk => hk.2) (.slice Ao74 t254.length co74)) (fun _ h_ => h_.1)))) hb); replace HO237 := Aside0.mk (Kd.R_below (z6669.rl ((Kd.R_mono (Kd.R_far (p := ⟨gb258, 2, none⟩) (Kd.R_far (p := ⟨gb258, 1, none⟩) (Kd.R_far (p := ⟨gb258, 0, none⟩) (Kd.R_types HO237.out BK258.out (by decide)) (fun _ hk => hk.2) (.int .i64 t252)) (fun _ hk => hk.2) (.int .i64 t253)) (fun _ hk => hk.2) (.slice Ao74 t254.length co74)) (fun _ h_ => h_.1)))) hb); replace HO244 := Aside0.mk (Kd.R_below (z6669.rl ((Kd.R_mono (Kd.R_far (p := ⟨gb258, 2, none⟩) (Kd.R_far (p := ⟨gb258, 1, none⟩) (Kd.R_far (p := ⟨gb258, 0, none⟩) (Kd.R_types HO244.out BK258.out (by decide)) (fun _ hk => hk.2) (.int .i64 t252)) (fun _ hk => hk.2) (.int .i64 t253)) (fun _ hk => hk.2) (.slice Ao74 t254.length co74)) (fun _ h_ => h_.1)))) hb); replace HO250 := Aside0.mk (Kd.R_below (z6669.rl ((Kd.R_mono (Kd.R_far (p := ⟨gb258, 2, none⟩) (Kd.R_far (p := ⟨gb258, 1, none⟩) (Kd.R_far (p := ⟨gb258, 0, none⟩) (Kd.R_types HO250.out BK258.out (by decide)) (fun _ hk => hk.2) (.int .i64 t252)) (fun _ hk => hk.2) (.int .i64 t253)) (fun _ hk => hk.2) (.slice Ao74 t254.length co74)) (fun _ h_ => h_.1)))) hb); replace HO256 := Aside0.mk (Kd.R_below (z6669.rl ((Kd.R_mono (Kd.R_far (p := ⟨gb258, 2, none⟩) (Kd.R_far (p := ⟨gb258, 1, none⟩) (Kd.R_far (p := ⟨gb258, 0, none⟩) (Kd.R_types HO256.out BK258.out (by decide)) (fun _ hk => hk.2) (.int .i64 t252)) (fun _ hk => hk.2) (.int .i64 t253)) (fun _ hk => hk.2) (.slice Ao74 t254.length co74)) (fun _ h_ => h_.1)))) hb); replace BK219 := Aside0.mk (blk_below (g := gb219) (o := .cells #[.int .i64 a0_0, .int .i64 a0_1, .slice A0_2 l0_2.length c0_2] 64 (0, 0)) (z6669.bf BK219) hb); replace BK220 := Aside0.mk (blk_below (g := gb220) (o := .cells #[.int .i64 a1_0, .int .i64 a1_1, .slice A1_2 l1_2.length c1_2] 64 (0, 0)) (z6669.bf BK220) hb); replace BK239 := Aside0.mk (blk_below (g := gb239) (o := .cells #[.int .i64 t233, .int .i64 t234, .slice Ao44 t235.length co44] 70 (0, 0)) (z6669.bf BK239) hb); replace BK245 := Aside0.mk (blk_below (g := gb245) (o := .cells #[.int .i64 t240, .int .i64 t241, .slice Ao54 t242.length co54] 70 (0, 0)) (z6669.bf BK245) hb); replace BK251 := Aside0.mk (blk_below (g := gb251) (o := .cells #[.int .i64 t246, .int .i64 t247, .slice Ao64 t248.length co64] 70 (0, 0)) (z6669.bf BK251) hb); replace BK258 := Aside0.mk (blk_below (g := gb258) (o := .cells #[.int .i64 t252, .int .i64 t253, .slice Ao74 t254.length co74] 70 (0, 0)) (by (with_reducible repeat (first | refine blk_drewN ?_ _ | refine blk_drew ?_ | refine blk_alloc ?_ _)); refine blk_put (cs := #[.int .i64 t252, .int .i64 t253, .slice none 0 0]) ?_ 2 _ rfl; (with_reducible repeat (first | refine blk_drewN ?_ _ | refine blk_drew ?_ | refine blk_alloc ?_ _)); refine blk_put (cs := #[.int .i64 t252, .int .i64 0, .slice none 0 0]) ?_ 1 _ rfl; (with_reducible repeat (first | refine blk_drewN ?_ _ | refine blk_drew ?_ | refine blk_alloc ?_ _)); refine blk_put (cs := #[.int .i64 0, .int .i64 0, .slice none 0 0]) ?_ 0 _ rfl; (with_reducible repeat (first | refine blk_drewN ?_ _ | refine blk_drew ?_ | refine blk_alloc ?_ _)); exact BK258.out) hb); replace HB := Aside0.mk (below_step (z6669.bl HB) hb); (try clear hb); (try clear hb2); (try clear hk); (try clear hi)))
     go_meet
     case rel => exact ⟨_, ((t257 != t238)), (by first | rfl | (simp; done) | (simp [*]; done)), H', ⟨by first | omega | exact Nat.le_refl _⟩, ⟨z6669.rl (Kd.R_mono HO237.out (fun _ hk => ⟨hk.1.1.2, ⟨hk.1.2, hk.2⟩⟩))⟩, ⟨z6669.rl (Kd.R_mono HO244.out (fun _ hk => ⟨hk.1.1.2, ⟨hk.1.2, hk.2⟩⟩))⟩, ⟨z6669.rl (Kd.R_mono HO250.out (fun _ hk => ⟨hk.1.1.2, ⟨hk.1.2, hk.2⟩⟩))⟩, ⟨z6669.rl (Kd.R_mono HO256.out (fun _ hk => ⟨hk.1.1.2, ⟨hk.1.2, hk.2⟩⟩))⟩, ⟨z6669.bk BK219⟩, ⟨z6669.bk BK220⟩, ⟨z6669.bk BK239⟩, ⟨z6669.bk BK245⟩, ⟨z6669.bk BK251⟩, ⟨z6669.bk BK258⟩, ⟨z6669.bl HB⟩⟩
    ·replace c76 := Bool.eq_false_iff.mpr c76
     subst c76
     have H1 : (laws_FnExactLaySheet.j0 k a2 t238 t257 true a0_0 a0_1 l0_2 a1_0 a1_1 l1_2 t233 t234 t235 t240 t241 t242 t246 t247 t248 t252 t253 t254) = some r := by rw [if_neg (show ¬ (false = true) by decide)] at H; exact H
     clear H
     have H := H1
     clear H1
     have H' := Aside0.mk H
     clear H
     have hnb89 := NB258_219.out
     have hnc89 := NB219_258.out
     have hnb90 := NB258_220.out
     have hnc90 := NB220_258.out
     have hnb91 := NB258_239.out
     have hnc91 := NB239_258.out
     have hnb92 := NB258_245.out
     have hnc92 := NB245_258.out
     have hnb93 := NB258_251.out
     have hnc93 := NB251_258.out
     have hcz94_0 : w67.cell? ⟨gb258, 0, none⟩ = some (.int .i64 0) := (blk_cell BK258.out 0).trans rfl
     have hcz94_1 : w67.cell? ⟨gb258, 1, none⟩ = some (.int .i64 0) := (blk_cell BK258.out 1).trans rfl
     have hcz94_2 : w67.cell? ⟨gb258, 2, none⟩ = some (.slice none 0 0) := (blk_cell BK258.out 2).trans rfl
     have hfz94_0 := blk_frozen BK258.out 0
     have hfz94_1 := blk_frozen BK258.out 1
     have hfz94_2 := blk_frozen BK258.out 2
     have hnb95 := NB239_219.out
     have hnc95 := NB219_239.out
     have hnb96 := NB239_220.out
     have hnc96 := NB220_239.out
     have hnb97 := NB239_245.out
     have hnc97 := NB245_239.out
     have hnb98 := NB239_251.out
     have hnc98 := NB251_239.out
     have hcz99_0 : w67.cell? ⟨gb239, 0, none⟩ = some (.int .i64 t233) := (blk_cell BK239.out 0).trans rfl
     have hcz99_1 : w67.cell? ⟨gb239, 1, none⟩ = some (.int .i64 t234) := (blk_cell BK239.out 1).trans rfl
     have hcz99_2 : w67.cell? ⟨gb239, 2, none⟩ = some (.slice Ao44 t235.length co44) := (blk_cell BK239.out 2).trans rfl
     have hfz99_0 := blk_frozen BK239.out 0
     have hfz99_1 := blk_frozen BK239.out 1
     have hfz99_2 := blk_frozen BK239.out 2
     go_wp2_with (first | ((with_reducible refine gate_callee (f := 43) rfl ?_); refine z6669.gl (some 51) rfl rfl Try.func43 (by kernel_rfl) rfl #[.agg #[.int .i64 t252, .int .i64 t253, .slice Ao74 t254.length co74], .agg #[.int .i64 t233, .int .i64 t234, .slice Ao44 t235.length co44]] rfl ?_; (with_reducible refine (laws_eqSheet.calls k t252 t253 _ _ t254 t233 t234 _ _ t235 false _ ?side1 ?side2 ?side3 ?side4 A75.out).mono ?_); (case side1 => refine (Kd.R_reads' (e := 54) (base := w.heap.size) (ok := fun k_ => (((((True ∧ some k_ ≠ (v226 : Value).ownBlock) ∧ some k_ ≠ (v231 : Value).ownBlock) ∧ some k_ ≠ (.slice Ao44 t235.length co44 : Value).ownBlock) ∧ some k_ ≠ (.slice Ao54 t242.length co54 : Value).ownBlock) ∧ some k_ ≠ (.slice Ao64 t248.length co64 : Value).ownBlock)) (n := t254.length) (c := co74) ?_).2.2; exact (z6669.rl ((Kd.R_mono (Kd.R_far (p := ⟨gb258, 2, none⟩) (Kd.R_far (p := ⟨gb258, 1, none⟩) (Kd.R_far (p := ⟨gb258, 0, none⟩) (Kd.R_types HO256.out BK258.out (by decide)) (fun _ hk => hk.2) (.int .i64 t252)) (fun _ hk => hk.2) (.int .i64 t253)) (fun _ hk => hk.2) (.slice Ao74 t254.length co74)) (fun _ h_ => h_.1))))); (case side2 => exact (Kd.R_reads' HO256.out).2.1); (case side3 => refine (Kd.R_reads' (e := 54) (base := w.heap.size) (ok := fun k_ => ((((some k_ ≠ (v226 : Value).ownBlock ∧ some k_ ≠ (v231 : Value).ownBlock) ∧ some k_ ≠ (.slice Ao54 t242.length co54 : Value).ownBlock) ∧ some k_ ≠ (.slice Ao64 t248.length co64 : Value).ownBlock) ∧ some k_ ≠ (.slice Ao74 t254.length co74 : Value).ownBlock)) (n := t235.length) (c := co44) ?_).2.2; exact (z6669.rl ((Kd.R_mono (Kd.R_far (p := ⟨gb258, 2, none⟩) (Kd.R_far (p := ⟨gb258, 1, none⟩) (Kd.R_far (p := ⟨gb258, 0, none⟩) (Kd.R_types HO237.out BK258.out (by decide)) (fun _ hk => hk.2) (.int .i64 t252)) (fun _ hk => hk.2) (.int .i64 t253)) (fun _ hk => hk.2) (.slice Ao74 t254.length co74)) (fun _ h_ => h_.1))))); (case side4 => exact (Kd.R_reads' HO237.out).2.1); rintro e w100 ⟨rfl, hb⟩; refine ⟨_, rfl, ?_⟩; replace HO227 := Aside0.mk (Kd.R_below (z6669.rl ((Kd.R_mono (Kd.R_far (p := ⟨gb258, 2, none⟩) (Kd.R_far (p := ⟨gb258, 1, none⟩) (Kd.R_far (p := ⟨gb258, 0, none⟩) (Kd.R_types HO227.out BK258.out (by decide)) (fun _ hk => hk.2) (.int .i64 t252)) (fun _ hk => hk.2) (.int .i64 t253)) (fun _ hk => hk.2) (.slice Ao74 t254.length co74)) (fun _ h_ => h_.1)))) hb); replace HO232 := Aside0.mk (Kd.R_below (z6669.rl ((Kd.R_mono (Kd.R_far (p := ⟨gb258, 2, none⟩) (Kd.R_far (p := ⟨gb258, 1, none⟩) (Kd.R_far (p := ⟨gb258, 0, none⟩) (Kd.R_types HO232.out BK258.out (by decide)) (fun _ hk => hk.2) (.int .i64 t252)) (fun _ hk => hk.2) (.int .i64 t253)) (fun _ hk => hk.2) (.slice Ao74 t254.length co74)) (fun _ h_ => h_.1)))) hb); replace HO237 := Aside0.mk (Kd.R_below (z6669.rl ((Kd.R_mono (Kd.R_far (p := ⟨gb258, 2, none⟩) (Kd.R_far (p := ⟨gb258, 1, none⟩) (Kd.R_far (p := ⟨gb258, 0, none⟩) (Kd.R_types HO237.out BK258.out (by decide)) (fun _ hk => hk.2) (.int .i64 t252)) (fun _ hk => hk.2) (.int .i64 t253)) (fun _ hk => hk.2) (.slice Ao74 t254.length co74)) (fun _ h_ => h_.1)))) hb); replace HO244 := Aside0.mk (Kd.R_below (z6669.rl ((Kd.R_mono (Kd.R_far (p := ⟨gb258, 2, none⟩) (Kd.R_far (p := ⟨gb258, 1, none⟩) (Kd.R_far (p := ⟨gb258, 0, none⟩) (Kd.R_types HO244.out BK258.out (by decide)) (fun _ hk => hk.2) (.int .i64 t252)) (fun _ hk => hk.2) (.int .i64 t253)) (fun _ hk => hk.2) (.slice Ao74 t254.length co74)) (fun _ h_ => h_.1)))) hb); replace HO250 := Aside0.mk (Kd.R_below (z6669.rl ((Kd.R_mono (Kd.R_far (p := ⟨gb258, 2, none⟩) (Kd.R_far (p := ⟨gb258, 1, none⟩) (Kd.R_far (p := ⟨gb258, 0, none⟩) (Kd.R_types HO250.out BK258.out (by decide)) (fun _ hk => hk.2) (.int .i64 t252)) (fun _ hk => hk.2) (.int .i64 t253)) (fun _ hk => hk.2) (.slice Ao74 t254.length co74)) (fun _ h_ => h_.1)))) hb); replace HO256 := Aside0.mk (Kd.R_below (z6669.rl ((Kd.R_mono (Kd.R_far (p := ⟨gb258, 2, none⟩) (Kd.R_far (p := ⟨gb258, 1, none⟩) (Kd.R_far (p := ⟨gb258, 0, none⟩) (Kd.R_types HO256.out BK258.out (by decide)) (fun _ hk => hk.2) (.int .i64 t252)) (fun _ hk => hk.2) (.int .i64 t253)) (fun _ hk => hk.2) (.slice Ao74 t254.length co74)) (fun _ h_ => h_.1)))) hb); replace BK219 := Aside0.mk (blk_below (g := gb219) (o := .cells #[.int .i64 a0_0, .int .i64 a0_1, .slice A0_2 l0_2.length c0_2] 64 (0, 0)) (z6669.bf BK219) hb); replace BK220 := Aside0.mk (blk_below (g := gb220) (o := .cells #[.int .i64 a1_0, .int .i64 a1_1, .slice A1_2 l1_2.length c1_2] 64 (0, 0)) (z6669.bf BK220) hb); replace BK239 := Aside0.mk (blk_below (g := gb239) (o := .cells #[.int .i64 t233, .int .i64 t234, .slice Ao44 t235.length co44] 70 (0, 0)) (z6669.bf BK239) hb); replace BK245 := Aside0.mk (blk_below (g := gb245) (o := .cells #[.int .i64 t240, .int .i64 t241, .slice Ao54 t242.length co54] 70 (0, 0)) (z6669.bf BK245) hb); replace BK251 := Aside0.mk (blk_below (g := gb251) (o := .cells #[.int .i64 t246, .int .i64 t247, .slice Ao64 t248.length co64] 70 (0, 0)) (z6669.bf BK251) hb); replace BK258 := Aside0.mk (blk_below (g := gb258) (o := .cells #[.int .i64 t252, .int .i64 t253, .slice Ao74 t254.length co74] 70 (0, 0)) (by (with_reducible repeat (first | refine blk_drewN ?_ _ | refine blk_drew ?_ | refine blk_alloc ?_ _)); refine blk_put (cs := #[.int .i64 t252, .int .i64 t253, .slice none 0 0]) ?_ 2 _ rfl; (with_reducible repeat (first | refine blk_drewN ?_ _ | refine blk_drew ?_ | refine blk_alloc ?_ _)); refine blk_put (cs := #[.int .i64 t252, .int .i64 0, .slice none 0 0]) ?_ 1 _ rfl; (with_reducible repeat (first | refine blk_drewN ?_ _ | refine blk_drew ?_ | refine blk_alloc ?_ _)); refine blk_put (cs := #[.int .i64 0, .int .i64 0, .slice none 0 0]) ?_ 0 _ rfl; (with_reducible repeat (first | refine blk_drewN ?_ _ | refine blk_drew ?_ | refine blk_alloc ?_ _)); exact BK258.out) hb); replace HB := Aside0.mk (below_step (z6669.bl HB) hb); (try clear hb); (try clear hb2); (try clear hk); (try clear hi)))
     go_meet
     case rel => exact ⟨_, (true), (by first | rfl | (simp; done) | (simp [*]; done)), H', ⟨by first | omega | exact Nat.le_refl _⟩, ⟨z6669.rl (Kd.R_mono HO237.out (fun _ hk => ⟨hk.1.1.2, ⟨hk.1.2, hk.2⟩⟩))⟩, ⟨z6669.rl (Kd.R_mono HO244.out (fun _ hk => ⟨hk.1.1.2, ⟨hk.1.2, hk.2⟩⟩))⟩, ⟨z6669.rl (Kd.R_mono HO250.out (fun _ hk => ⟨hk.1.1.2, ⟨hk.1.2, hk.2⟩⟩))⟩, ⟨z6669.rl (Kd.R_mono HO256.out (fun _ hk => ⟨hk.1.1.2, ⟨hk.1.2, hk.2⟩⟩))⟩, ⟨z6669.bk BK219⟩, ⟨z6669.bk BK220⟩, ⟨z6669.bk BK239⟩, ⟨z6669.bk BK245⟩, ⟨z6669.bk BK251⟩, ⟨z6669.bk BK258⟩, ⟨z6669.bl HB⟩⟩
   case rest =>
    clear HC26
    try clear c1
    try clear p2
    try clear c4
    try clear c5
    try clear c6
    try clear c7
    try clear c8
    try clear c9
    try clear c40
    try clear c43
    try clear c46
    try clear c47
    try clear c48
    try clear c50
    try clear c51
    try clear c52
    try clear c55
    try clear c59
    try clear c60
    try clear c61
    try clear c62
    try clear c68
    try clear c69
    try clear c70
    try clear c71
    try clear c72
    try clear c76
    try clear c77
    try clear c78
    try clear c79
    try clear c80
    try clear c81
    try clear c83
    try clear c84
    try clear c85
    try clear c86
    try clear c89
    try clear c90
    try clear c91
    try clear c92
    try clear c93
    try clear c95
    try clear c96
    try clear c97
    try clear c98
    try clear hcz47_0
    try clear hcz47_1
    try clear hcz47_2
    try clear hcz53_0
    try clear hcz53_1
    try clear hcz53_2
    try clear hcz56_0
    try clear hcz56_1
    try clear hcz56_2
    try clear hcz63_0
    try clear hcz63_1
    try clear hcz63_2
    try clear hcz65_0
    try clear hcz65_1
    try clear hcz65_2
    try clear hcz73_0
    try clear hcz73_1
    try clear hcz73_2
    try clear hcz82_0
    try clear hcz82_1
    try clear hcz82_2
    try clear hcz87_0
    try clear hcz87_1
    try clear hcz87_2
    try clear hcz94_0
    try clear hcz94_1
    try clear hcz94_2
    try clear hcz99_0
    try clear hcz99_1
    try clear hcz99_2
    try clear hfz47_0
    try clear hfz47_1
    try clear hfz47_2
    try clear hfz53_0
    try clear hfz53_1
    try clear hfz53_2
    try clear hfz56_0
    try clear hfz56_1
    try clear hfz56_2
    try clear hfz63_0
    try clear hfz63_1
    try clear hfz63_2
    try clear hfz65_0
    try clear hfz65_1
    try clear hfz65_2
    try clear hfz73_0
    try clear hfz73_1
    try clear hfz73_2
    try clear hfz82_0
    try clear hfz82_1
    try clear hfz82_2
    try clear hfz87_0
    try clear hfz87_1
    try clear hfz87_2
    try clear hfz94_0
    try clear hfz94_1
    try clear hfz94_2
    try clear hfz99_0
    try clear hfz99_1
    try clear hfz99_2
    obtain ⟨kq, x57_25, rfl, HA, HJ25, HO_240002, HO_246002, HO_252002, HO_259002, BK219, BK220, BK239, BK245, BK251, BK258, HB⟩ := hcut
    cases kq with
    | zero => exact absurd HA.out (by simp [laws_FnExactLaySheet.j0])
    | succ kj25 =>
     have H := HA.out
     clear HA
     simp only [laws_FnExactLaySheet.j0] at H
     by_cases c101 : x57_25 = true
     ·subst c101
      have H1 : (some false) = some r := by rw [if_pos rfl] at H; exact H
      clear H
      have H := H1
      clear H1
      exact absurd (Option.some.inj H) (by rw [hrt]; decide)
     ·replace c101 := Bool.eq_false_iff.mpr c101
      subst c101
      have H1 : ((laws_toSheet.f kj25 a0_0 a0_1 l0_2).bind fun bt260 => ((laws_eqSheet.f kj25 t240 t241 t242 bt260.1 bt260.2.1 bt260.2.2).bind fun t265 => (if t265 = true then ((laws_toSheet.f kj25 a1_0 a1_1 l1_2).bind fun bt266 => ((laws_eqSheet.f kj25 t246 t247 t248 bt266.1 bt266.2.1 bt266.2.2).bind fun t271 => (if t271 = true then ((laws_markSheet.f kj25 t240 t241 t242 1).bind fun bt272 => ((laws_markSheet.f kj25 t246 t247 t248 bt272.1).bind fun bt274 => (if bt274.1 < 0 then (laws_FnExactLaySheet.j1 kj25 a2 t238 true a0_0 a0_1 l0_2 a1_0 a1_1 l1_2 t233 t234 t235 t252 t253 t254) else ((laws_eqSheet.f kj25 t252 t253 t254 t233 t234 t235).bind fun t276 => (if t276 = true then (laws_FnExactLaySheet.j1 kj25 a2 t238 (t257 != t238) a0_0 a0_1 l0_2 a1_0 a1_1 l1_2 t233 t234 t235 t252 t253 t254) else (laws_FnExactLaySheet.j1 kj25 a2 t238 true a0_0 a0_1 l0_2 a1_0 a1_1 l1_2 t233 t234 t235 t252 t253 t254)))))) else (some false)))) else (some false)))) = some r := by rw [if_neg (show ¬ (false = true) by decide)] at H; exact H
      clear H
      have H := H1
      clear H1
      replace H := Option.bind_eq_some_iff.mp H
      obtain ⟨⟨t260, t261, t262⟩, A1020, H⟩ := H
      replace H : ((laws_eqSheet.f kj25 t240 t241 t242 t260 t261 t262).bind fun t265 => (if t265 = true then ((laws_toSheet.f kj25 a1_0 a1_1 l1_2).bind fun bt266 => ((laws_eqSheet.f kj25 t246 t247 t248 bt266.1 bt266.2.1 bt266.2.2).bind fun t271 => (if t271 = true then ((laws_markSheet.f kj25 t240 t241 t242 1).bind fun bt272 => ((laws_markSheet.f kj25 t246 t247 t248 bt272.1).bind fun bt274 => (if bt274.1 < 0 then (laws_FnExactLaySheet.j1 kj25 a2 t238 true a0_0 a0_1 l0_2 a1_0 a1_1 l1_2 t233 t234 t235 t252 t253 t254) else ((laws_eqSheet.f kj25 t252 t253 t254 t233 t234 t235).bind fun t276 => (if t276 = true then (laws_FnExactLaySheet.j1 kj25 a2 t238 (t257 != t238) a0_0 a0_1 l0_2 a1_0 a1_1 l1_2 t233 t234 t235 t252 t253 t254) else (laws_FnExactLaySheet.j1 kj25 a2 t238 true a0_0 a0_1 l0_2 a1_0 a1_1 l1_2 t233 t234 t235 t252 t253 t254)))))) else (some false)))) else (some false))) = some r := H
      have A102 := Aside0.mk A1020
      clear A1020
      replace H := Option.bind_eq_some_iff.mp H
      obtain ⟨t265, A1030, H⟩ := H
      replace H : (if t265 = true then ((laws_toSheet.f kj25 a1_0 a1_1 l1_2).bind fun bt266 => ((laws_eqSheet.f kj25 t246 t247 t248 bt266.1 bt266.2.1 bt266.2.2).bind fun t271 => (if t271 = true then ((laws_markSheet.f kj25 t240 t241 t242 1).bind fun bt272 => ((laws_markSheet.f kj25 t246 t247 t248 bt272.1).bind fun bt274 => (if bt274.1 < 0 then (laws_FnExactLaySheet.j1 kj25 a2 t238 true a0_0 a0_1 l0_2 a1_0 a1_1 l1_2 t233 t234 t235 t252 t253 t254) else ((laws_eqSheet.f kj25 t252 t253 t254 t233 t234 t235).bind fun t276 => (if t276 = true then (laws_FnExactLaySheet.j1 kj25 a2 t238 (t257 != t238) a0_0 a0_1 l0_2 a1_0 a1_1 l1_2 t233 t234 t235 t252 t253 t254) else (laws_FnExactLaySheet.j1 kj25 a2 t238 true a0_0 a0_1 l0_2 a1_0 a1_1 l1_2 t233 t234 t235 t252 t253 t254)))))) else (some false)))) else (some false)) = some r := H
      have A103 := Aside0.mk A1030
      clear A1030
      by_cases c104 : t265 = true
      ·subst c104
       have H1 : ((laws_toSheet.f kj25 a1_0 a1_1 l1_2).bind fun bt266 => ((laws_eqSheet.f kj25 t246 t247 t248 bt266.1 bt266.2.1 bt266.2.2).bind fun t271 => (if t271 = true then ((laws_markSheet.f kj25 t240 t241 t242 1).bind fun bt272 => ((laws_markSheet.f kj25 t246 t247 t248 bt272.1).bind fun bt274 => (if bt274.1 < 0 then (laws_FnExactLaySheet.j1 kj25 a2 t238 true a0_0 a0_1 l0_2 a1_0 a1_1 l1_2 t233 t234 t235 t252 t253 t254) else ((laws_eqSheet.f kj25 t252 t253 t254 t233 t234 t235).bind fun t276 => (if t276 = true then (laws_FnExactLaySheet.j1 kj25 a2 t238 (t257 != t238) a0_0 a0_1 l0_2 a1_0 a1_1 l1_2 t233 t234 t235 t252 t253 t254) else (laws_FnExactLaySheet.j1 kj25 a2 t238 true a0_0 a0_1 l0_2 a1_0 a1_1 l1_2 t233 t234 t235 t252 t253 t254)))))) else (some false)))) = some r := by rw [if_pos rfl] at H; exact H
       clear H
       have H := H1
       clear H1
       replace H := Option.bind_eq_some_iff.mp H
       obtain ⟨⟨t266, t267, t268⟩, A1050, H⟩ := H
       replace H : ((laws_eqSheet.f kj25 t246 t247 t248 t266 t267 t268).bind fun t271 => (if t271 = true then ((laws_markSheet.f kj25 t240 t241 t242 1).bind fun bt272 => ((laws_markSheet.f kj25 t246 t247 t248 bt272.1).bind fun bt274 => (if bt274.1 < 0 then (laws_FnExactLaySheet.j1 kj25 a2 t238 true a0_0 a0_1 l0_2 a1_0 a1_1 l1_2 t233 t234 t235 t252 t253 t254) else ((laws_eqSheet.f kj25 t252 t253 t254 t233 t234 t235).bind fun t276 => (if t276 = true then (laws_FnExactLaySheet.j1 kj25 a2 t238 (t257 != t238) a0_0 a0_1 l0_2 a1_0 a1_1 l1_2 t233 t234 t235 t252 t253 t254) else (laws_FnExactLaySheet.j1 kj25 a2 t238 true a0_0 a0_1 l0_2 a1_0 a1_1 l1_2 t233 t234 t235 t252 t253 t254)))))) else (some false))) = some r := H
       have A105 := Aside0.mk A1050
       clear A1050
       replace H := Option.bind_eq_some_iff.mp H
       obtain ⟨t271, A1060, H⟩ := H
       replace H : (if t271 = true then ((laws_markSheet.f kj25 t240 t241 t242 1).bind fun bt272 => ((laws_markSheet.f kj25 t246 t247 t248 bt272.1).bind fun bt274 => (if bt274.1 < 0 then (laws_FnExactLaySheet.j1 kj25 a2 t238 true a0_0 a0_1 l0_2 a1_0 a1_1 l1_2 t233 t234 t235 t252 t253 t254) else ((laws_eqSheet.f kj25 t252 t253 t254 t233 t234 t235).bind fun t276 => (if t276 = true then (laws_FnExactLaySheet.j1 kj25 a2 t238 (t257 != t238) a0_0 a0_1 l0_2 a1_0 a1_1 l1_2 t233 t234 t235 t252 t253 t254) else (laws_FnExactLaySheet.j1 kj25 a2 t238 true a0_0 a0_1 l0_2 a1_0 a1_1 l1_2 t233 t234 t235 t252 t253 t254)))))) else (some false)) = some r := H
       have A106 := Aside0.mk A1060
       clear A1060
       by_cases c107 : t271 = true
       ·subst c107
        have H1 : ((laws_markSheet.f kj25 t240 t241 t242 1).bind fun bt272 => ((laws_markSheet.f kj25 t246 t247 t248 bt272.1).bind fun bt274 => (if bt274.1 < 0 then (laws_FnExactLaySheet.j1 kj25 a2 t238 true a0_0 a0_1 l0_2 a1_0 a1_1 l1_2 t233 t234 t235 t252 t253 t254) else ((laws_eqSheet.f kj25 t252 t253 t254 t233 t234 t235).bind fun t276 => (if t276 = true then (laws_FnExactLaySheet.j1 kj25 a2 t238 (t257 != t238) a0_0 a0_1 l0_2 a1_0 a1_1 l1_2 t233 t234 t235 t252 t253 t254) else (laws_FnExactLaySheet.j1 kj25 a2 t238 true a0_0 a0_1 l0_2 a1_0 a1_1 l1_2 t233 t234 t235 t252 t253 t254)))))) = some r := by rw [if_pos rfl] at H; exact H
        clear H
        have H := H1
        clear H1
        replace H := Option.bind_eq_some_iff.mp H
        obtain ⟨⟨t272, t273⟩, A1080, H⟩ := H
        replace H : ((laws_markSheet.f kj25 t246 t247 t248 t272).bind fun bt274 => (if bt274.1 < 0 then (laws_FnExactLaySheet.j1 kj25 a2 t238 true a0_0 a0_1 l0_2 a1_0 a1_1 l1_2 t233 t234 t235 t252 t253 t254) else ((laws_eqSheet.f kj25 t252 t253 t254 t233 t234 t235).bind fun t276 => (if t276 = true then (laws_FnExactLaySheet.j1 kj25 a2 t238 (t257 != t238) a0_0 a0_1 l0_2 a1_0 a1_1 l1_2 t233 t234 t235 t252 t253 t254) else (laws_FnExactLaySheet.j1 kj25 a2 t238 true a0_0 a0_1 l0_2 a1_0 a1_1 l1_2 t233 t234 t235 t252 t253 t254))))) = some r := H
        have A108 := Aside0.mk A1080
        clear A1080
        replace H := Option.bind_eq_some_iff.mp H
        obtain ⟨⟨t274, t275⟩, A1090, H⟩ := H
        replace H : (if t274 < 0 then (laws_FnExactLaySheet.j1 kj25 a2 t238 true a0_0 a0_1 l0_2 a1_0 a1_1 l1_2 t233 t234 t235 t252 t253 t254) else ((laws_eqSheet.f kj25 t252 t253 t254 t233 t234 t235).bind fun t276 => (if t276 = true then (laws_FnExactLaySheet.j1 kj25 a2 t238 (t257 != t238) a0_0 a0_1 l0_2 a1_0 a1_1 l1_2 t233 t234 t235 t252 t253 t254) else (laws_FnExactLaySheet.j1 kj25 a2 t238 true a0_0 a0_1 l0_2 a1_0 a1_1 l1_2 t233 t234 t235 t252 t253 t254)))) = some r := H
        have A109 := Aside0.mk A1090
        clear A1090
        have HC110 := Aside0.mk H
        clear H
        try go_wp2
        replace HO_240002 := Aside0.mk (Kd.R_drew HO_240002.out)
        replace HO_246002 := Aside0.mk (Kd.R_drew HO_246002.out)
        replace HO_252002 := Aside0.mk (Kd.R_drew HO_252002.out)
        replace HO_259002 := Aside0.mk (Kd.R_drew HO_259002.out)
        replace BK219 := Aside0.mk (blk_drew BK219.out)
        replace BK220 := Aside0.mk (blk_drew BK220.out)
        replace BK239 := Aside0.mk (blk_drew BK239.out)
        replace BK245 := Aside0.mk (blk_drew BK245.out)
        replace BK251 := Aside0.mk (blk_drew BK251.out)
        replace BK258 := Aside0.mk (blk_drew BK258.out)
        replace HB := Aside0.mk (below_drew1 HB.out)
        refine start_ (n := 5) (S := fun w' => w'.cell? ⟨gb245, 0, none⟩ = some (.int .i64 t240) ∧ w'.cell? ⟨gb245, 1, none⟩ = some (.int .i64 t241) ∧ w'.cell? ⟨gb245, 2, none⟩ = some (.slice Ao54 t242.length co54) ∧ w'.cell? ⟨gb219, 0, none⟩ = some (.int .i64 a0_0) ∧ w'.cell? ⟨gb219, 1, none⟩ = some (.int .i64 a0_1) ∧ w'.cell? ⟨gb219, 2, none⟩ = some (.slice A0_2 l0_2.length c0_2)) (ds := []) #[false, false, false, false, false] (by kernel_rfl) rfl rfl ⟨(blk_cell BK245.out 0).trans rfl, (blk_cell BK245.out 1).trans rfl, (blk_cell BK245.out 2).trans rfl, (blk_cell BK219.out 0).trans rfl, (blk_cell BK219.out 1).trans rfl, (blk_cell BK219.out 2).trans rfl⟩ (fun hHeld => ?_)
        generalize wc.drew = w111 at HO_240002 HO_246002 HO_252002 HO_259002 BK219 BK220 BK239 BK245 BK251 BK258 HB hHeld ⊢
        refine take_ (i := 0) (N := some 58) (v := ?_) (a' := ?_) #[true, false, false, false, false] rfl rfl (by kernel_rfl) (fun _ _ _ h => h) (Or.inl ⟨by rfl, ?_⟩) hHeld ?_ ?_
        rotate_left
        ·rintro w' ⟨s0, s1, s2, s3, s4, s5⟩
         go_simp
         with_reducible rfl
        rotate_left
        ·simp only [Act.put, List.setIfInBounds_toArray, List.set_cons_zero, List.set_cons_succ, i64_w, i32_w]
         rfl
        refine take_ (i := 1) (N := some 59) (v := ?_) (a' := ?_) #[true, true, false, false, false] rfl rfl (by kernel_rfl) (fun _ _ _ h => h) (Or.inl ⟨by rfl, ?_⟩) hHeld ?_ ?_
        rotate_left
        ·rintro w' ⟨s0, s1, s2, s3, s4, s5⟩
         go_simp
         with_reducible rfl
        rotate_left
        ·simp only [Act.put, List.setIfInBounds_toArray, List.set_cons_zero, List.set_cons_succ, i64_w, i32_w]
         rfl
        refine one_ (i := 2) (N := some 60) #[true, true, true, false, false] rfl rfl (by kernel_rfl) (by decide) (fun K hK => ?_)
        refine z6669.gs Try.func40 (by kernel_rfl) rfl #[.agg #[.int .i64 a0_0, .int .i64 a0_1, .slice A0_2 l0_2.length c0_2]] (by rfl) rfl rfl ?_
        with_reducible refine (laws_toSheet.calls kj25 a0_0 a0_1 _ _ l0_2 t260 t261 t262 _ ?side1 ?side2 A102.out).mono ?_
        (case side1 => repeat (first | exact (Kd.C_below HR0_2.out HB.out) | (with_reducible refine Kd.C_alloc ?_ _) | (with_reducible refine Kd.C_drewN ?_ _) | (with_reducible refine Kd.C_drew ?_)))
        (case side2 => exact HC0_2.out)
        rintro e w112 ⟨v263, rfl, ho0, hb⟩
        refine ⟨_, rfl, ?_⟩
        have HO264 := Aside0.mk (Kd.R_lower (Kd.R_new' (Kd.R_new' (Kd.R_new' (Kd.R_new' ho0 (Kd.R_lt (z6669.rl HO_240002.out))) (Kd.R_lt (z6669.rl HO_246002.out))) (Kd.R_lt (z6669.rl HO_252002.out))) (Kd.R_lt (z6669.rl HO_259002.out))) (below_size (z6669.bl HB)))
        replace HO_240002 := Aside0.mk (Kd.R_elder' (z6669.rl HO_240002.out) (Kd.R_base ho0) hb)
        replace HO_246002 := Aside0.mk (Kd.R_elder' (z6669.rl HO_246002.out) (Kd.R_base ho0) hb)
        replace HO_252002 := Aside0.mk (Kd.R_elder' (z6669.rl HO_252002.out) (Kd.R_base ho0) hb)
        replace HO_259002 := Aside0.mk (Kd.R_elder' (z6669.rl HO_259002.out) (Kd.R_base ho0) hb)
        replace BK219 := z6669.bb BK219 hb
        replace BK220 := z6669.bb BK220 hb
        replace BK239 := z6669.bb BK239 hb
        replace BK245 := z6669.bb BK245 hb
        replace BK251 := z6669.bb BK251 hb
        replace BK258 := z6669.bb BK258 hb
        replace HB := Aside0.mk (below_step (z6669.bl HB) hb)
        (try clear hb)
        (try clear hb2)
        (try clear hk)
        (try clear hi)
        (try clear ho0)
        obtain ⟨Ao113, co113, eo113⟩ := Kd.R_slice HO264.out
        (first | subst eo113 | (injection eo113 with f1_ f2_ f3_; have f4_ := f1_.symm; have f5_ := f3_.symm; clear f1_ f2_ f3_; subst f4_; subst f5_))
        refine hK.out _ _ ⟨(blk_cell BK245.out 0).trans rfl, (blk_cell BK245.out 1).trans rfl, (blk_cell BK245.out 2).trans rfl, (blk_cell BK219.out 0).trans rfl, (blk_cell BK219.out 1).trans rfl, (blk_cell BK219.out 2).trans rfl⟩ (fun hHeld => ?_)
        clear hK K
        refine norm_ (a' := ?_) ?_ ?_
        rotate_left
        ·show Act.put _ (some 60) _ = _
         simp only [Act.put, List.setIfInBounds_toArray, List.set_cons_zero, List.set_cons_succ, i64_w, i32_w]
         rfl
        refine one_ (i := 3) (N := some 61) #[true, true, true, true, false] rfl rfl (by kernel_rfl) (by decide) (fun K hK => ?_)
        refine z6669.gs Try.func43 (by kernel_rfl) rfl #[.agg #[.int .i64 t240, .int .i64 t241, .slice Ao54 t242.length co54], .agg #[.int .i64 t260, .int .i64 t261, .slice Ao113 t262.length co113]] (by rfl) rfl rfl ?_
        with_reducible refine (laws_eqSheet.calls kj25 t240 t241 _ _ t242 t260 t261 _ _ t262 true _ ?side1 ?side2 ?side3 ?side4 A103.out).mono ?_
        (case side1 => repeat (first | exact (Kd.R_reads' HO_246002.out).2.2 | (with_reducible refine Kd.C_alloc ?_ _) | (with_reducible refine Kd.C_drewN ?_ _) | (with_reducible refine Kd.C_drew ?_)))
        (case side2 => exact (Kd.R_reads' HO_246002.out).2.1)
        (case side3 => repeat (first | exact (Kd.R_reads' HO264.out).2.2 | (with_reducible refine Kd.C_alloc ?_ _) | (with_reducible refine Kd.C_drewN ?_ _) | (with_reducible refine Kd.C_drew ?_)))
        (case side4 => exact (Kd.R_reads' HO264.out).2.1)
        rintro e w114 ⟨rfl, hb⟩
        refine ⟨_, rfl, ?_⟩
        replace HO_240002 := z6669.rb HO_240002 hb
        replace HO_246002 := z6669.rb HO_246002 hb
        replace HO_252002 := z6669.rb HO_252002 hb
        replace HO_259002 := z6669.rb HO_259002 hb
        replace HO264 := z6669.rb HO264 hb
        replace BK219 := z6669.bb BK219 hb
        replace BK220 := z6669.bb BK220 hb
        replace BK239 := z6669.bb BK239 hb
        replace BK245 := z6669.bb BK245 hb
        replace BK251 := z6669.bb BK251 hb
        replace BK258 := z6669.bb BK258 hb
        replace HB := Aside0.mk (below_step (z6669.bl HB) hb)
        (try clear hb)
        (try clear hb2)
        (try clear hk)
        (try clear hi)
        refine hK.out _ _ ⟨(blk_cell BK245.out 0).trans rfl, (blk_cell BK245.out 1).trans rfl, (blk_cell BK245.out 2).trans rfl, (blk_cell BK219.out 0).trans rfl, (blk_cell BK219.out 1).trans rfl, (blk_cell BK219.out 2).trans rfl⟩ (fun hHeld => ?_)
        clear hK K
        refine norm_ (a' := ?_) ?_ ?_
        rotate_left
        ·show Act.put _ (some 61) _ = _
         simp only [Act.put, List.setIfInBounds_toArray, List.set_cons_zero, List.set_cons_succ, i64_w, i32_w]
         rfl
        refine pure_ (i := 4) (N := some 62) (v := ?_) (a' := ?_) #[true, true, true, true, true] rfl rfl (by kernel_rfl) (fun _ _ _ h => h) (Or.inl ⟨by rfl, ?_⟩) ?_ ?_
        rotate_left
        ·intro w'
         go_simp
         with_reducible rfl
        rotate_left
        ·simp only [Act.put, List.setIfInBounds_toArray, List.set_cons_zero, List.set_cons_succ, i64_w, i32_w]
         rfl
        refine done_ (by kernel_rfl) ?_
        try go_wp2
        replace HO_240002 := Aside0.mk (Kd.R_drew HO_240002.out)
        replace HO_246002 := Aside0.mk (Kd.R_drew HO_246002.out)
        replace HO_252002 := Aside0.mk (Kd.R_drew HO_252002.out)
        replace HO_259002 := Aside0.mk (Kd.R_drew HO_259002.out)
        replace HO264 := Aside0.mk (Kd.R_drew HO264.out)
        replace BK219 := Aside0.mk (blk_drew BK219.out)
        replace BK220 := Aside0.mk (blk_drew BK220.out)
        replace BK239 := Aside0.mk (blk_drew BK239.out)
        replace BK245 := Aside0.mk (blk_drew BK245.out)
        replace BK251 := Aside0.mk (blk_drew BK251.out)
        replace BK258 := Aside0.mk (blk_drew BK258.out)
        replace HB := Aside0.mk (below_drew1 HB.out)
        refine start_ (n := 5) (S := fun w' => w'.cell? ⟨gb251, 0, none⟩ = some (.int .i64 t246) ∧ w'.cell? ⟨gb251, 1, none⟩ = some (.int .i64 t247) ∧ w'.cell? ⟨gb251, 2, none⟩ = some (.slice Ao64 t248.length co64) ∧ w'.cell? ⟨gb220, 0, none⟩ = some (.int .i64 a1_0) ∧ w'.cell? ⟨gb220, 1, none⟩ = some (.int .i64 a1_1) ∧ w'.cell? ⟨gb220, 2, none⟩ = some (.slice A1_2 l1_2.length c1_2)) (ds := []) #[false, false, false, false, false] (by kernel_rfl) rfl rfl ⟨(blk_cell BK251.out 0).trans rfl, (blk_cell BK251.out 1).trans rfl, (blk_cell BK251.out 2).trans rfl, (blk_cell BK220.out 0).trans rfl, (blk_cell BK220.out 1).trans rfl, (blk_cell BK220.out 2).trans rfl⟩ (fun hHeld => ?_)
        generalize w114.drew = w115 at HO_240002 HO_246002 HO_252002 HO_259002 HO264 BK219 BK220 BK239 BK245 BK251 BK258 HB hHeld ⊢
        refine take_ (i := 0) (N := some 63) (v := ?_) (a' := ?_) #[true, false, false, false, false] rfl rfl (by kernel_rfl) (fun _ _ _ h => h) (Or.inl ⟨by rfl, ?_⟩) hHeld ?_ ?_
        rotate_left
        ·rintro w' ⟨s0, s1, s2, s3, s4, s5⟩
         go_simp
         with_reducible rfl
        rotate_left
        ·simp only [Act.put, List.setIfInBounds_toArray, List.set_cons_zero, List.set_cons_succ, i64_w, i32_w]
         rfl
        refine take_ (i := 1) (N := some 64) (v := ?_) (a' := ?_) #[true, true, false, false, false] rfl rfl (by kernel_rfl) (fun _ _ _ h => h) (Or.inl ⟨by rfl, ?_⟩) hHeld ?_ ?_
        rotate_left
        ·rintro w' ⟨s0, s1, s2, s3, s4, s5⟩
         go_simp
         with_reducible rfl
        rotate_left
        ·simp only [Act.put, List.setIfInBounds_toArray, List.set_cons_zero, List.set_cons_succ, i64_w, i32_w]
         rfl
        refine one_ (i := 2) (N := some 65) #[true, true, true, false, false] rfl rfl (by kernel_rfl) (by decide) (fun K hK => ?_)
        refine z6669.gs Try.func40 (by kernel_rfl) rfl #[.agg #[.int .i64 a1_0, .int .i64 a1_1, .slice A1_2 l1_2.length c1_2]] (by rfl) rfl rfl ?_
        with_reducible refine (laws_toSheet.calls kj25 a1_0 a1_1 _ _ l1_2 t266 t267 t268 _ ?side1 ?side2 A105.out).mono ?_
        (case side1 => repeat (first | exact (Kd.C_below HR1_2.out HB.out) | (with_reducible refine Kd.C_alloc ?_ _) | (with_reducible refine Kd.C_drewN ?_ _) | (with_reducible refine Kd.C_drew ?_)))
        (case side2 => exact HC1_2.out)
        rintro e w116 ⟨v269, rfl, ho0, hb⟩
        refine ⟨_, rfl, ?_⟩
        have HO270 := Aside0.mk (Kd.R_lower (Kd.R_new' (Kd.R_new' (Kd.R_new' (Kd.R_new' (Kd.R_new' ho0 (Kd.R_lt (z6669.rl HO_240002.out))) (Kd.R_lt (z6669.rl HO_246002.out))) (Kd.R_lt (z6669.rl HO_252002.out))) (Kd.R_lt (z6669.rl HO_259002.out))) (Kd.R_lt (z6669.rl HO264.out))) (below_size (z6669.bl HB)))
        replace HO_240002 := Aside0.mk (Kd.R_elder' (z6669.rl HO_240002.out) (Kd.R_base ho0) hb)
        replace HO_246002 := Aside0.mk (Kd.R_elder' (z6669.rl HO_246002.out) (Kd.R_base ho0) hb)
        replace HO_252002 := Aside0.mk (Kd.R_elder' (z6669.rl HO_252002.out) (Kd.R_base ho0) hb)
        replace HO_259002 := Aside0.mk (Kd.R_elder' (z6669.rl HO_259002.out) (Kd.R_base ho0) hb)
        replace HO264 := Aside0.mk (Kd.R_elder' (z6669.rl HO264.out) (Kd.R_base ho0) hb)
        replace BK219 := z6669.bb BK219 hb
        replace BK220 := z6669.bb BK220 hb
        replace BK239 := z6669.bb BK239 hb
        replace BK245 := z6669.bb BK245 hb
        replace BK251 := z6669.bb BK251 hb
        replace BK258 := z6669.bb BK258 hb
        replace HB := Aside0.mk (below_step (z6669.bl HB) hb)
        (try clear hb)
        (try clear hb2)
        (try clear hk)
        (try clear hi)
        (try clear ho0)
        obtain ⟨Ao117, co117, eo117⟩ := Kd.R_slice HO270.out
        (first | subst eo117 | (injection eo117 with f1_ f2_ f3_; have f4_ := f1_.symm; have f5_ := f3_.symm; clear f1_ f2_ f3_; subst f4_; subst f5_))
        refine hK.out _ _ ⟨(blk_cell BK251.out 0).trans rfl, (blk_cell BK251.out 1).trans rfl, (blk_cell BK251.out 2).trans rfl, (blk_cell BK220.out 0).trans rfl, (blk_cell BK220.out 1).trans rfl, (blk_cell BK220.out 2).trans rfl⟩ (fun hHeld => ?_)
        clear hK K
        refine norm_ (a' := ?_) ?_ ?_
        rotate_left
        ·show Act.put _ (some 65) _ = _
         simp only [Act.put, List.setIfInBounds_toArray, List.set_cons_zero, List.set_cons_succ, i64_w, i32_w]
         rfl
        refine one_ (i := 3) (N := some 66) #[true, true, true, true, false] rfl rfl (by kernel_rfl) (by decide) (fun K hK => ?_)
        refine z6669.gs Try.func43 (by kernel_rfl) rfl #[.agg #[.int .i64 t246, .int .i64 t247, .slice Ao64 t248.length co64], .agg #[.int .i64 t266, .int .i64 t267, .slice Ao117 t268.length co117]] (by rfl) rfl rfl ?_
        with_reducible refine (laws_eqSheet.calls kj25 t246 t247 _ _ t248 t266 t267 _ _ t268 true _ ?side1 ?side2 ?side3 ?side4 A106.out).mono ?_
        (case side1 => repeat (first | exact (Kd.R_reads' HO_252002.out).2.2 | (with_reducible refine Kd.C_alloc ?_ _) | (with_reducible refine Kd.C_drewN ?_ _) | (with_reducible refine Kd.C_drew ?_)))
        (case side2 => exact (Kd.R_reads' HO_252002.out).2.1)
        (case side3 => repeat (first | exact (Kd.R_reads' HO270.out).2.2 | (with_reducible refine Kd.C_alloc ?_ _) | (with_reducible refine Kd.C_drewN ?_ _) | (with_reducible refine Kd.C_drew ?_)))
        (case side4 => exact (Kd.R_reads' HO270.out).2.1)
        rintro e w118 ⟨rfl, hb⟩
        refine ⟨_, rfl, ?_⟩
        replace HO_240002 := z6669.rb HO_240002 hb
        replace HO_246002 := z6669.rb HO_246002 hb
        replace HO_252002 := z6669.rb HO_252002 hb
        replace HO_259002 := z6669.rb HO_259002 hb
        replace HO264 := z6669.rb HO264 hb
        replace HO270 := z6669.rb HO270 hb
        replace BK219 := z6669.bb BK219 hb
        replace BK220 := z6669.bb BK220 hb
        replace BK239 := z6669.bb BK239 hb
        replace BK245 := z6669.bb BK245 hb
        replace BK251 := z6669.bb BK251 hb
        replace BK258 := z6669.bb BK258 hb
        replace HB := Aside0.mk (below_step (z6669.bl HB) hb)
        (try clear hb)
        (try clear hb2)
        (try clear hk)
        (try clear hi)
        refine hK.out _ _ ⟨(blk_cell BK251.out 0).trans rfl, (blk_cell BK251.out 1).trans rfl, (blk_cell BK251.out 2).trans rfl, (blk_cell BK220.out 0).trans rfl, (blk_cell BK220.out 1).trans rfl, (blk_cell BK220.out 2).trans rfl⟩ (fun hHeld => ?_)
        clear hK K
        refine norm_ (a' := ?_) ?_ ?_
        rotate_left
        ·show Act.put _ (some 66) _ = _
         simp only [Act.put, List.setIfInBounds_toArray, List.set_cons_zero, List.set_cons_succ, i64_w, i32_w]
         rfl
        refine pure_ (i := 4) (N := some 67) (v := ?_) (a' := ?_) #[true, true, true, true, true] rfl rfl (by kernel_rfl) (fun _ _ _ h => h) (Or.inl ⟨by rfl, ?_⟩) ?_ ?_
        rotate_left
        ·intro w'
         go_simp
         with_reducible rfl
        rotate_left
        ·simp only [Act.put, List.setIfInBounds_toArray, List.set_cons_zero, List.set_cons_succ, i64_w, i32_w]
         rfl
        refine done_ (by kernel_rfl) ?_
        have hnb119 := NB245_219.out
        have hnc119 := NB219_245.out
        have hnb120 := NB245_220.out
        have hnc120 := NB220_245.out
        have hnb121 := NB245_239.out
        have hnc121 := NB239_245.out
        have hnb122 := NB245_251.out
        have hnc122 := NB251_245.out
        have hnb123 := NB245_258.out
        have hnc123 := NB258_245.out
        have hcz124_0 : w118.cell? ⟨gb245, 0, none⟩ = some (.int .i64 t240) := (blk_cell BK245.out 0).trans rfl
        have hcz124_1 : w118.cell? ⟨gb245, 1, none⟩ = some (.int .i64 t241) := (blk_cell BK245.out 1).trans rfl
        have hcz124_2 : w118.cell? ⟨gb245, 2, none⟩ = some (.slice Ao54 t242.length co54) := (blk_cell BK245.out 2).trans rfl
        have hfz124_0 := blk_frozen BK245.out 0
        have hfz124_1 := blk_frozen BK245.out 1
        have hfz124_2 := blk_frozen BK245.out 2
        go_upto_region 21 with (first | ((with_reducible refine gate_callee (f := 44) rfl ?_); refine z6669.gl (some 70) rfl rfl Try.func44 (by kernel_rfl) rfl #[.agg #[.int .i64 t240, .int .i64 t241, .slice Ao54 t242.length co54], .int .i64 1] rfl ?_; (with_reducible refine (laws_markSheet.calls kj25 t240 t241 (fun k_ => some k_ = (.slice Ao54 t242.length co54 : Value).ownBlock) (.slice Ao54 t242.length co54) t242 1 t272 t273 w _ ?side1 ?side2 A108.out).mono ?_); (case side1 => exact z6669.bl HB); (case side2 => exact Kd.R_tight rfl HO_246002.out); rintro e w125 ⟨rfl, hy0, hb, hkp⟩; refine ⟨_, rfl, ?_⟩; replace HO_240002 := Aside0.mk (Kd.R_mono (ok' := fun k_ => some k_ ≠ (.slice Ao54 t242.length co54 : Value).ownBlock ∧ some k_ ≠ (.slice Ao64 t248.length co64 : Value).ownBlock ∧ some k_ ≠ (.slice Ao74 t254.length co74 : Value).ownBlock ∧ some k_ ≠ (.slice Ao113 t262.length co113 : Value).ownBlock ∧ some k_ ≠ (.slice Ao117 t268.length co117 : Value).ownBlock) (Kd.R_keptB (HO_240002.out) hkp (fun k_ hk_ hs_ => (hk_.1.1.1) hs_)) (fun k_ hk_ => ⟨hk_.1.1.1.1, hk_.1.1.1.2.1, hk_.1.1.1.2.2, hk_.1.1.2, hk_.1.2⟩)); replace HO_252002 := Aside0.mk (Kd.R_mono (ok' := fun k_ => some k_ ≠ (.slice Ao44 t235.length co44 : Value).ownBlock ∧ some k_ ≠ (.slice Ao54 t242.length co54 : Value).ownBlock ∧ some k_ ≠ (.slice Ao74 t254.length co74 : Value).ownBlock ∧ some k_ ≠ (.slice Ao113 t262.length co113 : Value).ownBlock ∧ some k_ ≠ (.slice Ao117 t268.length co117 : Value).ownBlock) (Kd.R_keptB (HO_252002.out) hkp (fun k_ hk_ hs_ => (hk_.1.1.2.1) hs_)) (fun k_ hk_ => ⟨hk_.1.1.1.1, hk_.1.1.1.2.1, hk_.1.1.1.2.2, hk_.1.1.2, hk_.1.2⟩)); replace HO_259002 := Aside0.mk (Kd.R_mono (ok' := fun k_ => some k_ ≠ (.slice Ao44 t235.length co44 : Value).ownBlock ∧ some k_ ≠ (.slice Ao54 t242.length co54 : Value).ownBlock ∧ some k_ ≠ (.slice Ao64 t248.length co64 : Value).ownBlock ∧ some k_ ≠ (.slice Ao113 t262.length co113 : Value).ownBlock ∧ some k_ ≠ (.slice Ao117 t268.length co117 : Value).ownBlock) (Kd.R_keptB (HO_259002.out) hkp (fun k_ hk_ hs_ => (hk_.1.1.2.1) hs_)) (fun k_ hk_ => ⟨hk_.1.1.1.1, hk_.1.1.1.2.1, hk_.1.1.1.2.2, hk_.1.1.2, hk_.1.2⟩)); replace BK219 := Aside0.mk (blk_kept (z6669.bk BK219) hkp (fun hs_ => (fun e_ => (Kd.R_ne HO_246002.out BK219.out (by decide)) e_) hs_)); replace BK220 := Aside0.mk (blk_kept (z6669.bk BK220) hkp (fun hs_ => (fun e_ => (Kd.R_ne HO_246002.out BK220.out (by decide)) e_) hs_)); replace BK239 := Aside0.mk (blk_kept (z6669.bk BK239) hkp (fun hs_ => (fun e_ => (Kd.R_ne HO_246002.out BK239.out (by decide)) e_) hs_)); replace BK245 := Aside0.mk (blk_kept (z6669.bk BK245) hkp (fun hs_ => (fun e_ => (Kd.R_ne HO_246002.out BK245.out (by decide)) e_) hs_)); replace BK251 := Aside0.mk (blk_kept (z6669.bk BK251) hkp (fun hs_ => (fun e_ => (Kd.R_ne HO_246002.out BK251.out (by decide)) e_) hs_)); replace BK258 := Aside0.mk (blk_kept (z6669.bk BK258) hkp (fun hs_ => (fun e_ => (Kd.R_ne HO_246002.out BK258.out (by decide)) e_) hs_)); replace HO_246002 := Aside0.mk (Kd.R_reok rfl hy0 (fun k_ e_ => HO_246002.out.1 k_ e_)); replace HO264 := Aside0.mk (Kd.R_mono (ok' := fun k_ => some k_ ≠ (.slice Ao44 t235.length co44 : Value).ownBlock ∧ some k_ ≠ (.slice Ao54 t242.length co54 : Value).ownBlock ∧ some k_ ≠ (.slice Ao64 t248.length co64 : Value).ownBlock ∧ some k_ ≠ (.slice Ao74 t254.length co74 : Value).ownBlock ∧ some k_ ≠ (.slice Ao117 t268.length co117 : Value).ownBlock) (Kd.R_keptB (HO264.out) hkp (fun k_ hk_ hs_ => (hk_.1.1.1.2) hs_)) (fun k_ hk_ => ⟨hk_.1.1.1.1.1.2, hk_.1.1.1.1.2, hk_.1.1.1.2, hk_.1.1.2, hk_.1.2⟩)); replace HO270 := Aside0.mk (Kd.R_mono (ok' := fun k_ => some k_ ≠ (.slice Ao44 t235.length co44 : Value).ownBlock ∧ some k_ ≠ (.slice Ao54 t242.length co54 : Value).ownBlock ∧ some k_ ≠ (.slice Ao64 t248.length co64 : Value).ownBlock ∧ some k_ ≠ (.slice Ao74 t254.length co74 : Value).ownBlock ∧ some k_ ≠ (.slice Ao113 t262.length co113 : Value).ownBlock) (Kd.R_keptB (HO270.out) hkp (fun k_ hk_ hs_ => (hk_.1.1.1.2) hs_)) (fun k_ hk_ => ⟨hk_.1.1.1.1.1.2, hk_.1.1.1.1.2, hk_.1.1.1.2, hk_.1.1.2, hk_.1.2⟩)); replace HB := Aside0.mk (hb); (try clear hb); (try clear hkp); (try clear hy0); have hnb126 := NB251_219.out; have hnc126 := NB219_251.out; have hnb127 := NB251_220.out; have hnc127 := NB220_251.out; have hnb128 := NB251_239.out; have hnc128 := NB239_251.out; have hnb129 := NB251_258.out; have hnc129 := NB258_251.out; have hcz130_0 : w125.cell? ⟨gb251, 0, none⟩ = some (.int .i64 t246) := (blk_cell BK251.out 0).trans rfl; have hcz130_1 : w125.cell? ⟨gb251, 1, none⟩ = some (.int .i64 t247) := (blk_cell BK251.out 1).trans rfl; have hcz130_2 : w125.cell? ⟨gb251, 2, none⟩ = some (.slice Ao64 t248.length co64) := (blk_cell BK251.out 2).trans rfl; have hfz130_0 := blk_frozen BK251.out 0; have hfz130_1 := blk_frozen BK251.out 1; have hfz130_2 := blk_frozen BK251.out 2) | ((with_reducible refine gate_callee (f := 44) rfl ?_); refine z6669.gl (some 73) rfl rfl Try.func44 (by kernel_rfl) rfl #[.agg #[.int .i64 t246, .int .i64 t247, .slice Ao64 t248.length co64], .int .i64 t272] rfl ?_; (with_reducible refine (laws_markSheet.calls kj25 t246 t247 (fun k_ => some k_ = (.slice Ao64 t248.length co64 : Value).ownBlock) (.slice Ao64 t248.length co64) t248 t272 t274 t275 w _ ?side1 ?side2 A109.out).mono ?_); (case side1 => exact z6669.bl HB); (case side2 => exact Kd.R_tight rfl HO_252002.out); rintro e w131 ⟨rfl, hy0, hb, hkp⟩; refine ⟨_, rfl, ?_⟩; replace HO_240002 := Aside0.mk (Kd.R_mono (ok' := fun k_ => some k_ ≠ (.slice Ao54 t242.length co54 : Value).ownBlock ∧ some k_ ≠ (.slice Ao64 t248.length co64 : Value).ownBlock ∧ some k_ ≠ (.slice Ao74 t254.length co74 : Value).ownBlock ∧ some k_ ≠ (.slice Ao113 t262.length co113 : Value).ownBlock ∧ some k_ ≠ (.slice Ao117 t268.length co117 : Value).ownBlock) (Kd.R_keptB (HO_240002.out) hkp (fun k_ hk_ hs_ => (hk_.2.1) hs_)) (fun k_ hk_ => ⟨hk_.1.1, hk_.1.2.1, hk_.1.2.2.1, hk_.1.2.2.2.1, hk_.1.2.2.2.2⟩)); replace HO_246002 := Aside0.mk (Kd.R_mono (ok' := fun k_ => some k_ ≠ (.slice Ao44 t235.length co44 : Value).ownBlock ∧ some k_ ≠ (.slice Ao64 t248.length co64 : Value).ownBlock ∧ some k_ ≠ (.slice Ao74 t254.length co74 : Value).ownBlock ∧ some k_ ≠ (.slice Ao113 t262.length co113 : Value).ownBlock ∧ some k_ ≠ (.slice Ao117 t268.length co117 : Value).ownBlock) (Kd.R_keptB (HO_246002.out) hkp (fun k_ hk_ hs_ => (hk_.1.1.2.1) hs_)) (fun k_ hk_ => ⟨hk_.1.1.1.1, hk_.1.1.1.2.1, hk_.1.1.1.2.2, hk_.1.1.2, hk_.1.2⟩)); replace HO_259002 := Aside0.mk (Kd.R_mono (ok' := fun k_ => some k_ ≠ (.slice Ao44 t235.length co44 : Value).ownBlock ∧ some k_ ≠ (.slice Ao54 t242.length co54 : Value).ownBlock ∧ some k_ ≠ (.slice Ao64 t248.length co64 : Value).ownBlock ∧ some k_ ≠ (.slice Ao113 t262.length co113 : Value).ownBlock ∧ some k_ ≠ (.slice Ao117 t268.length co117 : Value).ownBlock) (Kd.R_keptB (HO_259002.out) hkp (fun k_ hk_ hs_ => (hk_.2.2.1) hs_)) (fun k_ hk_ => ⟨hk_.1.1, hk_.1.2.1, hk_.1.2.2.1, hk_.1.2.2.2.1, hk_.1.2.2.2.2⟩)); replace BK219 := Aside0.mk (blk_kept (z6669.bk BK219) hkp (fun hs_ => (fun e_ => (Kd.R_ne HO_252002.out BK219.out (by decide)) e_) hs_)); replace BK220 := Aside0.mk (blk_kept (z6669.bk BK220) hkp (fun hs_ => (fun e_ => (Kd.R_ne HO_252002.out BK220.out (by decide)) e_) hs_)); replace BK239 := Aside0.mk (blk_kept (z6669.bk BK239) hkp (fun hs_ => (fun e_ => (Kd.R_ne HO_252002.out BK239.out (by decide)) e_) hs_)); replace BK245 := Aside0.mk (blk_kept (z6669.bk BK245) hkp (fun hs_ => (fun e_ => (Kd.R_ne HO_252002.out BK245.out (by decide)) e_) hs_)); replace BK251 := Aside0.mk (blk_kept (z6669.bk BK251) hkp (fun hs_ => (fun e_ => (Kd.R_ne HO_252002.out BK251.out (by decide)) e_) hs_)); replace BK258 := Aside0.mk (blk_kept (z6669.bk BK258) hkp (fun hs_ => (fun e_ => (Kd.R_ne HO_252002.out BK258.out (by decide)) e_) hs_)); replace HO_252002 := Aside0.mk (Kd.R_reok rfl hy0 (fun k_ e_ => HO_252002.out.1 k_ e_)); replace HO264 := Aside0.mk (Kd.R_mono (ok' := fun k_ => some k_ ≠ (.slice Ao44 t235.length co44 : Value).ownBlock ∧ some k_ ≠ (.slice Ao54 t242.length co54 : Value).ownBlock ∧ some k_ ≠ (.slice Ao64 t248.length co64 : Value).ownBlock ∧ some k_ ≠ (.slice Ao74 t254.length co74 : Value).ownBlock ∧ some k_ ≠ (.slice Ao117 t268.length co117 : Value).ownBlock) (Kd.R_keptB (HO264.out) hkp (fun k_ hk_ hs_ => (hk_.2.2.1) hs_)) (fun k_ hk_ => ⟨hk_.1.1, hk_.1.2.1, hk_.1.2.2.1, hk_.1.2.2.2.1, hk_.1.2.2.2.2⟩)); replace HO270 := Aside0.mk (Kd.R_mono (ok' := fun k_ => some k_ ≠ (.slice Ao44 t235.length co44 : Value).ownBlock ∧ some k_ ≠ (.slice Ao54 t242.length co54 : Value).ownBlock ∧ some k_ ≠ (.slice Ao64 t248.length co64 : Value).ownBlock ∧ some k_ ≠ (.slice Ao74 t254.length co74 : Value).ownBlock ∧ some k_ ≠ (.slice Ao113 t262.length co113 : Value).ownBlock) (Kd.R_keptB (HO270.out) hkp (fun k_ hk_ hs_ => (hk_.2.2.1) hs_)) (fun k_ hk_ => ⟨hk_.1.1, hk_.1.2.1, hk_.1.2.2.1, hk_.1.2.2.2.1, hk_.1.2.2.2.2⟩)); replace HB := Aside0.mk (hb); (try clear hb); (try clear hkp); (try clear hy0)))
        (try simp only [Act.put, List.setIfInBounds_toArray, List.set_cons_zero, List.set_cons_succ])
        go_cut [86] (fun v86 wc => ∃ (kq : Nat) (x86_109 : Bool), v86 = .bool x86_109 ∧ Aside0 (laws_FnExactLaySheet.j1 kq a2 t238 x86_109 a0_0 a0_1 l0_2 a1_0 a1_1 l1_2 t233 t234 t235 t252 t253 t254 = some r) ∧ Aside0 (kq ≤ kj25) ∧ Aside0 (Kd.R k54 54 wc w.heap.size (fun k_ => some k_ ≠ ((.slice Ao54 t242.length co54) : Value).ownBlock ∧ some k_ ≠ ((.slice Ao64 t248.length co64) : Value).ownBlock ∧ some k_ ≠ ((.slice Ao74 t254.length co74) : Value).ownBlock) (.slice Ao44 t235.length co44) t235) ∧ Aside0 (Kd.R k54 54 wc w.heap.size (fun k_ => some k_ ≠ ((.slice Ao44 t235.length co44) : Value).ownBlock ∧ some k_ ≠ ((.slice Ao64 t248.length co64) : Value).ownBlock ∧ some k_ ≠ ((.slice Ao74 t254.length co74) : Value).ownBlock) (.slice Ao54 t242.length co54) t273) ∧ Aside0 (Kd.R k54 54 wc w.heap.size (fun k_ => some k_ ≠ ((.slice Ao44 t235.length co44) : Value).ownBlock ∧ some k_ ≠ ((.slice Ao54 t242.length co54) : Value).ownBlock ∧ some k_ ≠ ((.slice Ao74 t254.length co74) : Value).ownBlock) (.slice Ao64 t248.length co64) t275) ∧ Aside0 (Kd.R k54 54 wc w.heap.size (fun k_ => some k_ ≠ ((.slice Ao44 t235.length co44) : Value).ownBlock ∧ some k_ ≠ ((.slice Ao54 t242.length co54) : Value).ownBlock ∧ some k_ ≠ ((.slice Ao64 t248.length co64) : Value).ownBlock) (.slice Ao74 t254.length co74) t254) ∧ Aside0 (wc.heap[gb219]? = some (.cells #[.int .i64 a0_0, .int .i64 a0_1, (.slice A0_2 l0_2.length c0_2)] 64 (0, 0))) ∧ Aside0 (wc.heap[gb220]? = some (.cells #[.int .i64 a1_0, .int .i64 a1_1, (.slice A1_2 l1_2.length c1_2)] 64 (0, 0))) ∧ Aside0 (wc.heap[gb239]? = some (.cells #[.int .i64 t233, .int .i64 t234, (.slice Ao44 t235.length co44)] 70 (0, 0))) ∧ Aside0 (wc.heap[gb245]? = some (.cells #[.int .i64 t240, .int .i64 t241, (.slice Ao54 t242.length co54)] 70 (0, 0))) ∧ Aside0 (wc.heap[gb251]? = some (.cells #[.int .i64 t246, .int .i64 t247, (.slice Ao64 t248.length co64)] 70 (0, 0))) ∧ Aside0 (wc.heap[gb258]? = some (.cells #[.int .i64 t252, .int .i64 t253, (.slice Ao74 t254.length co74)] 70 (0, 0))) ∧ Aside0 (Below w.heap.size w wc))
        case first =>
         have H := HC110.out
         clear HC110
         by_cases c132 : t274 < 0
         ·rw [if_pos c132] at H
          have c132b0 : decide (t274 < 0) = true := decide_eq_true c132
          clear c132
          (first | rw [c132b0] | (simp only [i64_w, i32_w]; rw [c132b0]) | skip)
          have H' := Aside0.mk H
          clear H
          go_wp2
          go_meet
          case rel => exact ⟨_, (true), (by first | rfl | (simp; done) | (simp [*]; done)), H', ⟨by have := HJ25.out; first | omega | exact Nat.le_refl _⟩, ⟨z6669.rl (Kd.R_mono HO_240002.out (fun _ hk => ⟨hk.1, ⟨hk.2.1, hk.2.2.1⟩⟩))⟩, ⟨z6669.rl (Kd.R_mono HO_246002.out (fun _ hk => ⟨hk.1, ⟨hk.2.1, hk.2.2.1⟩⟩))⟩, ⟨z6669.rl (Kd.R_mono HO_252002.out (fun _ hk => ⟨hk.1, ⟨hk.2.1, hk.2.2.1⟩⟩))⟩, ⟨z6669.rl (Kd.R_mono HO_259002.out (fun _ hk => ⟨hk.1, ⟨hk.2.1, hk.2.2.1⟩⟩))⟩, ⟨z6669.bk BK219⟩, ⟨z6669.bk BK220⟩, ⟨z6669.bk BK239⟩, ⟨z6669.bk BK245⟩, ⟨z6669.bk BK251⟩, ⟨z6669.bk BK258⟩, ⟨z6669.bl HB⟩⟩
         ·rw [if_neg c132] at H
          have c132b0 : decide (t274 < 0) = false := decide_eq_false c132
          clear c132
          (first | rw [c132b0] | (simp only [i64_w, i32_w]; rw [c132b0]) | skip)
          replace H := Option.bind_eq_some_iff.mp H
          obtain ⟨t276, A1330, H⟩ := H
          replace H : (if t276 = true then (laws_FnExactLaySheet.j1 kj25 a2 t238 (t257 != t238) a0_0 a0_1 l0_2 a1_0 a1_1 l1_2 t233 t234 t235 t252 t253 t254) else (laws_FnExactLaySheet.j1 kj25 a2 t238 true a0_0 a0_1 l0_2 a1_0 a1_1 l1_2 t233 t234 t235 t252 t253 t254)) = some r := H
          have A133 := Aside0.mk A1330
          clear A1330
          by_cases c134 : t276 = true
          ·subst c134
           have H1 : (laws_FnExactLaySheet.j1 kj25 a2 t238 (t257 != t238) a0_0 a0_1 l0_2 a1_0 a1_1 l1_2 t233 t234 t235 t252 t253 t254) = some r := by rw [if_pos rfl] at H; exact H
           clear H
           have H := H1
           clear H1
           have H' := Aside0.mk H
           clear H
           have hnb135 := NB258_219.out
           have hnc135 := NB219_258.out
           have hnb136 := NB258_220.out
           have hnc136 := NB220_258.out
           have hnb137 := NB258_239.out
           have hnc137 := NB239_258.out
           have hnb138 := NB258_245.out
           have hnc138 := NB245_258.out
           have hnb139 := NB258_251.out
           have hnc139 := NB251_258.out
           have hcz140_0 : w131.cell? ⟨gb258, 0, none⟩ = some (.int .i64 t252) := (blk_cell BK258.out 0).trans rfl
           have hcz140_1 : w131.cell? ⟨gb258, 1, none⟩ = some (.int .i64 t253) := (blk_cell BK258.out 1).trans rfl
           have hcz140_2 : w131.cell? ⟨gb258, 2, none⟩ = some (.slice Ao74 t254.length co74) := (blk_cell BK258.out 2).trans rfl
           have hfz140_0 := blk_frozen BK258.out 0
           have hfz140_1 := blk_frozen BK258.out 1
           have hfz140_2 := blk_frozen BK258.out 2
           have hnb141 := NB239_219.out
           have hnc141 := NB219_239.out
           have hnb142 := NB239_220.out
           have hnc142 := NB220_239.out
           have hnb143 := NB239_245.out
           have hnc143 := NB245_239.out
           have hnb144 := NB239_251.out
           have hnc144 := NB251_239.out
           have hcz145_0 : w131.cell? ⟨gb239, 0, none⟩ = some (.int .i64 t233) := (blk_cell BK239.out 0).trans rfl
           have hcz145_1 : w131.cell? ⟨gb239, 1, none⟩ = some (.int .i64 t234) := (blk_cell BK239.out 1).trans rfl
           have hcz145_2 : w131.cell? ⟨gb239, 2, none⟩ = some (.slice Ao44 t235.length co44) := (blk_cell BK239.out 2).trans rfl
           have hfz145_0 := blk_frozen BK239.out 0
           have hfz145_1 := blk_frozen BK239.out 1
           have hfz145_2 := blk_frozen BK239.out 2
           go_wp2_with (first | (go_at_call 43; (with_reducible refine (laws_eqSheet.calls kj25 t252 t253 _ _ t254 t233 t234 _ _ t235 true _ ?side1 ?side2 ?side3 ?side4 A133.out).mono ?_); (case side1 => repeat (first | exact (Kd.R_reads' HO_259002.out).2.2 | (with_reducible refine Kd.C_alloc ?_ _) | (with_reducible refine Kd.C_drewN ?_ _) | (with_reducible refine Kd.C_drew ?_))); (case side2 => exact (Kd.R_reads' HO_259002.out).2.1); (case side3 => repeat (first | exact (Kd.R_reads' HO_240002.out).2.2 | (with_reducible refine Kd.C_alloc ?_ _) | (with_reducible refine Kd.C_drewN ?_ _) | (with_reducible refine Kd.C_drew ?_))); (case side4 => exact (Kd.R_reads' HO_240002.out).2.1); rintro e w146 ⟨rfl, hb⟩; replace HO_240002 := z6669.rb HO_240002 hb; replace HO_246002 := z6669.rb HO_246002 hb; replace HO_252002 := z6669.rb HO_252002 hb; replace HO_259002 := z6669.rb HO_259002 hb; replace HO264 := z6669.rb HO264 hb; replace HO270 := z6669.rb HO270 hb; replace BK219 := z6669.bb BK219 hb; replace BK220 := z6669.bb BK220 hb; replace BK239 := z6669.bb BK239 hb; replace BK245 := z6669.bb BK245 hb; replace BK251 := z6669.bb BK251 hb; replace BK258 := z6669.bb BK258 hb; replace HB := Aside0.mk (below_step (z6669.bl HB) hb); (try clear hb); (try clear hb2); (try clear hk); (try clear hi)))
           go_meet
           case rel => exact ⟨_, ((t257 != t238)), (by first | rfl | (simp; done) | (simp [*]; done)), H', ⟨by have := HJ25.out; first | omega | exact Nat.le_refl _⟩, ⟨z6669.rl (Kd.R_mono HO_240002.out (fun _ hk => ⟨hk.1, ⟨hk.2.1, hk.2.2.1⟩⟩))⟩, ⟨z6669.rl (Kd.R_mono HO_246002.out (fun _ hk => ⟨hk.1, ⟨hk.2.1, hk.2.2.1⟩⟩))⟩, ⟨z6669.rl (Kd.R_mono HO_252002.out (fun _ hk => ⟨hk.1, ⟨hk.2.1, hk.2.2.1⟩⟩))⟩, ⟨z6669.rl (Kd.R_mono HO_259002.out (fun _ hk => ⟨hk.1, ⟨hk.2.1, hk.2.2.1⟩⟩))⟩, ⟨z6669.bk BK219⟩, ⟨z6669.bk BK220⟩, ⟨z6669.bk BK239⟩, ⟨z6669.bk BK245⟩, ⟨z6669.bk BK251⟩, ⟨z6669.bk BK258⟩, ⟨z6669.bl HB⟩⟩
          ·replace c134 := Bool.eq_false_iff.mpr c134
           subst c134
           have H1 : (laws_FnExactLaySheet.j1 kj25 a2 t238 true a0_0 a0_1 l0_2 a1_0 a1_1 l1_2 t233 t234 t235 t252 t253 t254) = some r := by rw [if_neg (show ¬ (false = true) by decide)] at H; exact H
           clear H
           have H := H1
           clear H1
           have H' := Aside0.mk H
           clear H
           have hnb147 := NB258_219.out
           have hnc147 := NB219_258.out
           have hnb148 := NB258_220.out
           have hnc148 := NB220_258.out
           have hnb149 := NB258_239.out
           have hnc149 := NB239_258.out
           have hnb150 := NB258_245.out
           have hnc150 := NB245_258.out
           have hnb151 := NB258_251.out
           have hnc151 := NB251_258.out
           have hcz152_0 : w131.cell? ⟨gb258, 0, none⟩ = some (.int .i64 t252) := (blk_cell BK258.out 0).trans rfl
           have hcz152_1 : w131.cell? ⟨gb258, 1, none⟩ = some (.int .i64 t253) := (blk_cell BK258.out 1).trans rfl
           have hcz152_2 : w131.cell? ⟨gb258, 2, none⟩ = some (.slice Ao74 t254.length co74) := (blk_cell BK258.out 2).trans rfl
           have hfz152_0 := blk_frozen BK258.out 0
           have hfz152_1 := blk_frozen BK258.out 1
           have hfz152_2 := blk_frozen BK258.out 2
           have hnb153 := NB239_219.out
           have hnc153 := NB219_239.out
           have hnb154 := NB239_220.out
           have hnc154 := NB220_239.out
           have hnb155 := NB239_245.out
           have hnc155 := NB245_239.out
           have hnb156 := NB239_251.out
           have hnc156 := NB251_239.out
           have hcz157_0 : w131.cell? ⟨gb239, 0, none⟩ = some (.int .i64 t233) := (blk_cell BK239.out 0).trans rfl
           have hcz157_1 : w131.cell? ⟨gb239, 1, none⟩ = some (.int .i64 t234) := (blk_cell BK239.out 1).trans rfl
           have hcz157_2 : w131.cell? ⟨gb239, 2, none⟩ = some (.slice Ao44 t235.length co44) := (blk_cell BK239.out 2).trans rfl
           have hfz157_0 := blk_frozen BK239.out 0
           have hfz157_1 := blk_frozen BK239.out 1
           have hfz157_2 := blk_frozen BK239.out 2
           go_wp2_with (first | (go_at_call 43; (with_reducible refine (laws_eqSheet.calls kj25 t252 t253 _ _ t254 t233 t234 _ _ t235 false _ ?side1 ?side2 ?side3 ?side4 A133.out).mono ?_); (case side1 => repeat (first | exact (Kd.R_reads' HO_259002.out).2.2 | (with_reducible refine Kd.C_alloc ?_ _) | (with_reducible refine Kd.C_drewN ?_ _) | (with_reducible refine Kd.C_drew ?_))); (case side2 => exact (Kd.R_reads' HO_259002.out).2.1); (case side3 => repeat (first | exact (Kd.R_reads' HO_240002.out).2.2 | (with_reducible refine Kd.C_alloc ?_ _) | (with_reducible refine Kd.C_drewN ?_ _) | (with_reducible refine Kd.C_drew ?_))); (case side4 => exact (Kd.R_reads' HO_240002.out).2.1); rintro e w158 ⟨rfl, hb⟩; replace HO_240002 := z6669.rb HO_240002 hb; replace HO_246002 := z6669.rb HO_246002 hb; replace HO_252002 := z6669.rb HO_252002 hb; replace HO_259002 := z6669.rb HO_259002 hb; replace HO264 := z6669.rb HO264 hb; replace HO270 := z6669.rb HO270 hb; replace BK219 := z6669.bb BK219 hb; replace BK220 := z6669.bb BK220 hb; replace BK239 := z6669.bb BK239 hb; replace BK245 := z6669.bb BK245 hb; replace BK251 := z6669.bb BK251 hb; replace BK258 := z6669.bb BK258 hb; replace HB := Aside0.mk (below_step (z6669.bl HB) hb); (try clear hb); (try clear hb2); (try clear hk); (try clear hi)))
           go_meet
           case rel => exact ⟨_, (true), (by first | rfl | (simp; done) | (simp [*]; done)), H', ⟨by have := HJ25.out; first | omega | exact Nat.le_refl _⟩, ⟨z6669.rl (Kd.R_mono HO_240002.out (fun _ hk => ⟨hk.1, ⟨hk.2.1, hk.2.2.1⟩⟩))⟩, ⟨z6669.rl (Kd.R_mono HO_246002.out (fun _ hk => ⟨hk.1, ⟨hk.2.1, hk.2.2.1⟩⟩))⟩, ⟨z6669.rl (Kd.R_mono HO_252002.out (fun _ hk => ⟨hk.1, ⟨hk.2.1, hk.2.2.1⟩⟩))⟩, ⟨z6669.rl (Kd.R_mono HO_259002.out (fun _ hk => ⟨hk.1, ⟨hk.2.1, hk.2.2.1⟩⟩))⟩, ⟨z6669.bk BK219⟩, ⟨z6669.bk BK220⟩, ⟨z6669.bk BK239⟩, ⟨z6669.bk BK245⟩, ⟨z6669.bk BK251⟩, ⟨z6669.bk BK258⟩, ⟨z6669.bl HB⟩⟩
        case rest =>
         clear HC110
         try clear c1
         try clear p2
         try clear c4
         try clear c10
         try clear c11
         try clear c12
         try clear c13
         try clear c14
         try clear c15
         try clear c40
         try clear c43
         try clear c44
         try clear c101
         try clear c104
         try clear c107
         try clear c119
         try clear c120
         try clear c121
         try clear c122
         try clear c123
         try clear c126
         try clear c127
         try clear c128
         try clear c129
         try clear c132
         try clear c132b0
         try clear c134
         try clear c135
         try clear c136
         try clear c137
         try clear c138
         try clear c139
         try clear c141
         try clear c142
         try clear c143
         try clear c144
         try clear c147
         try clear c148
         try clear c149
         try clear c150
         try clear c151
         try clear c153
         try clear c154
         try clear c155
         try clear c156
         try clear hcz124_0
         try clear hcz124_1
         try clear hcz124_2
         try clear hcz130_0
         try clear hcz130_1
         try clear hcz130_2
         try clear hcz140_0
         try clear hcz140_1
         try clear hcz140_2
         try clear hcz145_0
         try clear hcz145_1
         try clear hcz145_2
         try clear hcz152_0
         try clear hcz152_1
         try clear hcz152_2
         try clear hcz157_0
         try clear hcz157_1
         try clear hcz157_2
         try clear hcz65_1
         try clear hcz65_2
         try clear hcz73_0
         try clear hcz73_1
         try clear hcz73_2
         try clear hcz82_0
         try clear hcz82_1
         try clear hcz82_2
         try clear hcz87_0
         try clear hcz87_1
         try clear hcz87_2
         try clear hcz94_0
         try clear hcz94_1
         try clear hcz94_2
         try clear hcz99_0
         try clear hcz99_1
         try clear hcz99_2
         try clear hfz124_0
         try clear hfz124_1
         try clear hfz124_2
         try clear hfz130_0
         try clear hfz130_1
         try clear hfz130_2
         try clear hfz140_0
         try clear hfz140_1
         try clear hfz140_2
         try clear hfz145_0
         try clear hfz145_1
         try clear hfz145_2
         try clear hfz152_0
         try clear hfz152_1
         try clear hfz152_2
         try clear hfz157_0
         try clear hfz157_1
         try clear hfz157_2
         try clear hfz47_0
         try clear hfz47_1
         try clear hfz47_2
         try clear hfz53_0
         try clear hfz53_1
         try clear hfz53_2
         try clear hfz56_0
         try clear hfz56_1
         try clear hfz56_2
         try clear hfz63_0
         try clear hfz63_1
         try clear hfz63_2
         try clear hfz65_0
         try clear hfz65_1
         try clear hfz65_2
         try clear hfz73_0
         try clear hfz73_1
         try clear hfz73_2
         try clear hfz82_0
         try clear hfz82_1
         try clear hfz82_2
         try clear hfz87_0
         try clear hfz87_1
         try clear hfz87_2
         try clear hfz94_0
         try clear hfz94_1
         try clear hfz94_2
         try clear hfz99_0
         try clear hfz99_1
         try clear hfz99_2
         obtain ⟨kq, x86_109, rfl, HA, HJ109, HO_240002, HO_246002, HO_252002, HO_259002, BK219, BK220, BK239, BK245, BK251, BK258, HB⟩ := hcut
         have hl246002_109 := (Kd.R_reads' HO_246002.out).1
         rw [hl246002_109] at HO_246002
         (try simp only [hl246002_109])
         (try simp only [hl246002_109] at BK219)
         (try simp only [hl246002_109] at BK220)
         (try simp only [hl246002_109] at BK239)
         (try simp only [hl246002_109] at BK245)
         (try simp only [hl246002_109] at BK251)
         (try simp only [hl246002_109] at BK258)
         (try simp only [hl246002_109] at HO_240002)
         (try simp only [hl246002_109] at HO_252002)
         (try simp only [hl246002_109] at HO_259002)
         have hl252002_109 := (Kd.R_reads' HO_252002.out).1
         rw [hl252002_109] at HO_252002
         (try simp only [hl252002_109])
         (try simp only [hl252002_109] at BK219)
         (try simp only [hl252002_109] at BK220)
         (try simp only [hl252002_109] at BK239)
         (try simp only [hl252002_109] at BK245)
         (try simp only [hl252002_109] at BK251)
         (try simp only [hl252002_109] at BK258)
         (try simp only [hl252002_109] at HO_240002)
         (try simp only [hl252002_109] at HO_246002)
         (try simp only [hl252002_109] at HO_259002)
         cases kq with
         | zero => exact absurd HA.out (by simp [laws_FnExactLaySheet.j1])
         | succ kj109 =>
          have H := HA.out
          clear HA
          simp only [laws_FnExactLaySheet.j1] at H
          by_cases c159 : x86_109 = true
          ·subst c159
           have H1 : (some false) = some r := by rw [if_pos rfl] at H; exact H
           clear H
           have H := H1
           clear H1
           exact absurd (Option.some.inj H) (by rw [hrt]; decide)
          ·replace c159 := Bool.eq_false_iff.mpr c159
           subst c159
           have H1 : ((laws_markSheet.f kj109 t252 t253 t254 1).bind fun bt277 => ((laws_heldSheet.f kj109 t252 t253 bt277.2 1).bind fun t279 => (if t279 < 0 then (some false) else (if t279 = bt277.1 then ((laws_toSheet.f kj109 a0_0 a0_1 l0_2).bind fun bt280 => ((laws_toSheet.f kj109 a1_0 a1_1 l1_2).bind fun bt285 => ((impl_LaySheet.f kj109 bt280.1 bt280.2.1 bt280.2.2 bt285.1 bt285.2.1 bt285.2.2 a2).bind fun bt290 => ((laws_eqSheet.f kj109 bt290.1 bt290.2.1 bt290.2.2.1 t233 t234 t235).bind fun t297 => (if t297 = true then (laws_FnExactLaySheet.j2 kj109 bt277.1 (bt290.2.2.2 != t238) t252 t253 bt277.2) else (laws_FnExactLaySheet.j2 kj109 bt277.1 true t252 t253 bt277.2)))))) else (some false))))) = some r := by rw [if_neg (show ¬ (false = true) by decide)] at H; exact H
           clear H
           have H := H1
           clear H1
           replace H := Option.bind_eq_some_iff.mp H
           obtain ⟨⟨t277, t278⟩, A1600, H⟩ := H
           replace H : ((laws_heldSheet.f kj109 t252 t253 t278 1).bind fun t279 => (if t279 < 0 then (some false) else (if t279 = t277 then ((laws_toSheet.f kj109 a0_0 a0_1 l0_2).bind fun bt280 => ((laws_toSheet.f kj109 a1_0 a1_1 l1_2).bind fun bt285 => ((impl_LaySheet.f kj109 bt280.1 bt280.2.1 bt280.2.2 bt285.1 bt285.2.1 bt285.2.2 a2).bind fun bt290 => ((laws_eqSheet.f kj109 bt290.1 bt290.2.1 bt290.2.2.1 t233 t234 t235).bind fun t297 => (if t297 = true then (laws_FnExactLaySheet.j2 kj109 t277 (bt290.2.2.2 != t238) t252 t253 t278) else (laws_FnExactLaySheet.j2 kj109 t277 true t252 t253 t278)))))) else (some false)))) = some r := H
           have A160 := Aside0.mk A1600
           clear A1600
           replace H := Option.bind_eq_some_iff.mp H
           obtain ⟨t279, A1610, H⟩ := H
           replace H : (if t279 < 0 then (some false) else (if t279 = t277 then ((laws_toSheet.f kj109 a0_0 a0_1 l0_2).bind fun bt280 => ((laws_toSheet.f kj109 a1_0 a1_1 l1_2).bind fun bt285 => ((impl_LaySheet.f kj109 bt280.1 bt280.2.1 bt280.2.2 bt285.1 bt285.2.1 bt285.2.2 a2).bind fun bt290 => ((laws_eqSheet.f kj109 bt290.1 bt290.2.1 bt290.2.2.1 t233 t234 t235).bind fun t297 => (if t297 = true then (laws_FnExactLaySheet.j2 kj109 t277 (bt290.2.2.2 != t238) t252 t253 t278) else (laws_FnExactLaySheet.j2 kj109 t277 true t252 t253 t278)))))) else (some false))) = some r := H
           have A161 := Aside0.mk A1610
           clear A1610
           by_cases c162 : t279 < 0
           ·rw [if_pos c162] at H
            have c162b0 : decide (t279 < 0) = true := decide_eq_true c162
            clear c162
            exact absurd (Option.some.inj H) (by rw [hrt]; decide)
           ·rw [if_neg c162] at H
            have c162b0 : decide (t279 < 0) = false := decide_eq_false c162
            clear c162
            by_cases c172 : t279 = t277
            ·rw [if_pos c172] at H
             have c172b0 : (t279 == t277) = true := beq_iff_eq.mpr c172
             have c172b1 : (t279 != t277) = false := bne_eq_false_iff_eq.mpr c172
             clear c172
             replace H := Option.bind_eq_some_iff.mp H
             obtain ⟨⟨t280, t281, t282⟩, A1730, H⟩ := H
             replace H : ((laws_toSheet.f kj109 a1_0 a1_1 l1_2).bind fun bt285 => ((impl_LaySheet.f kj109 t280 t281 t282 bt285.1 bt285.2.1 bt285.2.2 a2).bind fun bt290 => ((laws_eqSheet.f kj109 bt290.1 bt290.2.1 bt290.2.2.1 t233 t234 t235).bind fun t297 => (if t297 = true then (laws_FnExactLaySheet.j2 kj109 t277 (bt290.2.2.2 != t238) t252 t253 t278) else (laws_FnExactLaySheet.j2 kj109 t277 true t252 t253 t278))))) = some r := H
             have A173 := Aside0.mk A1730
             clear A1730
             replace H := Option.bind_eq_some_iff.mp H
             obtain ⟨⟨t285, t286, t287⟩, A1740, H⟩ := H
             replace H : ((impl_LaySheet.f kj109 t280 t281 t282 t285 t286 t287 a2).bind fun bt290 => ((laws_eqSheet.f kj109 bt290.1 bt290.2.1 bt290.2.2.1 t233 t234 t235).bind fun t297 => (if t297 = true then (laws_FnExactLaySheet.j2 kj109 t277 (bt290.2.2.2 != t238) t252 t253 t278) else (laws_FnExactLaySheet.j2 kj109 t277 true t252 t253 t278)))) = some r := H
             have A174 := Aside0.mk A1740
             clear A1740
             replace H := Option.bind_eq_some_iff.mp H
             obtain ⟨⟨t290, t291, t292, t295⟩, A1750, H⟩ := H
             replace H : ((laws_eqSheet.f kj109 t290 t291 t292 t233 t234 t235).bind fun t297 => (if t297 = true then (laws_FnExactLaySheet.j2 kj109 t277 (t295 != t238) t252 t253 t278) else (laws_FnExactLaySheet.j2 kj109 t277 true t252 t253 t278))) = some r := H
             have A175 := Aside0.mk A1750
             clear A1750
             have HC176 := Aside0.mk H
             clear H
             have hnb177 := NB258_219.out
             have hnc177 := NB219_258.out
             have hnb178 := NB258_220.out
             have hnc178 := NB220_258.out
             have hnb179 := NB258_239.out
             have hnc179 := NB239_258.out
             have hnb180 := NB258_245.out
             have hnc180 := NB245_258.out
             have hnb181 := NB258_251.out
             have hnc181 := NB251_258.out
             have hcz182_0 : wc.cell? ⟨gb258, 0, none⟩ = some (.int .i64 t252) := (blk_cell BK258.out 0).trans rfl
             have hcz182_1 : wc.cell? ⟨gb258, 1, none⟩ = some (.int .i64 t253) := (blk_cell BK258.out 1).trans rfl
             have hcz182_2 : wc.cell? ⟨gb258, 2, none⟩ = some (.slice Ao74 t254.length co74) := (blk_cell BK258.out 2).trans rfl
             have hfz182_0 := blk_frozen BK258.out 0
             have hfz182_1 := blk_frozen BK258.out 1
             have hfz182_2 := blk_frozen BK258.out 2
             try go_wp2_with (first | ((with_reducible refine gate_callee (f := 44) rfl ?_); refine z6669.gl (some 89) rfl rfl Try.func44 (by kernel_rfl) rfl #[.agg #[.int .i64 t252, .int .i64 t253, .slice Ao74 t254.length co74], .int .i64 1] rfl ?_; (with_reducible refine (laws_markSheet.calls kj109 t252 t253 (fun k_ => some k_ = (.slice Ao74 t254.length co74 : Value).ownBlock) (.slice Ao74 t254.length co74) t254 1 t277 t278 w _ ?side1 ?side2 A160.out).mono ?_); (case side1 => exact z6669.bl HB); (case side2 => exact Kd.R_tight rfl HO_259002.out); rintro e w183 ⟨rfl, hy0, hb, hkp⟩; refine ⟨_, rfl, ?_⟩; replace HO_240002 := Aside0.mk (Kd.R_mono (ok' := fun k_ => some k_ ≠ (.slice Ao54 t273.length co54 : Value).ownBlock ∧ some k_ ≠ (.slice Ao64 t275.length co64 : Value).ownBlock ∧ some k_ ≠ (.slice Ao74 t254.length co74 : Value).ownBlock) (Kd.R_keptB (HO_240002.out) hkp (fun k_ hk_ hs_ => (hk_.2.2) hs_)) (fun k_ hk_ => ⟨hk_.1.1, hk_.1.2.1, hk_.1.2.2⟩)); replace HO_246002 := Aside0.mk (Kd.R_mono (ok' := fun k_ => some k_ ≠ (.slice Ao44 t235.length co44 : Value).ownBlock ∧ some k_ ≠ (.slice Ao64 t275.length co64 : Value).ownBlock ∧ some k_ ≠ (.slice Ao74 t254.length co74 : Value).ownBlock) (Kd.R_keptB (HO_246002.out) hkp (fun k_ hk_ hs_ => (hk_.2.2) hs_)) (fun k_ hk_ => ⟨hk_.1.1, hk_.1.2.1, hk_.1.2.2⟩)); replace HO_252002 := Aside0.mk (Kd.R_mono (ok' := fun k_ => some k_ ≠ (.slice Ao44 t235.length co44 : Value).ownBlock ∧ some k_ ≠ (.slice Ao54 t273.length co54 : Value).ownBlock ∧ some k_ ≠ (.slice Ao74 t254.length co74 : Value).ownBlock) (Kd.R_keptB (HO_252002.out) hkp (fun k_ hk_ hs_ => (hk_.2.2) hs_)) (fun k_ hk_ => ⟨hk_.1.1, hk_.1.2.1, hk_.1.2.2⟩)); replace BK219 := Aside0.mk (blk_kept (z6669.bk BK219) hkp (fun hs_ => (fun e_ => (Kd.R_ne HO_259002.out BK219.out (by decide)) e_) hs_)); replace BK220 := Aside0.mk (blk_kept (z6669.bk BK220) hkp (fun hs_ => (fun e_ => (Kd.R_ne HO_259002.out BK220.out (by decide)) e_) hs_)); replace BK239 := Aside0.mk (blk_kept (z6669.bk BK239) hkp (fun hs_ => (fun e_ => (Kd.R_ne HO_259002.out BK239.out (by decide)) e_) hs_)); replace BK245 := Aside0.mk (blk_kept (z6669.bk BK245) hkp (fun hs_ => (fun e_ => (Kd.R_ne HO_259002.out BK245.out (by decide)) e_) hs_)); replace BK251 := Aside0.mk (blk_kept (z6669.bk BK251) hkp (fun hs_ => (fun e_ => (Kd.R_ne HO_259002.out BK251.out (by decide)) e_) hs_)); replace BK258 := Aside0.mk (blk_kept (z6669.bk BK258) hkp (fun hs_ => (fun e_ => (Kd.R_ne HO_259002.out BK258.out (by decide)) e_) hs_)); replace HO_259002 := Aside0.mk (Kd.R_reok rfl hy0 (fun k_ e_ => HO_259002.out.1 k_ e_)); replace HB := Aside0.mk (hb); (try clear hb); (try clear hkp); (try clear hy0); have hcz184_0 : w183.cell? ⟨gb258, 0, none⟩ = some (.int .i64 t252) := (blk_cell BK258.out 0).trans rfl; have hcz184_1 : w183.cell? ⟨gb258, 1, none⟩ = some (.int .i64 t253) := (blk_cell BK258.out 1).trans rfl; have hcz184_2 : w183.cell? ⟨gb258, 2, none⟩ = some (.slice Ao74 t254.length co74) := (blk_cell BK258.out 2).trans rfl; have hfz184_0 := blk_frozen BK258.out 0; have hfz184_1 := blk_frozen BK258.out 1; have hfz184_2 := blk_frozen BK258.out 2) | ((with_reducible refine gate_callee (f := 49) rfl ?_); refine goesL_ (some 92) rfl rfl Try.func49 (by kernel_rfl) rfl #[.agg #[.int .i64 t252, .int .i64 t253, .slice Ao74 t278.length co74], .int .i64 1] rfl (by (try simp only [List.map_toArray, List.map_cons, List.map_nil]); first | done | (rw [show t278.length = t254.length from (Kd.R_reads' HO_259002.out).1.symm] <;> rfl) | rfl | (simp only [List.length_drop, List.length_take]; rfl)) ?_; (with_reducible refine (laws_heldSheet.calls kj109 t252 t253 _ _ t278 1 t279 _ ?side1 ?side2 A161.out).mono ?_); (case side1 => repeat (first | exact (Kd.R_reads' HO_259002.out).2.2 | (with_reducible refine Kd.C_alloc ?_ _) | (with_reducible refine Kd.C_drewN ?_ _) | (with_reducible refine Kd.C_drew ?_))); (case side2 => rw [show t278.length = t254.length from (Kd.R_reads' HO_259002.out).1.symm]; exact (Kd.R_reads' HO_259002.out).2.1); rintro e w185 ⟨rfl, hb⟩; refine ⟨_, rfl, ?_⟩; replace HO_240002 := z6669.rb HO_240002 hb; replace HO_246002 := z6669.rb HO_246002 hb; replace HO_252002 := z6669.rb HO_252002 hb; replace HO_259002 := z6669.rb HO_259002 hb; replace BK219 := z6669.bb BK219 hb; replace BK220 := z6669.bb BK220 hb; replace BK239 := z6669.bb BK239 hb; replace BK245 := z6669.bb BK245 hb; replace BK251 := z6669.bb BK251 hb; replace BK258 := z6669.bb BK258 hb; replace HB := Aside0.mk (below_step (z6669.bl HB) hb); (try clear hb); (try clear hb2); (try clear hk); (try clear hi)))
             replace HO_240002 := Aside0.mk (Kd.R_drew HO_240002.out)
             replace HO_246002 := Aside0.mk (Kd.R_drew HO_246002.out)
             replace HO_252002 := Aside0.mk (Kd.R_drew HO_252002.out)
             replace HO_259002 := Aside0.mk (Kd.R_drew HO_259002.out)
             replace BK219 := Aside0.mk (blk_drew BK219.out)
             replace BK220 := Aside0.mk (blk_drew BK220.out)
             replace BK239 := Aside0.mk (blk_drew BK239.out)
             replace BK245 := Aside0.mk (blk_drew BK245.out)
             replace BK251 := Aside0.mk (blk_drew BK251.out)
             replace BK258 := Aside0.mk (blk_drew BK258.out)
             replace HB := Aside0.mk (below_drew1 HB.out)
             refine start_ (n := 12) (S := fun w' => w'.cell? ⟨gb219, 0, none⟩ = some (.int .i64 a0_0) ∧ w'.cell? ⟨gb219, 1, none⟩ = some (.int .i64 a0_1) ∧ w'.cell? ⟨gb219, 2, none⟩ = some (.slice A0_2 l0_2.length c0_2) ∧ w'.cell? ⟨gb220, 0, none⟩ = some (.int .i64 a1_0) ∧ w'.cell? ⟨gb220, 1, none⟩ = some (.int .i64 a1_1) ∧ w'.cell? ⟨gb220, 2, none⟩ = some (.slice A1_2 l1_2.length c1_2)) (ds := []) #[false, false, false, false, false, false, false, false, false, false, false, false] (by kernel_rfl) rfl rfl ⟨(blk_cell BK219.out 0).trans rfl, (blk_cell BK219.out 1).trans rfl, (blk_cell BK219.out 2).trans rfl, (blk_cell BK220.out 0).trans rfl, (blk_cell BK220.out 1).trans rfl, (blk_cell BK220.out 2).trans rfl⟩ (fun hHeld => ?_); refine with_tabW laws_FnExactLaySheet.tab31 laws_FnExactLaySheet.bits31 (fun HT_ HW_ => ?_)
             generalize w185.drew = w186 at HO_240002 HO_246002 HO_252002 HO_259002 BK219 BK220 BK239 BK245 BK251 BK258 HB hHeld ⊢
             refine pure_ (i := 4) (N := some 103) (v := ?_) (a' := ?_) #[false, false, false, false, true, false, false, false, false, false, false, false] rfl rfl (any_of HT_.out (by kernel_rfl)) (fun _ _ _ h => h) (Or.inl ⟨by rfl, ?_⟩) ?_ ?_
             rotate_left
             ·intro w'
              go_simp
              with_reducible rfl
             rotate_left
             ·simp only [Act.put, List.setIfInBounds_toArray, List.set_cons_zero, List.set_cons_succ, i64_w, i32_w]
              rfl
             refine take_ (i := 0) (N := some 99) (v := ?_) (a' := ?_) #[true, false, false, false, true, false, false, false, false, false, false, false] rfl rfl (take_ofW HT_.out HW_.out (by kernel_rfl)) (fun _ _ _ h => h) (Or.inl ⟨by rfl, ?_⟩) hHeld ?_ ?_
             rotate_left
             ·rintro w' ⟨s0, s1, s2, s3, s4, s5⟩
              go_simp
              with_reducible rfl
             rotate_left
             ·simp only [Act.put, List.setIfInBounds_toArray, List.set_cons_zero, List.set_cons_succ, i64_w, i32_w]
              rfl
             refine take_ (i := 2) (N := some 101) (v := ?_) (a' := ?_) #[true, false, true, false, true, false, false, false, false, false, false, false] rfl rfl (take_ofW HT_.out HW_.out (by kernel_rfl)) (fun _ _ _ h => h) (Or.inl ⟨by rfl, ?_⟩) hHeld ?_ ?_
             rotate_left
             ·rintro w' ⟨s0, s1, s2, s3, s4, s5⟩
              go_simp
              with_reducible rfl
             rotate_left
             ·simp only [Act.put, List.setIfInBounds_toArray, List.set_cons_zero, List.set_cons_succ, i64_w, i32_w]
              rfl
             refine join_ (σ := Value × Value × Value × Nat) 2 #[true, true, true, true, true, true, true, true, true, true, false, false] (fun s_ => [(100, .agg #[.int .i64 t280, .int .i64 t281, s_.1]), (102, .agg #[.int .i64 t285, .int .i64 t286, s_.2.1]), (104, .tuple #[.agg #[.int .i64 t290, .int .i64 t291, s_.2.2.1], .bool t295]), (17, .pointer (some ⟨s_.2.2.2, 0, none⟩)), (98, .tuple #[.agg #[.int .i64 t290, .int .i64 t291, s_.2.2.1], .bool t295]), (105, .agg #[.int .i64 t290, .int .i64 t291, s_.2.2.1]), (106, .bool t295)]) (fun s_ w' => (w'.cell? ⟨gb219, 0, none⟩ = some (.int .i64 a0_0) ∧ w'.cell? ⟨gb219, 1, none⟩ = some (.int .i64 a0_1) ∧ w'.cell? ⟨gb219, 2, none⟩ = some (.slice A0_2 l0_2.length c0_2) ∧ w'.cell? ⟨gb220, 0, none⟩ = some (.int .i64 a1_0) ∧ w'.cell? ⟨gb220, 1, none⟩ = some (.int .i64 a1_1) ∧ w'.cell? ⟨gb220, 2, none⟩ = some (.slice A1_2 l1_2.length c1_2)) ∧ (Kd.R k54 54 w' w.heap.size (fun k_ => some k_ ≠ (s_.2.1 : Value).ownBlock ∧ some k_ ≠ (s_.2.2.1 : Value).ownBlock ∧ some k_ ≠ (.slice Ao44 t235.length co44 : Value).ownBlock ∧ some k_ ≠ (.slice Ao54 t273.length co54 : Value).ownBlock ∧ some k_ ≠ (.slice Ao64 t275.length co64 : Value).ownBlock ∧ some k_ ≠ (.slice Ao74 t254.length co74 : Value).ownBlock) s_.1 t282) ∧ (Kd.R k54 54 w' w.heap.size (fun k_ => some k_ ≠ (s_.1 : Value).ownBlock ∧ some k_ ≠ (s_.2.2.1 : Value).ownBlock ∧ some k_ ≠ (.slice Ao44 t235.length co44 : Value).ownBlock ∧ some k_ ≠ (.slice Ao54 t273.length co54 : Value).ownBlock ∧ some k_ ≠ (.slice Ao64 t275.length co64 : Value).ownBlock ∧ some k_ ≠ (.slice Ao74 t254.length co74 : Value).ownBlock) s_.2.1 t287) ∧ (Kd.R k54 54 w' w.heap.size (fun k_ => some k_ ≠ (s_.1 : Value).ownBlock ∧ some k_ ≠ (s_.2.1 : Value).ownBlock ∧ some k_ ≠ (.slice Ao44 t235.length co44 : Value).ownBlock ∧ some k_ ≠ (.slice Ao54 t273.length co54 : Value).ownBlock ∧ some k_ ≠ (.slice Ao64 t275.length co64 : Value).ownBlock ∧ some k_ ≠ (.slice Ao74 t254.length co74 : Value).ownBlock) s_.2.2.1 t292) ∧ (Kd.R k54 54 w' w.heap.size (fun k_ => some k_ ≠ (s_.1 : Value).ownBlock ∧ some k_ ≠ (s_.2.1 : Value).ownBlock ∧ some k_ ≠ (s_.2.2.1 : Value).ownBlock ∧ some k_ ≠ (.slice Ao54 t273.length co54 : Value).ownBlock ∧ some k_ ≠ (.slice Ao64 t275.length co64 : Value).ownBlock ∧ some k_ ≠ (.slice Ao74 t254.length co74 : Value).ownBlock) (.slice Ao44 t235.length co44) t235) ∧ (Kd.R k54 54 w' w.heap.size (fun k_ => some k_ ≠ (s_.1 : Value).ownBlock ∧ some k_ ≠ (s_.2.1 : Value).ownBlock ∧ some k_ ≠ (s_.2.2.1 : Value).ownBlock ∧ some k_ ≠ (.slice Ao44 t235.length co44 : Value).ownBlock ∧ some k_ ≠ (.slice Ao64 t275.length co64 : Value).ownBlock ∧ some k_ ≠ (.slice Ao74 t254.length co74 : Value).ownBlock) (.slice Ao54 t273.length co54) t273) ∧ (Kd.R k54 54 w' w.heap.size (fun k_ => some k_ ≠ (s_.1 : Value).ownBlock ∧ some k_ ≠ (s_.2.1 : Value).ownBlock ∧ some k_ ≠ (s_.2.2.1 : Value).ownBlock ∧ some k_ ≠ (.slice Ao44 t235.length co44 : Value).ownBlock ∧ some k_ ≠ (.slice Ao54 t273.length co54 : Value).ownBlock ∧ some k_ ≠ (.slice Ao74 t254.length co74 : Value).ownBlock) (.slice Ao64 t275.length co64) t275) ∧ (Kd.R k54 54 w' w.heap.size (fun k_ => some k_ ≠ (s_.1 : Value).ownBlock ∧ some k_ ≠ (s_.2.1 : Value).ownBlock ∧ some k_ ≠ (s_.2.2.1 : Value).ownBlock ∧ some k_ ≠ (.slice Ao44 t235.length co44 : Value).ownBlock ∧ some k_ ≠ (.slice Ao54 t273.length co54 : Value).ownBlock ∧ some k_ ≠ (.slice Ao64 t275.length co64 : Value).ownBlock) (.slice Ao74 t254.length co74) t278) ∧ (w'.heap[gb219]? = some (.cells #[.int .i64 a0_0, .int .i64 a0_1, .slice A0_2 l0_2.length c0_2] 64 (0, 0))) ∧ (w'.heap[gb220]? = some (.cells #[.int .i64 a1_0, .int .i64 a1_1, .slice A1_2 l1_2.length c1_2] 64 (0, 0))) ∧ (w'.heap[gb239]? = some (.cells #[.int .i64 t233, .int .i64 t234, .slice Ao44 t235.length co44] 70 (0, 0))) ∧ (w'.heap[gb245]? = some (.cells #[.int .i64 t240, .int .i64 t241, .slice Ao54 t273.length co54] 70 (0, 0))) ∧ (w'.heap[gb251]? = some (.cells #[.int .i64 t246, .int .i64 t247, .slice Ao64 t275.length co64] 70 (0, 0))) ∧ (w'.heap[gb258]? = some (.cells #[.int .i64 t252, .int .i64 t253, .slice Ao74 t254.length co74] 70 (0, 0))) ∧ (w'.heap[s_.2.2.2]? = some (.cells #[.int .i64 0, .int .i64 0, .slice none 0 0] 70 (0, 0))) ∧ (w.heap.size ≤ s_.2.2.2) ∧ (w.heap.size ≤ s_.2.2.2) ∧ (gb219 ≠ s_.2.2.2) ∧ (s_.2.2.2 ≠ gb219) ∧ (gb220 ≠ s_.2.2.2) ∧ (s_.2.2.2 ≠ gb220) ∧ (gb239 ≠ s_.2.2.2) ∧ (s_.2.2.2 ≠ gb239) ∧ (gb245 ≠ s_.2.2.2) ∧ (s_.2.2.2 ≠ gb245) ∧ (gb251 ≠ s_.2.2.2) ∧ (s_.2.2.2 ≠ gb251) ∧ (gb258 ≠ s_.2.2.2) ∧ (s_.2.2.2 ≠ gb258) ∧ (Below w.heap.size w w')) ?_ ?_
             rotate_left
             ·intro hCont
              refine two_ (i := 1) (j := 9) (Ni := some 100) (Nj := some 17) #[true, true, true, false, true, false, false, false, false, false, false, false] #[true, false, true, false, true, false, false, false, false, true, false, false] rfl rfl rfl rfl (two_of HT_.out (by kernel_rfl)) (by decide) (by decide) (fun K hK => ?_) (fun K hK => ?_)
              ·skip
               refine z6669.gs Try.func40 (by kernel_rfl) rfl #[.agg #[.int .i64 a0_0, .int .i64 a0_1, .slice A0_2 l0_2.length c0_2]] (by rfl) rfl rfl ?_
               with_reducible refine (laws_toSheet.calls kj109 a0_0 a0_1 _ _ l0_2 t280 t281 t282 _ ?side1 ?side2 A173.out).mono ?_
               (case side1 => repeat (first | exact (Kd.C_below HR0_2.out HB.out) | (with_reducible refine Kd.C_alloc ?_ _) | (with_reducible refine Kd.C_drewN ?_ _) | (with_reducible refine Kd.C_drew ?_)))
               (case side2 => exact HC0_2.out)
               rintro e w187 ⟨v283, rfl, ho0, hb⟩
               refine ⟨_, rfl, ?_⟩
               have HO284 := Aside0.mk (Kd.R_lower (Kd.R_new' (Kd.R_new' (Kd.R_new' (Kd.R_new' ho0 (Kd.R_lt (z6669.rl HO_240002.out))) (Kd.R_lt (z6669.rl HO_246002.out))) (Kd.R_lt (z6669.rl HO_252002.out))) (Kd.R_lt (z6669.rl HO_259002.out))) (below_size (z6669.bl HB)))
               replace HO_240002 := Aside0.mk (Kd.R_elder' (z6669.rl HO_240002.out) (Kd.R_base ho0) hb)
               replace HO_246002 := Aside0.mk (Kd.R_elder' (z6669.rl HO_246002.out) (Kd.R_base ho0) hb)
               replace HO_252002 := Aside0.mk (Kd.R_elder' (z6669.rl HO_252002.out) (Kd.R_base ho0) hb)
               replace HO_259002 := Aside0.mk (Kd.R_elder' (z6669.rl HO_259002.out) (Kd.R_base ho0) hb)
               replace BK219 := z6669.bb BK219 hb
               replace BK220 := z6669.bb BK220 hb
               replace BK239 := z6669.bb BK239 hb
               replace BK245 := z6669.bb BK245 hb
               replace BK251 := z6669.bb BK251 hb
               replace BK258 := z6669.bb BK258 hb
               replace HB := Aside0.mk (below_step (z6669.bl HB) hb)
               (try clear hb)
               (try clear hb2)
               (try clear hk)
               (try clear hi)
               (try clear ho0)
               refine hK.out _ _ ⟨(blk_cell BK219.out 0).trans rfl, (blk_cell BK219.out 1).trans rfl, (blk_cell BK219.out 2).trans rfl, (blk_cell BK220.out 0).trans rfl, (blk_cell BK220.out 1).trans rfl, (blk_cell BK220.out 2).trans rfl⟩ (fun hHeld => ?_)
               clear hK K
               refine norm_ (a' := ?_) ?_ ?_
               rotate_left
               ·show Act.put _ (some 100) _ = _
                simp only [Act.put, List.setIfInBounds_toArray, List.set_cons_zero, List.set_cons_succ, i64_w, i32_w]
                rfl
               refine two_ (i := 3) (j := 9) (Ni := some 102) (Nj := some 17) #[true, true, true, true, true, false, false, false, false, false, false, false] #[true, true, true, false, true, false, false, false, false, true, false, false] rfl rfl rfl rfl (two_of HT_.out (by kernel_rfl)) (by decide) (by decide) (fun K hK => ?_) (fun K hK => ?_)
               ·skip
                refine z6669.gs Try.func40 (by kernel_rfl) rfl #[.agg #[.int .i64 a1_0, .int .i64 a1_1, .slice A1_2 l1_2.length c1_2]] (by rfl) rfl rfl ?_
                with_reducible refine (laws_toSheet.calls kj109 a1_0 a1_1 _ _ l1_2 t285 t286 t287 _ ?side1 ?side2 A174.out).mono ?_
                (case side1 => repeat (first | exact (Kd.C_below HR1_2.out HB.out) | (with_reducible refine Kd.C_alloc ?_ _) | (with_reducible refine Kd.C_drewN ?_ _) | (with_reducible refine Kd.C_drew ?_)))
                (case side2 => exact HC1_2.out)
                rintro e w188 ⟨v288, rfl, ho0, hb⟩
                refine ⟨_, rfl, ?_⟩
                have HO289 := Aside0.mk (Kd.R_lower (Kd.R_new' (Kd.R_new' (Kd.R_new' (Kd.R_new' (Kd.R_new' ho0 (Kd.R_lt (z6669.rl HO_240002.out))) (Kd.R_lt (z6669.rl HO_246002.out))) (Kd.R_lt (z6669.rl HO_252002.out))) (Kd.R_lt (z6669.rl HO_259002.out))) (Kd.R_lt (z6669.rl HO284.out))) (below_size (z6669.bl HB)))
                replace HO_240002 := Aside0.mk (Kd.R_elder' (z6669.rl HO_240002.out) (Kd.R_base ho0) hb)
                replace HO_246002 := Aside0.mk (Kd.R_elder' (z6669.rl HO_246002.out) (Kd.R_base ho0) hb)
                replace HO_252002 := Aside0.mk (Kd.R_elder' (z6669.rl HO_252002.out) (Kd.R_base ho0) hb)
                replace HO_259002 := Aside0.mk (Kd.R_elder' (z6669.rl HO_259002.out) (Kd.R_base ho0) hb)
                replace HO284 := Aside0.mk (Kd.R_elder' (z6669.rl HO284.out) (Kd.R_base ho0) hb)
                replace BK219 := z6669.bb BK219 hb
                replace BK220 := z6669.bb BK220 hb
                replace BK239 := z6669.bb BK239 hb
                replace BK245 := z6669.bb BK245 hb
                replace BK251 := z6669.bb BK251 hb
                replace BK258 := z6669.bb BK258 hb
                replace HB := Aside0.mk (below_step (z6669.bl HB) hb)
                (try clear hb)
                (try clear hb2)
                (try clear hk)
                (try clear hi)
                (try clear ho0)
                obtain ⟨Ao189, co189, eo189⟩ := Kd.R_slice HO284.out
                (first | subst eo189 | (injection eo189 with f1_ f2_ f3_; have f4_ := f1_.symm; have f5_ := f3_.symm; clear f1_ f2_ f3_; subst f4_; subst f5_))
                obtain ⟨Ao190, co190, eo190⟩ := Kd.R_slice HO289.out
                (first | subst eo190 | (injection eo190 with f1_ f2_ f3_; have f4_ := f1_.symm; have f5_ := f3_.symm; clear f1_ f2_ f3_; subst f4_; subst f5_))
                refine hK.out _ _ ⟨(blk_cell BK219.out 0).trans rfl, (blk_cell BK219.out 1).trans rfl, (blk_cell BK219.out 2).trans rfl, (blk_cell BK220.out 0).trans rfl, (blk_cell BK220.out 1).trans rfl, (blk_cell BK220.out 2).trans rfl⟩ (fun hHeld => ?_)
                clear hK K
                refine norm_ (a' := ?_) ?_ ?_
                rotate_left
                ·show Act.put _ (some 102) _ = _
                 simp only [Act.put, List.setIfInBounds_toArray, List.set_cons_zero, List.set_cons_succ, i64_w, i32_w]
                 rfl
                refine two_ (i := 5) (j := 9) (Ni := some 104) (Nj := some 17) #[true, true, true, true, true, true, false, false, false, false, false, false] #[true, true, true, true, true, false, false, false, false, true, false, false] rfl rfl rfl rfl (two_of HT_.out (by kernel_rfl)) (by decide) (by decide) (fun K hK => ?_) (fun K hK => ?_)
                ·skip
                 refine z6669.gs Try.func48 (by kernel_rfl) rfl #[.agg #[.int .i64 t280, .int .i64 t281, .slice Ao189 t282.length co189], .agg #[.int .i64 t285, .int .i64 t286, .slice Ao190 t287.length co190], .int .i64 a2] (by rfl) rfl rfl ?_
                 with_reducible refine (impl_LaySheet.calls kj109 t280 t281 _ _ t282 t285 t286 _ _ t287 a2 t290 t291 t292 t295 _ ?side1 ?side2 ?side3 ?side4 A175.out).mono ?_
                 (case side1 => repeat (first | exact (Kd.R_reads' HO284.out).2.2 | (with_reducible refine Kd.C_alloc ?_ _) | (with_reducible refine Kd.C_drewN ?_ _) | (with_reducible refine Kd.C_drew ?_)))
                 (case side2 => exact (Kd.R_reads' HO284.out).2.1)
                 (case side3 => repeat (first | exact (Kd.R_reads' HO289.out).2.2 | (with_reducible refine Kd.C_alloc ?_ _) | (with_reducible refine Kd.C_drewN ?_ _) | (with_reducible refine Kd.C_drew ?_)))
                 (case side4 => exact (Kd.R_reads' HO289.out).2.1)
                 rintro e w191 ⟨v293, rfl, ho0, hb⟩
                 refine ⟨_, rfl, ?_⟩
                 have HO294 := Aside0.mk (Kd.R_lower (Kd.R_new' (Kd.R_new' (Kd.R_new' (Kd.R_new' (Kd.R_new' (Kd.R_new' ho0 (Kd.R_lt (z6669.rl HO_240002.out))) (Kd.R_lt (z6669.rl HO_246002.out))) (Kd.R_lt (z6669.rl HO_252002.out))) (Kd.R_lt (z6669.rl HO_259002.out))) (Kd.R_lt (z6669.rl HO284.out))) (Kd.R_lt (z6669.rl HO289.out))) (below_size (z6669.bl HB)))
                 replace HO_240002 := Aside0.mk (Kd.R_elder' (z6669.rl HO_240002.out) (Kd.R_base ho0) hb)
                 replace HO_246002 := Aside0.mk (Kd.R_elder' (z6669.rl HO_246002.out) (Kd.R_base ho0) hb)
                 replace HO_252002 := Aside0.mk (Kd.R_elder' (z6669.rl HO_252002.out) (Kd.R_base ho0) hb)
                 replace HO_259002 := Aside0.mk (Kd.R_elder' (z6669.rl HO_259002.out) (Kd.R_base ho0) hb)
                 replace HO284 := Aside0.mk (Kd.R_elder' (z6669.rl HO284.out) (Kd.R_base ho0) hb)
                 replace HO289 := Aside0.mk (Kd.R_elder' (z6669.rl HO289.out) (Kd.R_base ho0) hb)
                 replace BK219 := z6669.bb BK219 hb
                 replace BK220 := z6669.bb BK220 hb
                 replace BK239 := z6669.bb BK239 hb
                 replace BK245 := z6669.bb BK245 hb
                 replace BK251 := z6669.bb BK251 hb
                 replace BK258 := z6669.bb BK258 hb
                 replace HB := Aside0.mk (below_step (z6669.bl HB) hb)
                 (try clear hb)
                 (try clear hb2)
                 (try clear hk)
                 (try clear hi)
                 (try clear ho0)
                 refine hK.out _ _ ⟨(blk_cell BK219.out 0).trans rfl, (blk_cell BK219.out 1).trans rfl, (blk_cell BK219.out 2).trans rfl, (blk_cell BK220.out 0).trans rfl, (blk_cell BK220.out 1).trans rfl, (blk_cell BK220.out 2).trans rfl⟩ (fun hHeld => ?_)
                 clear hK K
                 refine norm_ (a' := ?_) ?_ ?_
                 rotate_left
                 ·show Act.put _ (some 104) _ = _
                  simp only [Act.put, List.setIfInBounds_toArray, List.set_cons_zero, List.set_cons_succ, i64_w, i32_w]
                  rfl
                 refine pure_ (i := 6) (N := some 98) (v := ?_) (a' := ?_) #[true, true, true, true, true, true, true, false, false, false, false, false] rfl rfl (any_of HT_.out (by kernel_rfl)) (fun _ _ _ h => h) (Or.inl ⟨by rfl, ?_⟩) ?_ ?_
                 rotate_left
                 ·intro w'
                  go_simp
                  with_reducible rfl
                 rotate_left
                 ·simp only [Act.put, List.setIfInBounds_toArray, List.set_cons_zero, List.set_cons_succ, i64_w, i32_w]
                  rfl
                 refine pure_ (i := 7) (N := some 105) (v := ?_) (a' := ?_) #[true, true, true, true, true, true, true, true, false, false, false, false] rfl rfl (any_of HT_.out (by kernel_rfl)) (fun _ _ _ h => h) (Or.inl ⟨by rfl, ?_⟩) ?_ ?_
                 rotate_left
                 ·intro w'
                  go_simp
                  with_reducible rfl
                 rotate_left
                 ·simp only [Act.put, List.setIfInBounds_toArray, List.set_cons_zero, List.set_cons_succ, i64_w, i32_w]
                  rfl
                 refine pure_ (i := 8) (N := some 106) (v := ?_) (a' := ?_) #[true, true, true, true, true, true, true, true, true, false, false, false] rfl rfl (any_of HT_.out (by kernel_rfl)) (fun _ _ _ h => h) (Or.inl ⟨by rfl, ?_⟩) ?_ ?_
                 rotate_left
                 ·intro w'
                  go_simp
                  with_reducible rfl
                 rotate_left
                 ·simp only [Act.put, List.setIfInBounds_toArray, List.set_cons_zero, List.set_cons_succ, i64_w, i32_w]
                  rfl
                 refine one_ (i := 9) (N := some 17) #[true, true, true, true, true, true, true, true, true, true, false, false] rfl rfl (one_of HT_.out (by kernel_rfl)) (by decide) (fun K hK => ?_)
                 refine box_step ?hg (N := 17) ?hd (cs := #[.int .i64 0, .int .i64 0, .slice none 0 0]) (t := 70) ?hr ?_; (case hd => rfl); (case hg => rfl); (case hr => first | (go_simp; done) | (go_simp; rfl))
                 intro gb296 hg w192 hbox hb
                 replace HO_240002 := z6669.rb HO_240002 hb
                 replace HO_246002 := z6669.rb HO_246002 hb
                 replace HO_252002 := z6669.rb HO_252002 hb
                 replace HO_259002 := z6669.rb HO_259002 hb
                 replace HO284 := z6669.rb HO284 hb
                 replace HO289 := z6669.rb HO289 hb
                 replace HO294 := z6669.rb HO294 hb
                 have BK296 := Aside0.mk (hbox)
                 have GW296 := Aside0.mk ((by rw [hg]; exact (below_size (z6669.bl HB)) : w.heap.size ≤ gb296))
                 have GE296 := Aside0.mk ((by rw [hg]; exact (below_size (z6669.bl HB)) : w.heap.size ≤ gb296))
                 replace HB := Aside0.mk (below_step (z6669.bl HB) hb)
                 have NB219_296 := z6669.ht BK219 hg
                 have NB296_219 := z6669.hu BK219 hg
                 replace BK219 := z6669.bb BK219 hb
                 have NB220_296 := z6669.ht BK220 hg
                 have NB296_220 := z6669.hu BK220 hg
                 replace BK220 := z6669.bb BK220 hb
                 have NB239_296 := z6669.ht BK239 hg
                 have NB296_239 := z6669.hu BK239 hg
                 replace BK239 := z6669.bb BK239 hb
                 have NB245_296 := z6669.ht BK245 hg
                 have NB296_245 := z6669.hu BK245 hg
                 replace BK245 := z6669.bb BK245 hb
                 have NB251_296 := z6669.ht BK251 hg
                 have NB296_251 := z6669.hu BK251 hg
                 replace BK251 := z6669.bb BK251 hb
                 have NB258_296 := z6669.ht BK258 hg
                 have NB296_258 := z6669.hu BK258 hg
                 replace BK258 := z6669.bb BK258 hb
                 clear hb hbox hg
                 refine hK.out _ _ ⟨(blk_cell BK219.out 0).trans rfl, (blk_cell BK219.out 1).trans rfl, (blk_cell BK219.out 2).trans rfl, (blk_cell BK220.out 0).trans rfl, (blk_cell BK220.out 1).trans rfl, (blk_cell BK220.out 2).trans rfl⟩ (fun hHeld => ?_)
                 clear hK K
                 refine norm_ (a' := ?_) ?_ ?_
                 rotate_left
                 ·show Act.put _ (some 17) _ = _
                  simp only [Act.put, List.setIfInBounds_toArray, List.set_cons_zero, List.set_cons_succ, i64_w, i32_w]
                  rfl
                 exact norm_ (by simp only [putAll, Act.put, List.setIfInBounds_toArray, List.set_cons_zero, List.set_cons_succ]) (hCont (.slice Ao189 t282.length co189, .slice Ao190 t287.length co190, v293, gb296) _ ⟨hHeld, (z6669.rl (Kd.R_mono HO284.out (fun _ hk => ⟨hk.1.2, ⟨hk.2, ⟨hk.1.1.1.1.1.2, ⟨hk.1.1.1.1.2, ⟨hk.1.1.1.2, hk.1.1.2⟩⟩⟩⟩⟩))), (z6669.rl (Kd.R_mono HO289.out (fun _ hk => ⟨hk.1.2, ⟨hk.2, ⟨hk.1.1.1.1.1.2, ⟨hk.1.1.1.1.2, ⟨hk.1.1.1.2, hk.1.1.2⟩⟩⟩⟩⟩))), (z6669.rl (Kd.R_mono HO294.out (fun _ hk => ⟨hk.1.2, ⟨hk.2, ⟨hk.1.1.1.1.1.2, ⟨hk.1.1.1.1.2, ⟨hk.1.1.1.2, hk.1.1.2⟩⟩⟩⟩⟩))), (z6669.rl (Kd.R_mono HO_240002.out (fun _ hk => ⟨hk.1.1.2, ⟨hk.1.2, ⟨hk.2, ⟨hk.1.1.1.1, ⟨hk.1.1.1.2.1, hk.1.1.1.2.2⟩⟩⟩⟩⟩))), (z6669.rl (Kd.R_mono HO_246002.out (fun _ hk => ⟨hk.1.1.2, ⟨hk.1.2, ⟨hk.2, ⟨hk.1.1.1.1, ⟨hk.1.1.1.2.1, hk.1.1.1.2.2⟩⟩⟩⟩⟩))), (z6669.rl (Kd.R_mono HO_252002.out (fun _ hk => ⟨hk.1.1.2, ⟨hk.1.2, ⟨hk.2, ⟨hk.1.1.1.1, ⟨hk.1.1.1.2.1, hk.1.1.1.2.2⟩⟩⟩⟩⟩))), (z6669.rl (Kd.R_mono HO_259002.out (fun _ hk => ⟨hk.1.1.2, ⟨hk.1.2, ⟨hk.2, ⟨hk.1.1.1.1, ⟨hk.1.1.1.2.1, hk.1.1.1.2.2⟩⟩⟩⟩⟩))), (z6669.bk BK219), (z6669.bk BK220), (z6669.bk BK239), (z6669.bk BK245), (z6669.bk BK251), (z6669.bk BK258), (z6669.bk BK296), GW296.out, GE296.out, NB219_296.out, NB296_219.out, NB220_296.out, NB296_220.out, NB239_296.out, NB296_239.out, NB245_296.out, NB296_245.out, NB251_296.out, NB296_251.out, NB258_296.out, NB296_258.out, (z6669.bl HB)⟩)
                ·skip
                 refine box_step ?hg (N := 17) ?hd (cs := #[.int .i64 0, .int .i64 0, .slice none 0 0]) (t := 70) ?hr ?_; (case hd => rfl); (case hg => rfl); (case hr => first | (go_simp; done) | (go_simp; rfl))
                 intro gb296 hg w189 hbox hb
                 replace HO_240002 := z6669.rb HO_240002 hb
                 replace HO_246002 := z6669.rb HO_246002 hb
                 replace HO_252002 := z6669.rb HO_252002 hb
                 replace HO_259002 := z6669.rb HO_259002 hb
                 replace HO284 := z6669.rb HO284 hb
                 replace HO289 := z6669.rb HO289 hb
                 have BK296 := Aside0.mk (hbox)
                 have GW296 := Aside0.mk ((by rw [hg]; exact (below_size (z6669.bl HB)) : w.heap.size ≤ gb296))
                 have GE296 := Aside0.mk ((by rw [hg]; exact (below_size (z6669.bl HB)) : w.heap.size ≤ gb296))
                 replace HB := Aside0.mk (below_step (z6669.bl HB) hb)
                 have NB219_296 := z6669.ht BK219 hg
                 have NB296_219 := z6669.hu BK219 hg
                 replace BK219 := z6669.bb BK219 hb
                 have NB220_296 := z6669.ht BK220 hg
                 have NB296_220 := z6669.hu BK220 hg
                 replace BK220 := z6669.bb BK220 hb
                 have NB239_296 := z6669.ht BK239 hg
                 have NB296_239 := z6669.hu BK239 hg
                 replace BK239 := z6669.bb BK239 hb
                 have NB245_296 := z6669.ht BK245 hg
                 have NB296_245 := z6669.hu BK245 hg
                 replace BK245 := z6669.bb BK245 hb
                 have NB251_296 := z6669.ht BK251 hg
                 have NB296_251 := z6669.hu BK251 hg
                 replace BK251 := z6669.bb BK251 hb
                 have NB258_296 := z6669.ht BK258 hg
                 have NB296_258 := z6669.hu BK258 hg
                 replace BK258 := z6669.bb BK258 hb
                 clear hb hbox hg
                 obtain ⟨Ao190, co190, eo190⟩ := Kd.R_slice HO284.out
                 (first | subst eo190 | (injection eo190 with f1_ f2_ f3_; have f4_ := f1_.symm; have f5_ := f3_.symm; clear f1_ f2_ f3_; subst f4_; subst f5_))
                 obtain ⟨Ao191, co191, eo191⟩ := Kd.R_slice HO289.out
                 (first | subst eo191 | (injection eo191 with f1_ f2_ f3_; have f4_ := f1_.symm; have f5_ := f3_.symm; clear f1_ f2_ f3_; subst f4_; subst f5_))
                 refine hK.out _ _ ⟨(blk_cell BK219.out 0).trans rfl, (blk_cell BK219.out 1).trans rfl, (blk_cell BK219.out 2).trans rfl, (blk_cell BK220.out 0).trans rfl, (blk_cell BK220.out 1).trans rfl, (blk_cell BK220.out 2).trans rfl⟩ (fun hHeld => ?_)
                 clear hK K
                 refine norm_ (a' := ?_) ?_ ?_
                 rotate_left
                 ·show Act.put _ (some 17) _ = _
                  simp only [Act.put, List.setIfInBounds_toArray, List.set_cons_zero, List.set_cons_succ, i64_w, i32_w]
                  rfl
                 refine one_ (i := 5) (N := some 104) #[true, true, true, true, true, true, false, false, false, true, false, false] rfl rfl (one_of HT_.out (by kernel_rfl)) (by decide) (fun K hK => ?_)
                 refine z6669.gs Try.func48 (by kernel_rfl) rfl #[.agg #[.int .i64 t280, .int .i64 t281, .slice Ao190 t282.length co190], .agg #[.int .i64 t285, .int .i64 t286, .slice Ao191 t287.length co191], .int .i64 a2] (by rfl) rfl rfl ?_
                 with_reducible refine (impl_LaySheet.calls kj109 t280 t281 _ _ t282 t285 t286 _ _ t287 a2 t290 t291 t292 t295 _ ?side1 ?side2 ?side3 ?side4 A175.out).mono ?_
                 (case side1 => repeat (first | exact (Kd.R_reads' HO284.out).2.2 | (with_reducible refine Kd.C_alloc ?_ _) | (with_reducible refine Kd.C_drewN ?_ _) | (with_reducible refine Kd.C_drew ?_)))
                 (case side2 => exact (Kd.R_reads' HO284.out).2.1)
                 (case side3 => repeat (first | exact (Kd.R_reads' HO289.out).2.2 | (with_reducible refine Kd.C_alloc ?_ _) | (with_reducible refine Kd.C_drewN ?_ _) | (with_reducible refine Kd.C_drew ?_)))
                 (case side4 => exact (Kd.R_reads' HO289.out).2.1)
                 rintro e w192 ⟨v293, rfl, ho0, hb⟩
                 refine ⟨_, rfl, ?_⟩
                 have HO294 := Aside0.mk (Kd.R_lower (Kd.R_new' (Kd.R_new' (Kd.R_new' (Kd.R_new' (Kd.R_new' (Kd.R_new' ho0 (Kd.R_lt (z6669.rl HO_240002.out))) (Kd.R_lt (z6669.rl HO_246002.out))) (Kd.R_lt (z6669.rl HO_252002.out))) (Kd.R_lt (z6669.rl HO_259002.out))) (Kd.R_lt (z6669.rl HO284.out))) (Kd.R_lt (z6669.rl HO289.out))) (below_size (z6669.bl HB)))
                 replace HO_240002 := Aside0.mk (Kd.R_elder' (z6669.rl HO_240002.out) (Kd.R_base ho0) hb)
                 replace HO_246002 := Aside0.mk (Kd.R_elder' (z6669.rl HO_246002.out) (Kd.R_base ho0) hb)
                 replace HO_252002 := Aside0.mk (Kd.R_elder' (z6669.rl HO_252002.out) (Kd.R_base ho0) hb)
                 replace HO_259002 := Aside0.mk (Kd.R_elder' (z6669.rl HO_259002.out) (Kd.R_base ho0) hb)
                 replace HO284 := Aside0.mk (Kd.R_elder' (z6669.rl HO284.out) (Kd.R_base ho0) hb)
                 replace HO289 := Aside0.mk (Kd.R_elder' (z6669.rl HO289.out) (Kd.R_base ho0) hb)
                 replace BK219 := z6669.bb BK219 hb
                 replace BK220 := z6669.bb BK220 hb
                 replace BK239 := z6669.bb BK239 hb
                 replace BK245 := z6669.bb BK245 hb
                 replace BK251 := z6669.bb BK251 hb
                 replace BK258 := z6669.bb BK258 hb
                 replace BK296 := z6669.bb BK296 hb
                 replace HB := Aside0.mk (below_step (z6669.bl HB) hb)
                 (try clear hb)
                 (try clear hb2)
                 (try clear hk)
                 (try clear hi)
                 (try clear ho0)
                 refine hK.out _ _ ⟨(blk_cell BK219.out 0).trans rfl, (blk_cell BK219.out 1).trans rfl, (blk_cell BK219.out 2).trans rfl, (blk_cell BK220.out 0).trans rfl, (blk_cell BK220.out 1).trans rfl, (blk_cell BK220.out 2).trans rfl⟩ (fun hHeld => ?_)
                 clear hK K
                 refine norm_ (a' := ?_) ?_ ?_
                 rotate_left
                 ·show Act.put _ (some 104) _ = _
                  simp only [Act.put, List.setIfInBounds_toArray, List.set_cons_zero, List.set_cons_succ, i64_w, i32_w]
                  rfl
                 refine pure_ (i := 6) (N := some 98) (v := ?_) (a' := ?_) #[true, true, true, true, true, true, true, false, false, true, false, false] rfl rfl (any_of HT_.out (by kernel_rfl)) (fun _ _ _ h => h) (Or.inl ⟨by rfl, ?_⟩) ?_ ?_
                 rotate_left
                 ·intro w'
                  go_simp
                  with_reducible rfl
                 rotate_left
                 ·simp only [Act.put, List.setIfInBounds_toArray, List.set_cons_zero, List.set_cons_succ, i64_w, i32_w]
                  rfl
                 refine pure_ (i := 7) (N := some 105) (v := ?_) (a' := ?_) #[true, true, true, true, true, true, true, true, false, true, false, false] rfl rfl (any_of HT_.out (by kernel_rfl)) (fun _ _ _ h => h) (Or.inl ⟨by rfl, ?_⟩) ?_ ?_
                 rotate_left
                 ·intro w'
                  go_simp
                  with_reducible rfl
                 rotate_left
                 ·simp only [Act.put, List.setIfInBounds_toArray, List.set_cons_zero, List.set_cons_succ, i64_w, i32_w]
                  rfl
                 refine pure_ (i := 8) (N := some 106) (v := ?_) (a' := ?_) #[true, true, true, true, true, true, true, true, true, true, false, false] rfl rfl (any_of HT_.out (by kernel_rfl)) (fun _ _ _ h => h) (Or.inl ⟨by rfl, ?_⟩) ?_ ?_
                 rotate_left
                 ·intro w'
                  go_simp
                  with_reducible rfl
                 rotate_left
                 ·simp only [Act.put, List.setIfInBounds_toArray, List.set_cons_zero, List.set_cons_succ, i64_w, i32_w]
                  rfl
                 exact norm_ (by simp only [putAll, Act.put, List.setIfInBounds_toArray, List.set_cons_zero, List.set_cons_succ]) (hCont (.slice Ao190 t282.length co190, .slice Ao191 t287.length co191, v293, gb296) _ ⟨hHeld, (z6669.rl (Kd.R_mono HO284.out (fun _ hk => ⟨hk.1.2, ⟨hk.2, ⟨hk.1.1.1.1.1.2, ⟨hk.1.1.1.1.2, ⟨hk.1.1.1.2, hk.1.1.2⟩⟩⟩⟩⟩))), (z6669.rl (Kd.R_mono HO289.out (fun _ hk => ⟨hk.1.2, ⟨hk.2, ⟨hk.1.1.1.1.1.2, ⟨hk.1.1.1.1.2, ⟨hk.1.1.1.2, hk.1.1.2⟩⟩⟩⟩⟩))), (z6669.rl (Kd.R_mono HO294.out (fun _ hk => ⟨hk.1.2, ⟨hk.2, ⟨hk.1.1.1.1.1.2, ⟨hk.1.1.1.1.2, ⟨hk.1.1.1.2, hk.1.1.2⟩⟩⟩⟩⟩))), (z6669.rl (Kd.R_mono HO_240002.out (fun _ hk => ⟨hk.1.1.2, ⟨hk.1.2, ⟨hk.2, ⟨hk.1.1.1.1, ⟨hk.1.1.1.2.1, hk.1.1.1.2.2⟩⟩⟩⟩⟩))), (z6669.rl (Kd.R_mono HO_246002.out (fun _ hk => ⟨hk.1.1.2, ⟨hk.1.2, ⟨hk.2, ⟨hk.1.1.1.1, ⟨hk.1.1.1.2.1, hk.1.1.1.2.2⟩⟩⟩⟩⟩))), (z6669.rl (Kd.R_mono HO_252002.out (fun _ hk => ⟨hk.1.1.2, ⟨hk.1.2, ⟨hk.2, ⟨hk.1.1.1.1, ⟨hk.1.1.1.2.1, hk.1.1.1.2.2⟩⟩⟩⟩⟩))), (z6669.rl (Kd.R_mono HO_259002.out (fun _ hk => ⟨hk.1.1.2, ⟨hk.1.2, ⟨hk.2, ⟨hk.1.1.1.1, ⟨hk.1.1.1.2.1, hk.1.1.1.2.2⟩⟩⟩⟩⟩))), (z6669.bk BK219), (z6669.bk BK220), (z6669.bk BK239), (z6669.bk BK245), (z6669.bk BK251), (z6669.bk BK258), (z6669.bk BK296), GW296.out, GE296.out, NB219_296.out, NB296_219.out, NB220_296.out, NB296_220.out, NB239_296.out, NB296_239.out, NB245_296.out, NB296_245.out, NB251_296.out, NB296_251.out, NB258_296.out, NB296_258.out, (z6669.bl HB)⟩)
               ·skip
                refine box_step ?hg (N := 17) ?hd (cs := #[.int .i64 0, .int .i64 0, .slice none 0 0]) (t := 70) ?hr ?_; (case hd => rfl); (case hg => rfl); (case hr => first | (go_simp; done) | (go_simp; rfl))
                intro gb296 hg w188 hbox hb
                replace HO_240002 := z6669.rb HO_240002 hb
                replace HO_246002 := z6669.rb HO_246002 hb
                replace HO_252002 := z6669.rb HO_252002 hb
                replace HO_259002 := z6669.rb HO_259002 hb
                replace HO284 := z6669.rb HO284 hb
                have BK296 := Aside0.mk (hbox)
                have GW296 := Aside0.mk ((by rw [hg]; exact (below_size (z6669.bl HB)) : w.heap.size ≤ gb296))
                have GE296 := Aside0.mk ((by rw [hg]; exact (below_size (z6669.bl HB)) : w.heap.size ≤ gb296))
                replace HB := Aside0.mk (below_step (z6669.bl HB) hb)
                have NB219_296 := z6669.ht BK219 hg
                have NB296_219 := z6669.hu BK219 hg
                replace BK219 := z6669.bb BK219 hb
                have NB220_296 := z6669.ht BK220 hg
                have NB296_220 := z6669.hu BK220 hg
                replace BK220 := z6669.bb BK220 hb
                have NB239_296 := z6669.ht BK239 hg
                have NB296_239 := z6669.hu BK239 hg
                replace BK239 := z6669.bb BK239 hb
                have NB245_296 := z6669.ht BK245 hg
                have NB296_245 := z6669.hu BK245 hg
                replace BK245 := z6669.bb BK245 hb
                have NB251_296 := z6669.ht BK251 hg
                have NB296_251 := z6669.hu BK251 hg
                replace BK251 := z6669.bb BK251 hb
                have NB258_296 := z6669.ht BK258 hg
                have NB296_258 := z6669.hu BK258 hg
                replace BK258 := z6669.bb BK258 hb
                clear hb hbox hg
                refine hK.out _ _ ⟨(blk_cell BK219.out 0).trans rfl, (blk_cell BK219.out 1).trans rfl, (blk_cell BK219.out 2).trans rfl, (blk_cell BK220.out 0).trans rfl, (blk_cell BK220.out 1).trans rfl, (blk_cell BK220.out 2).trans rfl⟩ (fun hHeld => ?_)
                clear hK K
                refine norm_ (a' := ?_) ?_ ?_
                rotate_left
                ·show Act.put _ (some 17) _ = _
                 simp only [Act.put, List.setIfInBounds_toArray, List.set_cons_zero, List.set_cons_succ, i64_w, i32_w]
                 rfl
                refine one_ (i := 3) (N := some 102) #[true, true, true, true, true, false, false, false, false, true, false, false] rfl rfl (one_of HT_.out (by kernel_rfl)) (by decide) (fun K hK => ?_)
                refine z6669.gs Try.func40 (by kernel_rfl) rfl #[.agg #[.int .i64 a1_0, .int .i64 a1_1, .slice A1_2 l1_2.length c1_2]] (by rfl) rfl rfl ?_
                with_reducible refine (laws_toSheet.calls kj109 a1_0 a1_1 _ _ l1_2 t285 t286 t287 _ ?side1 ?side2 A174.out).mono ?_
                (case side1 => repeat (first | exact (Kd.C_below HR1_2.out HB.out) | (with_reducible refine Kd.C_alloc ?_ _) | (with_reducible refine Kd.C_drewN ?_ _) | (with_reducible refine Kd.C_drew ?_)))
                (case side2 => exact HC1_2.out)
                rintro e w189 ⟨v288, rfl, ho0, hb⟩
                refine ⟨_, rfl, ?_⟩
                have HO289 := Aside0.mk (Kd.R_lower (Kd.R_new' (Kd.R_new' (Kd.R_new' (Kd.R_new' (Kd.R_new' ho0 (Kd.R_lt (z6669.rl HO_240002.out))) (Kd.R_lt (z6669.rl HO_246002.out))) (Kd.R_lt (z6669.rl HO_252002.out))) (Kd.R_lt (z6669.rl HO_259002.out))) (Kd.R_lt (z6669.rl HO284.out))) (below_size (z6669.bl HB)))
                replace HO_240002 := Aside0.mk (Kd.R_elder' (z6669.rl HO_240002.out) (Kd.R_base ho0) hb)
                replace HO_246002 := Aside0.mk (Kd.R_elder' (z6669.rl HO_246002.out) (Kd.R_base ho0) hb)
                replace HO_252002 := Aside0.mk (Kd.R_elder' (z6669.rl HO_252002.out) (Kd.R_base ho0) hb)
                replace HO_259002 := Aside0.mk (Kd.R_elder' (z6669.rl HO_259002.out) (Kd.R_base ho0) hb)
                replace HO284 := Aside0.mk (Kd.R_elder' (z6669.rl HO284.out) (Kd.R_base ho0) hb)
                replace BK219 := z6669.bb BK219 hb
                replace BK220 := z6669.bb BK220 hb
                replace BK239 := z6669.bb BK239 hb
                replace BK245 := z6669.bb BK245 hb
                replace BK251 := z6669.bb BK251 hb
                replace BK258 := z6669.bb BK258 hb
                replace BK296 := z6669.bb BK296 hb
                replace HB := Aside0.mk (below_step (z6669.bl HB) hb)
                (try clear hb)
                (try clear hb2)
                (try clear hk)
                (try clear hi)
                (try clear ho0)
                obtain ⟨Ao190, co190, eo190⟩ := Kd.R_slice HO284.out
                (first | subst eo190 | (injection eo190 with f1_ f2_ f3_; have f4_ := f1_.symm; have f5_ := f3_.symm; clear f1_ f2_ f3_; subst f4_; subst f5_))
                obtain ⟨Ao191, co191, eo191⟩ := Kd.R_slice HO289.out
                (first | subst eo191 | (injection eo191 with f1_ f2_ f3_; have f4_ := f1_.symm; have f5_ := f3_.symm; clear f1_ f2_ f3_; subst f4_; subst f5_))
                refine hK.out _ _ ⟨(blk_cell BK219.out 0).trans rfl, (blk_cell BK219.out 1).trans rfl, (blk_cell BK219.out 2).trans rfl, (blk_cell BK220.out 0).trans rfl, (blk_cell BK220.out 1).trans rfl, (blk_cell BK220.out 2).trans rfl⟩ (fun hHeld => ?_)
                clear hK K
                refine norm_ (a' := ?_) ?_ ?_
                rotate_left
                ·show Act.put _ (some 102) _ = _
                 simp only [Act.put, List.setIfInBounds_toArray, List.set_cons_zero, List.set_cons_succ, i64_w, i32_w]
                 rfl
                refine one_ (i := 5) (N := some 104) #[true, true, true, true, true, true, false, false, false, true, false, false] rfl rfl (one_of HT_.out (by kernel_rfl)) (by decide) (fun K hK => ?_)
                refine z6669.gs Try.func48 (by kernel_rfl) rfl #[.agg #[.int .i64 t280, .int .i64 t281, .slice Ao190 t282.length co190], .agg #[.int .i64 t285, .int .i64 t286, .slice Ao191 t287.length co191], .int .i64 a2] (by rfl) rfl rfl ?_
                with_reducible refine (impl_LaySheet.calls kj109 t280 t281 _ _ t282 t285 t286 _ _ t287 a2 t290 t291 t292 t295 _ ?side1 ?side2 ?side3 ?side4 A175.out).mono ?_
                (case side1 => repeat (first | exact (Kd.R_reads' HO284.out).2.2 | (with_reducible refine Kd.C_alloc ?_ _) | (with_reducible refine Kd.C_drewN ?_ _) | (with_reducible refine Kd.C_drew ?_)))
                (case side2 => exact (Kd.R_reads' HO284.out).2.1)
                (case side3 => repeat (first | exact (Kd.R_reads' HO289.out).2.2 | (with_reducible refine Kd.C_alloc ?_ _) | (with_reducible refine Kd.C_drewN ?_ _) | (with_reducible refine Kd.C_drew ?_)))
                (case side4 => exact (Kd.R_reads' HO289.out).2.1)
                rintro e w192 ⟨v293, rfl, ho0, hb⟩
                refine ⟨_, rfl, ?_⟩
                have HO294 := Aside0.mk (Kd.R_lower (Kd.R_new' (Kd.R_new' (Kd.R_new' (Kd.R_new' (Kd.R_new' (Kd.R_new' ho0 (Kd.R_lt (z6669.rl HO_240002.out))) (Kd.R_lt (z6669.rl HO_246002.out))) (Kd.R_lt (z6669.rl HO_252002.out))) (Kd.R_lt (z6669.rl HO_259002.out))) (Kd.R_lt (z6669.rl HO284.out))) (Kd.R_lt (z6669.rl HO289.out))) (below_size (z6669.bl HB)))
                replace HO_240002 := Aside0.mk (Kd.R_elder' (z6669.rl HO_240002.out) (Kd.R_base ho0) hb)
                replace HO_246002 := Aside0.mk (Kd.R_elder' (z6669.rl HO_246002.out) (Kd.R_base ho0) hb)
                replace HO_252002 := Aside0.mk (Kd.R_elder' (z6669.rl HO_252002.out) (Kd.R_base ho0) hb)
                replace HO_259002 := Aside0.mk (Kd.R_elder' (z6669.rl HO_259002.out) (Kd.R_base ho0) hb)
                replace HO284 := Aside0.mk (Kd.R_elder' (z6669.rl HO284.out) (Kd.R_base ho0) hb)
                replace HO289 := Aside0.mk (Kd.R_elder' (z6669.rl HO289.out) (Kd.R_base ho0) hb)
                replace BK219 := z6669.bb BK219 hb
                replace BK220 := z6669.bb BK220 hb
                replace BK239 := z6669.bb BK239 hb
                replace BK245 := z6669.bb BK245 hb
                replace BK251 := z6669.bb BK251 hb
                replace BK258 := z6669.bb BK258 hb
                replace BK296 := z6669.bb BK296 hb
                replace HB := Aside0.mk (below_step (z6669.bl HB) hb)
                (try clear hb)
                (try clear hb2)
                (try clear hk)
                (try clear hi)
                (try clear ho0)
                refine hK.out _ _ ⟨(blk_cell BK219.out 0).trans rfl, (blk_cell BK219.out 1).trans rfl, (blk_cell BK219.out 2).trans rfl, (blk_cell BK220.out 0).trans rfl, (blk_cell BK220.out 1).trans rfl, (blk_cell BK220.out 2).trans rfl⟩ (fun hHeld => ?_)
                clear hK K
                refine norm_ (a' := ?_) ?_ ?_
                rotate_left
                ·show Act.put _ (some 104) _ = _
                 simp only [Act.put, List.setIfInBounds_toArray, List.set_cons_zero, List.set_cons_succ, i64_w, i32_w]
                 rfl
                refine pure_ (i := 6) (N := some 98) (v := ?_) (a' := ?_) #[true, true, true, true, true, true, true, false, false, true, false, false] rfl rfl (any_of HT_.out (by kernel_rfl)) (fun _ _ _ h => h) (Or.inl ⟨by rfl, ?_⟩) ?_ ?_
                rotate_left
                ·intro w'
                 go_simp
                 with_reducible rfl
                rotate_left
                ·simp only [Act.put, List.setIfInBounds_toArray, List.set_cons_zero, List.set_cons_succ, i64_w, i32_w]
                 rfl
                refine pure_ (i := 7) (N := some 105) (v := ?_) (a' := ?_) #[true, true, true, true, true, true, true, true, false, true, false, false] rfl rfl (any_of HT_.out (by kernel_rfl)) (fun _ _ _ h => h) (Or.inl ⟨by rfl, ?_⟩) ?_ ?_
                rotate_left
                ·intro w'
                 go_simp
                 with_reducible rfl
                rotate_left
                ·simp only [Act.put, List.setIfInBounds_toArray, List.set_cons_zero, List.set_cons_succ, i64_w, i32_w]
                 rfl
                refine pure_ (i := 8) (N := some 106) (v := ?_) (a' := ?_) #[true, true, true, true, true, true, true, true, true, true, false, false] rfl rfl (any_of HT_.out (by kernel_rfl)) (fun _ _ _ h => h) (Or.inl ⟨by rfl, ?_⟩) ?_ ?_
                rotate_left
                ·intro w'
                 go_simp
                 with_reducible rfl
                rotate_left
                ·simp only [Act.put, List.setIfInBounds_toArray, List.set_cons_zero, List.set_cons_succ, i64_w, i32_w]
                 rfl
                exact norm_ (by simp only [putAll, Act.put, List.setIfInBounds_toArray, List.set_cons_zero, List.set_cons_succ]) (hCont (.slice Ao190 t282.length co190, .slice Ao191 t287.length co191, v293, gb296) _ ⟨hHeld, (z6669.rl (Kd.R_mono HO284.out (fun _ hk => ⟨hk.1.2, ⟨hk.2, ⟨hk.1.1.1.1.1.2, ⟨hk.1.1.1.1.2, ⟨hk.1.1.1.2, hk.1.1.2⟩⟩⟩⟩⟩))), (z6669.rl (Kd.R_mono HO289.out (fun _ hk => ⟨hk.1.2, ⟨hk.2, ⟨hk.1.1.1.1.1.2, ⟨hk.1.1.1.1.2, ⟨hk.1.1.1.2, hk.1.1.2⟩⟩⟩⟩⟩))), (z6669.rl (Kd.R_mono HO294.out (fun _ hk => ⟨hk.1.2, ⟨hk.2, ⟨hk.1.1.1.1.1.2, ⟨hk.1.1.1.1.2, ⟨hk.1.1.1.2, hk.1.1.2⟩⟩⟩⟩⟩))), (z6669.rl (Kd.R_mono HO_240002.out (fun _ hk => ⟨hk.1.1.2, ⟨hk.1.2, ⟨hk.2, ⟨hk.1.1.1.1, ⟨hk.1.1.1.2.1, hk.1.1.1.2.2⟩⟩⟩⟩⟩))), (z6669.rl (Kd.R_mono HO_246002.out (fun _ hk => ⟨hk.1.1.2, ⟨hk.1.2, ⟨hk.2, ⟨hk.1.1.1.1, ⟨hk.1.1.1.2.1, hk.1.1.1.2.2⟩⟩⟩⟩⟩))), (z6669.rl (Kd.R_mono HO_252002.out (fun _ hk => ⟨hk.1.1.2, ⟨hk.1.2, ⟨hk.2, ⟨hk.1.1.1.1, ⟨hk.1.1.1.2.1, hk.1.1.1.2.2⟩⟩⟩⟩⟩))), (z6669.rl (Kd.R_mono HO_259002.out (fun _ hk => ⟨hk.1.1.2, ⟨hk.1.2, ⟨hk.2, ⟨hk.1.1.1.1, ⟨hk.1.1.1.2.1, hk.1.1.1.2.2⟩⟩⟩⟩⟩))), (z6669.bk BK219), (z6669.bk BK220), (z6669.bk BK239), (z6669.bk BK245), (z6669.bk BK251), (z6669.bk BK258), (z6669.bk BK296), GW296.out, GE296.out, NB219_296.out, NB296_219.out, NB220_296.out, NB296_220.out, NB239_296.out, NB296_239.out, NB245_296.out, NB296_245.out, NB251_296.out, NB296_251.out, NB258_296.out, NB296_258.out, (z6669.bl HB)⟩)
              ·skip
               refine box_step ?hg (N := 17) ?hd (cs := #[.int .i64 0, .int .i64 0, .slice none 0 0]) (t := 70) ?hr ?_; (case hd => rfl); (case hg => rfl); (case hr => first | (go_simp; done) | (go_simp; rfl))
               intro gb296 hg w187 hbox hb
               replace HO_240002 := z6669.rb HO_240002 hb
               replace HO_246002 := z6669.rb HO_246002 hb
               replace HO_252002 := z6669.rb HO_252002 hb
               replace HO_259002 := z6669.rb HO_259002 hb
               have BK296 := Aside0.mk (hbox)
               have GW296 := Aside0.mk ((by rw [hg]; exact (below_size (z6669.bl HB)) : w.heap.size ≤ gb296))
               have GE296 := Aside0.mk ((by rw [hg]; exact (below_size (z6669.bl HB)) : w.heap.size ≤ gb296))
               replace HB := Aside0.mk (below_step (z6669.bl HB) hb)
               have NB219_296 := z6669.ht BK219 hg
               have NB296_219 := z6669.hu BK219 hg
               replace BK219 := z6669.bb BK219 hb
               have NB220_296 := z6669.ht BK220 hg
               have NB296_220 := z6669.hu BK220 hg
               replace BK220 := z6669.bb BK220 hb
               have NB239_296 := z6669.ht BK239 hg
               have NB296_239 := z6669.hu BK239 hg
               replace BK239 := z6669.bb BK239 hb
               have NB245_296 := z6669.ht BK245 hg
               have NB296_245 := z6669.hu BK245 hg
               replace BK245 := z6669.bb BK245 hb
               have NB251_296 := z6669.ht BK251 hg
               have NB296_251 := z6669.hu BK251 hg
               replace BK251 := z6669.bb BK251 hb
               have NB258_296 := z6669.ht BK258 hg
               have NB296_258 := z6669.hu BK258 hg
               replace BK258 := z6669.bb BK258 hb
               clear hb hbox hg
               refine hK.out _ _ ⟨(blk_cell BK219.out 0).trans rfl, (blk_cell BK219.out 1).trans rfl, (blk_cell BK219.out 2).trans rfl, (blk_cell BK220.out 0).trans rfl, (blk_cell BK220.out 1).trans rfl, (blk_cell BK220.out 2).trans rfl⟩ (fun hHeld => ?_)
               clear hK K
               refine norm_ (a' := ?_) ?_ ?_
               rotate_left
               ·show Act.put _ (some 17) _ = _
                simp only [Act.put, List.setIfInBounds_toArray, List.set_cons_zero, List.set_cons_succ, i64_w, i32_w]
                rfl
               refine one_ (i := 1) (N := some 100) #[true, true, true, false, true, false, false, false, false, true, false, false] rfl rfl (one_of HT_.out (by kernel_rfl)) (by decide) (fun K hK => ?_)
               refine z6669.gs Try.func40 (by kernel_rfl) rfl #[.agg #[.int .i64 a0_0, .int .i64 a0_1, .slice A0_2 l0_2.length c0_2]] (by rfl) rfl rfl ?_
               with_reducible refine (laws_toSheet.calls kj109 a0_0 a0_1 _ _ l0_2 t280 t281 t282 _ ?side1 ?side2 A173.out).mono ?_
               (case side1 => repeat (first | exact (Kd.C_below HR0_2.out HB.out) | (with_reducible refine Kd.C_alloc ?_ _) | (with_reducible refine Kd.C_drewN ?_ _) | (with_reducible refine Kd.C_drew ?_)))
               (case side2 => exact HC0_2.out)
               rintro e w188 ⟨v283, rfl, ho0, hb⟩
               refine ⟨_, rfl, ?_⟩
               have HO284 := Aside0.mk (Kd.R_lower (Kd.R_new' (Kd.R_new' (Kd.R_new' (Kd.R_new' ho0 (Kd.R_lt (z6669.rl HO_240002.out))) (Kd.R_lt (z6669.rl HO_246002.out))) (Kd.R_lt (z6669.rl HO_252002.out))) (Kd.R_lt (z6669.rl HO_259002.out))) (below_size (z6669.bl HB)))
               replace HO_240002 := Aside0.mk (Kd.R_elder' (z6669.rl HO_240002.out) (Kd.R_base ho0) hb)
               replace HO_246002 := Aside0.mk (Kd.R_elder' (z6669.rl HO_246002.out) (Kd.R_base ho0) hb)
               replace HO_252002 := Aside0.mk (Kd.R_elder' (z6669.rl HO_252002.out) (Kd.R_base ho0) hb)
               replace HO_259002 := Aside0.mk (Kd.R_elder' (z6669.rl HO_259002.out) (Kd.R_base ho0) hb)
               replace BK219 := z6669.bb BK219 hb
               replace BK220 := z6669.bb BK220 hb
               replace BK239 := z6669.bb BK239 hb
               replace BK245 := z6669.bb BK245 hb
               replace BK251 := z6669.bb BK251 hb
               replace BK258 := z6669.bb BK258 hb
               replace BK296 := z6669.bb BK296 hb
               replace HB := Aside0.mk (below_step (z6669.bl HB) hb)
               (try clear hb)
               (try clear hb2)
               (try clear hk)
               (try clear hi)
               (try clear ho0)
               refine hK.out _ _ ⟨(blk_cell BK219.out 0).trans rfl, (blk_cell BK219.out 1).trans rfl, (blk_cell BK219.out 2).trans rfl, (blk_cell BK220.out 0).trans rfl, (blk_cell BK220.out 1).trans rfl, (blk_cell BK220.out 2).trans rfl⟩ (fun hHeld => ?_)
               clear hK K
               refine norm_ (a' := ?_) ?_ ?_
               rotate_left
               ·show Act.put _ (some 100) _ = _
                simp only [Act.put, List.setIfInBounds_toArray, List.set_cons_zero, List.set_cons_succ, i64_w, i32_w]
                rfl
               refine one_ (i := 3) (N := some 102) #[true, true, true, true, true, false, false, false, false, true, false, false] rfl rfl (one_of HT_.out (by kernel_rfl)) (by decide) (fun K hK => ?_)
               refine z6669.gs Try.func40 (by kernel_rfl) rfl #[.agg #[.int .i64 a1_0, .int .i64 a1_1, .slice A1_2 l1_2.length c1_2]] (by rfl) rfl rfl ?_
               with_reducible refine (laws_toSheet.calls kj109 a1_0 a1_1 _ _ l1_2 t285 t286 t287 _ ?side1 ?side2 A174.out).mono ?_
               (case side1 => repeat (first | exact (Kd.C_below HR1_2.out HB.out) | (with_reducible refine Kd.C_alloc ?_ _) | (with_reducible refine Kd.C_drewN ?_ _) | (with_reducible refine Kd.C_drew ?_)))
               (case side2 => exact HC1_2.out)
               rintro e w189 ⟨v288, rfl, ho0, hb⟩
               refine ⟨_, rfl, ?_⟩
               have HO289 := Aside0.mk (Kd.R_lower (Kd.R_new' (Kd.R_new' (Kd.R_new' (Kd.R_new' (Kd.R_new' ho0 (Kd.R_lt (z6669.rl HO_240002.out))) (Kd.R_lt (z6669.rl HO_246002.out))) (Kd.R_lt (z6669.rl HO_252002.out))) (Kd.R_lt (z6669.rl HO_259002.out))) (Kd.R_lt (z6669.rl HO284.out))) (below_size (z6669.bl HB)))
               replace HO_240002 := Aside0.mk (Kd.R_elder' (z6669.rl HO_240002.out) (Kd.R_base ho0) hb)
               replace HO_246002 := Aside0.mk (Kd.R_elder' (z6669.rl HO_246002.out) (Kd.R_base ho0) hb)
               replace HO_252002 := Aside0.mk (Kd.R_elder' (z6669.rl HO_252002.out) (Kd.R_base ho0) hb)
               replace HO_259002 := Aside0.mk (Kd.R_elder' (z6669.rl HO_259002.out) (Kd.R_base ho0) hb)
               replace HO284 := Aside0.mk (Kd.R_elder' (z6669.rl HO284.out) (Kd.R_base ho0) hb)
               replace BK219 := z6669.bb BK219 hb
               replace BK220 := z6669.bb BK220 hb
               replace BK239 := z6669.bb BK239 hb
               replace BK245 := z6669.bb BK245 hb
               replace BK251 := z6669.bb BK251 hb
               replace BK258 := z6669.bb BK258 hb
               replace BK296 := z6669.bb BK296 hb
               replace HB := Aside0.mk (below_step (z6669.bl HB) hb)
               (try clear hb)
               (try clear hb2)
               (try clear hk)
               (try clear hi)
               (try clear ho0)
               obtain ⟨Ao190, co190, eo190⟩ := Kd.R_slice HO284.out
               (first | subst eo190 | (injection eo190 with f1_ f2_ f3_; have f4_ := f1_.symm; have f5_ := f3_.symm; clear f1_ f2_ f3_; subst f4_; subst f5_))
               obtain ⟨Ao191, co191, eo191⟩ := Kd.R_slice HO289.out
               (first | subst eo191 | (injection eo191 with f1_ f2_ f3_; have f4_ := f1_.symm; have f5_ := f3_.symm; clear f1_ f2_ f3_; subst f4_; subst f5_))
               refine hK.out _ _ ⟨(blk_cell BK219.out 0).trans rfl, (blk_cell BK219.out 1).trans rfl, (blk_cell BK219.out 2).trans rfl, (blk_cell BK220.out 0).trans rfl, (blk_cell BK220.out 1).trans rfl, (blk_cell BK220.out 2).trans rfl⟩ (fun hHeld => ?_)
               clear hK K
               refine norm_ (a' := ?_) ?_ ?_
               rotate_left
               ·show Act.put _ (some 102) _ = _
                simp only [Act.put, List.setIfInBounds_toArray, List.set_cons_zero, List.set_cons_succ, i64_w, i32_w]
                rfl
               refine one_ (i := 5) (N := some 104) #[true, true, true, true, true, true, false, false, false, true, false, false] rfl rfl (one_of HT_.out (by kernel_rfl)) (by decide) (fun K hK => ?_)
               refine z6669.gs Try.func48 (by kernel_rfl) rfl #[.agg #[.int .i64 t280, .int .i64 t281, .slice Ao190 t282.length co190], .agg #[.int .i64 t285, .int .i64 t286, .slice Ao191 t287.length co191], .int .i64 a2] (by rfl) rfl rfl ?_
               with_reducible refine (impl_LaySheet.calls kj109 t280 t281 _ _ t282 t285 t286 _ _ t287 a2 t290 t291 t292 t295 _ ?side1 ?side2 ?side3 ?side4 A175.out).mono ?_
               (case side1 => repeat (first | exact (Kd.R_reads' HO284.out).2.2 | (with_reducible refine Kd.C_alloc ?_ _) | (with_reducible refine Kd.C_drewN ?_ _) | (with_reducible refine Kd.C_drew ?_)))
               (case side2 => exact (Kd.R_reads' HO284.out).2.1)
               (case side3 => repeat (first | exact (Kd.R_reads' HO289.out).2.2 | (with_reducible refine Kd.C_alloc ?_ _) | (with_reducible refine Kd.C_drewN ?_ _) | (with_reducible refine Kd.C_drew ?_)))
               (case side4 => exact (Kd.R_reads' HO289.out).2.1)
               rintro e w192 ⟨v293, rfl, ho0, hb⟩
               refine ⟨_, rfl, ?_⟩
               have HO294 := Aside0.mk (Kd.R_lower (Kd.R_new' (Kd.R_new' (Kd.R_new' (Kd.R_new' (Kd.R_new' (Kd.R_new' ho0 (Kd.R_lt (z6669.rl HO_240002.out))) (Kd.R_lt (z6669.rl HO_246002.out))) (Kd.R_lt (z6669.rl HO_252002.out))) (Kd.R_lt (z6669.rl HO_259002.out))) (Kd.R_lt (z6669.rl HO284.out))) (Kd.R_lt (z6669.rl HO289.out))) (below_size (z6669.bl HB)))
               replace HO_240002 := Aside0.mk (Kd.R_elder' (z6669.rl HO_240002.out) (Kd.R_base ho0) hb)
               replace HO_246002 := Aside0.mk (Kd.R_elder' (z6669.rl HO_246002.out) (Kd.R_base ho0) hb)
               replace HO_252002 := Aside0.mk (Kd.R_elder' (z6669.rl HO_252002.out) (Kd.R_base ho0) hb)
               replace HO_259002 := Aside0.mk (Kd.R_elder' (z6669.rl HO_259002.out) (Kd.R_base ho0) hb)
               replace HO284 := Aside0.mk (Kd.R_elder' (z6669.rl HO284.out) (Kd.R_base ho0) hb)
               replace HO289 := Aside0.mk (Kd.R_elder' (z6669.rl HO289.out) (Kd.R_base ho0) hb)
               replace BK219 := z6669.bb BK219 hb
               replace BK220 := z6669.bb BK220 hb
               replace BK239 := z6669.bb BK239 hb
               replace BK245 := z6669.bb BK245 hb
               replace BK251 := z6669.bb BK251 hb
               replace BK258 := z6669.bb BK258 hb
               replace BK296 := z6669.bb BK296 hb
               replace HB := Aside0.mk (below_step (z6669.bl HB) hb)
               (try clear hb)
               (try clear hb2)
               (try clear hk)
               (try clear hi)
               (try clear ho0)
               refine hK.out _ _ ⟨(blk_cell BK219.out 0).trans rfl, (blk_cell BK219.out 1).trans rfl, (blk_cell BK219.out 2).trans rfl, (blk_cell BK220.out 0).trans rfl, (blk_cell BK220.out 1).trans rfl, (blk_cell BK220.out 2).trans rfl⟩ (fun hHeld => ?_)
               clear hK K
               refine norm_ (a' := ?_) ?_ ?_
               rotate_left
               ·show Act.put _ (some 104) _ = _
                simp only [Act.put, List.setIfInBounds_toArray, List.set_cons_zero, List.set_cons_succ, i64_w, i32_w]
                rfl
               refine pure_ (i := 6) (N := some 98) (v := ?_) (a' := ?_) #[true, true, true, true, true, true, true, false, false, true, false, false] rfl rfl (any_of HT_.out (by kernel_rfl)) (fun _ _ _ h => h) (Or.inl ⟨by rfl, ?_⟩) ?_ ?_
               rotate_left
               ·intro w'
                go_simp
                with_reducible rfl
               rotate_left
               ·simp only [Act.put, List.setIfInBounds_toArray, List.set_cons_zero, List.set_cons_succ, i64_w, i32_w]
                rfl
               refine pure_ (i := 7) (N := some 105) (v := ?_) (a' := ?_) #[true, true, true, true, true, true, true, true, false, true, false, false] rfl rfl (any_of HT_.out (by kernel_rfl)) (fun _ _ _ h => h) (Or.inl ⟨by rfl, ?_⟩) ?_ ?_
               rotate_left
               ·intro w'
                go_simp
                with_reducible rfl
               rotate_left
               ·simp only [Act.put, List.setIfInBounds_toArray, List.set_cons_zero, List.set_cons_succ, i64_w, i32_w]
                rfl
               refine pure_ (i := 8) (N := some 106) (v := ?_) (a' := ?_) #[true, true, true, true, true, true, true, true, true, true, false, false] rfl rfl (any_of HT_.out (by kernel_rfl)) (fun _ _ _ h => h) (Or.inl ⟨by rfl, ?_⟩) ?_ ?_
               rotate_left
               ·intro w'
                go_simp
                with_reducible rfl
               rotate_left
               ·simp only [Act.put, List.setIfInBounds_toArray, List.set_cons_zero, List.set_cons_succ, i64_w, i32_w]
                rfl
               exact norm_ (by simp only [putAll, Act.put, List.setIfInBounds_toArray, List.set_cons_zero, List.set_cons_succ]) (hCont (.slice Ao190 t282.length co190, .slice Ao191 t287.length co191, v293, gb296) _ ⟨hHeld, (z6669.rl (Kd.R_mono HO284.out (fun _ hk => ⟨hk.1.2, ⟨hk.2, ⟨hk.1.1.1.1.1.2, ⟨hk.1.1.1.1.2, ⟨hk.1.1.1.2, hk.1.1.2⟩⟩⟩⟩⟩))), (z6669.rl (Kd.R_mono HO289.out (fun _ hk => ⟨hk.1.2, ⟨hk.2, ⟨hk.1.1.1.1.1.2, ⟨hk.1.1.1.1.2, ⟨hk.1.1.1.2, hk.1.1.2⟩⟩⟩⟩⟩))), (z6669.rl (Kd.R_mono HO294.out (fun _ hk => ⟨hk.1.2, ⟨hk.2, ⟨hk.1.1.1.1.1.2, ⟨hk.1.1.1.1.2, ⟨hk.1.1.1.2, hk.1.1.2⟩⟩⟩⟩⟩))), (z6669.rl (Kd.R_mono HO_240002.out (fun _ hk => ⟨hk.1.1.2, ⟨hk.1.2, ⟨hk.2, ⟨hk.1.1.1.1, ⟨hk.1.1.1.2.1, hk.1.1.1.2.2⟩⟩⟩⟩⟩))), (z6669.rl (Kd.R_mono HO_246002.out (fun _ hk => ⟨hk.1.1.2, ⟨hk.1.2, ⟨hk.2, ⟨hk.1.1.1.1, ⟨hk.1.1.1.2.1, hk.1.1.1.2.2⟩⟩⟩⟩⟩))), (z6669.rl (Kd.R_mono HO_252002.out (fun _ hk => ⟨hk.1.1.2, ⟨hk.1.2, ⟨hk.2, ⟨hk.1.1.1.1, ⟨hk.1.1.1.2.1, hk.1.1.1.2.2⟩⟩⟩⟩⟩))), (z6669.rl (Kd.R_mono HO_259002.out (fun _ hk => ⟨hk.1.1.2, ⟨hk.1.2, ⟨hk.2, ⟨hk.1.1.1.1, ⟨hk.1.1.1.2.1, hk.1.1.1.2.2⟩⟩⟩⟩⟩))), (z6669.bk BK219), (z6669.bk BK220), (z6669.bk BK239), (z6669.bk BK245), (z6669.bk BK251), (z6669.bk BK258), (z6669.bk BK296), GW296.out, GE296.out, NB219_296.out, NB296_219.out, NB220_296.out, NB296_220.out, NB239_296.out, NB296_239.out, NB245_296.out, NB296_245.out, NB251_296.out, NB296_251.out, NB258_296.out, NB296_258.out, (z6669.bl HB)⟩)
             rintro ⟨v283, v288, v293, gb296⟩ w193 ⟨hS_, h0_, h1_, h2_, h3_, h4_, h5_, h6_, h7_, h8_, h9_, h10_, h11_, h12_, h13_, h14_, h15_, h16_, h17_, h18_, h19_, h20_, h21_, h22_, h23_, h24_, h25_, h26_, h27_, h28_⟩
             have n0_ : Aside0 (Kd.R k54 54 w193 w.heap.size (fun k_ => some k_ ≠ (v288 : Value).ownBlock ∧ some k_ ≠ (v293 : Value).ownBlock ∧ some k_ ≠ (.slice Ao44 t235.length co44 : Value).ownBlock ∧ some k_ ≠ (.slice Ao54 t273.length co54 : Value).ownBlock ∧ some k_ ≠ (.slice Ao64 t275.length co64 : Value).ownBlock ∧ some k_ ≠ (.slice Ao74 t254.length co74 : Value).ownBlock) v283 t282) := ⟨h0_⟩
             have n1_ : Aside0 (Kd.R k54 54 w193 w.heap.size (fun k_ => some k_ ≠ (v283 : Value).ownBlock ∧ some k_ ≠ (v293 : Value).ownBlock ∧ some k_ ≠ (.slice Ao44 t235.length co44 : Value).ownBlock ∧ some k_ ≠ (.slice Ao54 t273.length co54 : Value).ownBlock ∧ some k_ ≠ (.slice Ao64 t275.length co64 : Value).ownBlock ∧ some k_ ≠ (.slice Ao74 t254.length co74 : Value).ownBlock) v288 t287) := ⟨h1_⟩
             have n2_ : Aside0 (Kd.R k54 54 w193 w.heap.size (fun k_ => some k_ ≠ (v283 : Value).ownBlock ∧ some k_ ≠ (v288 : Value).ownBlock ∧ some k_ ≠ (.slice Ao44 t235.length co44 : Value).ownBlock ∧ some k_ ≠ (.slice Ao54 t273.length co54 : Value).ownBlock ∧ some k_ ≠ (.slice Ao64 t275.length co64 : Value).ownBlock ∧ some k_ ≠ (.slice Ao74 t254.length co74 : Value).ownBlock) v293 t292) := ⟨h2_⟩
             have n3_ : Aside0 (Kd.R k54 54 w193 w.heap.size (fun k_ => some k_ ≠ (v283 : Value).ownBlock ∧ some k_ ≠ (v288 : Value).ownBlock ∧ some k_ ≠ (v293 : Value).ownBlock ∧ some k_ ≠ (.slice Ao54 t273.length co54 : Value).ownBlock ∧ some k_ ≠ (.slice Ao64 t275.length co64 : Value).ownBlock ∧ some k_ ≠ (.slice Ao74 t254.length co74 : Value).ownBlock) (.slice Ao44 t235.length co44) t235) := ⟨h3_⟩
             have n4_ : Aside0 (Kd.R k54 54 w193 w.heap.size (fun k_ => some k_ ≠ (v283 : Value).ownBlock ∧ some k_ ≠ (v288 : Value).ownBlock ∧ some k_ ≠ (v293 : Value).ownBlock ∧ some k_ ≠ (.slice Ao44 t235.length co44 : Value).ownBlock ∧ some k_ ≠ (.slice Ao64 t275.length co64 : Value).ownBlock ∧ some k_ ≠ (.slice Ao74 t254.length co74 : Value).ownBlock) (.slice Ao54 t273.length co54) t273) := ⟨h4_⟩
             have n5_ : Aside0 (Kd.R k54 54 w193 w.heap.size (fun k_ => some k_ ≠ (v283 : Value).ownBlock ∧ some k_ ≠ (v288 : Value).ownBlock ∧ some k_ ≠ (v293 : Value).ownBlock ∧ some k_ ≠ (.slice Ao44 t235.length co44 : Value).ownBlock ∧ some k_ ≠ (.slice Ao54 t273.length co54 : Value).ownBlock ∧ some k_ ≠ (.slice Ao74 t254.length co74 : Value).ownBlock) (.slice Ao64 t275.length co64) t275) := ⟨h5_⟩
             have n6_ : Aside0 (Kd.R k54 54 w193 w.heap.size (fun k_ => some k_ ≠ (v283 : Value).ownBlock ∧ some k_ ≠ (v288 : Value).ownBlock ∧ some k_ ≠ (v293 : Value).ownBlock ∧ some k_ ≠ (.slice Ao44 t235.length co44 : Value).ownBlock ∧ some k_ ≠ (.slice Ao54 t273.length co54 : Value).ownBlock ∧ some k_ ≠ (.slice Ao64 t275.length co64 : Value).ownBlock) (.slice Ao74 t254.length co74) t278) := ⟨h6_⟩
             have n7_ : Aside0 (w193.heap[gb219]? = some (.cells #[.int .i64 a0_0, .int .i64 a0_1, .slice A0_2 l0_2.length c0_2] 64 (0, 0))) := ⟨h7_⟩
             have n8_ : Aside0 (w193.heap[gb220]? = some (.cells #[.int .i64 a1_0, .int .i64 a1_1, .slice A1_2 l1_2.length c1_2] 64 (0, 0))) := ⟨h8_⟩
             have n9_ : Aside0 (w193.heap[gb239]? = some (.cells #[.int .i64 t233, .int .i64 t234, .slice Ao44 t235.length co44] 70 (0, 0))) := ⟨h9_⟩
             have n10_ : Aside0 (w193.heap[gb245]? = some (.cells #[.int .i64 t240, .int .i64 t241, .slice Ao54 t273.length co54] 70 (0, 0))) := ⟨h10_⟩
             have n11_ : Aside0 (w193.heap[gb251]? = some (.cells #[.int .i64 t246, .int .i64 t247, .slice Ao64 t275.length co64] 70 (0, 0))) := ⟨h11_⟩
             have n12_ : Aside0 (w193.heap[gb258]? = some (.cells #[.int .i64 t252, .int .i64 t253, .slice Ao74 t254.length co74] 70 (0, 0))) := ⟨h12_⟩
             have n13_ : Aside0 (w193.heap[gb296]? = some (.cells #[.int .i64 0, .int .i64 0, .slice none 0 0] 70 (0, 0))) := ⟨h13_⟩
             have n14_ : Aside0 (w.heap.size ≤ gb296) := ⟨h14_⟩
             have n15_ : Aside0 (w.heap.size ≤ gb296) := ⟨h15_⟩
             have n16_ : Aside0 (gb219 ≠ gb296) := ⟨h16_⟩
             have n17_ : Aside0 (gb296 ≠ gb219) := ⟨h17_⟩
             have n18_ : Aside0 (gb220 ≠ gb296) := ⟨h18_⟩
             have n19_ : Aside0 (gb296 ≠ gb220) := ⟨h19_⟩
             have n20_ : Aside0 (gb239 ≠ gb296) := ⟨h20_⟩
             have n21_ : Aside0 (gb296 ≠ gb239) := ⟨h21_⟩
             have n22_ : Aside0 (gb245 ≠ gb296) := ⟨h22_⟩
             have n23_ : Aside0 (gb296 ≠ gb245) := ⟨h23_⟩
             have n24_ : Aside0 (gb251 ≠ gb296) := ⟨h24_⟩
             have n25_ : Aside0 (gb296 ≠ gb251) := ⟨h25_⟩
             have n26_ : Aside0 (gb258 ≠ gb296) := ⟨h26_⟩
             have n27_ : Aside0 (gb296 ≠ gb258) := ⟨h27_⟩
             have n28_ : Aside0 (Below w.heap.size w w193) := ⟨h28_⟩
             clear HO_240002
             clear HO_246002
             clear HO_252002
             clear HO_259002
             clear BK219
             clear BK220
             clear BK239
             clear BK245
             clear BK251
             clear BK258
             clear HB
             clear h0_ h1_ h2_ h3_ h4_ h5_ h6_ h7_ h8_ h9_ h10_ h11_ h12_ h13_ h14_ h15_ h16_ h17_ h18_ h19_ h20_ h21_ h22_ h23_ h24_ h25_ h26_ h27_ h28_
             have HO284 := n0_
             have HO289 := n1_
             have HO294 := n2_
             have HO_240002 := n3_
             have HO_246002 := n4_
             have HO_252002 := n5_
             have HO_259002 := n6_
             have BK219 := n7_
             have BK220 := n8_
             have BK239 := n9_
             have BK245 := n10_
             have BK251 := n11_
             have BK258 := n12_
             have BK296 := n13_
             have GW296 := n14_
             have GE296 := n15_
             have NB219_296 := n16_
             have NB296_219 := n17_
             have NB220_296 := n18_
             have NB296_220 := n19_
             have NB239_296 := n20_
             have NB296_239 := n21_
             have NB245_296 := n22_
             have NB296_245 := n23_
             have NB251_296 := n24_
             have NB296_251 := n25_
             have NB258_296 := n26_
             have NB296_258 := n27_
             have HB := n28_
             clear n0_ n1_ n2_ n3_ n4_ n5_ n6_ n7_ n8_ n9_ n10_ n11_ n12_ n13_ n14_ n15_ n16_ n17_ n18_ n19_ n20_ n21_ n22_ n23_ n24_ n25_ n26_ n27_ n28_
             have hHeld : w193.cell? ⟨gb219, 0, none⟩ = some (.int .i64 a0_0) ∧ w193.cell? ⟨gb219, 1, none⟩ = some (.int .i64 a0_1) ∧ w193.cell? ⟨gb219, 2, none⟩ = some (.slice A0_2 l0_2.length c0_2) ∧ w193.cell? ⟨gb220, 0, none⟩ = some (.int .i64 a1_0) ∧ w193.cell? ⟨gb220, 1, none⟩ = some (.int .i64 a1_1) ∧ w193.cell? ⟨gb220, 2, none⟩ = some (.slice A1_2 l1_2.length c1_2) := hS_
             obtain ⟨Ao196, co196, eo196⟩ := Kd.R_slice HO294.out
             (first | subst eo196 | (injection eo196 with f1_ f2_ f3_; have f4_ := f1_.symm; have f5_ := f3_.symm; clear f1_ f2_ f3_; subst f4_; subst f5_))
             refine norm_ (a' := ?_) ?_ ?_
             rotate_left
             ·simp only [putAll, Act.put, List.setIfInBounds_toArray, List.set_cons_zero, List.set_cons_succ]
              rfl
             refine one_ (i := 10) (N := none) #[true, true, true, true, true, true, true, true, true, true, true, false] rfl rfl (one_of HT_.out (by kernel_rfl)) (by decide) (fun K hK => ?_)
             have hs194 : w193.cell? ⟨gb296, 0, none⟩ = some (.int .i64 0) := (blk_cell BK296.out 0).trans rfl
             have hfs194 := blk_frozen BK296.out 0
             have hns194_0 := NB219_296.out
             have hns194_1 := NB220_296.out
             have hns194_2 := NB239_296.out
             have hns194_3 := NB245_296.out
             have hns194_4 := NB251_296.out
             have hns194_5 := NB258_296.out
             have hms194_0 := NB296_219.out
             have hms194_1 := NB296_220.out
             have hms194_2 := NB296_239.out
             have hms194_3 := NB296_245.out
             have hms194_4 := NB296_251.out
             have hms194_5 := NB296_258.out
             have hs195 : w193.cell? ⟨gb296, 1, none⟩ = some (.int .i64 0) := (blk_cell BK296.out 1).trans rfl
             have hfs195 := blk_frozen BK296.out 1
             have hns195_0 := NB219_296.out
             have hns195_1 := NB220_296.out
             have hns195_2 := NB239_296.out
             have hns195_3 := NB245_296.out
             have hns195_4 := NB251_296.out
             have hns195_5 := NB258_296.out
             have hms195_0 := NB296_219.out
             have hms195_1 := NB296_220.out
             have hms195_2 := NB296_239.out
             have hms195_3 := NB296_245.out
             have hms195_4 := NB296_251.out
             have hms195_5 := NB296_258.out
             have hs197 : w193.cell? ⟨gb296, 2, none⟩ = some (.slice none 0 0) := (blk_cell BK296.out 2).trans rfl
             have hfs197 := blk_frozen BK296.out 2
             have hns197_0 := NB219_296.out
             have hns197_1 := NB220_296.out
             have hns197_2 := NB239_296.out
             have hns197_3 := NB245_296.out
             have hns197_4 := NB251_296.out
             have hns197_5 := NB258_296.out
             have hms197_0 := NB296_219.out
             have hms197_1 := NB296_220.out
             have hms197_2 := NB296_239.out
             have hms197_3 := NB296_245.out
             have hms197_4 := NB296_251.out
             have hms197_5 := NB296_258.out
             refine skip_ (w1 := ?_) (by rfl) rfl ?_ ?_
             rotate_left
             ·go_simp
              rfl
             refine hK.out _ _ ⟨((cell_far (p := ⟨gb296, _, none⟩) NB219_296.out _).trans (((cell_far (p := ⟨gb296, _, none⟩) NB219_296.out _).trans (((cell_far (p := ⟨gb296, _, none⟩) NB219_296.out _).trans (hHeld.1)))))), ((cell_far (p := ⟨gb296, _, none⟩) NB219_296.out _).trans (((cell_far (p := ⟨gb296, _, none⟩) NB219_296.out _).trans (((cell_far (p := ⟨gb296, _, none⟩) NB219_296.out _).trans (hHeld.2.1)))))), ((cell_far (p := ⟨gb296, _, none⟩) NB219_296.out _).trans (((cell_far (p := ⟨gb296, _, none⟩) NB219_296.out _).trans (((cell_far (p := ⟨gb296, _, none⟩) NB219_296.out _).trans (hHeld.2.2.1)))))), ((cell_far (p := ⟨gb296, _, none⟩) NB220_296.out _).trans (((cell_far (p := ⟨gb296, _, none⟩) NB220_296.out _).trans (((cell_far (p := ⟨gb296, _, none⟩) NB220_296.out _).trans (hHeld.2.2.2.1)))))), ((cell_far (p := ⟨gb296, _, none⟩) NB220_296.out _).trans (((cell_far (p := ⟨gb296, _, none⟩) NB220_296.out _).trans (((cell_far (p := ⟨gb296, _, none⟩) NB220_296.out _).trans (hHeld.2.2.2.2.1)))))), ((cell_far (p := ⟨gb296, _, none⟩) NB220_296.out _).trans (((cell_far (p := ⟨gb296, _, none⟩) NB220_296.out _).trans (((cell_far (p := ⟨gb296, _, none⟩) NB220_296.out _).trans (hHeld.2.2.2.2.2))))))⟩ (fun hHeld => ?_)
             clear hK K
             refine pure_ (i := 11) (N := some 18) (v := ?_) (a' := ?_) #[true, true, true, true, true, true, true, true, true, true, true, true] rfl rfl (any_of HT_.out (by kernel_rfl)) (fun _ _ _ h => h) (Or.inl ⟨by rfl, ?_⟩) ?_ ?_
             rotate_left
             ·intro w'
              go_simp
              with_reducible rfl
             rotate_left
             ·simp only [Act.put, List.setIfInBounds_toArray, List.set_cons_zero, List.set_cons_succ, i64_w, i32_w]
              rfl
             refine done_ (done_of HT_.out (by kernel_rfl)) ?_
             go_upto_region 32 with (fail)
             go_cut [115] (fun v115 wc => ∃ (kq : Nat) (x115_175 : Bool), v115 = .bool x115_175 ∧ Aside0 (laws_FnExactLaySheet.j2 kq t277 x115_175 t252 t253 t278 = some r) ∧ Aside0 (kq ≤ kj109) ∧ Aside0 (Kd.R k54 54 wc w.heap.size (fun k_ => some k_ ≠ ((.slice Ao54 t273.length co54) : Value).ownBlock ∧ some k_ ≠ ((.slice Ao64 t275.length co64) : Value).ownBlock ∧ some k_ ≠ ((.slice Ao74 t254.length co74) : Value).ownBlock ∧ some k_ ≠ ((.slice Ao196 t292.length co196) : Value).ownBlock) (.slice Ao44 t235.length co44) t235) ∧ Aside0 (Kd.R k54 54 wc w.heap.size (fun k_ => some k_ ≠ ((.slice Ao44 t235.length co44) : Value).ownBlock ∧ some k_ ≠ ((.slice Ao64 t275.length co64) : Value).ownBlock ∧ some k_ ≠ ((.slice Ao74 t254.length co74) : Value).ownBlock ∧ some k_ ≠ ((.slice Ao196 t292.length co196) : Value).ownBlock) (.slice Ao54 t273.length co54) t273) ∧ Aside0 (Kd.R k54 54 wc w.heap.size (fun k_ => some k_ ≠ ((.slice Ao44 t235.length co44) : Value).ownBlock ∧ some k_ ≠ ((.slice Ao54 t273.length co54) : Value).ownBlock ∧ some k_ ≠ ((.slice Ao74 t254.length co74) : Value).ownBlock ∧ some k_ ≠ ((.slice Ao196 t292.length co196) : Value).ownBlock) (.slice Ao64 t275.length co64) t275) ∧ Aside0 (Kd.R k54 54 wc w.heap.size (fun k_ => some k_ ≠ ((.slice Ao44 t235.length co44) : Value).ownBlock ∧ some k_ ≠ ((.slice Ao54 t273.length co54) : Value).ownBlock ∧ some k_ ≠ ((.slice Ao64 t275.length co64) : Value).ownBlock ∧ some k_ ≠ ((.slice Ao196 t292.length co196) : Value).ownBlock) (.slice Ao74 t254.length co74) t278) ∧ Aside0 (Kd.R k54 54 wc w.heap.size (fun k_ => some k_ ≠ ((.slice Ao44 t235.length co44) : Value).ownBlock ∧ some k_ ≠ ((.slice Ao54 t273.length co54) : Value).ownBlock ∧ some k_ ≠ ((.slice Ao64 t275.length co64) : Value).ownBlock ∧ some k_ ≠ ((.slice Ao74 t254.length co74) : Value).ownBlock) (.slice Ao196 t292.length co196) t292) ∧ Aside0 (wc.heap[gb219]? = some (.cells #[.int .i64 a0_0, .int .i64 a0_1, (.slice A0_2 l0_2.length c0_2)] 64 (0, 0))) ∧ Aside0 (wc.heap[gb220]? = some (.cells #[.int .i64 a1_0, .int .i64 a1_1, (.slice A1_2 l1_2.length c1_2)] 64 (0, 0))) ∧ Aside0 (wc.heap[gb239]? = some (.cells #[.int .i64 t233, .int .i64 t234, (.slice Ao44 t235.length co44)] 70 (0, 0))) ∧ Aside0 (wc.heap[gb245]? = some (.cells #[.int .i64 t240, .int .i64 t241, (.slice Ao54 t273.length co54)] 70 (0, 0))) ∧ Aside0 (wc.heap[gb251]? = some (.cells #[.int .i64 t246, .int .i64 t247, (.slice Ao64 t275.length co64)] 70 (0, 0))) ∧ Aside0 (wc.heap[gb258]? = some (.cells #[.int .i64 t252, .int .i64 t253, (.slice Ao74 t254.length co74)] 70 (0, 0))) ∧ Aside0 (wc.heap[gb296]? = some (.cells #[.int .i64 t290, .int .i64 t291, (.slice Ao196 t292.length co196)] 70 (0, 0))) ∧ Aside0 (Below w.heap.size w wc))
             case first =>
              have H := HC176.out
              clear HC176
              replace H := Option.bind_eq_some_iff.mp H
              obtain ⟨t297, A1980, H⟩ := H
              replace H : (if t297 = true then (laws_FnExactLaySheet.j2 kj109 t277 (t295 != t238) t252 t253 t278) else (laws_FnExactLaySheet.j2 kj109 t277 true t252 t253 t278)) = some r := H
              have A198 := Aside0.mk A1980
              clear A1980
              by_cases c199 : t297 = true
              ·subst c199
               have H1 : (laws_FnExactLaySheet.j2 kj109 t277 (t295 != t238) t252 t253 t278) = some r := by rw [if_pos rfl] at H; exact H
               clear H
               have H := H1
               clear H1
               have H' := Aside0.mk H
               clear H
               have hnb200 := NB296_219.out
               have hnc200 := NB219_296.out
               have hnb201 := NB296_220.out
               have hnc201 := NB220_296.out
               have hnb202 := NB296_239.out
               have hnc202 := NB239_296.out
               have hnb203 := NB296_245.out
               have hnc203 := NB245_296.out
               have hnb204 := NB296_251.out
               have hnc204 := NB251_296.out
               have hnb205 := NB296_258.out
               have hnc205 := NB258_296.out
               have hcz206_0 : w193.cell? ⟨gb296, 0, none⟩ = some (.int .i64 0) := (blk_cell BK296.out 0).trans rfl
               have hcz206_1 : w193.cell? ⟨gb296, 1, none⟩ = some (.int .i64 0) := (blk_cell BK296.out 1).trans rfl
               have hcz206_2 : w193.cell? ⟨gb296, 2, none⟩ = some (.slice none 0 0) := (blk_cell BK296.out 2).trans rfl
               have hfz206_0 := blk_frozen BK296.out 0
               have hfz206_1 := blk_frozen BK296.out 1
               have hfz206_2 := blk_frozen BK296.out 2
               have hnb207 := NB239_219.out
               have hnc207 := NB219_239.out
               have hnb208 := NB239_220.out
               have hnc208 := NB220_239.out
               have hnb209 := NB239_245.out
               have hnc209 := NB245_239.out
               have hnb210 := NB239_251.out
               have hnc210 := NB251_239.out
               have hnb211 := NB239_258.out
               have hnc211 := NB258_239.out
               have hcz212_0 : w193.cell? ⟨gb239, 0, none⟩ = some (.int .i64 t233) := (blk_cell BK239.out 0).trans rfl
               have hcz212_1 : w193.cell? ⟨gb239, 1, none⟩ = some (.int .i64 t234) := (blk_cell BK239.out 1).trans rfl
               have hcz212_2 : w193.cell? ⟨gb239, 2, none⟩ = some (.slice Ao44 t235.length co44) := (blk_cell BK239.out 2).trans rfl
               have hfz212_0 := blk_frozen BK239.out 0
               have hfz212_1 := blk_frozen BK239.out 1
               have hfz212_2 := blk_frozen BK239.out 2
               go_wp2_with (first | ((with_reducible refine gate_callee (f := 43) rfl ?_); refine z6669.gl (some 109) rfl rfl Try.func43 (by kernel_rfl) rfl #[.agg #[.int .i64 t290, .int .i64 t291, .slice Ao196 t292.length co196], .agg #[.int .i64 t233, .int .i64 t234, .slice Ao44 t235.length co44]] rfl ?_; (with_reducible refine (laws_eqSheet.calls kj109 t290 t291 _ _ t292 t233 t234 _ _ t235 true _ ?side1 ?side2 ?side3 ?side4 A198.out).mono ?_); (case side1 => refine (Kd.R_reads' (e := 54) (base := w.heap.size) (ok := fun k_ => (some k_ ≠ (v283 : Value).ownBlock ∧ (some k_ ≠ (v288 : Value).ownBlock ∧ (some k_ ≠ (.slice Ao44 t235.length co44 : Value).ownBlock ∧ (some k_ ≠ (.slice Ao54 t273.length co54 : Value).ownBlock ∧ (some k_ ≠ (.slice Ao64 t275.length co64 : Value).ownBlock ∧ some k_ ≠ (.slice Ao74 t254.length co74 : Value).ownBlock)))))) (n := t292.length) (c := co196) ?_).2.2; exact (z6669.rl ((Kd.R_mono (Kd.R_far (p := ⟨gb296, 2, none⟩) (Kd.R_far (p := ⟨gb296, 1, none⟩) (Kd.R_far (p := ⟨gb296, 0, none⟩) (Kd.R_types HO294.out BK296.out (by decide)) (fun _ hk => hk.2) (.int .i64 t290)) (fun _ hk => hk.2) (.int .i64 t291)) (fun _ hk => hk.2) (.slice Ao196 t292.length co196)) (fun _ h_ => h_.1))))); (case side2 => exact (Kd.R_reads' HO294.out).2.1); (case side3 => refine (Kd.R_reads' (e := 54) (base := w.heap.size) (ok := fun k_ => (some k_ ≠ (v283 : Value).ownBlock ∧ (some k_ ≠ (v288 : Value).ownBlock ∧ (some k_ ≠ (.slice Ao196 t292.length co196 : Value).ownBlock ∧ (some k_ ≠ (.slice Ao54 t273.length co54 : Value).ownBlock ∧ (some k_ ≠ (.slice Ao64 t275.length co64 : Value).ownBlock ∧ some k_ ≠ (.slice Ao74 t254.length co74 : Value).ownBlock)))))) (n := t235.length) (c := co44) ?_).2.2; exact (z6669.rl ((Kd.R_mono (Kd.R_far (p := ⟨gb296, 2, none⟩) (Kd.R_far (p := ⟨gb296, 1, none⟩) (Kd.R_far (p := ⟨gb296, 0, none⟩) (Kd.R_types HO_240002.out BK296.out (by decide)) (fun _ hk => hk.2) (.int .i64 t290)) (fun _ hk => hk.2) (.int .i64 t291)) (fun _ hk => hk.2) (.slice Ao196 t292.length co196)) (fun _ h_ => h_.1))))); (case side4 => exact (Kd.R_reads' HO_240002.out).2.1); rintro e w213 ⟨rfl, hb⟩; refine ⟨_, rfl, ?_⟩; replace HO_240002 := Aside0.mk (Kd.R_below (z6669.rl ((Kd.R_mono (Kd.R_far (p := ⟨gb296, 2, none⟩) (Kd.R_far (p := ⟨gb296, 1, none⟩) (Kd.R_far (p := ⟨gb296, 0, none⟩) (Kd.R_types HO_240002.out BK296.out (by decide)) (fun _ hk => hk.2) (.int .i64 t290)) (fun _ hk => hk.2) (.int .i64 t291)) (fun _ hk => hk.2) (.slice Ao196 t292.length co196)) (fun _ h_ => h_.1)))) hb); replace HO_246002 := Aside0.mk (Kd.R_below (z6669.rl ((Kd.R_mono (Kd.R_far (p := ⟨gb296, 2, none⟩) (Kd.R_far (p := ⟨gb296, 1, none⟩) (Kd.R_far (p := ⟨gb296, 0, none⟩) (Kd.R_types HO_246002.out BK296.out (by decide)) (fun _ hk => hk.2) (.int .i64 t290)) (fun _ hk => hk.2) (.int .i64 t291)) (fun _ hk => hk.2) (.slice Ao196 t292.length co196)) (fun _ h_ => h_.1)))) hb); replace HO_252002 := Aside0.mk (Kd.R_below (z6669.rl ((Kd.R_mono (Kd.R_far (p := ⟨gb296, 2, none⟩) (Kd.R_far (p := ⟨gb296, 1, none⟩) (Kd.R_far (p := ⟨gb296, 0, none⟩) (Kd.R_types HO_252002.out BK296.out (by decide)) (fun _ hk => hk.2) (.int .i64 t290)) (fun _ hk => hk.2) (.int .i64 t291)) (fun _ hk => hk.2) (.slice Ao196 t292.length co196)) (fun _ h_ => h_.1)))) hb); replace HO_259002 := Aside0.mk (Kd.R_below (z6669.rl ((Kd.R_mono (Kd.R_far (p := ⟨gb296, 2, none⟩) (Kd.R_far (p := ⟨gb296, 1, none⟩) (Kd.R_far (p := ⟨gb296, 0, none⟩) (Kd.R_types HO_259002.out BK296.out (by decide)) (fun _ hk => hk.2) (.int .i64 t290)) (fun _ hk => hk.2) (.int .i64 t291)) (fun _ hk => hk.2) (.slice Ao196 t292.length co196)) (fun _ h_ => h_.1)))) hb); replace HO284 := Aside0.mk (Kd.R_below (z6669.rl ((Kd.R_mono (Kd.R_far (p := ⟨gb296, 2, none⟩) (Kd.R_far (p := ⟨gb296, 1, none⟩) (Kd.R_far (p := ⟨gb296, 0, none⟩) (Kd.R_types HO284.out BK296.out (by decide)) (fun _ hk => hk.2) (.int .i64 t290)) (fun _ hk => hk.2) (.int .i64 t291)) (fun _ hk => hk.2) (.slice Ao196 t292.length co196)) (fun _ h_ => h_.1)))) hb); replace HO289 := Aside0.mk (Kd.R_below (z6669.rl ((Kd.R_mono (Kd.R_far (p := ⟨gb296, 2, none⟩) (Kd.R_far (p := ⟨gb296, 1, none⟩) (Kd.R_far (p := ⟨gb296, 0, none⟩) (Kd.R_types HO289.out BK296.out (by decide)) (fun _ hk => hk.2) (.int .i64 t290)) (fun _ hk => hk.2) (.int .i64 t291)) (fun _ hk => hk.2) (.slice Ao196 t292.length co196)) (fun _ h_ => h_.1)))) hb); replace HO294 := Aside0.mk (Kd.R_below (z6669.rl ((Kd.R_mono (Kd.R_far (p := ⟨gb296, 2, none⟩) (Kd.R_far (p := ⟨gb296, 1, none⟩) (Kd.R_far (p := ⟨gb296, 0, none⟩) (Kd.R_types HO294.out BK296.out (by decide)) (fun _ hk => hk.2) (.int .i64 t290)) (fun _ hk => hk.2) (.int .i64 t291)) (fun _ hk => hk.2) (.slice Ao196 t292.length co196)) (fun _ h_ => h_.1)))) hb); replace BK219 := Aside0.mk (blk_below (g := gb219) (o := .cells #[.int .i64 a0_0, .int .i64 a0_1, .slice A0_2 l0_2.length c0_2] 64 (0, 0)) (z6669.bf BK219) hb); replace BK220 := Aside0.mk (blk_below (g := gb220) (o := .cells #[.int .i64 a1_0, .int .i64 a1_1, .slice A1_2 l1_2.length c1_2] 64 (0, 0)) (z6669.bf BK220) hb); replace BK239 := Aside0.mk (blk_below (g := gb239) (o := .cells #[.int .i64 t233, .int .i64 t234, .slice Ao44 t235.length co44] 70 (0, 0)) (z6669.bf BK239) hb); replace BK245 := Aside0.mk (blk_below (g := gb245) (o := .cells #[.int .i64 t240, .int .i64 t241, .slice Ao54 t273.length co54] 70 (0, 0)) (z6669.bf BK245) hb); replace BK251 := Aside0.mk (blk_below (g := gb251) (o := .cells #[.int .i64 t246, .int .i64 t247, .slice Ao64 t275.length co64] 70 (0, 0)) (z6669.bf BK251) hb); replace BK258 := Aside0.mk (blk_below (g := gb258) (o := .cells #[.int .i64 t252, .int .i64 t253, .slice Ao74 t254.length co74] 70 (0, 0)) (z6669.bf BK258) hb); replace BK296 := Aside0.mk (blk_below (g := gb296) (o := .cells #[.int .i64 t290, .int .i64 t291, .slice Ao196 t292.length co196] 70 (0, 0)) (by (with_reducible repeat (first | refine blk_drewN ?_ _ | refine blk_drew ?_ | refine blk_alloc ?_ _)); refine blk_put (cs := #[.int .i64 t290, .int .i64 t291, .slice none 0 0]) ?_ 2 _ rfl; (with_reducible repeat (first | refine blk_drewN ?_ _ | refine blk_drew ?_ | refine blk_alloc ?_ _)); refine blk_put (cs := #[.int .i64 t290, .int .i64 0, .slice none 0 0]) ?_ 1 _ rfl; (with_reducible repeat (first | refine blk_drewN ?_ _ | refine blk_drew ?_ | refine blk_alloc ?_ _)); refine blk_put (cs := #[.int .i64 0, .int .i64 0, .slice none 0 0]) ?_ 0 _ rfl; (with_reducible repeat (first | refine blk_drewN ?_ _ | refine blk_drew ?_ | refine blk_alloc ?_ _)); exact BK296.out) hb); replace HB := Aside0.mk (below_step (z6669.bl HB) hb); (try clear hb); (try clear hb2); (try clear hk); (try clear hi)))
               go_meet
               case rel => exact ⟨_, ((t295 != t238)), (by first | rfl | (simp; done) | (simp [*]; done)), H', ⟨by have := HJ25.out; have := HJ109.out; first | omega | exact Nat.le_refl _⟩, ⟨by (try simp only [hl246002_109]); (try simp only [hl252002_109]); (with_reducible repeat (first | apply Kd.R_alloc | apply Kd.R_drewN | apply Kd.R_drew)); exact Kd.R_mono HO_240002.out (fun _ hk => ⟨hk.2.2.2.1, ⟨hk.2.2.2.2.1, ⟨hk.2.2.2.2.2, hk.2.2.1⟩⟩⟩)⟩, ⟨by (try simp only [hl246002_109]); (try simp only [hl252002_109]); (with_reducible repeat (first | apply Kd.R_alloc | apply Kd.R_drewN | apply Kd.R_drew)); exact Kd.R_mono HO_246002.out (fun _ hk => ⟨hk.2.2.2.1, ⟨hk.2.2.2.2.1, ⟨hk.2.2.2.2.2, hk.2.2.1⟩⟩⟩)⟩, ⟨by (try simp only [hl246002_109]); (try simp only [hl252002_109]); (with_reducible repeat (first | apply Kd.R_alloc | apply Kd.R_drewN | apply Kd.R_drew)); exact Kd.R_mono HO_252002.out (fun _ hk => ⟨hk.2.2.2.1, ⟨hk.2.2.2.2.1, ⟨hk.2.2.2.2.2, hk.2.2.1⟩⟩⟩)⟩, ⟨by (try simp only [hl246002_109]); (try simp only [hl252002_109]); (with_reducible repeat (first | apply Kd.R_alloc | apply Kd.R_drewN | apply Kd.R_drew)); exact Kd.R_mono HO_259002.out (fun _ hk => ⟨hk.2.2.2.1, ⟨hk.2.2.2.2.1, ⟨hk.2.2.2.2.2, hk.2.2.1⟩⟩⟩)⟩, ⟨by (try simp only [hl246002_109]); (try simp only [hl252002_109]); (with_reducible repeat (first | apply Kd.R_alloc | apply Kd.R_drewN | apply Kd.R_drew)); exact Kd.R_mono HO294.out (fun _ hk => ⟨hk.2.2.1, ⟨hk.2.2.2.1, ⟨hk.2.2.2.2.1, hk.2.2.2.2.2⟩⟩⟩)⟩, ⟨by (try simp only [hl246002_109]); (try simp only [hl252002_109]); (with_reducible repeat (first | refine blk_drewN ?_ _ | refine blk_drew ?_ | refine blk_alloc ?_ _)); exact BK219.out⟩, ⟨by (try simp only [hl246002_109]); (try simp only [hl252002_109]); (with_reducible repeat (first | refine blk_drewN ?_ _ | refine blk_drew ?_ | refine blk_alloc ?_ _)); exact BK220.out⟩, ⟨by (try simp only [hl246002_109]); (try simp only [hl252002_109]); (with_reducible repeat (first | refine blk_drewN ?_ _ | refine blk_drew ?_ | refine blk_alloc ?_ _)); exact BK239.out⟩, ⟨by (try simp only [hl246002_109]); (try simp only [hl252002_109]); (with_reducible repeat (first | refine blk_drewN ?_ _ | refine blk_drew ?_ | refine blk_alloc ?_ _)); exact BK245.out⟩, ⟨by (try simp only [hl246002_109]); (try simp only [hl252002_109]); (with_reducible repeat (first | refine blk_drewN ?_ _ | refine blk_drew ?_ | refine blk_alloc ?_ _)); exact BK251.out⟩, ⟨by (try simp only [hl246002_109]); (try simp only [hl252002_109]); (with_reducible repeat (first | refine blk_drewN ?_ _ | refine blk_drew ?_ | refine blk_alloc ?_ _)); exact BK258.out⟩, ⟨by (try simp only [hl246002_109]); (try simp only [hl252002_109]); (with_reducible repeat (first | refine blk_drewN ?_ _ | refine blk_drew ?_ | refine blk_alloc ?_ _)); exact BK296.out⟩, ⟨z6669.bl HB⟩⟩
              ·replace c199 := Bool.eq_false_iff.mpr c199
               subst c199
               have H1 : (laws_FnExactLaySheet.j2 kj109 t277 true t252 t253 t278) = some r := by rw [if_neg (show ¬ (false = true) by decide)] at H; exact H
               clear H
               have H := H1
               clear H1
               have H' := Aside0.mk H
               clear H
               have hnb214 := NB296_219.out
               have hnc214 := NB219_296.out
               have hnb215 := NB296_220.out
               have hnc215 := NB220_296.out
               have hnb216 := NB296_239.out
               have hnc216 := NB239_296.out
               have hnb217 := NB296_245.out
               have hnc217 := NB245_296.out
               have hnb218 := NB296_251.out
               have hnc218 := NB251_296.out
               have hnb219 := NB296_258.out
               have hnc219 := NB258_296.out
               have hcz220_0 : w193.cell? ⟨gb296, 0, none⟩ = some (.int .i64 0) := (blk_cell BK296.out 0).trans rfl
               have hcz220_1 : w193.cell? ⟨gb296, 1, none⟩ = some (.int .i64 0) := (blk_cell BK296.out 1).trans rfl
               have hcz220_2 : w193.cell? ⟨gb296, 2, none⟩ = some (.slice none 0 0) := (blk_cell BK296.out 2).trans rfl
               have hfz220_0 := blk_frozen BK296.out 0
               have hfz220_1 := blk_frozen BK296.out 1
               have hfz220_2 := blk_frozen BK296.out 2
               have hnb221 := NB239_219.out
               have hnc221 := NB219_239.out
               have hnb222 := NB239_220.out
               have hnc222 := NB220_239.out
               have hnb223 := NB239_245.out
               have hnc223 := NB245_239.out
               have hnb224 := NB239_251.out
               have hnc224 := NB251_239.out
               have hnb225 := NB239_258.out
               have hnc225 := NB258_239.out
               have hcz226_0 : w193.cell? ⟨gb239, 0, none⟩ = some (.int .i64 t233) := (blk_cell BK239.out 0).trans rfl
               have hcz226_1 : w193.cell? ⟨gb239, 1, none⟩ = some (.int .i64 t234) := (blk_cell BK239.out 1).trans rfl
               have hcz226_2 : w193.cell? ⟨gb239, 2, none⟩ = some (.slice Ao44 t235.length co44) := (blk_cell BK239.out 2).trans rfl
               have hfz226_0 := blk_frozen BK239.out 0
               have hfz226_1 := blk_frozen BK239.out 1
               have hfz226_2 := blk_frozen BK239.out 2
               go_wp2_with (first | ((with_reducible refine gate_callee (f := 43) rfl ?_); refine z6669.gl (some 109) rfl rfl Try.func43 (by kernel_rfl) rfl #[.agg #[.int .i64 t290, .int .i64 t291, .slice Ao196 t292.length co196], .agg #[.int .i64 t233, .int .i64 t234, .slice Ao44 t235.length co44]] rfl ?_; (with_reducible refine (laws_eqSheet.calls kj109 t290 t291 _ _ t292 t233 t234 _ _ t235 false _ ?side1 ?side2 ?side3 ?side4 A198.out).mono ?_); (case side1 => refine (Kd.R_reads' (e := 54) (base := w.heap.size) (ok := fun k_ => (some k_ ≠ (v283 : Value).ownBlock ∧ (some k_ ≠ (v288 : Value).ownBlock ∧ (some k_ ≠ (.slice Ao44 t235.length co44 : Value).ownBlock ∧ (some k_ ≠ (.slice Ao54 t273.length co54 : Value).ownBlock ∧ (some k_ ≠ (.slice Ao64 t275.length co64 : Value).ownBlock ∧ some k_ ≠ (.slice Ao74 t254.length co74 : Value).ownBlock)))))) (n := t292.length) (c := co196) ?_).2.2; exact (z6669.rl ((Kd.R_mono (Kd.R_far (p := ⟨gb296, 2, none⟩) (Kd.R_far (p := ⟨gb296, 1, none⟩) (Kd.R_far (p := ⟨gb296, 0, none⟩) (Kd.R_types HO294.out BK296.out (by decide)) (fun _ hk => hk.2) (.int .i64 t290)) (fun _ hk => hk.2) (.int .i64 t291)) (fun _ hk => hk.2) (.slice Ao196 t292.length co196)) (fun _ h_ => h_.1))))); (case side2 => exact (Kd.R_reads' HO294.out).2.1); (case side3 => refine (Kd.R_reads' (e := 54) (base := w.heap.size) (ok := fun k_ => (some k_ ≠ (v283 : Value).ownBlock ∧ (some k_ ≠ (v288 : Value).ownBlock ∧ (some k_ ≠ (.slice Ao196 t292.length co196 : Value).ownBlock ∧ (some k_ ≠ (.slice Ao54 t273.length co54 : Value).ownBlock ∧ (some k_ ≠ (.slice Ao64 t275.length co64 : Value).ownBlock ∧ some k_ ≠ (.slice Ao74 t254.length co74 : Value).ownBlock)))))) (n := t235.length) (c := co44) ?_).2.2; exact (z6669.rl ((Kd.R_mono (Kd.R_far (p := ⟨gb296, 2, none⟩) (Kd.R_far (p := ⟨gb296, 1, none⟩) (Kd.R_far (p := ⟨gb296, 0, none⟩) (Kd.R_types HO_240002.out BK296.out (by decide)) (fun _ hk => hk.2) (.int .i64 t290)) (fun _ hk => hk.2) (.int .i64 t291)) (fun _ hk => hk.2) (.slice Ao196 t292.length co196)) (fun _ h_ => h_.1))))); (case side4 => exact (Kd.R_reads' HO_240002.out).2.1); rintro e w227 ⟨rfl, hb⟩; refine ⟨_, rfl, ?_⟩; replace HO_240002 := Aside0.mk (Kd.R_below (z6669.rl ((Kd.R_mono (Kd.R_far (p := ⟨gb296, 2, none⟩) (Kd.R_far (p := ⟨gb296, 1, none⟩) (Kd.R_far (p := ⟨gb296, 0, none⟩) (Kd.R_types HO_240002.out BK296.out (by decide)) (fun _ hk => hk.2) (.int .i64 t290)) (fun _ hk => hk.2) (.int .i64 t291)) (fun _ hk => hk.2) (.slice Ao196 t292.length co196)) (fun _ h_ => h_.1)))) hb); replace HO_246002 := Aside0.mk (Kd.R_below (z6669.rl ((Kd.R_mono (Kd.R_far (p := ⟨gb296, 2, none⟩) (Kd.R_far (p := ⟨gb296, 1, none⟩) (Kd.R_far (p := ⟨gb296, 0, none⟩) (Kd.R_types HO_246002.out BK296.out (by decide)) (fun _ hk => hk.2) (.int .i64 t290)) (fun _ hk => hk.2) (.int .i64 t291)) (fun _ hk => hk.2) (.slice Ao196 t292.length co196)) (fun _ h_ => h_.1)))) hb); replace HO_252002 := Aside0.mk (Kd.R_below (z6669.rl ((Kd.R_mono (Kd.R_far (p := ⟨gb296, 2, none⟩) (Kd.R_far (p := ⟨gb296, 1, none⟩) (Kd.R_far (p := ⟨gb296, 0, none⟩) (Kd.R_types HO_252002.out BK296.out (by decide)) (fun _ hk => hk.2) (.int .i64 t290)) (fun _ hk => hk.2) (.int .i64 t291)) (fun _ hk => hk.2) (.slice Ao196 t292.length co196)) (fun _ h_ => h_.1)))) hb); replace HO_259002 := Aside0.mk (Kd.R_below (z6669.rl ((Kd.R_mono (Kd.R_far (p := ⟨gb296, 2, none⟩) (Kd.R_far (p := ⟨gb296, 1, none⟩) (Kd.R_far (p := ⟨gb296, 0, none⟩) (Kd.R_types HO_259002.out BK296.out (by decide)) (fun _ hk => hk.2) (.int .i64 t290)) (fun _ hk => hk.2) (.int .i64 t291)) (fun _ hk => hk.2) (.slice Ao196 t292.length co196)) (fun _ h_ => h_.1)))) hb); replace HO284 := Aside0.mk (Kd.R_below (z6669.rl ((Kd.R_mono (Kd.R_far (p := ⟨gb296, 2, none⟩) (Kd.R_far (p := ⟨gb296, 1, none⟩) (Kd.R_far (p := ⟨gb296, 0, none⟩) (Kd.R_types HO284.out BK296.out (by decide)) (fun _ hk => hk.2) (.int .i64 t290)) (fun _ hk => hk.2) (.int .i64 t291)) (fun _ hk => hk.2) (.slice Ao196 t292.length co196)) (fun _ h_ => h_.1)))) hb); replace HO289 := Aside0.mk (Kd.R_below (z6669.rl ((Kd.R_mono (Kd.R_far (p := ⟨gb296, 2, none⟩) (Kd.R_far (p := ⟨gb296, 1, none⟩) (Kd.R_far (p := ⟨gb296, 0, none⟩) (Kd.R_types HO289.out BK296.out (by decide)) (fun _ hk => hk.2) (.int .i64 t290)) (fun _ hk => hk.2) (.int .i64 t291)) (fun _ hk => hk.2) (.slice Ao196 t292.length co196)) (fun _ h_ => h_.1)))) hb); replace HO294 := Aside0.mk (Kd.R_below (z6669.rl ((Kd.R_mono (Kd.R_far (p := ⟨gb296, 2, none⟩) (Kd.R_far (p := ⟨gb296, 1, none⟩) (Kd.R_far (p := ⟨gb296, 0, none⟩) (Kd.R_types HO294.out BK296.out (by decide)) (fun _ hk => hk.2) (.int .i64 t290)) (fun _ hk => hk.2) (.int .i64 t291)) (fun _ hk => hk.2) (.slice Ao196 t292.length co196)) (fun _ h_ => h_.1)))) hb); replace BK219 := Aside0.mk (blk_below (g := gb219) (o := .cells #[.int .i64 a0_0, .int .i64 a0_1, .slice A0_2 l0_2.length c0_2] 64 (0, 0)) (z6669.bf BK219) hb); replace BK220 := Aside0.mk (blk_below (g := gb220) (o := .cells #[.int .i64 a1_0, .int .i64 a1_1, .slice A1_2 l1_2.length c1_2] 64 (0, 0)) (z6669.bf BK220) hb); replace BK239 := Aside0.mk (blk_below (g := gb239) (o := .cells #[.int .i64 t233, .int .i64 t234, .slice Ao44 t235.length co44] 70 (0, 0)) (z6669.bf BK239) hb); replace BK245 := Aside0.mk (blk_below (g := gb245) (o := .cells #[.int .i64 t240, .int .i64 t241, .slice Ao54 t273.length co54] 70 (0, 0)) (z6669.bf BK245) hb); replace BK251 := Aside0.mk (blk_below (g := gb251) (o := .cells #[.int .i64 t246, .int .i64 t247, .slice Ao64 t275.length co64] 70 (0, 0)) (z6669.bf BK251) hb); replace BK258 := Aside0.mk (blk_below (g := gb258) (o := .cells #[.int .i64 t252, .int .i64 t253, .slice Ao74 t254.length co74] 70 (0, 0)) (z6669.bf BK258) hb); replace BK296 := Aside0.mk (blk_below (g := gb296) (o := .cells #[.int .i64 t290, .int .i64 t291, .slice Ao196 t292.length co196] 70 (0, 0)) (by (with_reducible repeat (first | refine blk_drewN ?_ _ | refine blk_drew ?_ | refine blk_alloc ?_ _)); refine blk_put (cs := #[.int .i64 t290, .int .i64 t291, .slice none 0 0]) ?_ 2 _ rfl; (with_reducible repeat (first | refine blk_drewN ?_ _ | refine blk_drew ?_ | refine blk_alloc ?_ _)); refine blk_put (cs := #[.int .i64 t290, .int .i64 0, .slice none 0 0]) ?_ 1 _ rfl; (with_reducible repeat (first | refine blk_drewN ?_ _ | refine blk_drew ?_ | refine blk_alloc ?_ _)); refine blk_put (cs := #[.int .i64 0, .int .i64 0, .slice none 0 0]) ?_ 0 _ rfl; (with_reducible repeat (first | refine blk_drewN ?_ _ | refine blk_drew ?_ | refine blk_alloc ?_ _)); exact BK296.out) hb); replace HB := Aside0.mk (below_step (z6669.bl HB) hb); (try clear hb); (try clear hb2); (try clear hk); (try clear hi)))
               go_meet
               case rel => exact ⟨_, (true), (by first | rfl | (simp; done) | (simp [*]; done)), H', ⟨by have := HJ25.out; have := HJ109.out; first | omega | exact Nat.le_refl _⟩, ⟨by (try simp only [hl246002_109]); (try simp only [hl252002_109]); (with_reducible repeat (first | apply Kd.R_alloc | apply Kd.R_drewN | apply Kd.R_drew)); exact Kd.R_mono HO_240002.out (fun _ hk => ⟨hk.2.2.2.1, ⟨hk.2.2.2.2.1, ⟨hk.2.2.2.2.2, hk.2.2.1⟩⟩⟩)⟩, ⟨by (try simp only [hl246002_109]); (try simp only [hl252002_109]); (with_reducible repeat (first | apply Kd.R_alloc | apply Kd.R_drewN | apply Kd.R_drew)); exact Kd.R_mono HO_246002.out (fun _ hk => ⟨hk.2.2.2.1, ⟨hk.2.2.2.2.1, ⟨hk.2.2.2.2.2, hk.2.2.1⟩⟩⟩)⟩, ⟨by (try simp only [hl246002_109]); (try simp only [hl252002_109]); (with_reducible repeat (first | apply Kd.R_alloc | apply Kd.R_drewN | apply Kd.R_drew)); exact Kd.R_mono HO_252002.out (fun _ hk => ⟨hk.2.2.2.1, ⟨hk.2.2.2.2.1, ⟨hk.2.2.2.2.2, hk.2.2.1⟩⟩⟩)⟩, ⟨by (try simp only [hl246002_109]); (try simp only [hl252002_109]); (with_reducible repeat (first | apply Kd.R_alloc | apply Kd.R_drewN | apply Kd.R_drew)); exact Kd.R_mono HO_259002.out (fun _ hk => ⟨hk.2.2.2.1, ⟨hk.2.2.2.2.1, ⟨hk.2.2.2.2.2, hk.2.2.1⟩⟩⟩)⟩, ⟨by (try simp only [hl246002_109]); (try simp only [hl252002_109]); (with_reducible repeat (first | apply Kd.R_alloc | apply Kd.R_drewN | apply Kd.R_drew)); exact Kd.R_mono HO294.out (fun _ hk => ⟨hk.2.2.1, ⟨hk.2.2.2.1, ⟨hk.2.2.2.2.1, hk.2.2.2.2.2⟩⟩⟩)⟩, ⟨by (try simp only [hl246002_109]); (try simp only [hl252002_109]); (with_reducible repeat (first | refine blk_drewN ?_ _ | refine blk_drew ?_ | refine blk_alloc ?_ _)); exact BK219.out⟩, ⟨by (try simp only [hl246002_109]); (try simp only [hl252002_109]); (with_reducible repeat (first | refine blk_drewN ?_ _ | refine blk_drew ?_ | refine blk_alloc ?_ _)); exact BK220.out⟩, ⟨by (try simp only [hl246002_109]); (try simp only [hl252002_109]); (with_reducible repeat (first | refine blk_drewN ?_ _ | refine blk_drew ?_ | refine blk_alloc ?_ _)); exact BK239.out⟩, ⟨by (try simp only [hl246002_109]); (try simp only [hl252002_109]); (with_reducible repeat (first | refine blk_drewN ?_ _ | refine blk_drew ?_ | refine blk_alloc ?_ _)); exact BK245.out⟩, ⟨by (try simp only [hl246002_109]); (try simp only [hl252002_109]); (with_reducible repeat (first | refine blk_drewN ?_ _ | refine blk_drew ?_ | refine blk_alloc ?_ _)); exact BK251.out⟩, ⟨by (try simp only [hl246002_109]); (try simp only [hl252002_109]); (with_reducible repeat (first | refine blk_drewN ?_ _ | refine blk_drew ?_ | refine blk_alloc ?_ _)); exact BK258.out⟩, ⟨by (try simp only [hl246002_109]); (try simp only [hl252002_109]); (with_reducible repeat (first | refine blk_drewN ?_ _ | refine blk_drew ?_ | refine blk_alloc ?_ _)); exact BK296.out⟩, ⟨z6669.bl HB⟩⟩
             case rest =>
              clear HC176
              try clear c1
              try clear c2
              try clear p2
              try clear c4
              try clear c19
              try clear c20
              try clear c21
              try clear c22
              try clear c40
              try clear c43
              try clear c48
              try clear c199
              try clear c200
              try clear c201
              try clear c202
              try clear c203
              try clear c204
              try clear c205
              try clear c207
              try clear c208
              try clear c209
              try clear c210
              try clear c211
              try clear c214
              try clear c215
              try clear c216
              try clear c217
              try clear c218
              try clear c219
              try clear c221
              try clear c222
              try clear c223
              try clear c224
              try clear c225
              try clear hcz206_0
              try clear hcz206_1
              try clear hcz206_2
              try clear hcz212_0
              try clear hcz212_1
              try clear hcz212_2
              try clear hcz220_0
              try clear hcz220_1
              try clear hcz220_2
              try clear hcz226_0
              try clear hcz226_1
              try clear hcz226_2
              try clear hfz206_0
              try clear hfz206_1
              try clear hfz206_2
              try clear hfz212_0
              try clear hfz212_1
              try clear hfz212_2
              try clear hfz220_0
              try clear hfz220_1
              try clear hfz220_2
              try clear hfz226_0
              try clear hfz226_1
              try clear hfz226_2
              obtain ⟨kq, x115_175, rfl, HA, HJ175, HO_240002, HO_246002, HO_252002, HO_259002, HO_297002, BK219, BK220, BK239, BK245, BK251, BK258, BK296, HB⟩ := hcut
              have hl259002_175 := (Kd.R_reads' HO_259002.out).1
              rw [hl259002_175] at HO_259002
              (try simp only [hl259002_175])
              (try simp only [hl259002_175] at BK219)
              (try simp only [hl259002_175] at BK220)
              (try simp only [hl259002_175] at BK239)
              (try simp only [hl259002_175] at BK245)
              (try simp only [hl259002_175] at BK251)
              (try simp only [hl259002_175] at BK258)
              (try simp only [hl259002_175] at BK296)
              (try simp only [hl259002_175] at HO_240002)
              (try simp only [hl259002_175] at HO_246002)
              (try simp only [hl259002_175] at HO_252002)
              (try simp only [hl259002_175] at HO_297002)
              cases kq with
              | zero => exact absurd HA.out (by simp [laws_FnExactLaySheet.j2])
              | succ kj175 =>
               have H := HA.out
               clear HA
               simp only [laws_FnExactLaySheet.j2] at H
               by_cases c228 : x115_175 = true
               ·subst c228
                have H1 : (some false) = some r := by rw [if_pos rfl] at H; exact H
                clear H
                have H := H1
                clear H1
                exact absurd (Option.some.inj H) (by rw [hrt]; decide)
               ·replace c228 := Bool.eq_false_iff.mpr c228
                subst c228
                have H1 : ((laws_heldSheet.f kj175 t252 t253 t278 1).bind fun t298 => (if t298 < 0 then (some false) else (if t298 = t277 then (some true) else (some false)))) = some r := by rw [if_neg (show ¬ (false = true) by decide)] at H; exact H
                clear H
                have H := H1
                clear H1
                replace H := Option.bind_eq_some_iff.mp H
                obtain ⟨t298, A2290, H⟩ := H
                replace H : (if t298 < 0 then (some false) else (if t298 = t277 then (some true) else (some false))) = some r := H
                have A229 := Aside0.mk A2290
                clear A2290
                by_cases c230 : t298 < 0
                ·rw [if_pos c230] at H
                 have c230b0 : decide (t298 < 0) = true := decide_eq_true c230
                 clear c230
                 exact absurd (Option.some.inj H) (by rw [hrt]; decide)
                ·rw [if_neg c230] at H
                 have c230b0 : decide (t298 < 0) = false := decide_eq_false c230
                 clear c230
                 by_cases c239 : t298 = t277
                 ·rw [if_pos c239] at H
                  have c239b0 : (t298 == t277) = true := beq_iff_eq.mpr c239
                  have c239b1 : (t298 != t277) = false := bne_eq_false_iff_eq.mpr c239
                  clear c239
                  obtain rfl := Option.some.inj H
                  have hnb240 := NB258_219.out
                  have hnc240 := NB219_258.out
                  have hnb241 := NB258_220.out
                  have hnc241 := NB220_258.out
                  have hnb242 := NB258_239.out
                  have hnc242 := NB239_258.out
                  have hnb243 := NB258_245.out
                  have hnc243 := NB245_258.out
                  have hnb244 := NB258_251.out
                  have hnc244 := NB251_258.out
                  have hnb245 := NB258_296.out
                  have hnc245 := NB296_258.out
                  have hcz246_0 : wc.cell? ⟨gb258, 0, none⟩ = some (.int .i64 t252) := (blk_cell BK258.out 0).trans rfl
                  have hcz246_1 : wc.cell? ⟨gb258, 1, none⟩ = some (.int .i64 t253) := (blk_cell BK258.out 1).trans rfl
                  have hcz246_2 : wc.cell? ⟨gb258, 2, none⟩ = some (.slice Ao74 t278.length co74) := (blk_cell BK258.out 2).trans rfl
                  have hfz246_0 := blk_frozen BK258.out 0
                  have hfz246_1 := blk_frozen BK258.out 1
                  have hfz246_2 := blk_frozen BK258.out 2
                  go_wp2_with (first | ((with_reducible refine gate_callee (f := 49) rfl ?_); refine z6669.gl (some 118) rfl rfl Try.func49 (by kernel_rfl) rfl #[.agg #[.int .i64 t252, .int .i64 t253, .slice Ao74 t278.length co74], .int .i64 1] rfl ?_; (with_reducible refine (laws_heldSheet.calls kj175 t252 t253 _ _ t278 1 t298 _ ?side1 ?side2 A229.out).mono ?_); (case side1 => repeat (first | exact (Kd.R_reads' HO_259002.out).2.2 | (with_reducible refine Kd.C_alloc ?_ _) | (with_reducible refine Kd.C_drewN ?_ _) | (with_reducible refine Kd.C_drew ?_))); (case side2 => exact (Kd.R_reads' HO_259002.out).2.1); rintro e w247 ⟨rfl, hb⟩; refine ⟨_, rfl, ?_⟩; replace HO_240002 := z6669.rb HO_240002 hb; replace HO_246002 := z6669.rb HO_246002 hb; replace HO_252002 := z6669.rb HO_252002 hb; replace HO_259002 := z6669.rb HO_259002 hb; replace HO_297002 := z6669.rb HO_297002 hb; replace BK219 := z6669.bb BK219 hb; replace BK220 := z6669.bb BK220 hb; replace BK239 := z6669.bb BK239 hb; replace BK245 := z6669.bb BK245 hb; replace BK251 := z6669.bb BK251 hb; replace BK258 := z6669.bb BK258 hb; replace BK296 := z6669.bb BK296 hb; replace HB := Aside0.mk (below_step (z6669.bl HB) hb); (try clear hb); (try clear hb2); (try clear hk); (try clear hi)))
                  go_ret
                  exact ⟨by first | rfl | (simp [errW_none, errW_some] <;> rfl) | (simp [*, errW_none, errW_some] <;> rfl), z6669.bl HB⟩
                 ·rw [if_neg c239] at H
                  have c239b0 : (t298 == t277) = false := beq_eq_false_iff_ne.mpr c239
                  have c239b1 : (t298 != t277) = true := bne_iff_ne.mpr c239
                  exact absurd (Option.some.inj H) (by rw [hrt]; decide)
            ·rw [if_neg c172] at H
             have c172b0 : (t279 == t277) = false := beq_eq_false_iff_ne.mpr c172
             have c172b1 : (t279 != t277) = true := bne_iff_ne.mpr c172
             exact absurd (Option.some.inj H) (by rw [hrt]; decide)
       ·replace c107 := Bool.eq_false_iff.mpr c107
        subst c107
        have H1 : (some false) = some r := by rw [if_neg (show ¬ (false = true) by decide)] at H; exact H
        clear H
        have H := H1
        clear H1
        exact absurd (Option.some.inj H) (by rw [hrt]; decide)
      ·replace c104 := Bool.eq_false_iff.mpr c104
       subst c104
       have H1 : (some false) = some r := by rw [if_neg (show ¬ (false = true) by decide)] at H; exact H
       clear H
       have H := H1
       clear H1
       exact absurd (Option.some.inj H) (by rw [hrt]; decide)
end Go.Proofs.Ytdmndbehfdnneaa.HFnExactLaySheet
