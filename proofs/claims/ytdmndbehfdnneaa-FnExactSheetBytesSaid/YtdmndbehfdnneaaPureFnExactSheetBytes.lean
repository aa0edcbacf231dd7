/- SheetBytes, as numbers and lists: the program's answer is the reference's; nothing is written into the argument, and the answer is new memory. -/
import Derived.Test.YtdmndbehfdnneaaSheetBytesLib
import Derived.Test.YtdmndbehfdnneaaTintsFnExactSheetBytes
import Derived.Test.YtdmndbehfdnneaaEqTintsFnExactSheetBytes
import Derived.Test.YtdmndbehfdnneaaMarkTintsFnExactSheetBytes
import Derived.Test.YtdmndbehfdnneaaBytesFnExactSheetBytes
namespace Go.Proofs.Ytdmndbehfdnneaa.Pure
open Go.RowKit Go.Proofs.Ytdmndbehfdnneaa.PFnExactSheetBytes Go.Proofs.YtdmndbehfdnneaaW.PrintWords Go.Proofs.YtdmndbehfdnneaaW.PrintLast Go.Proofs.Ytdmndbehfdnneaa.Plain
set_option linter.unusedSimpArgs false
set_option linter.unusedVariables false

theorem FnExactSheetBytes : ∀ (a0_0 : Int) (a0_1 : Int) (l0_2 : List (S109)), ((Lit.int .i64 a0_0).wf = true) → ((Lit.int .i64 a0_1).wf = true) → ((∀ x109 ∈ l0_2, ((Lit.int .i64 x109.f0).wf = true) ∧ ((Lit.int .i64 x109.f1).wf = true) ∧ ((Lit.int .i64 x109.f2).wf = true) ∧ ((Lit.int .i64 x109.f3).wf = true)) ∧ l0_2.length ≤ 9223372036854775807) → ∃ k, PFnExactSheetBytes.laws_FnExactSheetBytes.f k a0_0 a0_1 l0_2 = some true := by
  intro a b l _ _ ⟨_, hn⟩
  refine Ev.rounds ?_
  unfold laws_FnExactSheetBytes.f laws_szSheet.f laws_szTintS.f
  rw [wrap_id (by omega) (by omega)]
  by_cases hl : (1048576 : Int) - l.length < 0
  · simp only [if_pos hl, Option.bind_some]
    exact ev_const fun k => by simp
  simp only [if_neg hl, Option.bind_some]
  have hl' : l.length ≤ 1048576 := by omega
  have hto : Ev (fun k => laws_toSheet.f k a b l) (a, b, l.map fun x => ⟨x.f0, x.f1, x.f2, x.f3⟩) := by
    unfold laws_toSheet.f
    exact Ev.bind (f := fun _ t => some (a, b, t)) (toTints l hl') (Ev.now _)
  generalize hm : (l.map fun x => (⟨x.f0, x.f1, x.f2, x.f3⟩ : S54)) = m at hto
  have hml : m.length ≤ 1048576 := by rw [← hm, List.length_map]; exact hl'
  have hs := specSheetBytes a b m hml
  have hi := implSheetBytes a b m hml
  have hlen := sheetBytes_len a b m hml
  generalize sheetBytes a b m = R at hs hi hlen
  obtain ⟨R, o⟩ := R
  simp only at hlen
  refine Ev.bind hto ?_
  refine Ev.bind hs ?_
  refine Ev.bind hto ?_
  refine Ev.bind hi ?_
  refine Ev.bind (eqBytes R (by omega)) ?_
  simp only [if_true, bne_self_eq_false]
  have hj2 : Ev (fun k => laws_FnExactSheetBytes.j2 k (over byteMark R R.length) ((1 + 1 * R.length : Nat) : Int) false) true := by
    refine Ev.step (f := fun k => (laws_heldByteS.f k (over byteMark R R.length) 1).bind fun t => if t < 0 then some false else if t = ((1 + 1 * R.length : Nat) : Int) then some true else some false) (fun k => by simp only [laws_FnExactSheetBytes.j2, Bool.false_eq_true, if_false]) ?_
    refine Ev.bind (heldBytes R hlen) ?_
    simp only [if_neg (show ¬ ((1 + 1 * R.length : Nat) : Int) < 0 by omega), if_true]
    exact Ev.now _
  have hj1 : Ev (fun k => laws_FnExactSheetBytes.j1 k R o R false a b l) true := by
    refine Ev.step (f := fun k => (laws_markByteS.f k R 1).bind fun bt => (laws_heldByteS.f k bt.2 1).bind fun t => if t < 0 then some false else if t = bt.1 then ((laws_toSheet.f k a b l).bind fun bt2 => (impl_SheetBytes.f k bt2.1 bt2.2.1 bt2.2.2).bind fun bt3 => (laws_eqByteS.f k bt3.1 R).bind fun t4 => if t4 = true then laws_FnExactSheetBytes.j2 k bt.2 bt.1 (bt3.2 != o) else laws_FnExactSheetBytes.j2 k bt.2 bt.1 true) else some false) (fun k => by simp only [laws_FnExactSheetBytes.j1, Bool.false_eq_true, if_false]) ?_
    refine Ev.bind (markBytes R hlen) ?_
    refine Ev.bind (heldBytes R hlen) ?_
    simp only [if_neg (show ¬ ((1 + 1 * R.length : Nat) : Int) < 0 by omega), if_true]
    refine Ev.bind hto ?_
    refine Ev.bind hi ?_
    refine Ev.bind (eqBytes R (by omega)) ?_
    simp only [if_true, bne_self_eq_false]
    exact hj2
  refine Ev.step (f := fun k => (laws_toSheet.f k a b l).bind fun bt => (laws_eqSheet.f k a b m bt.1 bt.2.1 bt.2.2).bind fun t => if t = true then ((laws_markSheet.f k a b m 1).bind fun bt2 => if bt2.1 < 0 then laws_FnExactSheetBytes.j1 k R o R true a b l else ((laws_eqByteS.f k R R).bind fun t3 => if t3 = true then laws_FnExactSheetBytes.j1 k R o R (o != o) a b l else laws_FnExactSheetBytes.j1 k R o R true a b l)) else some false) (fun k => by simp only [laws_FnExactSheetBytes.j0, Bool.false_eq_true, if_false]) ?_
  refine Ev.bind hto ?_
  refine Ev.bind (eqSheet_ a b m (by omega)) ?_
  simp only [if_true]
  refine Ev.bind (markSheet a b m hml) ?_
  simp only [if_neg (show ¬ ((1 + 4 * m.length : Nat) : Int) < 0 by omega)]
  refine Ev.bind (eqBytes R (by omega)) ?_
  simp only [if_true, bne_self_eq_false]
  exact hj1

end Go.Proofs.Ytdmndbehfdnneaa.Pure
