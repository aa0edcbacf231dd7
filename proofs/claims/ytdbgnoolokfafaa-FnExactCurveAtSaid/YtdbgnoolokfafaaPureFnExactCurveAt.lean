/- Merged: Curve, In, PureFnExactCurveAt. -/
import Derived.Test.YtdbgnoolokfafaaHFnExactCurveAtx
import Derived.Test.YtdbgnoolokfafaaPlain
import Derived.Test.YtdbgnoolokfafaaFor
/- Bounds asked by both sides. -/
namespace Go.Proofs.Ytdbgnoolokfafaa.HFnExactCurveAt
open Go.RowKit Go.Proofs.YtdbgnoolokfafaaW.PrintWords Go.Proofs.YtdbgnoolokfafaaW.PrintLast Go.Proofs.Ytdbgnoolokfafaa.Plain
set_option linter.unusedSimpArgs false
set_option linter.unusedVariables false

theorem in_ (a b c : Int) : spec_l1In.f a b c = some (decide (b ≤ a ∧ a ≤ c)) := by
  unfold spec_l1In.f
  by_cases h : a ≥ b
  · rw [if_pos h]; simp [show b ≤ a from h]
  · rw [if_neg h]; simp [show ¬ b ≤ a from h]
theorem within_ (a b c : Int) : impl_within.f a b c = some (decide (b ≤ a ∧ a ≤ c)) := in_ a b c

end Go.Proofs.Ytdbgnoolokfafaa.HFnExactCurveAt

/- A point of a curve, by both sides. -/
namespace Go.Proofs.Ytdbgnoolokfafaa.HFnExactCurveAt
open Go.RowKit Go.Proofs.YtdbgnoolokfafaaW.PrintWords Go.Proofs.YtdbgnoolokfafaaW.PrintLast Go.Proofs.Ytdbgnoolokfafaa.Plain
set_option linter.unusedSimpArgs false
set_option linter.unusedVariables false

namespace Cv
def fixed (a : Int) : Bool := decide (-1099511627776 ≤ a ∧ a ≤ 1099511627776)
def fixedPt (p : S25) : Bool := fixed p.f0 && fixed p.f1
theorem specGoodFixed (x : Int) : spec_GoodFixed.f x = some (fixed x) := by
  unfold spec_GoodFixed.f
  simp only [in_, Option.bind_some]
  rfl
theorem specFixedPt (x y : Int) : spec_l9Point.f x y = some (fixed x && fixed y) := by
  unfold spec_l9Point.f
  simp only [specGoodFixed, Option.bind_some]
  cases fixed x <;> simp
theorem areFixed_ev (l : List Int) (hl : l.length ≤ 1048576) : Ev (fun k => impl_areFixed.f k l) (l.all fixed) := by
  unfold impl_areFixed.f
  exact all_ev fixed l 0 (by omega) (fun k i => impl_areFixed.l0 k l l.length i) (fun k i hi => by
    show impl_areFixed.l0 (k + 1) l _ i = _
    rw [impl_areFixed.l0, if_pos (by omega), if_pos (by omega), if_pos (by omega)]
    unfold impl_GoodFixed.f
    simp only [within_, Option.bind_some]
    rfl) (fun k => by
    show impl_areFixed.l0 (k + 1) _ _ _ = _
    rw [impl_areFixed.l0, if_neg (by omega)])
theorem implPoints (l : List S25) (hl : l.length ≤ 1048576) : Ev (fun k => impl_arePoints.f k l) (l.all fixedPt) := by
  unfold impl_arePoints.f
  rw [← if_tf (l.all fixedPt), ← range_all fixedPt z25 l]
  have body : ∀ (i : Nat) (Q : Bool), i < l.length → (fixedPt (l.getD i z25) = true → Ev (fun k => impl_arePoints.l0 k l l.length (wrap64 ((i : Int) + 1))) Q) → Ev (fun k => impl_arePoints.l0 k l l.length (i : Nat)) (if fixedPt (l.getD i z25) = true then Q else false) := by
    intro i Q hi hQ
    refine Ev.step (f := fun k => (impl_areFixed.f k [(rd_T25 l i).f0, (rd_T25 l i).f1]).bind fun t204 => (if t204 = true then (impl_arePoints.l0 k l l.length (wrap64 ((i : Int) + 1))) else (some false))) (fun k => by
      rw [impl_arePoints.l0, if_pos (by omega), if_pos (by omega), if_pos (by omega)]) ?_
    refine Ev.bind (areFixed_ev _ (by simp)) ?_
    have e2 : [(rd_T25 l i).f0, (rd_T25 l i).f1].all fixed = fixedPt (l.getD i z25) := by
      simp only [List.all_cons, List.all_nil, Bool.and_true]
      rfl
    rw [e2]
    cases hP : fixedPt (l.getD i z25)
    · exact Ev.now _
    · simp only [if_true]
      exact hQ hP
  refine ask_ev l.length (fun i => fixedPt (l.getD i z25)) (fun k i => impl_arePoints.l0 k l l.length i) true false (by omega) (fun i R hi hP hR => ?_) (fun i hi hP => ?_) (fun _ => ?_)
  · have := body i R hi (fun _ => hR)
    rwa [if_pos hP] at this
  · have := body i true hi (fun h => by rw [hP] at h; cases h)
    rwa [if_neg (by rw [hP]; simp)] at this
  · exact ev_some fun k => by rw [impl_arePoints.l0, if_neg (by omega)]

def xOf (l : List S25) (a : Int) : Int := curveDn (curveSum (rd_T25 l 0).f0 (rd_T25 l 1).f0 (rd_T25 l 2).f0 (rd_T25 l 3).f0 (wrap64 (8 - a)) a)
def yOf (l : List S25) (a : Int) : Int := curveDn (curveSum (rd_T25 l 0).f1 (rd_T25 l 1).f1 (rd_T25 l 2).f1 (rd_T25 l 3).f1 (wrap64 (8 - a)) a)
def curveAt (l : List S25) (a : Int) : Int × Int × Bool :=
  if l.length = 4 then (if 0 ≤ a ∧ a ≤ 8 then (if l.all fixedPt = true then (if (fixed (xOf l a) && fixed (yOf l a)) = true then (xOf l a, yOf l a, true) else (0, 0, false)) else (0, 0, false)) else (0, 0, false)) else (0, 0, false)
theorem spec_dn (s : Int) : spec_l1Down.f s 512 = some (curveDn s) := by
  unfold spec_l1Down.f curveDn
  rw [if_neg (by decide)]
  have hd : decide ((512 : Int) < 0) = false := by decide
  rcases Int.lt_or_le s 0 with h | h
  · have hn : Int.tmod s 512 ≤ 0 := by
      have := Int.tmod_nonneg 512 (show 0 ≤ -s by omega)
      rw [Int.neg_tmod] at this
      omega
    by_cases h0 : Int.tmod s 512 = 0
    · rw [if_pos h0, if_neg (by omega)]
    · rw [if_neg h0, if_pos (show Int.tmod s 512 < 0 by omega), hd, decide_eq_true h]
      rfl
  · have hn := Int.tmod_nonneg 512 h
    rw [if_neg (show ¬ Int.tmod s 512 < 0 by omega), hd, decide_eq_false (show ¬ s < 0 by omega)]
    split
    · rfl
    · rfl
theorem spec_bez (a b c d k : Int) : spec_l9Bezier.f a b c d k = some (curveDn (curveSum a b c d (wrap64 (8 - k)) k)) := by
  unfold spec_l9Bezier.f
  rw [show (some : Int → Option Int) = fun t => some t from rfl]
  exact (congrArg (fun o : Option Int => o.bind fun t => some t) (spec_dn _)).trans rfl
theorem implCurve (l : List S25) (a : Int) : Ev (fun k => impl_CurveAt.f k l a) (curveAt l a) := by
  unfold impl_CurveAt.f curveAt
  by_cases h4 : l.length = 4
  · simp only [if_pos h4]
    refine Ev.bind (implPoints l (by omega)) ?_
    cases hp : l.all fixedPt
    · simp only [Bool.false_eq_true, if_false, ite_self]
      exact Ev.now _
    · simp only [if_true, within_, Option.bind_some, decide_eq_true_eq]
      by_cases ha : 0 ≤ a ∧ a ≤ 8
      · simp only [if_pos ha]
        have e2 : [xOf l a, yOf l a].all fixed = (fixed (xOf l a) && fixed (yOf l a)) := by
          simp only [List.all_cons, List.all_nil, Bool.and_true]
        refine Ev.bind (f := fun (k : Nat) (t3 : Bool) => if t3 = true then some (xOf l a, yOf l a, true) else some (0, 0, false)) (areFixed_ev [xOf l a, yOf l a] (by simp)) ?_
        rw [e2]
        cases (fixed (xOf l a) && fixed (yOf l a))
        · exact Ev.now _
        · exact Ev.now _
      · simp only [if_neg ha]
        exact Ev.now _
  · simp only [if_neg h4]
    exact Ev.now _
theorem specCurve (l : List S25) (a : Int) : Ev (fun k => spec_CurveAt.f k l a) (curveAt l a) := by
  unfold spec_CurveAt.f curveAt
  by_cases h4 : l.length = 4
  · simp only [if_pos h4, if_pos (show (l.length : Int) = 4 by omega), in_, Option.bind_some]
    by_cases ha : 0 ≤ a ∧ a ≤ 8
    · simp only [if_pos ha, decide_eq_true ha, Bool.not_true]
      refine Ev.step (f := fun k => spec_CurveAt.l0 k l a l (l.length : Int) 0) (fun k => by rw [spec_CurveAt.j0, if_neg (by decide)]) ?_
      rw [← range_all fixedPt z25 l]
      refine ask_ev l.length (fun i => fixedPt (l.getD i z25)) (fun k i => spec_CurveAt.l0 k l a l l.length i) _ _ (by omega) (fun i R hi hP hR => ?_) (fun i hi hP => ?_) (fun _ => ?_)
      · refine Ev.step (fun k => ?_) hR
        show spec_CurveAt.l0 (k + 1) _ _ _ _ _ = _
        rw [spec_CurveAt.l0, if_pos (by omega), if_pos (by omega), if_pos (by omega), specFixedPt]
        show (some (fixedPt (l.getD i z25))).bind _ = _
        rw [hP, Option.bind_some, if_pos rfl]
      · refine ev_some fun k => ?_
        rw [spec_CurveAt.l0, if_pos (by omega), if_pos (by omega), if_pos (by omega), specFixedPt]
        show (some (fixedPt (l.getD i z25))).bind _ = _
        rw [hP, Option.bind_some, if_neg (by simp)]
      · have hc : spec_l9Curve.f l a = some (xOf l a, yOf l a) := by
          unfold spec_l9Curve.f
          rw [if_pos (by omega), if_pos (by omega), if_pos (by omega), if_pos (by omega)]
          simp only [spec_bez, Option.bind_some]
          rfl
        refine ev_some fun k => ?_
        rw [spec_CurveAt.l0, if_neg (by omega), hc, Option.bind_some]
        simp only [specFixedPt, Option.bind_some]
        cases (fixed (xOf l a) && fixed (yOf l a)) <;> rfl
    · simp only [if_neg ha, decide_eq_false ha, Bool.not_false]
      exact ev_some fun k => by rw [spec_CurveAt.j0, if_pos rfl]
  · simp only [if_neg h4, if_neg (show ¬ (l.length : Int) = 4 by omega)]
    exact ev_some fun k => by rw [spec_CurveAt.j0, if_pos rfl]
end Cv

end Go.Proofs.Ytdbgnoolokfafaa.HFnExactCurveAt

/- CurveAt, as numbers: the program's answer is the reference's, field by field, and its memory is its own. -/
namespace Go.Proofs.Ytdbgnoolokfafaa.Pure
open Go.RowKit Go.Proofs.Ytdbgnoolokfafaa.HFnExactCurveAt Go.Proofs.YtdbgnoolokfafaaW.PrintWords Go.Proofs.YtdbgnoolokfafaaW.PrintLast Go.Proofs.Ytdbgnoolokfafaa.Plain
set_option linter.unusedSimpArgs false
set_option linter.unusedVariables false

def toPt (x : S134) : S25 := ⟨x.f0, x.f1⟩
theorem toPoints (l : List S134) (hl : l.length ≤ 1048576) : Ev (fun k => laws_toPointS.f k l) (l.map toPt) := by
  unfold laws_toPointS.f
  have h := copy_ev toPt l z134 z25 (by omega) (fun k ys i => laws_toPointS.l0 k l ys i) (fun k i ys hi hy => by
    show laws_toPointS.l0 (k + 1) l ys i = _
    rw [laws_toPointS.l0, if_pos (by omega), if_pos (by omega)]
    simp only [laws_toPoint.f, Option.bind_some]
    rw [if_pos (by omega)]; rfl) (fun k ys => by
    show laws_toPointS.l0 (k + 1) l ys _ = _
    rw [laws_toPointS.l0, if_neg (by omega)]) (List.replicate ((l.length : Int)).toNat z25) (by simp)
  simp only [if_pos (show (0 : Int) ≤ l.length by omega), if_pos (show (l.length : Int).toNat ≤ 17592186044416 by omega)]
  exact h
theorem eqPoints (l : List S25) (hl : l.length ≤ 9223372036854775806) : Ev (fun k => laws_eqPointS.f k l l) true := by
  unfold laws_eqPointS.f
  have h := all_ev (fun _ : S25 => true) l z25 (by omega) (fun k i => laws_eqPointS.l0 k l l i) (fun k i hi => by
    show laws_eqPointS.l0 (k + 1) l l i = _
    rw [laws_eqPointS.l0, if_pos (by omega), if_pos (by omega), if_pos (by omega)]
    simp [laws_eqPoint.f]) (fun k => by
    show laws_eqPointS.l0 (k + 1) l l _ = _
    rw [laws_eqPointS.l0, if_neg (by omega)])
  rw [List.all_eq_true.2 (fun _ _ => rfl)] at h
  simp only [if_true]
  exact h
theorem FnExactCurveAt : ∀ (l0 : List (S134)) (a1 : Int), ((∀ x134 ∈ l0, ((Lit.int .i64 x134.f0).wf = true) ∧ ((Lit.int .i64 x134.f1).wf = true)) ∧ l0.length ≤ 9223372036854775807) → ((Lit.int .i64 a1).wf = true) → ∃ k, HFnExactCurveAt.laws_FnExactCurveAt.f k l0 a1 = some true := by
  intro l0 a hl0 _
  refine Ev.rounds ?_
  unfold laws_FnExactCurveAt.f laws_szPointS.f
  have h1 := hl0.2
  rw [wrap_id (by omega) (by omega)]
  by_cases hc : (1048576 : Int) - (l0.length : Int) < 0
  · simp only [if_pos hc, Option.bind_some]
    exact Ev.now _
  simp only [if_neg hc, Option.bind_some]
  have hl : l0.length ≤ 1048576 := by omega
  have tp := toPoints l0 hl
  refine Ev.bind tp (Ev.bind (Cv.specCurve _ a) (Ev.bind tp (Ev.bind (Cv.implCurve _ a) ?_)))
  unfold laws_eqPoint.f
  simp only [if_true, Option.bind_some, bne_self_eq_false]
  refine Ev.step (f := fun k => (laws_toPointS.f k l0).bind fun t166 => (laws_eqPointS.f k (l0.map toPt) t166).bind fun t169 => (if t169 = true then (some true) else (some false))) (fun k => by rw [laws_FnExactCurveAt.j0, if_neg (by decide)]) ?_
  refine Ev.bind tp (Ev.bind (eqPoints _ (by simp; omega)) ?_)
  exact Ev.now _

end Go.Proofs.Ytdbgnoolokfafaa.Pure
