/- Points that are fixed, lines that are good, by both sides. -/
import Derived.Test.YtdbgnoolokfafaaDownFnExactEllipseOf
import Derived.Test.YtdbgnoolokfafaaPtsFnExactEllipseOf
import Derived.Test.YtdbgnoolokfafaaFor
namespace Go.Proofs.Ytdbgnoolokfafaa.HFnExactEllipseOf
open Go.RowKit Go.Proofs.YtdbgnoolokfafaaW.PrintWords Go.Proofs.YtdbgnoolokfafaaW.PrintLast Go.Proofs.Ytdbgnoolokfafaa.Plain
set_option linter.unusedSimpArgs false
set_option linter.unusedVariables false

def fixedPt (p : S25) : Bool := fixed p.f0 && fixed p.f1
theorem specGoodFixed (x : Int) : spec_GoodFixed.f x = some (fixed x) := by
  unfold spec_GoodFixed.f
  simp only [in_, Option.bind_some]
  rfl
theorem specFixedPt (x y : Int) : spec_l9Point.f x y = some (fixed x && fixed y) := by
  unfold spec_l9Point.f
  simp only [specGoodFixed, Option.bind_some]
  cases fixed x <;> simp
theorem many_ev (l : List S83) (hl : l.length ≤ 1048576) (hs : sumTo (pts l) l.length ≤ 1048576) : Ev (fun k => spec_l9Many.f k l) (sumTo (pts l) l.length : Nat) := by
  have key : ∀ i, i ≤ l.length → Ev (fun k => spec_l9Many.l0 k (sumTo (pts l) i : Nat) l l.length (i : Nat)) ((sumTo (pts l) l.length : Nat) : Int) := by
    refine up (p := fun i => Ev (fun k => spec_l9Many.l0 k (sumTo (pts l) i : Nat) l l.length (i : Nat)) ((sumTo (pts l) l.length : Nat) : Int)) l.length ?_ ?_
    · exact ev_some fun k => by rw [spec_l9Many.l0, if_neg (by omega)]
    · intro i hi ih
      have hb := sumTo_le (pts l) (show i + 1 ≤ l.length from hi)
      have hc : sumTo (pts l) (i + 1) = sumTo (pts l) i + pts l i := rfl
      refine Ev.step (f := fun k => spec_l9Many.l0 k (sumTo (pts l) (i + 1) : Nat) l l.length ((i + 1 : Nat) : Int)) (fun k => ?_) ih
      rw [spec_l9Many.l0, if_pos (by omega), if_pos (by omega), if_pos (by omega)]
      show spec_l9Many.l0 k (wrap64 (((sumTo (pts l) i : Nat) : Int) + ((pts l i : Nat) : Int))) _ _ _ = _
      rw [wrap_id (by omega) (by omega), wrap_id (n := (i : Int) + 1) (by omega) (by omega), hc]
      rfl
  exact key 0 (Nat.zero_le _)
def ptAt (l : List S83) (i j : Nat) : S25 := (l.getD i z83).f0.getD j z25
def allFixed (l : List S83) : Bool := (List.range l.length).all fun i => (List.range (pts l i)).all fun j => fixedPt (ptAt l i j)
def goodLines (l : List S83) : Bool := if allFixed l = true then decide (sumTo (pts l) l.length ≤ 600) else false
theorem lt_pts' {l : List S83} {i j : Nat} (h : j < pts l i) : (j : Int) < ((rd_T83 l (i : Int)).f0.length : Int) := Int.ofNat_lt.2 h
theorem specGoodLines (l : List S83) (hl : l.length ≤ 1048576) (hs : sumTo (pts l) l.length ≤ 1048576) : Ev (fun k => spec_l9Good.f k l) (goodLines l) := by
  unfold spec_l9Good.f
  have inner : ∀ (i : Nat) (Q : Bool), i < l.length → (((List.range (pts l i)).all fun j => fixedPt (ptAt l i j)) = true → Ev (fun k => spec_l9Good.l0 k l l l.length (wrap64 ((i : Int) + 1))) Q) → Ev (fun k => spec_l9Good.l0 k l l l.length (i : Nat)) (if ((List.range (pts l i)).all fun j => fixedPt (ptAt l i j)) = true then Q else false) := by
    intro i Q hi hQ
    have hb := le_sum (pts l) hi
    refine Ev.step (f := fun k => spec_l9Good.l1 k l l l.length (i : Int) ((rd_T83 l i).f0) ((pts l i : Nat) : Int) 0) (fun k => by
      rw [spec_l9Good.l0, if_pos (by omega), if_pos (by omega), if_pos (by omega)]; rfl) ?_
    refine ask_ev (pts l i) (fun j => fixedPt (ptAt l i j)) (fun k j => spec_l9Good.l1 k l l l.length (i : Int) ((rd_T83 l i).f0) ((pts l i : Nat) : Int) j) Q false (by omega) (fun j R hj hP hR => ?_) (fun j hj hP => ?_) (fun hall => ?_)
    · refine Ev.step (fun k => ?_) hR
      show spec_l9Good.l1 (k + 1) _ _ _ _ _ _ _ = _
      rw [spec_l9Good.l1, if_pos (by omega), if_pos (by omega), if_pos (lt_pts' hj), specFixedPt]
      show (some (fixedPt (ptAt l i j))).bind _ = _
      rw [hP, Option.bind_some, if_pos rfl]
    · refine ev_some fun k => ?_
      rw [spec_l9Good.l1, if_pos (by omega), if_pos (by omega), if_pos (lt_pts' hj), specFixedPt]
      show (some (fixedPt (ptAt l i j))).bind _ = _
      rw [hP, Option.bind_some, if_neg (by simp)]
    · refine Ev.step (fun k => ?_) (hQ (by rw [List.all_eq_true]; exact fun j hj => hall j (List.mem_range.1 hj)))
      show spec_l9Good.l1 (k + 1) _ _ _ _ _ _ _ = _
      rw [spec_l9Good.l1, if_neg (by omega)]
  refine ask_ev l.length (fun i => (List.range (pts l i)).all fun j => fixedPt (ptAt l i j)) (fun k i => spec_l9Good.l0 k l l l.length i) (decide (sumTo (pts l) l.length ≤ 600)) false (by omega) (fun i R hi hP hR => ?_) (fun i hi hP => ?_) (fun _ => ?_)
  · have := inner i R hi (fun _ => hR)
    rwa [if_pos hP] at this
  · have := inner i true hi (fun h => by rw [hP] at h; cases h)
    rwa [if_neg (by rw [hP]; simp)] at this
  · refine Ev.step (f := fun k => (spec_l9Many.f k l).bind fun t156 => some (decide (t156 ≤ 600))) (fun k => by rw [spec_l9Good.l0, if_neg (by omega)]) ?_
    refine Ev.bind (many_ev l hl hs) ?_
    rw [show decide (((sumTo (pts l) l.length : Nat) : Int) ≤ 600) = decide (sumTo (pts l) l.length ≤ 600) from decide_eq_decide.2 (by omega)]
    exact Ev.now _
theorem implPoints (l : List S25) (hl : l.length ≤ 1048576) : Ev (fun k => impl_arePoints.f k l) (l.all fixedPt) := by
  unfold impl_arePoints.f
  rw [← if_tf (l.all fixedPt), ← range_all fixedPt z25 l]
  have body : ∀ (i : Nat) (Q : Bool), i < l.length → (fixedPt (l.getD i z25) = true → Ev (fun k => impl_arePoints.l0 k l l.length (wrap64 ((i : Int) + 1))) Q) → Ev (fun k => impl_arePoints.l0 k l l.length (i : Nat)) (if fixedPt (l.getD i z25) = true then Q else false) := by
    intro i Q hi hQ
    refine Ev.step (f := fun k => (impl_areFixed.f k [(rd_T25 l i).f0, (rd_T25 l i).f1]).bind fun t204 => (if t204 = true then (impl_arePoints.l0 k l l.length (wrap64 ((i : Int) + 1))) else (some false))) (fun k => by
      rw [impl_arePoints.l0, if_pos (by omega), if_pos (by omega), if_pos (by omega)]) ?_
    refine Ev.bind (areFixed_ev _ (by simp)) ?_
    have e2 : [(rd_T25 l i).f0, (rd_T25 l i).f1].all fixed = fixedPt (l.getD i z25) := by
      simp only [List.all_cons, List.all_nil, Bool.and_true]
      rfl
    rw [e2]
    cases hP : fixedPt (l.getD i z25)
    · exact Ev.now _
    · simp only [if_true]
      exact hQ hP
  refine ask_ev l.length (fun i => fixedPt (l.getD i z25)) (fun k i => impl_arePoints.l0 k l l.length i) true false (by omega) (fun i R hi hP hR => ?_) (fun i hi hP => ?_) (fun _ => ?_)
  · have := body i R hi (fun _ => hR)
    rwa [if_pos hP] at this
  · have := body i true hi (fun h => by rw [hP] at h; cases h)
    rwa [if_neg (by rw [hP]; simp)] at this
  · exact ev_some fun k => by rw [impl_arePoints.l0, if_neg (by omega)]

end Go.Proofs.Ytdbgnoolokfafaa.HFnExactEllipseOf
