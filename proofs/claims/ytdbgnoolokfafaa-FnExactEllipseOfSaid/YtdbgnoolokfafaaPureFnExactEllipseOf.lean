/- EllipseOf, as numbers: the program's answer is the reference's, field by field, and its memory is its own. -/
import Derived.Test.YtdbgnoolokfafaaSinFnExactEllipseOf
import Derived.Test.YtdbgnoolokfafaaFixPtsFnExactEllipseOf
import Derived.Test.YtdbgnoolokfafaaEqPtsFnExactEllipseOf
import Derived.Test.YtdbgnoolokfafaaMarkPtsFnExactEllipseOf
namespace Go.Proofs.Ytdbgnoolokfafaa.Pure
open Go.RowKit Go.Proofs.Ytdbgnoolokfafaa.HFnExactEllipseOf Go.Proofs.YtdbgnoolokfafaaW.PrintWords Go.Proofs.YtdbgnoolokfafaaW.PrintLast Go.Proofs.Ytdbgnoolokfafaa.Plain
set_option linter.unusedSimpArgs false
set_option linter.unusedVariables false

def ell (cx cy rx ry : Int) : List S25 := (List.range 32).map fun k => ⟨roundX cx rx (k : Nat), roundY cy ry (k : Nat)⟩
def ellOk (cx cy rx ry : Int) : Bool := if fixed cx = true then (if fixed cy = true then (if 0 ≤ rx ∧ rx ≤ 1099511627776 then decide (0 ≤ ry ∧ ry ≤ 1099511627776) else false) else false) else false
def ellipseOf (cx cy rx ry : Int) : List S25 × Bool × Bool := if ellOk cx cy rx ry = true then (if (ell cx cy rx ry).all fixedPt = true then (ell cx cy rx ry, true, true) else ([], false, false)) else ([], false, false)
theorem ok_of {cx cy rx ry : Int} (h : ellOk cx cy rx ry = true) : fixed cx = true ∧ fixed cy = true ∧ (0 ≤ rx ∧ rx ≤ 1099511627776) ∧ 0 ≤ ry ∧ ry ≤ 1099511627776 := by
  unfold ellOk at h
  split at h
  · rename_i h1
    split at h
    · rename_i h2
      split at h
      · rename_i h3
        exact ⟨h1, h2, h3, of_decide_eq_true h⟩
      · cases h
    · cases h
  · cases h
theorem fixed_bd {x : Int} (h : fixed x = true) : -1099511627776 ≤ x ∧ x ≤ 1099511627776 := of_decide_eq_true h
theorem grow32 {ρ : Type} (cx cy rx ry : Int) (R : ρ) (g : Nat → Int → List S25 → Option ρ)
    (h : ∀ (i : Nat) s, i < 32 → s.length = i → Ev (fun k => g k (wrap64 ((i : Int) + 1)) (s ++ [⟨roundX cx rx (i : Nat), roundY cy ry (i : Nat)⟩])) R → Ev (fun k => g k (i : Nat) s) R)
    (hx : Ev (fun k => g k (32 : Nat) (ell cx cy rx ry)) R) : Ev (fun k => g k 0 []) R := by
  refine for_ev 32 (fun i s => s ++ [⟨roundX cx rx (i : Nat), roundY cy ry (i : Nat)⟩]) (fun i s => s.length = i) g R [] (by omega) (fun i s hi hI hn => h i s hi hI hn) (fun i s hi hI => by simp [hI]) rfl (fun _ => ?_)
  rw [forTo_map (fun i => (⟨roundX cx rx (i : Nat), roundY cy ry (i : Nat)⟩ : S25))]
  exact hx
theorem one_good (l : List S25) (b : Bool) (hl : l.length ≤ 600) : goodLines [⟨l, b⟩] = l.all fixedPt := by
  unfold goodLines allFixed
  have e : ((List.range [(⟨l, b⟩ : S83)].length).all fun i => (List.range (pts [(⟨l, b⟩ : S83)] i)).all fun j => fixedPt (ptAt [(⟨l, b⟩ : S83)] i j)) = l.all fixedPt := by
    rw [← range_all fixedPt z25 l]
    show ((List.range 1).all fun i => (List.range (pts [(⟨l, b⟩ : S83)] i)).all fun j => fixedPt (ptAt [(⟨l, b⟩ : S83)] i j)) = _
    simp [List.range_succ, pts, ptAt]
  rw [e]
  have e2 : sumTo (pts [(⟨l, b⟩ : S83)]) [(⟨l, b⟩ : S83)].length = l.length := by simp [sumTo, pts]
  rw [e2, decide_eq_true hl]
  cases l.all fixedPt <;> rfl
theorem specEllipseOf (cx cy rx ry : Int) : Ev (fun k => spec_EllipseOf.f k cx cy rx ry) (ellipseOf cx cy rx ry) := by
  have none_ : Ev (fun k => spec_EllipseOf.j0 k cx cy rx ry true) ([], false, false) := ev_some fun k => by rw [spec_EllipseOf.j0, if_pos rfl]
  have some_ : ellOk cx cy rx ry = true → Ev (fun k => spec_EllipseOf.j0 k cx cy rx ry false) (ellipseOf cx cy rx ry) := by
    intro hok
    obtain ⟨h1, h2, h3, h4⟩ := ok_of hok
    have b1 := fixed_bd h1
    have b2 := fixed_bd h2
    refine Ev.step (f := fun k => spec_EllipseOf.l0 k cx cy rx ry 0 [] true) (fun k => by rw [spec_EllipseOf.j0, if_neg (by simp)]) ?_
    refine grow32 cx cy rx ry _ (fun k i s => spec_EllipseOf.l0 k cx cy rx ry i s true) (fun i s hi hs hn => ?_) ?_
    · refine Ev.step (f := fun k => (spec_l9Round.f k cx cy rx ry i).bind fun bt168 => (if s.length < 8796093022208 then (spec_EllipseOf.l0 k cx cy rx ry (wrap64 ((i : Int) + 1)) (s ++ [(⟨bt168.1, bt168.2⟩ : S25)]) true) else (none))) (fun k => by
        rw [spec_EllipseOf.l0, if_pos (by omega)]) ?_
      refine Ev.bind (specRound cx cy rx ry i (by omega) (by omega) (by omega) (by omega) (by omega) (by omega)) ?_
      simp only [if_pos (show s.length < 8796093022208 by omega)]
      exact hn
    · have hlen : (ell cx cy rx ry).length = 32 := by simp [ell]
      unfold ellipseOf
      rw [if_pos hok]
      generalize ell cx cy rx ry = l at hlen ⊢
      refine Ev.step (f := fun k => (spec_l9Good.f k (([(⟨l, true⟩ : S83)] : List (S83)))).bind fun t176 => (if t176 = true then (some (l, true, true)) else (some (([] : List (S25)), false, false)))) (fun k => by
        rw [spec_EllipseOf.l0, if_neg (by omega)]) ?_
      refine Ev.bind (specGoodLines _ (by simp) (by simp [sumTo, pts]; omega)) ?_
      rw [one_good l true (by omega)]
      cases l.all fixedPt
      · exact Ev.now _
      · exact Ev.now _
  unfold spec_EllipseOf.f
  simp only [specGoodFixed, in_, Option.bind_some, decide_eq_true_eq]
  cases h1 : fixed cx
  · simp only [Bool.false_eq_true, if_false, ellipseOf, ellOk, h1]; exact none_
  cases h2 : fixed cy
  · simp only [Bool.false_eq_true, if_false, if_true, ellipseOf, ellOk, h1, h2]; exact none_
  simp only [if_true]
  by_cases h3 : 0 ≤ rx ∧ rx ≤ 1099511627776
  · by_cases h4 : 0 ≤ ry ∧ ry ≤ 1099511627776
    · simp only [if_pos h3, decide_eq_true h4, Bool.not_true]
      exact some_ (by unfold ellOk; rw [h1, h2, if_pos rfl, if_pos rfl, if_pos h3, decide_eq_true h4])
    · simp only [if_pos h3, decide_eq_false h4, Bool.not_false]
      have : ellOk cx cy rx ry = false := by unfold ellOk; rw [h1, h2, if_pos rfl, if_pos rfl, if_pos h3, decide_eq_false h4]
      unfold ellipseOf
      rw [this]
      exact none_
  · simp only [if_neg h3]
    have : ellOk cx cy rx ry = false := by unfold ellOk; rw [h1, h2, if_pos rfl, if_pos rfl, if_neg h3]
    unfold ellipseOf
    rw [this]
    exact none_
theorem implEllipseOf (cx cy rx ry : Int) : Ev (fun k => impl_EllipseOf.f k cx cy rx ry) (ellipseOf cx cy rx ry) := by
  have none_ : Ev (fun k => impl_EllipseOf.j0 k cx cy rx ry true) ([], false, false) := ev_some fun k => by rw [impl_EllipseOf.j0, if_pos rfl]
  have some_ : ellOk cx cy rx ry = true → Ev (fun k => impl_EllipseOf.j0 k cx cy rx ry false) (ellipseOf cx cy rx ry) := by
    intro hok
    obtain ⟨h1, h2, h3, h4⟩ := ok_of hok
    have b1 := fixed_bd h1
    have b2 := fixed_bd h2
    refine Ev.step (f := fun k => impl_EllipseOf.l0 k cx cy rx ry [] 0) (fun k => by rw [impl_EllipseOf.j0, if_neg (by simp)]) ?_
    refine grow32 cx cy rx ry _ (fun k i s => impl_EllipseOf.l0 k cx cy rx ry s i) (fun i s hi hs hn => ?_) ?_
    · refine Ev.step (f := fun k => (impl_onCircle.f k cx cy rx ry i).bind fun bt215 => (if s.length < 8796093022208 then (impl_EllipseOf.l0 k cx cy rx ry (s ++ [(⟨bt215.1, bt215.2⟩ : S25)]) (wrap64 ((i : Int) + 1))) else (none))) (fun k => by
        rw [impl_EllipseOf.l0, if_pos (by omega)]) ?_
      refine Ev.bind (implRound cx cy rx ry i (by omega) (by omega) (by omega) (by omega) (by omega) (by omega)) ?_
      simp only [if_pos (show s.length < 8796093022208 by omega)]
      exact hn
    · have hlen : (ell cx cy rx ry).length = 32 := by simp [ell]
      unfold ellipseOf
      rw [if_pos hok]
      generalize ell cx cy rx ry = l at hlen ⊢
      refine Ev.step (f := fun k => (impl_closedOf.f k l).bind fun bt220 => (some (bt220.1, bt220.2.1, bt220.2.2))) (fun k => by
        rw [impl_EllipseOf.l0, if_neg (by omega)]) ?_
      refine Ev.bind (a := if l.all fixedPt = true then (l, true, true) else ([], false, false)) ?_ (Ev.now _)
      unfold impl_closedOf.f
      refine Ev.bind (implPoints l (by omega)) ?_
      cases l.all fixedPt
      · exact Ev.now _
      · exact Ev.now _
  unfold impl_EllipseOf.f
  refine Ev.bind (areFixed_ev _ (by simp)) ?_
  have e : [cx, cy, rx, ry].all fixed = (fixed cx && (fixed cy && (fixed rx && fixed ry))) := by simp
  rw [e]
  cases h1 : fixed cx
  · simp only [Bool.false_and, Bool.false_eq_true, if_false, ellipseOf, ellOk, h1]; exact none_
  cases h2 : fixed cy
  · simp only [Bool.false_and, Bool.true_and, Bool.false_eq_true, if_false, if_true, ellipseOf, ellOk, h1, h2]; exact none_
  simp only [Bool.true_and]
  by_cases h3 : 0 ≤ rx ∧ rx ≤ 1099511627776
  · have f3 : fixed rx = true := decide_eq_true (by omega)
    by_cases h4 : 0 ≤ ry ∧ ry ≤ 1099511627776
    · have f4 : fixed ry = true := decide_eq_true (by omega)
      simp only [f3, f4, Bool.and_true, if_true, if_neg (show ¬ rx < 0 by omega), decide_eq_false (show ¬ ry < 0 by omega)]
      exact some_ (by unfold ellOk; rw [h1, h2, if_pos rfl, if_pos rfl, if_pos h3, decide_eq_true h4])
    · have : ellOk cx cy rx ry = false := by unfold ellOk; rw [h1, h2, if_pos rfl, if_pos rfl, if_pos h3, decide_eq_false h4]
      unfold ellipseOf
      rw [this, f3]
      cases f4 : fixed ry
      · exact none_
      · have b4 := fixed_bd f4
        simp only [Bool.and_true, if_true, if_neg (show ¬ rx < 0 by omega), decide_eq_true (show ry < 0 by omega)]
        exact none_
  · have : ellOk cx cy rx ry = false := by unfold ellOk; rw [h1, h2, if_pos rfl, if_pos rfl, if_neg h3]
    unfold ellipseOf
    rw [this]
    cases f3 : fixed rx
    · exact none_
    · have b3 := fixed_bd f3
      cases f4 : fixed ry
      · exact none_
      · simp only [Bool.and_true, if_true, if_pos (show rx < 0 by omega)]
        exact none_
theorem ell_len (cx cy rx ry : Int) : (ellipseOf cx cy rx ry).1.length ≤ 32 := by
  unfold ellipseOf
  repeat' split
  all_goals simp [ell]
theorem markLine_ (l : List S25) (b : Bool) (m : Nat) (hl : l.length ≤ 4194304) (hm : m ≤ 41943040) : Ev (fun k => laws_markLine.f k l b m) (((m + 2 * l.length : Nat) : Int), over (ptMark m) l l.length) := by
  unfold laws_markLine.f
  exact Ev.bind (f := fun _ t => some (t.1, t.2)) (markPts l m hl hm) (Ev.now _)
theorem heldLine_ (l : List S25) (b : Bool) (m : Nat) (hl : l.length ≤ 4194304) (hm : m ≤ 41943040) : Ev (fun k => laws_heldLine.f k (over (ptMark m) l l.length) b m) ((m + 2 * l.length : Nat) : Int) := by
  unfold laws_heldLine.f
  refine Ev.bind (f := fun _ t => if t < 0 then some (-1) else some t) (heldPts l m hl hm) ?_
  simp only [if_neg (show ¬ ((m + 2 * l.length : Nat) : Int) < 0 by omega)]
  exact Ev.now _
theorem FnExactEllipseOf : laws_FnExactEllipseOf.Pure := by
  intro cx cy rx ry _ _ _ _
  refine Ev.rounds ?_
  unfold laws_FnExactEllipseOf.f
  obtain ⟨r, b, o, hR⟩ : ∃ r b o, ellipseOf cx cy rx ry = (r, b, o) := ⟨_, _, _, rfl⟩
  have hr : r.length ≤ 32 := by have := ell_len cx cy rx ry; rw [hR] at this; exact this
  have hs := specEllipseOf cx cy rx ry
  have hi := implEllipseOf cx cy rx ry
  rw [hR] at hs hi
  refine Ev.bind hs (Ev.bind hi (Ev.bind (eqLine r b (by omega)) ?_))
  simp only [if_true, bne_self_eq_false]
  have hj1 : Ev (fun k => laws_FnExactEllipseOf.j1 k ((1 + 2 * r.length : Nat) : Int) false (over (ptMark 1) r r.length) b) true := by
    refine Ev.step (f := fun k => (laws_heldLine.f k (over (ptMark 1) r r.length) b 1).bind fun t247 => (if t247 < 0 then (some false) else (if t247 = ((1 + 2 * r.length : Nat) : Int) then (some true) else (some false)))) (fun k => by rw [laws_FnExactEllipseOf.j1, if_neg (by simp)]) ?_
    refine Ev.bind (heldLine_ r b 1 (by omega) (by omega)) ?_
    simp only [if_neg (show ¬ ((1 + 2 * r.length : Nat) : Int) < 0 by omega), if_true]
    exact Ev.now _
  apply Ev.step
  · intro k
    rw [laws_FnExactEllipseOf.j0, if_neg (by simp)]
  refine Ev.bind (markLine_ r b 1 (by omega) (by omega)) (Ev.bind (heldLine_ r b 1 (by omega) (by omega)) ?_)
  simp only [if_neg (show ¬ ((1 + 2 * r.length : Nat) : Int) < 0 by omega), if_true]
  refine Ev.bind hi (Ev.bind (eqLine r b (by omega)) ?_)
  simp only [if_true, bne_self_eq_false]
  exact hj1

end Go.Proofs.Ytdbgnoolokfafaa.Pure
