/- Points, lines and numbers: copied, compared, marked, held. -/
import Derived.Test.YtigkodlbjimikaaVeFnExactDashed
import Derived.Test.YtigkodlbjimikaaVpA
namespace Go.Proofs.Ytigkodlbjimikaa.VFnExactDashed
open Go Go.RowKit Go.Proofs.Ytigkodlbjimikaa.Vc Go.Proofs.Ytigkodlbjimikaa.Vp
set_option linter.unusedVariables false
set_option linter.unusedSimpArgs false
abbrev Pt := Int × Int
abbrev Ln := List Pt × Bool

/-! ### copied -/
theorem toPoint_ev (p : Pt) : Ev (fun k => laws_toPoint.f k p) (((p.1, (p.2, ())), ()), ((), ())) := .step (fun k => laws_toPoint.eq k p) (.now _)
theorem toPointS_ev (a : List Pt) (h : a.length ≤ 1048576) : Ev (fun k => laws_toPointS.f k a) ((a, ()), ((), ())) := by
  refine .step (fun k => laws_toPointS.eq k a) (.tt (len_t (by rw [llen_]; omega) (by rw [llen_]; omega)) ?_)
  rw [llen_, lrep_nat]
  obtain ⟨h1, h2, h3⟩ := loop_ev (fun k i s => laws_toPointS.l3 k a i s) a.length (fun i s => s.set i (a.getD i (0, 0))) (fun i s => s.length = a.length ∧ s.take i = a.take i) (fun s => ((s, ()), ((), ())))
    (fun i s hi ⟨hl, ht⟩ => ⟨by simpa using hl, by rw [set_take (by omega), ht, List.take_add_one, List.getD_eq_getElem?_getD, List.getElem?_eq_getElem hi]; rfl⟩)
    (fun i s r hi ⟨hl, ht⟩ hr => by
      refine .step (fun k => laws_toPointS.l3_eq k _ _ _) (.tt (ilt_t (by rw [llen_]; omega)) (.tt (in_t (by omega) (by rw [llen_]; omega)) (.bind (toPoint_ev _) (.tt (in_t (by omega) (by rw [llen_]; omega)) ?_))))
      rw [iadd_, wr_id (by omega) (by omega), lset_nat, lget_nat]
      exact hr)
    (fun s ⟨hl, ht⟩ => .step (fun k => laws_toPointS.l3_eq k _ _ _) (.ff (ilt_f (by rw [llen_]; omega)) (.now _))) (List.replicate a.length (0, 0)) ⟨by simp, rfl⟩
  rw [List.take_length, List.take_of_length_le (by omega)] at h3
  rw [h3] at h1
  exact h1
theorem toLine_ev (a : Ln) (h : a.1.length ≤ 1048576) : Ev (fun k => laws_toLine.f k a) (((a.1, (a.2, ())), ()), ((), ())) :=
  .step (fun k => laws_toLine.eq k a) (.bind (toPointS_ev a.1 h) (.now _))
theorem toIntS_ev (a : List Int) (h : a.length ≤ 1048576) : Ev (fun k => laws_toIntS.f k a) ((a, ()), ((), ())) := by
  refine .step (fun k => laws_toIntS.eq k a) (.tt (len_t (by rw [llen_]; omega) (by rw [llen_]; omega)) ?_)
  rw [llen_, lrep_nat]
  obtain ⟨h1, h2, h3⟩ := loop_ev (fun k i s => laws_toIntS.l3 k a i s) a.length (fun i s => s.set i (a.getD i 0)) (fun i s => s.length = a.length ∧ s.take i = a.take i) (fun s => ((s, ()), ((), ())))
    (fun i s hi ⟨hl, ht⟩ => ⟨by simpa using hl, by rw [set_take (by omega), ht, List.take_add_one, List.getD_eq_getElem?_getD, List.getElem?_eq_getElem hi]; rfl⟩)
    (fun i s r hi ⟨hl, ht⟩ hr => by
      refine .step (fun k => laws_toIntS.l3_eq k _ _ _) (.tt (ilt_t (by rw [llen_]; omega)) (.tt (in_t (by omega) (by rw [llen_]; omega)) (.tt (in_t (by omega) (by rw [llen_]; omega)) ?_)))
      rw [iadd_, wr_id (by omega) (by omega), lset_nat, lget_nat]
      exact hr)
    (fun s ⟨hl, ht⟩ => .step (fun k => laws_toIntS.l3_eq k _ _ _) (.ff (ilt_f (by rw [llen_]; omega)) (.now _))) (List.replicate a.length 0) ⟨by simp, rfl⟩
  rw [List.take_length, List.take_of_length_le (by omega)] at h3
  rw [h3] at h1
  exact h1
/-! ### counted -/
theorem szLine_ev (a : Ln) (h : a.1.length ≤ 9223372036854775807) : Ev (fun k => laws_szLine.f k a 1048576) ((if 1048576 < (a.1.length : Int) then -1 else 1048576 - a.1.length, ()), ((), ((), ()))) := by
  refine .step (fun k => laws_szLine.eq k a _) ?_
  have e : wr .i64 (isub 1048576 (llen a.1)) = 1048576 - a.1.length := by rw [isub_, llen_, wr_id (by omega) (by omega)]
  have h0 : Ev (fun k => laws_szPointS.f k a.1 1048576) ((if 1048576 < (a.1.length : Int) then -1 else 1048576 - a.1.length, ()), ((), ((), ()))) := by
    refine .step (fun k => laws_szPointS.eq k _ _) ?_
    rw [e]
    by_cases hc : 1048576 < (a.1.length : Int)
    · rw [if_pos hc]; exact .tt (ilt_t (by omega)) (.now _)
    · rw [if_neg hc]; exact .ff (ilt_f (by omega)) (.now _)
  refine .bind h0 ?_
  by_cases hc : 1048576 < (a.1.length : Int)
  · rw [if_pos hc]; exact .tt (ilt_t (by decide)) (.now _)
  · rw [if_neg hc]; exact .ff (ilt_f (by simp only []; omega)) (.now _)

/-! ### compared with themselves -/
theorem eqPoint_ev (p : Pt) : Ev (fun k => laws_eqPoint.f k p p) ((true, ()), ((), ((), ()))) :=
  .step (fun k => laws_eqPoint.eq k p p) (.ff (not_f (ieq_t rfl)) (.ff (not_f (ieq_t rfl)) (.now _)))
theorem eqPointS_ev (a : List Pt) (h : a.length ≤ 1048576) : Ev (fun k => laws_eqPointS.f k a a) ((true, ()), ((), ((), ()))) := by
  refine .step (fun k => laws_eqPointS.eq k a a) (.ff (not_f (ieq_t rfl)) ?_)
  exact (loop_ev (fun k i (s : Unit) => laws_eqPointS.l4 k a a i) a.length (fun _ s => s) (fun _ _ => True) (fun _ => ((true, ()), ((), ((), ())))) (fun _ _ _ _ => trivial)
    (fun i s r hi _ hr => by
      refine .step (fun k => laws_eqPointS.l4_eq k _ _ _) (.tt (ilt_t (by rw [llen_]; omega)) (.tt (in_t (by omega) (by rw [llen_]; omega)) (.tt (in_t (by omega) (by rw [llen_]; omega)) (.bind (eqPoint_ev _) (.ff rfl ?_)))))
      rw [iadd_, wr_id (by omega) (by omega)]
      exact hr)
    (fun s _ => .step (fun k => laws_eqPointS.l4_eq k _ _ _) (.ff (ilt_f (by rw [llen_]; omega)) (.now _))) () trivial).1
theorem eqLine_ev (a : Ln) (h : a.1.length ≤ 1048576) : Ev (fun k => laws_eqLine.f k a a) ((true, ()), ((), ((), ()))) :=
  .step (fun k => laws_eqLine.eq k a a) (.bind (eqPointS_ev a.1 h) (.ff rfl (.ff (not_f (by cases a.2 <;> rfl)) (.now _))))
theorem eqLineS_ev (a : List Ln) (h : a.length ≤ 1048576) (hp : ∀ x ∈ a, x.1.length ≤ 1048576) : Ev (fun k => laws_eqLineS.f k a a) ((true, ()), ((), ((), ()))) := by
  refine .step (fun k => laws_eqLineS.eq k a a) (.ff (not_f (ieq_t rfl)) ?_)
  exact (loop_ev (fun k i (s : Unit) => laws_eqLineS.l4 k a a i) a.length (fun _ s => s) (fun _ _ => True) (fun _ => ((true, ()), ((), ((), ())))) (fun _ _ _ _ => trivial)
    (fun i s r hi _ hr => by
      refine .step (fun k => laws_eqLineS.l4_eq k _ _ _) (.tt (ilt_t (by rw [llen_]; omega)) (.tt (in_t (by omega) (by rw [llen_]; omega)) (.tt (in_t (by omega) (by rw [llen_]; omega)) ?_)))
      rw [lget_lt _ i hi, iadd_, wr_id (by omega) (by omega)]
      exact .bind (eqLine_ev _ (hp _ (List.getElem_mem hi))) (.ff rfl hr))
    (fun s _ => .step (fun k => laws_eqLineS.l4_eq k _ _ _) (.ff (ilt_f (by rw [llen_]; omega)) (.now _))) () trivial).1
theorem eqIntS_ev (a : List Int) (h : a.length ≤ 1048576) : Ev (fun k => laws_eqIntS.f k a a) ((true, ()), ((), ((), ()))) := by
  refine .step (fun k => laws_eqIntS.eq k a a) (.ff (not_f (ieq_t rfl)) ?_)
  exact (loop_ev (fun k i (s : Unit) => laws_eqIntS.l4 k a a i) a.length (fun _ s => s) (fun _ _ => True) (fun _ => ((true, ()), ((), ((), ())))) (fun _ _ _ _ => trivial)
    (fun i s r hi _ hr => by
      refine .step (fun k => laws_eqIntS.l4_eq k _ _ _) (.tt (ilt_t (by rw [llen_]; omega)) (.tt (in_t (by omega) (by rw [llen_]; omega)) (.tt (in_t (by omega) (by rw [llen_]; omega)) (.ff (not_f (ieq_t rfl)) ?_))))
      rw [iadd_, wr_id (by omega) (by omega)]
      exact hr)
    (fun s _ => .step (fun k => laws_eqIntS.l4_eq k _ _ _) (.ff (ilt_f (by rw [llen_]; omega)) (.now _))) () trivial).1

/-! ### marked, held -/
/-- Points marked from a number on. -/
def mkPts (k : Int) : List Pt → List Pt
  | [] => []
  | _ :: l => (k, k + 1) :: mkPts (k + 2) l
theorem mkPts_length : ∀ (l : List Pt) (k : Int), (mkPts k l).length = l.length
  | [], k => rfl
  | _ :: l, k => by simp only [mkPts, List.length_cons, mkPts_length l]
theorem mkPts_at : ∀ (l : List Pt) (k : Int) (i : Nat), i < l.length → (mkPts k l)[i]? = some (k + 2 * i, k + 2 * i + 1)
  | [], k, i, h => by simp at h
  | _ :: l, k, 0, h => by simp [mkPts]
  | _ :: l, k, i + 1, h => by
    simp only [mkPts, List.getElem?_cons_succ]
    rw [mkPts_at l (k + 2) i (by simpa using h)]
    simp only [Option.some.injEq, Prod.mk.injEq]
    omega
theorem markPointS_ev (a : List Pt) (m : Int) (h : a.length ≤ 1048576) (h0 : 0 ≤ m) (h1 : m ≤ 1000000000000) : Ev (fun k => laws_markPointS.f k a m) ((m + 2 * a.length, ()), (mkPts m a, ((), ()))) := by
  refine .step (fun k => laws_markPointS.eq k a m) ?_
  obtain ⟨k1, k2, k3⟩ := loop_ev (fun k i (s : Int × List Pt) => laws_markPointS.l2 k s.1 i s.2) a.length (fun i s => (m + 2 * (i + 1 : Nat), s.2.set i (m + 2 * i, m + 2 * i + 1))) (fun i s => s.1 = m + 2 * i ∧ s.2.length = a.length ∧ s.2.take i = (mkPts m a).take i) (fun s => ((s.1, ()), (s.2, ((), ()))))
    (fun i s hi ⟨hm, hl, ht⟩ => ⟨rfl, by simpa using hl, by simp only []; rw [set_take (by omega), ht, List.take_add_one, mkPts_at a m i hi]; rfl⟩)
    (fun i s r hi ⟨hm, hl, ht⟩ hr => by
      refine .step (fun k => laws_markPointS.l2_eq k _ _ _) (.tt (ilt_t (by rw [llen_]; omega)) (.tt (in_t (by omega) (by rw [llen_]; omega)) (.tt (in_t (by omega) (by rw [llen_, lset_nat, List.length_set]; omega)) ?_)))
      have hi2 : i < s.2.length := by omega
      rw [lset_nat, lget_nat, lset_nat, lget_nat]
      rw [iadd_ s.1, wr_id (x := s.1 + 1) (by omega) (by omega), iadd_, iadd_, wr_id (by omega) (by omega), wr_id (by omega) (by omega)]
      simp only [show ((Ty.pair (.int .i64) (.int .i64)).dflt : Pt) = (0, 0) from rfl]
      rw [show (s.2.set i (s.1, (s.2.getD i (0, 0)).2)).getD i (0, 0) = (s.1, (s.2.getD i (0, 0)).2) by simp [List.getD, hi2], List.set_set]
      rw [show s.1 + 1 + 1 = m + 2 * ((i + 1 : Nat) : Int) by omega, show s.1 + 1 = m + 2 * (i : Int) + 1 by omega, hm]
      exact hr)
    (fun s ⟨hm, hl, ht⟩ => .step (fun k => laws_markPointS.l2_eq k _ _ _) (.ff (ilt_f (by rw [llen_]; omega)) (.now _))) (m, a) ⟨by omega, rfl, rfl⟩
  obtain ⟨k3, k4⟩ := k3
  rw [List.take_of_length_le (by omega), List.take_of_length_le (by rw [mkPts_length]; omega)] at k4
  rw [k2, k4] at k1
  exact k1
theorem markLine_ev (a : List Pt) (b : Bool) (m : Int) (h : a.length ≤ 1048576) (h0 : 0 ≤ m) (h1 : m ≤ 1000000000000) : Ev (fun k => laws_markLine.f k (a, (b, ())) m) ((m + 2 * a.length, ()), ((), ((), ()))) :=
  .step (fun k => laws_markLine.eq k _ m) (.bind (markPointS_ev a m h h0 h1) (.now _))
theorem markIntS_ev (a : List Int) (m : Int) (h : a.length ≤ 1048576) (h0 : 0 ≤ m) (h1 : m ≤ 1000000000000) : ∃ l, Ev (fun k => laws_markIntS.f k a m) ((m + a.length, ()), (l, ((), ()))) := by
  obtain ⟨k1, k2, k3⟩ := loop_ev (fun k i (s : Int × List Int) => laws_markIntS.l2 k s.1 i s.2) a.length (fun i s => (m + (i + 1 : Nat), s.2.set i (m + i))) (fun i s => s.1 = m + i ∧ s.2.length = a.length) (fun s => ((s.1, ()), (s.2, ((), ()))))
    (fun i s hi ⟨hm, hl⟩ => ⟨rfl, by simpa using hl⟩)
    (fun i s r hi ⟨hm, hl⟩ hr => by
      refine .step (fun k => laws_markIntS.l2_eq k _ _ _) (.tt (ilt_t (by rw [llen_]; omega)) (.tt (in_t (by omega) (by rw [llen_]; omega)) ?_))
      rw [iadd_, iadd_, wr_id (by omega) (by omega), wr_id (by omega) (by omega), lset_nat, hm, show m + (i : Int) + 1 = m + ((i + 1 : Nat) : Int) by omega]
      exact hr)
    (fun s ⟨hm, hl⟩ => .step (fun k => laws_markIntS.l2_eq k _ _ _) (.ff (ilt_f (by rw [llen_]; omega)) (.now _))) (m, a) ⟨by omega, rfl⟩
  rw [k2] at k1
  exact ⟨_, .step (fun k => laws_markIntS.eq k a m) k1⟩
theorem heldPointS_ev (a : List Pt) (m : Int) (h : a.length ≤ 1048576) (h0 : 0 ≤ m) (h1 : m ≤ 1000000000000) : Ev (fun k => laws_heldPointS.f k (mkPts m a) m) ((m + 2 * a.length, ()), ((), ((), ()))) := by
  refine .step (fun k => laws_heldPointS.eq k _ m) ?_
  obtain ⟨k1, k2⟩ := loop_ev (fun k i (s : Int) => laws_heldPointS.l2 k (mkPts m a) s i) a.length (fun i s => m + 2 * (i + 1 : Nat)) (fun i s => s = m + 2 * i) (fun s => ((s, ()), ((), ((), ()))))
    (fun i s hi hm => rfl)
    (fun i s r hi hm hr => by
      have hl := mkPts_length a m
      have hi2 : i < (mkPts m a).length := by omega
      have hat : (mkPts m a)[i] = (m + 2 * i, m + 2 * i + 1) := Option.some.inj (by rw [← List.getElem?_eq_getElem hi2, mkPts_at a m i hi])
      refine .step (fun k => laws_heldPointS.l2_eq k _ _ _) (.tt (ilt_t (by rw [llen_]; omega)) (.tt (in_t (by omega) (by rw [llen_]; omega)) ?_))
      rw [lget_lt _ i hi2, hat, iadd_ s, wr_id (x := s + 1) (by omega) (by omega), iadd_, iadd_, wr_id (by omega) (by omega), wr_id (by omega) (by omega)]
      refine .ff (not_f (ieq_t hm.symm)) (.tt (in_t (by omega) (by rw [llen_]; omega)) (.ff (not_f (ieq_t (by simp only []; omega))) ?_))
      rw [show s + 1 + 1 = m + 2 * ((i + 1 : Nat) : Int) by omega]
      exact hr)
    (fun s hm => .step (fun k => laws_heldPointS.l2_eq k _ _ _) (.ff (ilt_f (by rw [llen_, mkPts_length]; omega)) (.now _))) m (by omega)
  rw [k2] at k1
  exact k1
/-- How many numbers lines take. -/
def lnSum : List Ln → Int
  | [] => 0
  | x :: l => 2 * x.1.length + 1 + lnSum l
theorem lnSum_nn : ∀ l, 0 ≤ lnSum l
  | [] => Int.le_refl _
  | x :: l => by have := lnSum_nn l; unfold lnSum; omega
def mkLns (k : Int) : List Ln → List Ln
  | [] => []
  | x :: l => (mkPts k x.1, ieq (irem (k + 2 * x.1.length) 3) 0) :: mkLns (k + 2 * x.1.length + 1) l
theorem mkLns_length : ∀ (l : List Ln) (k : Int), (mkLns k l).length = l.length
  | [], k => rfl
  | _ :: l, k => by simp only [mkLns, List.length_cons, mkLns_length l]
theorem mkLns_at : ∀ (l : List Ln) (k : Int) (i : Nat) (h : i < l.length), (mkLns k l)[i]? = some (mkPts (k + lnSum (l.take i)) l[i].1, ieq (irem (k + lnSum (l.take i) + 2 * l[i].1.length) 3) 0)
  | [], k, i, h => by simp at h
  | x :: l, k, 0, h => by simp [mkLns, lnSum]
  | x :: l, k, i + 1, h => by
    simp only [mkLns, List.getElem?_cons_succ]
    rw [mkLns_at l _ i (by simpa using h)]
    simp only [List.take_succ_cons, lnSum, List.getElem_cons_succ]
    rw [show k + 2 * (x.1.length : Int) + 1 + lnSum (List.take i l) = k + (2 * (x.1.length : Int) + 1 + lnSum (List.take i l)) by omega]
theorem lnSum_take (l : List Ln) (i : Nat) (h : i < l.length) : lnSum (l.take (i + 1)) = lnSum (l.take i) + 2 * l[i].1.length + 1 := by
  induction l generalizing i with
  | nil => simp at h
  | cons x l ih =>
    cases i with
    | zero => simp [lnSum]
    | succ i =>
      simp only [List.take_succ_cons, lnSum, List.getElem_cons_succ]
      rw [ih i (by simpa using h)]; omega
theorem lnSum_le (l : List Ln) : ∀ (i : Nat), lnSum (l.take i) ≤ lnSum l := by
  induction l with
  | nil => intro i; simp
  | cons x l ih =>
    intro i
    cases i with
    | zero => have := lnSum_nn (x :: l); simpa [lnSum] using this
    | succ i => simp only [List.take_succ_cons, lnSum]; have := ih i; omega
theorem markLineS_ev (a : List Ln) (m : Int) (h : a.length ≤ 1048576) (hp : ∀ x ∈ a, x.1.length ≤ 1048576) (h0 : 0 ≤ m) (h1 : m + lnSum a ≤ 1000000000000) : Ev (fun k => laws_markLineS.f k a m) ((m + lnSum a, ()), (mkLns m a, ((), ()))) := by
  refine .step (fun k => laws_markLineS.eq k a m) ?_
  obtain ⟨k1, k2, k3⟩ := loop_ev (fun k i (s : Int × List Ln) => laws_markLineS.l2 k s.1 i s.2) a.length (fun i s => (m + lnSum (a.take (i + 1)), s.2.set i ((mkLns m a).getD i ([], false)))) (fun i s => s.1 = m + lnSum (a.take i) ∧ s.2.length = a.length ∧ s.2.take i = (mkLns m a).take i ∧ ∀ j, i ≤ j → s.2[j]? = a[j]?) (fun s => ((s.1, ()), (s.2, ((), ()))))
    (fun i s hi ⟨hm, hl, ht, hr⟩ => ⟨rfl, by simpa using hl, by simp only []; rw [set_take (by omega), ht, List.take_add_one, List.getD_eq_getElem?_getD, mkLns_at a m i hi]; rfl, fun j hj => by simp only []; rw [List.getElem?_set_ne (by omega)]; exact hr j (by omega)⟩)
    (fun i s r hi ⟨hm, hl, ht, hx⟩ hr => by
      have hi2 : i < s.2.length := by omega
      have hat : s.2[i] = a[i] := Option.some.inj (by rw [← List.getElem?_eq_getElem hi2, ← List.getElem?_eq_getElem hi]; exact hx i (Nat.le_refl _))
      have b1 := lnSum_le a i
      have b2 := lnSum_le a (i + 1)
      have b3 := lnSum_take a i hi
      have b4 := lnSum_nn (a.take i)
      refine .step (fun k => laws_markLineS.l2_eq k _ _ _) (.tt (ilt_t (by rw [llen_]; omega)) (.tt (in_t (by omega) (by rw [llen_]; omega)) ?_))
      rw [lget_lt _ i hi2, hat]
      refine .bind (markPointS_ev a[i].1 s.1 (hp _ (List.getElem_mem hi)) (by omega) (by omega)) (.tt (in_t (by omega) (by rw [llen_, lset_nat, List.length_set]; omega)) ?_)
      simp only []
      rw [lset_nat, lget_nat, lset_nat, iadd_, iadd_, wr_id (by omega) (by omega), wr_id (by omega) (by omega)]
      simp only [show ((Ty.pair (.sl 85 (.pair (.int .i64) (.int .i64))) .bool).dflt : Ln) = ([], false) from rfl]
      rw [show (s.2.set i (mkPts s.1 a[i].1, a[i].2)).getD i ([], false) = (mkPts s.1 a[i].1, a[i].2) by simp [List.getD, hi2], List.set_set]
      have e : (mkLns m a).getD i ([], false) = (mkPts s.1 a[i].1, ieq (irem (s.1 + 2 * a[i].1.length) 3) 0) := by
        rw [List.getD_eq_getElem?_getD, mkLns_at a m i hi, hm]; rfl
      simp only [e] at hr
      rw [show s.1 + 2 * (a[i].1.length : Int) + 1 = m + lnSum (a.take (i + 1)) by omega]
      exact hr)
    (fun s ⟨hm, hl, ht, _⟩ => .step (fun k => laws_markLineS.l2_eq k _ _ _) (.ff (ilt_f (by rw [llen_]; omega)) (.now _))) (m, a) ⟨by simp [lnSum], rfl, rfl, fun _ _ => rfl⟩
  obtain ⟨k3, k4, _⟩ := k3
  rw [List.take_of_length_le (by omega), List.take_of_length_le (by rw [mkLns_length]; omega)] at k4
  rw [k2, k4, List.take_length] at k1
  exact k1
theorem heldLineS_ev (a : List Ln) (m : Int) (h : a.length ≤ 1048576) (hp : ∀ x ∈ a, x.1.length ≤ 1048576) (h0 : 0 ≤ m) (h1 : m + lnSum a ≤ 1000000000000) : Ev (fun k => laws_heldLineS.f k (mkLns m a) m) ((m + lnSum a, ()), ((), ((), ()))) := by
  refine .step (fun k => laws_heldLineS.eq k _ m) ?_
  obtain ⟨k1, k2⟩ := loop_ev (fun k i (s : Int) => laws_heldLineS.l2 k (mkLns m a) s i) a.length (fun i s => m + lnSum (a.take (i + 1))) (fun i s => s = m + lnSum (a.take i)) (fun s => ((s, ()), ((), ((), ()))))
    (fun i s hi hm => rfl)
    (fun i s r hi hm hr => by
      have hl := mkLns_length a m
      have hi2 : i < (mkLns m a).length := by omega
      have hat : (mkLns m a)[i] = (mkPts s a[i].1, ieq (irem (s + 2 * a[i].1.length) 3) 0) := Option.some.inj (by rw [← List.getElem?_eq_getElem hi2, mkLns_at a m i hi, hm])
      have b1 := lnSum_le a i
      have b2 := lnSum_le a (i + 1)
      have b3 := lnSum_take a i hi
      have b4 := lnSum_nn (a.take i)
      refine .step (fun k => laws_heldLineS.l2_eq k _ _ _) (.tt (ilt_t (by rw [llen_]; omega)) (.tt (in_t (by omega) (by rw [llen_]; omega)) ?_))
      rw [lget_lt _ i hi2, hat]
      refine .bind (heldPointS_ev a[i].1 s (hp _ (List.getElem_mem hi)) (by omega) (by omega)) (.ff (ilt_f (by simp only []; omega)) (.tt (in_t (by omega) (by rw [llen_]; omega)) (.ff (not_f (by show beq_ _ _ = true; unfold beq_; simp)) ?_)))
      simp only []
      rw [iadd_, iadd_, wr_id (by omega) (by omega), wr_id (by omega) (by omega), show s + 2 * (a[i].1.length : Int) + 1 = m + lnSum (a.take (i + 1)) by omega]
      exact hr)
    (fun s hm => .step (fun k => laws_heldLineS.l2_eq k _ _ _) (.ff (ilt_f (by rw [llen_, mkLns_length]; omega)) (.now _))) m (by simp [lnSum])
  rw [k2, List.take_length] at k1
  exact k1

end Go.Proofs.Ytigkodlbjimikaa.VFnExactDashed
