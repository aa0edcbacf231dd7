/- Dashes: what each step of both sides makes of its state. -/
import Derived.Test.YtigkodlbjimikaaVpLinesFnExactDashed
namespace Go.Proofs.Ytigkodlbjimikaa.VFnExactDashed
open Go Go.RowKit Go.Proofs.Ytigkodlbjimikaa.Vc Go.Proofs.Ytigkodlbjimikaa.Vp
set_option linter.unusedVariables false
set_option linter.unusedSimpArgs false

/-! ### points passed -/
def lastPt (own : List Pt) : Pt := lget (t := .pair (.int .i64) (.int .i64)) own ((own.length : Int) - 1)
def passP (at_ : Int) (own : List Pt) (p : Pt) : List Pt :=
  bif ieq (irem at_ 2) 0 then (bif ieq own.length 0 then own ++ [p] else bif and_ (ieq (lastPt own).1 p.1) (ieq (lastPt own).2 p.2) then own else own ++ [p]) else own
theorem passP_le (at_ : Int) (own : List Pt) (p : Pt) : (passP at_ own p).length ≤ own.length + 1 := by
  unfold passP
  cases ieq (irem at_ 2) 0 with
  | false => simp
  | true =>
    simp only [cond_true]
    cases ieq own.length 0 with
    | true => simp
    | false =>
      simp only [cond_false]
      cases and_ (ieq (lastPt own).1 p.1) (ieq (lastPt own).2 p.2) <;> simp
theorem pass_ev (d : List Int) (at_ left begun : Int) (own : List Pt) (out : List Ln) (p : Pt) (h : own.length ≤ 1000000000) :
    Ev (fun k => impl_dasher_pass.f k (d, (at_, (left, (begun, (own, (out, ())))))) p) ((), ((d, (at_, (left, (begun, (passP at_ own p, (out, ())))))), ((), ()))) := by
  refine .step (fun k => impl_dasher_pass.eq k _ _) (.bind (.step (fun k => impl_dasher_on.eq k _) (.now _)) ?_)
  simp only []
  unfold passP
  cases hc : ieq (irem at_ 2) 0 with
  | false => exact .ff rfl (.now _)
  | true =>
    refine .tt rfl ?_
    have e1 : wr .i64 (isub (llen own) 1) = (own.length : Int) - 1 := by rw [isub_, llen_, wr_id (by omega) (by omega)]
    rw [e1]
    cases hz : ieq (own.length : Int) 0 with
    | true => exact .ff (by show not_ (ieq (llen own) 0) = false; rw [llen_, hz]; rfl) (.tt (ile_t (by rw [lapp_, llen_, List.length_append]; simp only [List.length_cons, List.length_nil]; omega)) (.now _))
    | false =>
      have hpos : 0 < own.length := by
        cases own with
        | nil => rw [show ieq (([] : List Pt).length : Int) 0 = true from rfl] at hz; cases hz
        | cons _ _ => simp
      refine .tt (by show not_ (ieq (llen own) 0) = true; rw [llen_, hz]; rfl) (.tt (in_t (by omega) (by rw [llen_]; omega)) ?_)
      simp only [cond_true, cond_false]
      show Ev (fun k => bif not_ (and_ (ieq (lastPt own).1 p.1) (ieq (lastPt own).2 p.2)) then _ else _) _
      cases hl : and_ (ieq (lastPt own).1 p.1) (ieq (lastPt own).2 p.2) with
      | true => exact .ff rfl (.now _)
      | false => exact .tt rfl (.tt (ile_t (by rw [lapp_, llen_, List.length_append]; simp only [List.length_cons, List.length_nil]; omega)) (.now _))
theorem add_ev (d : List Int) (at_ left : Int) (own : List Pt) (out : List Ln) (many begun : Int) (p : Pt) (h : own.length ≤ 1000000000) :
    Ev (fun k => spec_l10Walk_add.f k (d, (at_, (left, (own, (out, (many, (begun, ()))))))) p) ((), ((d, (at_, (left, (passP at_ own p, (out, (many, (begun, ()))))))), ((), ()))) := by
  refine .step (fun k => spec_l10Walk_add.eq k _ _) ?_
  simp only []
  unfold passP
  cases hc : ieq (irem at_ 2) 0 with
  | false => exact .ff rfl (.now _)
  | true =>
    refine .tt rfl ?_
    have e1 : wr .i64 (isub (llen own) 1) = (own.length : Int) - 1 := by rw [isub_, llen_, wr_id (by omega) (by omega)]
    rw [e1]
    cases hz : ieq (own.length : Int) 0 with
    | true => exact .ff (by show not_ (ieq (llen own) 0) = false; rw [llen_, hz]; rfl) (.tt (ile_t (by rw [lapp_, llen_, List.length_append]; simp only [List.length_cons, List.length_nil]; omega)) (.now _))
    | false =>
      have hpos : 0 < own.length := by
        cases own with
        | nil => rw [show ieq (([] : List Pt).length : Int) 0 = true from rfl] at hz; cases hz
        | cons _ _ => simp
      refine .tt (by show not_ (ieq (llen own) 0) = true; rw [llen_, hz]; rfl) (.tt (in_t (by omega) (by rw [llen_]; omega)) ?_)
      simp only [cond_true, cond_false]
      show Ev (fun k => bif not_ (and_ (ieq (lastPt own).1 p.1) (ieq (lastPt own).2 p.2)) then _ else _) _
      cases hl : and_ (ieq (lastPt own).1 p.1) (ieq (lastPt own).2 p.2) with
      | true => exact .ff rfl (.now _)
      | false => exact .tt rfl (.tt (ile_t (by rw [lapp_, llen_, List.length_append]; simp only [List.length_cons, List.length_nil]; omega)) (.now _))

/-! ### dashes ended -/
def endP (own : List Pt) (out : List Ln) : List Ln := if 1 < own.length then out ++ [(own, false)] else out
theorem end_ev (d : List Int) (at_ left begun : Int) (own : List Pt) (out : List Ln) (h : out.length ≤ 1000000000) :
    Ev (fun k => impl_dasher_end.f k (d, (at_, (left, (begun, (own, (out, ()))))))) ((), ((d, (at_, (left, (begun, ([], (endP own out, ())))))), ())) := by
  refine .step (fun k => impl_dasher_end.eq k _) ?_
  simp only []
  unfold endP
  by_cases hc : 1 < own.length
  · rw [if_pos hc]
    exact .tt (ilt_t (by rw [llen_]; omega)) (.tt (ile_t (by rw [lapp_, llen_, List.length_append]; simp only [List.length_cons, List.length_nil]; omega)) (.now _))
  · rw [if_neg hc]
    exact .ff (ilt_f (by rw [llen_]; omega)) (.now _)
/-- The reference's: lines are kept while there are not too many points. -/
def endS (own : List Pt) (out : List Ln) (many : Int) : List Ln := if 1 < own.length ∧ many + own.length ≤ 600 then out ++ [(own, false)] else out
def endM (own : List Pt) (many : Int) : Int := if 1 < own.length then many + own.length else many
theorem endS_ev (d : List Int) (at_ left : Int) (own : List Pt) (out : List Ln) (many begun : Int) (h : out.length ≤ 1000000000) (h1 : own.length ≤ 1000000000) (hm : 0 ≤ many) (hm2 : many ≤ 1000000000000) :
    Ev (fun k => spec_l10Walk_end.f k (d, (at_, (left, (own, (out, (many, (begun, ())))))))) ((), ((d, (at_, (left, ([], (endS own out many, (endM own many, (begun, ()))))))), ())) := by
  refine .step (fun k => spec_l10Walk_end.eq k _) ?_
  simp only []
  have e1 : wr .i64 (iadd many (llen own)) = many + own.length := by rw [iadd_, llen_, wr_id (by omega) (by omega)]
  rw [e1]
  unfold endS endM
  by_cases hc : 1 < own.length
  · rw [if_pos hc]
    refine .tt (ilt_t (by rw [llen_]; omega)) ?_
    by_cases hd : many + own.length ≤ 600
    · rw [if_pos ⟨hc, hd⟩]
      exact .tt (ile_t hd) (.tt (ile_t (by rw [lapp_, llen_, List.length_append]; simp only [List.length_cons, List.length_nil]; omega)) (.tt (ilt_t (by rw [llen_]; omega)) (.now _)))
    · rw [if_neg (fun h => hd h.2)]
      exact .ff (ile_f (by omega)) (.tt (ilt_t (by rw [llen_]; omega)) (.now _))
  · rw [if_neg hc, if_neg (fun h => hc h.1)]
    exact .ff (ilt_f (by rw [llen_]; omega)) (.ff (ilt_f (by rw [llen_]; omega)) (.now _))

/-! ### numbers of the dash -/
/-- Dashes are numbers that are not too great. -/
structure DashOk (d : List Int) : Prop where
  pos : 0 < d.length
  len : d.length ≤ 16
  val : ∀ x ∈ d, 0 ≤ x ∧ x ≤ 67108864
def nxt (d : List Int) (at_ : Nat) : Nat := (at_ + 1) % d.length
theorem DashOk.nlt {d : List Int} (h : DashOk d) (at_ : Nat) : nxt d at_ < d.length := Nat.mod_lt _ h.pos
theorem DashOk.rem {d : List Int} (h : DashOk d) {at_ : Nat} (ha : at_ < d.length) : irem (wr .i64 (iadd (at_ : Int) 1)) (llen d) = (nxt d at_ : Nat) := by
  have := h.len
  rw [iadd_, wr_id (by omega) (by omega), llen_]
  unfold irem VFnExactDashed.nxt
  rw [show (at_ : Int) + 1 = ((at_ + 1 : Nat) : Int) by omega]
  rfl
def dv (d : List Int) (i : Nat) : Int := d.getD i 0
theorem DashOk.dvr {d : List Int} (h : DashOk d) {i : Nat} (hi : i < d.length) : 0 ≤ dv d i ∧ dv d i ≤ 67108864 := by
  unfold VFnExactDashed.dv
  rw [List.getD_eq_getElem?_getD, List.getElem?_eq_getElem hi]
  exact h.val _ (List.getElem_mem hi)
theorem dv_get (d : List Int) (i : Nat) : lget (t := .int .i64) d (i : Int) = dv d i := lget_nat (t := .int .i64) d i
/-- The program's step to the next number. -/
theorem next_ev {d : List Int} (hd : DashOk d) (at_ : Nat) (ha : at_ < d.length) (left begun : Int) (own : List Pt) (out : List Ln) (p : Pt) (h : own.length ≤ 100000000) (ho : out.length ≤ 100000000) (hb : 0 ≤ begun) (hb2 : begun ≤ 1000000) :
    Ev (fun k => impl_dasher_next.f k (d, ((at_ : Int), (left, (begun, (own, (out, ())))))) p) ((), ((d, ((nxt d at_ : Int), (dv d (nxt d at_), (begun + 1, (passP (nxt d at_) [] p, (endP (passP at_ own p) out, ())))))), ((), ()))) := by
  have hn := hd.nlt at_
  refine .step (fun k => impl_dasher_next.eq k _ _) (.bind (pass_ev d at_ left begun own out p (by omega)) (.bind (end_ev d at_ left begun _ out (by omega)) ?_))
  simp only []
  rw [hd.rem ha, dv_get, iadd_, wr_id (by omega) (by omega)]
  refine .tt (not_t (ieq_f (by rw [llen_]; have := hd.pos; omega))) (.tt (in_t (by omega) (by rw [llen_]; omega)) (.bind (pass_ev d _ _ _ [] _ p (by simp)) (.now _)))
end Go.Proofs.Ytigkodlbjimikaa.VFnExactDashed
