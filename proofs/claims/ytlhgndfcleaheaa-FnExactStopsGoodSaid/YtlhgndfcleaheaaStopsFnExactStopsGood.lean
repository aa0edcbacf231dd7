/- Stops: copied, compared, and asked whether they are good, by both sides. -/
import Derived.Test.YtlhgndfcleaheaaTintFnExactStopsGood
namespace Go.Proofs.Ytlhgndfcleaheaa.PFnExactStopsGood
open Go.RowKit Go.Proofs.YtlhgndfcleaheaaW.PrintWords Go.Proofs.YtlhgndfcleaheaaW.PrintLast Go.Proofs.Ytlhgndfcleaheaa.Plain
set_option linter.unusedSimpArgs false
set_option linter.unusedVariables false

theorem toStops (l : List S108) (hl : l.length ≤ 1048576) : Ev (fun k => laws_toStopS.f k l) (l.map fun x => ⟨x.f0, ⟨x.f1.f0, x.f1.f1, x.f1.f2, x.f1.f3⟩⟩) := by
  unfold laws_toStopS.f
  have h := copy_ev (fun x : S108 => (⟨x.f0, ⟨x.f1.f0, x.f1.f1, x.f1.f2, x.f1.f3⟩⟩ : S105)) l z108 z105 (by omega) (fun k ys i => laws_toStopS.l0 k l ys i) (fun k i ys hi hy => by
    show laws_toStopS.l0 (k + 1) l ys i = _
    rw [laws_toStopS.l0, if_pos (by omega), if_pos (by omega)]
    simp only [laws_toStop.f, laws_toTint.f, Option.bind_some]
    rw [if_pos (by omega)]; rfl) (fun k ys => by
    show laws_toStopS.l0 (k + 1) l ys _ = _
    rw [laws_toStopS.l0, if_neg (by omega)]) (List.replicate ((l.length : Int)).toNat z105) (by simp)
  simp only [if_pos (show (0 : Int) ≤ l.length by omega), if_pos (show (l.length : Int).toNat ≤ 7036874417766 by omega)]
  exact h

theorem eqStops (l : List S105) (hl : l.length ≤ 9223372036854775806) : Ev (fun k => laws_eqStopS.f k l l) true := by
  unfold laws_eqStopS.f
  have he : ∀ a b c d e : Int, laws_eqStop.f a b c d e a b c d e = some true := fun a b c d e => by simp [laws_eqStop.f, laws_eqTint.f]
  have h := all_ev (fun _ : S105 => true) l z105 (by omega) (fun k i => laws_eqStopS.l0 k l l i) (fun k i hi => by
    show laws_eqStopS.l0 (k + 1) l l i = _
    rw [laws_eqStopS.l0, if_pos (by omega), if_pos (by omega), if_pos (by omega), he]
    simp only [Option.bind_some]) (fun k => by
    show laws_eqStopS.l0 (k + 1) l l _ = _
    rw [laws_eqStopS.l0, if_neg (by omega)])
  rw [List.all_eq_true.2 (fun _ _ => rfl)] at h
  simp only [if_true]
  exact h

/-- A stop is good, and not ahead of the one before it. -/
def stopGood (p : Option S105) (x : S105) : Bool := decide (0 ≤ x.f0 ∧ x.f0 ≤ 65536) && goodTint x.f1.f0 x.f1.f1 x.f1.f2 x.f1.f3 && (match p with | none => true | some q => decide (q.f0 ≤ x.f0))
def stopsGo : Option S105 → List S105 → Bool
  | _, [] => true
  | p, x :: xs => stopGood p x && stopsGo (some x) xs
def stopsGood (l : List S105) : Bool := decide (1 ≤ (l.length : Int) ∧ (l.length : Int) ≤ 8) && stopsGo none l

theorem stops_ev (l : List S105) (hl : l.length ≤ 1048576) (e : Bool) (g : Nat → Int → Option Bool)
    (h0 : ∀ k, 0 < l.length → g (k + 1) 0 = if stopGood none (rd_T105 l 0) = true then g k (wrap64 (0 + 1)) else some false)
    (h : ∀ (k i : Nat), i + 1 < l.length → g (k + 1) ((i + 1 : Nat) : Int) = if stopGood (some (rd_T105 l (i : Nat))) (rd_T105 l ((i + 1 : Nat) : Int)) = true then g k (wrap64 (((i + 1 : Nat) : Int) + 1)) else some false)
    (he : ∀ k, g (k + 1) l.length = some e) : Ev (fun k => g k 0) (stopsGo none l && e) := by
  have hr : ∀ i (hi : i < l.length), rd_T105 l (i : Nat) = l[i] := fun i hi => by simp [rd_T105, hi]
  have key : ∀ i, i < l.length → Ev (fun k => g k ((i + 1 : Nat) : Int)) (stopsGo (some (rd_T105 l (i : Nat))) (l.drop (i + 1)) && e) := by
    intro i hi
    have := up (p := fun i => i < l.length → Ev (fun k => g k ((i + 1 : Nat) : Int)) (stopsGo (some (rd_T105 l (i : Nat))) (l.drop (i + 1)) && e)) (l.length - 1) (fun hj => by
      rw [show l.length - 1 + 1 = l.length by omega, List.drop_length]
      refine ev_some fun k => ?_
      rw [he]; simp [stopsGo]) (fun j hj ih _ => by
      have hj1 : j + 1 < l.length := by omega
      rw [List.drop_eq_getElem_cons hj1]
      have h2 := hr (j + 1) hj1
      cases hP : stopGood (some (rd_T105 l (j : Nat))) (rd_T105 l ((j + 1 : Nat) : Int))
      · refine ev_some fun k => ?_
        rw [h k j hj1, hP]
        rw [h2] at hP
        simp [stopsGo, hP]
      · refine Ev.step (f := fun k => g k ((j + 1 + 1 : Nat) : Int)) (fun k => ?_) ?_
        · show g (k + 1) _ = _
          rw [h k j hj1, hP, if_pos rfl, wrap_id (by omega) (by omega)]; rfl
        · have := ih hj1
          rw [h2] at hP
          simp only [stopsGo, hP, Bool.true_and]
          rw [h2] at this
          exact this) i (by omega)
    exact this hi
  cases l with
  | nil => refine ev_some fun k => ?_; have := he k; simpa [stopsGo] using this
  | cons x xs =>
    have h1 := hr 0 (by simp)
    simp only [List.getElem_cons_zero] at h1
    cases hP : stopGood none x
    · refine ev_some fun k => ?_
      have := h0 k (by simp)
      rw [this, show rd_T105 (x :: xs) 0 = x from h1, hP]
      simp [stopsGo, hP]
    · refine Ev.step (f := fun k => g k ((0 + 1 : Nat) : Int)) (fun k => ?_) ?_
      · have := h0 k (by simp)
        show g (k + 1) 0 = _
        rw [this, show rd_T105 (x :: xs) 0 = x from h1, hP, if_pos rfl, wrap_id (by omega) (by omega)]; rfl
      · have := key 0 (by simp)
        rw [h1] at this
        simpa [stopsGo, hP] using this

theorem specStops (l : List S105) (hl : l.length ≤ 1048576) : Ev (fun k => spec_StopsGood.f k l) (stopsGood l) := by
  have h := stops_ev l hl true (fun k i => spec_StopsGood.l0 k l l l.length i) (fun k h0 => by
    show spec_StopsGood.l0 (k + 1) l l l.length 0 = _
    rw [spec_StopsGood.l0, if_pos (by omega), if_pos (by omega), if_pos (by omega), in_, specGoodTint]
    simp only [Option.bind_some, stopGood, if_neg (show ¬ (0 : Int) > 0 by omega), Bool.and_true]
    cases decide (0 ≤ (rd_T105 l 0).f0 ∧ (rd_T105 l 0).f0 ≤ 65536) <;> simp) (fun k i hi => by
    show spec_StopsGood.l0 (k + 1) l l l.length ((i + 1 : Nat) : Int) = _
    have e : wrap64 (((i + 1 : Nat) : Int) - 1) = (i : Int) := by rw [wrap_id (by omega) (by omega)]; omega
    rw [spec_StopsGood.l0, if_pos (by omega), if_pos (by omega), if_pos (by omega), in_, specGoodTint, e]
    simp only [Option.bind_some, stopGood, if_pos (show ((i + 1 : Nat) : Int) > 0 by omega), if_pos (show (0 : Int) ≤ (i : Int) by omega), if_pos (show (i : Int) < l.length by omega)]
    by_cases hA : 0 ≤ (rd_T105 l ((i + 1 : Nat) : Int)).f0 ∧ (rd_T105 l ((i + 1 : Nat) : Int)).f0 ≤ 65536
    case neg => simp only [decide_eq_false hA, Bool.false_and, Bool.false_eq_true, if_false]
    · simp only [decide_eq_true hA, if_true, Bool.true_and]
      cases goodTint (rd_T105 l ((i + 1 : Nat) : Int)).f1.f0 (rd_T105 l ((i + 1 : Nat) : Int)).f1.f1 (rd_T105 l ((i + 1 : Nat) : Int)).f1.f2 (rd_T105 l ((i + 1 : Nat) : Int)).f1.f3
      · simp
      · by_cases hc : (rd_T105 l (i : Nat)).f0 ≤ (rd_T105 l ((i + 1 : Nat) : Int)).f0
        · simp only [if_true, Bool.true_and, decide_eq_true hc, if_neg (show ¬ (rd_T105 l (i : Nat)).f0 > (rd_T105 l ((i + 1 : Nat) : Int)).f0 by omega)]
        · simp only [if_true, Bool.true_and, decide_eq_false hc, if_pos (show (rd_T105 l (i : Nat)).f0 > (rd_T105 l ((i + 1 : Nat) : Int)).f0 by omega)]; rfl) (fun k => by
    show spec_StopsGood.l0 (k + 1) l l _ _ = _
    rw [spec_StopsGood.l0, if_neg (by omega)])
  unfold spec_StopsGood.f stopsGood
  simp only [in_, Option.bind_some]
  cases decide (1 ≤ (l.length : Int) ∧ (l.length : Int) ≤ 8)
  · exact Ev.now _
  · simpa using h

theorem implStops (l : List S105) (hl : l.length ≤ 1048576) : Ev (fun k => impl_StopsGood.f k l) (stopsGood l) := by
  have h := stops_ev l hl (decide (1 ≤ (l.length : Int) ∧ (l.length : Int) ≤ 8)) (fun k i => impl_StopsGood.l0 k l l l.length i) (fun k h0 => by
    show impl_StopsGood.l0 (k + 1) l l l.length 0 = _
    rw [impl_StopsGood.l0, if_pos (by omega), if_pos (by omega), if_pos (by omega), within_, implGoodTint]
    simp only [Option.bind_some, stopGood, if_neg (show ¬ (0 : Int) > 0 by omega), Bool.and_true]
    cases decide (0 ≤ (rd_T105 l 0).f0 ∧ (rd_T105 l 0).f0 ≤ 65536) <;> simp) (fun k i hi => by
    show impl_StopsGood.l0 (k + 1) l l l.length ((i + 1 : Nat) : Int) = _
    have e : wrap64 (((i + 1 : Nat) : Int) - 1) = (i : Int) := by rw [wrap_id (by omega) (by omega)]; omega
    rw [impl_StopsGood.l0, if_pos (by omega), if_pos (by omega), if_pos (by omega), within_, implGoodTint, e]
    simp only [Option.bind_some, stopGood, if_pos (show ((i + 1 : Nat) : Int) > 0 by omega), if_pos (show (0 : Int) ≤ (i : Int) by omega), if_pos (show (i : Int) < l.length by omega)]
    by_cases hA : 0 ≤ (rd_T105 l ((i + 1 : Nat) : Int)).f0 ∧ (rd_T105 l ((i + 1 : Nat) : Int)).f0 ≤ 65536
    case neg => simp only [decide_eq_false hA, Bool.false_and, Bool.false_eq_true, if_false]
    · simp only [decide_eq_true hA, if_true, Bool.true_and]
      cases goodTint (rd_T105 l ((i + 1 : Nat) : Int)).f1.f0 (rd_T105 l ((i + 1 : Nat) : Int)).f1.f1 (rd_T105 l ((i + 1 : Nat) : Int)).f1.f2 (rd_T105 l ((i + 1 : Nat) : Int)).f1.f3
      · simp
      · by_cases hc : (rd_T105 l (i : Nat)).f0 ≤ (rd_T105 l ((i + 1 : Nat) : Int)).f0
        · simp only [if_true, Bool.true_and, decide_eq_true hc, if_neg (show ¬ (rd_T105 l ((i + 1 : Nat) : Int)).f0 < (rd_T105 l (i : Nat)).f0 by omega)]
        · simp only [if_true, Bool.true_and, decide_eq_false hc, if_pos (show (rd_T105 l ((i + 1 : Nat) : Int)).f0 < (rd_T105 l (i : Nat)).f0 by omega)]; rfl) (fun k => by
    show impl_StopsGood.l0 (k + 1) l l _ _ = _
    rw [impl_StopsGood.l0, if_neg (by omega), within_]
    simp only [Option.bind_some])
  unfold impl_StopsGood.f stopsGood
  rw [Bool.and_comm]
  exact h

end Go.Proofs.Ytlhgndfcleaheaa.PFnExactStopsGood
