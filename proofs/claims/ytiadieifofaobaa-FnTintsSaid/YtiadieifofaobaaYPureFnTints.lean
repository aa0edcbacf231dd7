/- Merged: Among, Cur, Down, DrawFixed, DrawTint, In, Num, Over, PureFnTints, Run, Steps, Stops, Tint, Wide. -/
import Derived.Test.YtiadieifofaobaaYPlain
import Derived.Laws.MathBits
import Derived.Laws.BitsAllLaws
import Derived.Test.YtiadieifofaobaaYHFnTintsx
/- More facts on numbers: quotients, squares, roots. -/
namespace Go.Proofs.Ytiadieifofaobaa.Plain
open Go.RowKit Go.Proofs.YtiadieifofaobaaW.PrintWords Go.Proofs.YtiadieifofaobaaW.PrintLast
theorem tdiv_nn {a : Int} (h : 0 ≤ a) (b : Int) : Int.tdiv a b = a / b := Int.tdiv_eq_ediv_of_nonneg h
theorem tmod_nn {a : Int} (h : 0 ≤ a) (b : Int) : Int.tmod a b = a % b := Int.tmod_eq_emod_of_nonneg h
end Go.Proofs.Ytiadieifofaobaa.Plain
/- Wide products, as two halves of 64 bits. -/
namespace Go.Proofs.Ytiadieifofaobaa.Plain
open Go.RowKit Go.Proofs.YtiadieifofaobaaW.PrintWords Go.Proofs.YtiadieifofaobaaW.PrintLast
theorem div_between {n b q : Int} (hb : 0 < b) (h0 : q * b ≤ n) (h1 : n < (q + 1) * b) : n / b = q :=
  Int.le_antisymm (Int.lt_add_one_iff.1 (Int.ediv_lt_of_lt_mul hb h1)) (Int.le_ediv_of_mul_le hb h0)
theorem tdiv_neg_num {a : Int} (h : a < 0) (b : Int) : Int.tdiv a b = -((-a) / b) ∧ Int.tmod a b = -((-a) % b) := by
  obtain ⟨c, rfl⟩ : ∃ c, a = -c := ⟨-a, by omega⟩
  rw [Int.neg_tdiv, Int.neg_tmod, tdiv_nn (by omega), tmod_nn (by omega), Int.neg_neg]
  exact ⟨rfl, rfl⟩
/-- A quotient rounded down, by the machine's. -/
theorem down_num (a : Int) {b : Int} (hb : 0 < b) : (if Int.tmod a b < 0 then Int.tdiv a b - 1 else Int.tdiv a b) = a / b := by
  rcases (by omega : 0 ≤ a ∨ a < 0) with h | h
  · rw [tmod_nn h, tdiv_nn h, if_neg (by have := Int.emod_nonneg a (by omega : b ≠ 0); omega)]
  · obtain ⟨h1, h2⟩ := tdiv_neg_num h b
    rw [h1, h2]
    have e := Int.mul_ediv_add_emod (-a) b
    have e0 := Int.emod_nonneg (-a) (by omega : b ≠ 0)
    have e1 := Int.emod_lt_of_pos (-a) hb
    generalize (-a) / b = q at *
    generalize (-a) % b = r at *
    split
    · refine (div_between hb ?_ ?_).symm
      · rw [show -q - 1 = -(q + 1) by omega, Int.neg_mul, Int.add_mul, Int.mul_comm q]; omega
      · rw [show -q - 1 + 1 = -q by omega, Int.neg_mul, Int.mul_comm q]; omega
    · refine (div_between hb ?_ ?_).symm
      · rw [Int.neg_mul, Int.mul_comm q]; omega
      · rw [show -q + 1 = -(q - 1) by omega, Int.neg_mul, Int.sub_mul, Int.mul_comm q]; omega
theorem tdiv_small {a b : Int} (hb : 0 < b) (h0 : -9223372036854775807 ≤ a) (h1 : a ≤ 9223372036854775807) : -9223372036854775807 ≤ Int.tdiv a b ∧ Int.tdiv a b ≤ 9223372036854775807 := by
  rcases (by omega : 0 ≤ a ∨ a < 0) with h | h
  · rw [tdiv_nn h]
    have h2 := Int.ediv_nonneg h (by omega : 0 ≤ b)
    have h3 := Int.ediv_le_self b h
    omega
  · rw [(tdiv_neg_num h b).1]
    have h2 := Int.ediv_nonneg (by omega : 0 ≤ -a) (by omega : 0 ≤ b)
    have h3 := Int.ediv_le_self b (by omega : 0 ≤ -a)
    omega
end Go.Proofs.Ytiadieifofaobaa.Plain
/- Bounds asked by both sides. -/
namespace Go.Proofs.Ytiadieifofaobaa.HFnTints
open Go.RowKit Go.Proofs.YtiadieifofaobaaW.PrintWords Go.Proofs.YtiadieifofaobaaW.PrintLast Go.Proofs.Ytiadieifofaobaa.Plain
set_option linter.unusedSimpArgs false
set_option linter.unusedVariables false
theorem in_ (a b c : Int) : spec_l1In.f a b c = some (decide (b ≤ a ∧ a ≤ c)) := by
  unfold spec_l1In.f
  by_cases h : a ≥ b
  · rw [if_pos h]; simp [show b ≤ a from h]
  · rw [if_neg h]; simp [show ¬ b ≤ a from h]
theorem within_ (a b c : Int) : impl_within.f a b c = some (decide (b ≤ a ∧ a ≤ c)) := in_ a b c
end Go.Proofs.Ytiadieifofaobaa.HFnTints
/- Tints that are good, asked by both sides. -/
namespace Go.Proofs.Ytiadieifofaobaa.HFnTints
open Go.RowKit Go.Proofs.YtiadieifofaobaaW.PrintWords Go.Proofs.YtiadieifofaobaaW.PrintLast Go.Proofs.Ytiadieifofaobaa.Plain
set_option linter.unusedSimpArgs false
set_option linter.unusedVariables false
/-- A tint is good. -/
def goodTint (r g b a : Int) : Bool := decide (0 ≤ a ∧ a ≤ 255) && decide (0 ≤ r ∧ r ≤ a) && decide (0 ≤ g ∧ g ≤ a) && decide (0 ≤ b ∧ b ≤ a)
theorem specGoodTint (r g b a : Int) : spec_GoodTint.f r g b a = some (goodTint r g b a) := by
  unfold spec_GoodTint.f goodTint
  simp only [in_, Option.bind_some, decide_eq_true_eq]
  by_cases h1 : 0 ≤ a ∧ a ≤ 255
  · by_cases h2 : 0 ≤ r ∧ r ≤ a
    · by_cases h3 : 0 ≤ g ∧ g ≤ a
      · simp only [if_pos h1, if_pos h2, if_pos h3, decide_eq_true h1, decide_eq_true h2, decide_eq_true h3, Bool.true_and]
      · simp only [if_pos h1, if_pos h2, if_neg h3, decide_eq_false h3, Bool.and_false, Bool.false_and]
    · simp only [if_pos h1, if_neg h2, decide_eq_false h2, Bool.and_false, Bool.false_and]
  · simp only [if_neg h1, decide_eq_false h1, Bool.false_and]
theorem implGoodTint (r g b a : Int) : impl_GoodTint.f r g b a = some (goodTint r g b a) := specGoodTint r g b a
end Go.Proofs.Ytiadieifofaobaa.HFnTints
/- Stops: copied, compared, and asked whether they are good, by both sides. -/
namespace Go.Proofs.Ytiadieifofaobaa.HFnTints
open Go.RowKit Go.Proofs.YtiadieifofaobaaW.PrintWords Go.Proofs.YtiadieifofaobaaW.PrintLast Go.Proofs.Ytiadieifofaobaa.Plain
set_option linter.unusedSimpArgs false
set_option linter.unusedVariables false
/-- A stop is good, and not ahead of the one before it. -/
def stopGood (p : Option S103) (x : S103) : Bool := decide (0 ≤ x.f0 ∧ x.f0 ≤ 65536) && goodTint x.f1.f0 x.f1.f1 x.f1.f2 x.f1.f3 && (match p with | none => true | some q => decide (q.f0 ≤ x.f0))
def stopsGo : Option S103 → List S103 → Bool
  | _, [] => true
  | p, x :: xs => stopGood p x && stopsGo (some x) xs
def stopsGood (l : List S103) : Bool := decide (1 ≤ (l.length : Int) ∧ (l.length : Int) ≤ 8) && stopsGo none l
theorem stops_ev (l : List S103) (hl : l.length ≤ 1048576) (e : Bool) (g : Nat → Int → Option Bool)
    (h0 : ∀ k, 0 < l.length → g (k + 1) 0 = if stopGood none (rd_T103 l 0) = true then g k (wrap64 (0 + 1)) else some false)
    (h : ∀ (k i : Nat), i + 1 < l.length → g (k + 1) ((i + 1 : Nat) : Int) = if stopGood (some (rd_T103 l (i : Nat))) (rd_T103 l ((i + 1 : Nat) : Int)) = true then g k (wrap64 (((i + 1 : Nat) : Int) + 1)) else some false)
    (he : ∀ k, g (k + 1) l.length = some e) : Ev (fun k => g k 0) (stopsGo none l && e) := by
  have hr : ∀ i (hi : i < l.length), rd_T103 l (i : Nat) = l[i] := fun i hi => by simp [rd_T103, hi]
  have key : ∀ i, i < l.length → Ev (fun k => g k ((i + 1 : Nat) : Int)) (stopsGo (some (rd_T103 l (i : Nat))) (l.drop (i + 1)) && e) := by
    intro i hi
    have := up (p := fun i => i < l.length → Ev (fun k => g k ((i + 1 : Nat) : Int)) (stopsGo (some (rd_T103 l (i : Nat))) (l.drop (i + 1)) && e)) (l.length - 1) (fun hj => by
      rw [show l.length - 1 + 1 = l.length by omega, List.drop_length]
      refine ev_some fun k => ?_
      rw [he]; simp [stopsGo]) (fun j hj ih _ => by
      have hj1 : j + 1 < l.length := by omega
      rw [List.drop_eq_getElem_cons hj1]
      have h2 := hr (j + 1) hj1
      cases hP : stopGood (some (rd_T103 l (j : Nat))) (rd_T103 l ((j + 1 : Nat) : Int))
      · refine ev_some fun k => ?_
        rw [h k j hj1, hP]
        rw [h2] at hP
        simp [stopsGo, hP]
      · refine Ev.step (f := fun k => g k ((j + 1 + 1 : Nat) : Int)) (fun k => ?_) ?_
        · show g (k + 1) _ = _
          rw [h k j hj1, hP, if_pos rfl, wrap_id (by omega) (by omega)]; rfl
        · have := ih hj1
          rw [h2] at hP
          simp only [stopsGo, hP, Bool.true_and]
          rw [h2] at this
          exact this) i (by omega)
    exact this hi
  cases l with
  | nil => refine ev_some fun k => ?_; have := he k; simpa [stopsGo] using this
  | cons x xs =>
    have h1 := hr 0 (by simp)
    simp only [List.getElem_cons_zero] at h1
    cases hP : stopGood none x
    · refine ev_some fun k => ?_
      have := h0 k (by simp)
      rw [this, show rd_T103 (x :: xs) 0 = x from h1, hP]
      simp [stopsGo, hP]
    · refine Ev.step (f := fun k => g k ((0 + 1 : Nat) : Int)) (fun k => ?_) ?_
      · have := h0 k (by simp)
        show g (k + 1) 0 = _
        rw [this, show rd_T103 (x :: xs) 0 = x from h1, hP, if_pos rfl, wrap_id (by omega) (by omega)]; rfl
      · have := key 0 (by simp)
        rw [h1] at this
        simpa [stopsGo, hP] using this
theorem specStops (l : List S103) (hl : l.length ≤ 1048576) : Ev (fun k => spec_StopsGood.f k l) (stopsGood l) := by
  have h := stops_ev l hl true (fun k i => spec_StopsGood.l0 k l l l.length i) (fun k h0 => by
    show spec_StopsGood.l0 (k + 1) l l l.length 0 = _
    rw [spec_StopsGood.l0, if_pos (by omega), if_pos (by omega), if_pos (by omega), in_, specGoodTint]
    simp only [Option.bind_some, stopGood, if_neg (show ¬ (0 : Int) > 0 by omega), Bool.and_true]
    cases decide (0 ≤ (rd_T103 l 0).f0 ∧ (rd_T103 l 0).f0 ≤ 65536) <;> simp) (fun k i hi => by
    show spec_StopsGood.l0 (k + 1) l l l.length ((i + 1 : Nat) : Int) = _
    have e : wrap64 (((i + 1 : Nat) : Int) - 1) = (i : Int) := by rw [wrap_id (by omega) (by omega)]; omega
    rw [spec_StopsGood.l0, if_pos (by omega), if_pos (by omega), if_pos (by omega), in_, specGoodTint, e]
    simp only [Option.bind_some, stopGood, if_pos (show ((i + 1 : Nat) : Int) > 0 by omega), if_pos (show (0 : Int) ≤ (i : Int) by omega), if_pos (show (i : Int) < l.length by omega)]
    by_cases hA : 0 ≤ (rd_T103 l ((i + 1 : Nat) : Int)).f0 ∧ (rd_T103 l ((i + 1 : Nat) : Int)).f0 ≤ 65536
    case neg => simp only [decide_eq_false hA, Bool.false_and, Bool.false_eq_true, if_false]
    · simp only [decide_eq_true hA, if_true, Bool.true_and]
      cases goodTint (rd_T103 l ((i + 1 : Nat) : Int)).f1.f0 (rd_T103 l ((i + 1 : Nat) : Int)).f1.f1 (rd_T103 l ((i + 1 : Nat) : Int)).f1.f2 (rd_T103 l ((i + 1 : Nat) : Int)).f1.f3
      · simp
      · by_cases hc : (rd_T103 l (i : Nat)).f0 ≤ (rd_T103 l ((i + 1 : Nat) : Int)).f0
        · simp only [if_true, Bool.true_and, decide_eq_true hc, if_neg (show ¬ (rd_T103 l (i : Nat)).f0 > (rd_T103 l ((i + 1 : Nat) : Int)).f0 by omega)]
        · simp only [if_true, Bool.true_and, decide_eq_false hc, if_pos (show (rd_T103 l (i : Nat)).f0 > (rd_T103 l ((i + 1 : Nat) : Int)).f0 by omega)]; rfl) (fun k => by
    show spec_StopsGood.l0 (k + 1) l l _ _ = _
    rw [spec_StopsGood.l0, if_neg (by omega)])
  unfold spec_StopsGood.f stopsGood
  simp only [in_, Option.bind_some]
  cases decide (1 ≤ (l.length : Int) ∧ (l.length : Int) ≤ 8)
  · exact Ev.now _
  · simpa using h
theorem implStops (l : List S103) (hl : l.length ≤ 1048576) : Ev (fun k => impl_StopsGood.f k l) (stopsGood l) := by
  have h := stops_ev l hl (decide (1 ≤ (l.length : Int) ∧ (l.length : Int) ≤ 8)) (fun k i => impl_StopsGood.l0 k l l l.length i) (fun k h0 => by
    show impl_StopsGood.l0 (k + 1) l l l.length 0 = _
    rw [impl_StopsGood.l0, if_pos (by omega), if_pos (by omega), if_pos (by omega), within_, implGoodTint]
    simp only [Option.bind_some, stopGood, if_neg (show ¬ (0 : Int) > 0 by omega), Bool.and_true]
    cases decide (0 ≤ (rd_T103 l 0).f0 ∧ (rd_T103 l 0).f0 ≤ 65536) <;> simp) (fun k i hi => by
    show impl_StopsGood.l0 (k + 1) l l l.length ((i + 1 : Nat) : Int) = _
    have e : wrap64 (((i + 1 : Nat) : Int) - 1) = (i : Int) := by rw [wrap_id (by omega) (by omega)]; omega
    rw [impl_StopsGood.l0, if_pos (by omega), if_pos (by omega), if_pos (by omega), within_, implGoodTint, e]
    simp only [Option.bind_some, stopGood, if_pos (show ((i + 1 : Nat) : Int) > 0 by omega), if_pos (show (0 : Int) ≤ (i : Int) by omega), if_pos (show (i : Int) < l.length by omega)]
    by_cases hA : 0 ≤ (rd_T103 l ((i + 1 : Nat) : Int)).f0 ∧ (rd_T103 l ((i + 1 : Nat) : Int)).f0 ≤ 65536
    case neg => simp only [decide_eq_false hA, Bool.false_and, Bool.false_eq_true, if_false]
    · simp only [decide_eq_true hA, if_true, Bool.true_and]
      cases goodTint (rd_T103 l ((i + 1 : Nat) : Int)).f1.f0 (rd_T103 l ((i + 1 : Nat) : Int)).f1.f1 (rd_T103 l ((i + 1 : Nat) : Int)).f1.f2 (rd_T103 l ((i + 1 : Nat) : Int)).f1.f3
      · simp
      · by_cases hc : (rd_T103 l (i : Nat)).f0 ≤ (rd_T103 l ((i + 1 : Nat) : Int)).f0
        · simp only [if_true, Bool.true_and, decide_eq_true hc, if_neg (show ¬ (rd_T103 l ((i + 1 : Nat) : Int)).f0 < (rd_T103 l (i : Nat)).f0 by omega)]
        · simp only [if_true, Bool.true_and, decide_eq_false hc, if_pos (show (rd_T103 l ((i + 1 : Nat) : Int)).f0 < (rd_T103 l (i : Nat)).f0 by omega)]; rfl) (fun k => by
    show impl_StopsGood.l0 (k + 1) l l _ _ = _
    rw [impl_StopsGood.l0, if_neg (by omega), within_]
    simp only [Option.bind_some])
  unfold impl_StopsGood.f stopsGood
  rw [Bool.and_comm]
  exact h
end Go.Proofs.Ytiadieifofaobaa.HFnTints
/- Quotients rounded down, by the reference. -/
namespace Go.Proofs.Ytiadieifofaobaa.HFnTints
open Go.RowKit Go.Proofs.YtiadieifofaobaaW.PrintWords Go.Proofs.YtiadieifofaobaaW.PrintLast Go.Proofs.Ytiadieifofaobaa.Plain
set_option linter.unusedSimpArgs false
set_option linter.unusedVariables false
theorem specDown {a b : Int} (hb : 0 < b) (h0 : -9223372036854775807 ≤ a) (h1 : a ≤ 9223372036854775807) : spec_l1Down.f a b = some (a / b) := by
  unfold spec_l1Down.f
  have s := tdiv_small hb h0 h1
  rw [if_neg (by omega), wrap_id (n := Int.tdiv a b) (by omega) (by omega)]
  have e := down_num a hb
  rcases (by omega : 0 ≤ a ∨ a < 0) with h | h
  · have e1 : Int.tdiv a b = a / b := tdiv_nn h b
    have e2 : decide (a < 0) = decide (b < 0) := by rw [decide_eq_false (by omega), decide_eq_false (by omega)]
    rw [e2, if_neg (c := (decide (b < 0) != decide (b < 0)) = true) (by simp), e1]
    split <;> rfl
  · have e1 := (tdiv_neg_num h b).2
    have e0 := Int.emod_nonneg (-a) (by omega : b ≠ 0)
    rw [decide_eq_true h, decide_eq_false (by omega : ¬ b < 0), if_pos (c := (true != false) = true) rfl]
    split
    · rename_i hz
      rw [if_neg (by omega)] at e
      rw [e]
    · rename_i hz
      rw [if_pos (by omega)] at e
      have h2 := Int.ediv_nonneg (by omega : 0 ≤ -a) (by omega : 0 ≤ b)
      rw [wrap_id (by omega) (by omega), e]
end Go.Proofs.Ytiadieifofaobaa.HFnTints
/- Runs of tints: the tint at a place, by both sides. -/
namespace Go.Proofs.Ytiadieifofaobaa.HFnTints
open Go.RowKit Go.Proofs.YtiadieifofaobaaW.PrintWords Go.Proofs.YtiadieifofaobaaW.PrintLast Go.Proofs.Ytiadieifofaobaa.Plain
set_option linter.unusedSimpArgs false
set_option linter.unusedVariables false
def runLift (t : Int × Int × Int × Int) : Int × Int × Int × Int × Bool := (t.1, t.2.1, t.2.2.1, t.2.2.2, true)
theorem run_l0 : ∀ (k : Nat) (l : List S103) (p i : Int), impl_RunAt.l0 k l p i = (spec_l12Run.l0 k l p i).map runLift
  | 0, _, _, _ => rfl
  | k + 1, l, p, i => by
    simp only [impl_RunAt.l0, spec_l12Run.l0]
    by_cases h1 : 0 ≤ wrap64 (i + 1)
    case neg => simp only [if_neg h1]; rfl
    by_cases h2 : wrap64 (i + 1) < (l.length : Int)
    case neg => simp only [if_pos h1, if_neg h2]; rfl
    by_cases h3 : (rd_T103 l (wrap64 (i + 1))).f0 ≤ p
    · simp only [if_pos h1, if_pos h2, if_pos h3]; exact run_l0 k l p _
    by_cases h4 : 0 ≤ i
    case neg => simp only [if_pos h1, if_pos h2, if_neg h3, if_neg h4]; rfl
    by_cases h5 : i < (l.length : Int)
    case neg => simp only [if_pos h1, if_pos h2, if_neg h3, if_pos h4, if_neg h5]; rfl
    by_cases h6 : wrap64 ((rd_T103 l (wrap64 (i + 1))).f0 - (rd_T103 l i).f0) = 0
    · simp only [if_pos h1, if_pos h2, if_neg h3, if_pos h4, if_pos h5, if_pos h6]; rfl
    · simp only [if_pos h1, if_pos h2, if_neg h3, if_pos h4, if_pos h5, if_neg h6]; rfl
theorem run_g (k : Nat) (l : List S103) (p : Int) (h0 : 0 < l.length) (h1 : l.length ≤ 1048576) : impl_RunAt.g k l p = (spec_l12Run.j0 (k + 1) l p).map runLift := by
  have e : wrap64 ((l.length : Int) - 1) = (l.length : Int) - 1 := wrap_id (by omega) (by omega)
  unfold impl_RunAt.g
  rw [spec_l12Run.j0, e]
  simp only [if_pos (show 0 < (l.length : Int) by omega), if_pos (show 0 ≤ (l.length : Int) - 1 by omega), if_pos (show (l.length : Int) - 1 < (l.length : Int) by omega)]
  by_cases h2 : p ≤ (rd_T103 l 0).f0
  · simp only [if_pos h2]; rfl
  by_cases h3 : (rd_T103 l ((l.length : Int) - 1)).f0 ≤ p
  · simp only [if_neg h2, if_pos h3, if_pos (show p ≥ (rd_T103 l ((l.length : Int) - 1)).f0 from h3)]; rfl
  · simp only [if_neg h2, if_neg h3, if_neg (show ¬ p ≥ (rd_T103 l ((l.length : Int) - 1)).f0 from h3)]; exact run_l0 k l p 0
/-! ### what good stops are -/
theorem rdS (l : List S103) (i : Nat) (h : i < l.length) : rd_T103 l (i : Int) = l[i] := by simp [rd_T103, h]
theorem stopsGo_all : ∀ (l : List S103) (p : Option S103), stopsGo p l = true → (∀ x ∈ l, (0 ≤ x.f0 ∧ x.f0 ≤ 65536) ∧ goodTint x.f1.f0 x.f1.f1 x.f1.f2 x.f1.f3 = true)
  | [], _, _ => fun x hx => by cases hx
  | y :: l, p, h => by
    simp only [stopsGo, Bool.and_eq_true] at h
    intro x hx
    rcases List.mem_cons.1 hx with rfl | hx
    · have := h.1
      simp only [stopGood, Bool.and_eq_true, decide_eq_true_eq] at this
      exact ⟨this.1.1, this.1.2⟩
    · exact stopsGo_all l _ h.2 x hx
theorem mixIn {x y u v M : Int} (hx : 0 ≤ x) (hy : 0 ≤ y) (hx1 : x ≤ M) (hy1 : y ≤ M) (hu : 0 ≤ u) (hv : 0 ≤ v) (hn : 0 < u + v) : 0 ≤ (x * u + y * v) / (u + v) ∧ (x * u + y * v) / (u + v) ≤ M := by
  have a1 := Int.mul_nonneg hx hu
  have a2 := Int.mul_nonneg hy hv
  have b1 := Int.mul_le_mul_of_nonneg_right hx1 hu
  have b2 := Int.mul_le_mul_of_nonneg_right hy1 hv
  refine ⟨Int.ediv_nonneg (by omega) (by omega), Int.ediv_le_of_le_mul hn ?_⟩
  rw [Int.mul_add]
  omega
theorem mixLe {x y x' y' u v : Int} (hx : x ≤ x') (hy : y ≤ y') (hu : 0 ≤ u) (hv : 0 ≤ v) (hn : 0 < u + v) : (x * u + y * v) / (u + v) ≤ (x' * u + y' * v) / (u + v) := by
  have b1 := Int.mul_le_mul_of_nonneg_right hx hu
  have b2 := Int.mul_le_mul_of_nonneg_right hy hv
  exact Int.ediv_le_ediv hn (by omega)
/-- One number between two stops, by the wrapping sums. -/
def mixW (x y b a p : Int) : Int := wrap64 (Int.tdiv (wrap64 ((wrap64 (x * (wrap64 (b - p)))) + (wrap64 (y * (wrap64 (p - a)))))) (wrap64 (b - a)))
theorem mixW_eq {x y a b p : Int} (hx : 0 ≤ x) (hx1 : x ≤ 255) (hy : 0 ≤ y) (hy1 : y ≤ 255) (ha : 0 ≤ a) (hb : b ≤ 65536) (h1 : a ≤ p) (h2 : p < b) : mixW x y b a p = (x * (b - p) + y * (p - a)) / ((b - p) + (p - a)) := by
  have m1 : 0 ≤ x * (b - p) := Int.mul_nonneg hx (by omega)
  have m2 : 0 ≤ y * (p - a) := Int.mul_nonneg hy (by omega)
  have m3 : x * (b - p) ≤ 255 * 65536 := Int.mul_le_mul hx1 (by omega) (by omega) (by omega)
  have m4 : y * (p - a) ≤ 255 * 65536 := Int.mul_le_mul hy1 (by omega) (by omega) (by omega)
  have m5 := mixIn (M := 255) hx hy hx1 hy1 (show 0 ≤ b - p by omega) (show 0 ≤ p - a by omega) (by omega)
  unfold mixW
  rw [wrap_id (n := b - p) (by omega) (by omega), wrap_id (n := p - a) (by omega) (by omega), wrap_id (n := b - a) (by omega) (by omega), wrap_id (n := x * (b - p)) (by omega) (by omega), wrap_id (n := y * (p - a)) (by omega) (by omega), wrap_id (n := x * (b - p) + y * (p - a)) (by omega) (by omega), tdiv_nn (by omega)]
  rw [show b - a = (b - p) + (p - a) by omega]
  exact wrap_id (by omega) (by omega)
def goodT (t : Int × Int × Int × Int) : Prop := goodTint t.1 t.2.1 t.2.2.1 t.2.2.2 = true
theorem good_mix {r g b a r' g' b' a' A B p : Int} (h : goodTint r g b a = true) (h' : goodTint r' g' b' a' = true) (hA : 0 ≤ A) (hB : B ≤ 65536) (h1 : A ≤ p) (h2 : p < B) : goodT (mixW r r' B A p, mixW g g' B A p, mixW b b' B A p, mixW a a' B A p) := by
  simp only [goodTint, Bool.and_eq_true, decide_eq_true_eq] at h h'
  unfold goodT
  simp only []
  rw [mixW_eq (by omega) (by omega) (by omega) (by omega) hA hB h1 h2, mixW_eq (by omega) (by omega) (by omega) (by omega) hA hB h1 h2, mixW_eq (by omega) (by omega) (by omega) (by omega) hA hB h1 h2, mixW_eq (by omega) (by omega) (by omega) (by omega) hA hB h1 h2]
  have hu : 0 ≤ B - p := by omega
  have hv : 0 ≤ p - A := by omega
  have hn : 0 < (B - p) + (p - A) := by omega
  have i1 := mixIn (x := a) (y := a') (M := 255) (by omega) (by omega) (by omega) (by omega) hu hv hn
  have i2 := mixIn (x := r) (y := r') (M := 255) (by omega) (by omega) (by omega) (by omega) hu hv hn
  have i3 := mixIn (x := g) (y := g') (M := 255) (by omega) (by omega) (by omega) (by omega) hu hv hn
  have i4 := mixIn (x := b) (y := b') (M := 255) (by omega) (by omega) (by omega) (by omega) hu hv hn
  have l2 := mixLe (x := r) (y := r') (x' := a) (y' := a') (by omega) (by omega) hu hv hn
  have l3 := mixLe (x := g) (y := g') (x' := a) (y' := a') (by omega) (by omega) hu hv hn
  have l4 := mixLe (x := b) (y := b') (x' := a) (y' := a') (by omega) (by omega) hu hv hn
  simp only [goodTint, Bool.and_eq_true, decide_eq_true_eq]
  exact ⟨⟨⟨i1, i2.1, l2⟩, i3.1, l3⟩, i4.1, l4⟩
/-! ### the place is found -/
theorem run_found (l : List S103) (hl : l.length ≤ 1048576) (hg : ∀ x ∈ l, (0 ≤ x.f0 ∧ x.f0 ≤ 65536) ∧ goodTint x.f1.f0 x.f1.f1 x.f1.f2 x.f1.f3 = true) (p : Int) (hlast : ∀ i : Nat, i + 1 = l.length → p < (rd_T103 l (i : Nat)).f0) :
    ∀ (d i : Nat), i + 1 + d = l.length → (rd_T103 l (i : Nat)).f0 ≤ p → ∃ t, Ev (fun k => spec_l12Run.l0 k l p (i : Nat)) t ∧ goodT t
  | 0, i, hd, hp => absurd (hlast i (by omega)) (by omega)
  | d + 1, i, hd, hp => by
    have e : wrap64 (((i : Nat) : Int) + 1) = ((i + 1 : Nat) : Int) := by rw [wrap_id (by omega) (by omega)]; rfl
    by_cases h : (rd_T103 l ((i + 1 : Nat) : Int)).f0 ≤ p
    · obtain ⟨t, ht, hgt⟩ := run_found l hl hg p hlast d (i + 1) (by omega) h
      refine ⟨t, Ev.step (f := fun k => spec_l12Run.l0 k l p ((i + 1 : Nat) : Int)) (fun k => ?_) ht, hgt⟩
      show spec_l12Run.l0 (k + 1) l p _ = _
      rw [spec_l12Run.l0, e, if_pos (by omega), if_pos (by omega), if_pos h]
    · have g1 := hg _ (List.getElem_mem (show i < l.length by omega))
      have g2 := hg _ (List.getElem_mem (show i + 1 < l.length by omega))
      rw [← rdS l i (by omega)] at g1
      rw [← rdS l (i + 1) (by omega)] at g2
      refine ⟨_, ev_some fun k => ?_, good_mix g1.2 g2.2 g1.1.1 g2.1.2 hp (by omega)⟩
      rw [spec_l12Run.l0, e, if_pos (by omega), if_pos (by omega), if_neg h, if_pos (by omega), if_pos (by omega), if_neg (by rw [wrap_id (by omega) (by omega)]; omega)]
      rfl
theorem run_j0 (l : List S103) (hl : l.length ≤ 1048576) (hs : stopsGood l = true) (p : Int) : ∃ t, Ev (fun k => spec_l12Run.j0 k l p) t ∧ goodT t := by
  simp only [stopsGood, Bool.and_eq_true, decide_eq_true_eq] at hs
  have hg := stopsGo_all l none hs.2
  have h0 : 0 < l.length := by omega
  have e : wrap64 ((l.length : Int) - 1) = ((l.length - 1 : Nat) : Int) := by rw [wrap_id (by omega) (by omega)]; omega
  have z0 : rd_T103 l 0 = l[0] := rdS l 0 h0
  have g0 := hg _ (List.getElem_mem h0)
  have g1 := hg _ (List.getElem_mem (show l.length - 1 < l.length by omega))
  rw [← rdS l (l.length - 1) (by omega)] at g1
  rw [← z0] at g0
  by_cases h1 : p ≤ (rd_T103 l 0).f0
  · refine ⟨((rd_T103 l 0).f1.f0, (rd_T103 l 0).f1.f1, (rd_T103 l 0).f1.f2, (rd_T103 l 0).f1.f3), ev_some fun k => ?_, g0.2⟩
    rw [spec_l12Run.j0, if_pos (by omega), if_pos h1]
  by_cases h2 : p ≥ (rd_T103 l ((l.length - 1 : Nat) : Int)).f0
  · refine ⟨((rd_T103 l ((l.length - 1 : Nat) : Int)).f1.f0, (rd_T103 l ((l.length - 1 : Nat) : Int)).f1.f1, (rd_T103 l ((l.length - 1 : Nat) : Int)).f1.f2, (rd_T103 l ((l.length - 1 : Nat) : Int)).f1.f3), ev_some fun k => ?_, g1.2⟩
    rw [spec_l12Run.j0, if_pos (by omega), if_neg h1, e, if_pos (by omega), if_pos (by omega), if_pos h2]
  · obtain ⟨t, ht, hgt⟩ := run_found l hl hg p (fun i hi => by rw [show i = l.length - 1 by omega]; omega) (l.length - 1) 0 (by omega) (by show (rd_T103 l 0).f0 ≤ p; omega)
    refine ⟨t, Ev.step (f := fun k => spec_l12Run.l0 k l p ((0 : Nat) : Int)) (fun k => ?_) ht, hgt⟩
    show spec_l12Run.j0 (k + 1) l p = _
    rw [spec_l12Run.j0, if_pos (by omega), if_neg h1, e, if_pos (by omega), if_pos (by omega), if_neg h2]; rfl
/-! ### places, by both sides -/
theorem tmod_em (a b : Int) : Int.tmod a b = if 0 ≤ a then a % b else -((-a) % b) := by
  split
  · exact tmod_nn (by assumption) b
  · exact (tdiv_neg_num (by omega) b).2
theorem spec_mod {a b : Int} (h0 : -1099511627776 ≤ a) (h1 : a ≤ 1099511627776) (hb : 0 < b) (hb1 : b ≤ 131072) : spec_l1Mod.f a b = some (a % b) := by
  unfold spec_l1Mod.f
  rw [specDown hb (by omega) (by omega), Option.bind_some]
  have e := Int.mul_ediv_add_emod a b
  have m0 := Int.emod_nonneg a (show b ≠ 0 by omega)
  have m1 := Int.emod_lt_of_pos a hb
  generalize hq : b * (a / b) = q at e
  rw [wrap_id (n := q) (by omega) (by omega), wrap_id (by omega) (by omega)]
  congr 1
  omega
theorem impl_mod1 {a : Int} (h0 : -1099511627776 ≤ a) (h1 : a ≤ 1099511627776) : Int.tmod (wrap64 ((Int.tmod a 65536) + 65536)) 65536 = a % 65536 := by
  have e := tmod_em a 65536
  have hb : -65536 < Int.tmod a 65536 ∧ Int.tmod a 65536 < 65536 := by rw [e]; split <;> omega
  rw [wrap_id (by omega) (by omega), tmod_nn (by omega), e]
  split <;> omega
theorem impl_mod2 {a : Int} (h0 : -1099511627776 ≤ a) (h1 : a ≤ 1099511627776) : Int.tmod (wrap64 ((Int.tmod a 131072) + 131072)) 131072 = a % 131072 := by
  have e := tmod_em a 131072
  have hb : -131072 < Int.tmod a 131072 ∧ Int.tmod a 131072 < 131072 := by rw [e]; split <;> omega
  rw [wrap_id (by omega) (by omega), tmod_nn (by omega), e]
  split <;> omega
theorem run_place {a s : Int} (h0 : -1099511627776 ≤ a) (h1 : a ≤ 1099511627776) (hs : 1 ≤ s ∧ s ≤ 3) (k : Nat) (l : List S103) : spec_l12Run.f k l a s = spec_l12Run.j0 k l (runPlace s a) := by
  unfold spec_l12Run.f runPlace
  rw [spec_mod h0 h1 (by decide) (by decide), spec_mod h0 h1 (by decide) (by decide), impl_mod1 h0 h1, impl_mod2 h0 h1]
  simp only [Option.bind_some]
  by_cases s2 : s = 2
  · rw [if_pos s2, if_neg (show ¬ s = 1 by omega), if_pos s2]
  by_cases s3 : s = 3
  · rw [if_neg s2, if_pos s3, if_neg (show ¬ s = 1 by omega), if_neg s2]
    by_cases h : a % 131072 ≥ 65536
    · rw [if_pos h, if_pos h]
    · rw [if_neg h, if_neg h]
  · rw [if_neg s2, if_neg s3, if_pos (show s = 1 by omega)]
    by_cases n1 : a < 0
    · rw [if_pos n1, if_neg (by decide)]
      congr 1
      unfold mx mn; omega
    · rw [if_neg n1]
      by_cases n2 : a > 65536
      · rw [if_pos n2]; congr 1; unfold mx mn; omega
      · rw [if_neg n2]; congr 1; unfold mx mn; omega
def zeroT : Int × Int × Int × Int × Bool := (0, 0, 0, 0, false)
/-- Both sides answer alike, and what they answer with is a tint. -/
theorem run_both (l : List S103) (hl : l.length ≤ 1048576) (a s : Int) : ∃ r : Int × Int × Int × Int × Bool, Ev (fun k => spec_RunAt.f k l a s) r ∧ Ev (fun k => impl_RunAt.f k l a s) r ∧ (r.2.2.2.2 = true → goodTint r.1 r.2.1 r.2.2.1 r.2.2.2.1 = true) := by
  have sS := specStops l hl
  have iS := implStops l hl
  have hno : ∀ x : Int × Int × Int × Int × Bool, x = zeroT → (x.2.2.2.2 = true → goodTint x.1 x.2.1 x.2.2.1 x.2.2.2.1 = true) := fun x hx h => by subst hx; simp [zeroT] at h
  cases hS : stopsGood l
  · rw [hS] at sS iS
    refine ⟨zeroT, ?_, ?_, hno _ rfl⟩
    · unfold spec_RunAt.f; refine Ev.bind sS ?_; exact Ev.now _
    · unfold impl_RunAt.f; refine Ev.bind iS ?_; exact Ev.now _
  rw [hS] at sS iS
  have gf : impl_GoodFixed.f a = some (decide (-1099511627776 ≤ a ∧ a ≤ 1099511627776)) := by unfold impl_GoodFixed.f; rw [within_]; rfl
  have gs : spec_GoodFixed.f a = some (decide (-1099511627776 ≤ a ∧ a ≤ 1099511627776)) := by unfold spec_GoodFixed.f; rw [in_]; rfl
  by_cases hA : -1099511627776 ≤ a ∧ a ≤ 1099511627776
  case neg =>
    rw [decide_eq_false hA] at gf gs
    refine ⟨zeroT, ?_, ?_, hno _ rfl⟩
    · unfold spec_RunAt.f; refine Ev.bind sS ?_; simp only [if_true, gs, Option.bind_some, Bool.false_eq_true, if_false]; exact Ev.now _
    · unfold impl_RunAt.f; refine Ev.bind iS ?_; simp only [if_true, gf, Option.bind_some, Bool.false_eq_true, if_false]; exact Ev.now _
  rw [decide_eq_true hA] at gf gs
  by_cases hs : 1 ≤ s ∧ s ≤ 3
  case neg =>
    refine ⟨zeroT, ?_, ?_, hno _ rfl⟩
    · unfold spec_RunAt.f; refine Ev.bind sS ?_; simp only [if_true, gs, Option.bind_some, in_, decide_eq_false hs, Bool.false_eq_true, if_false]; exact Ev.now _
    · unfold impl_RunAt.f; refine Ev.bind iS ?_; simp only [if_true, gf, Option.bind_some, within_, decide_eq_false hs, Bool.false_eq_true, if_false]; exact Ev.now _
  obtain ⟨t, ht, hg⟩ := run_j0 l hl hS (runPlace s a)
  have h0 : 0 < l.length := by
    simp only [stopsGood, Bool.and_eq_true, decide_eq_true_eq] at hS
    omega
  refine ⟨runLift t, ?_, ?_, fun _ => hg⟩
  · unfold spec_RunAt.f
    refine Ev.bind sS ?_
    simp only [if_true, gs, Option.bind_some, in_, decide_eq_true hs, run_place hA.1 hA.2 hs]
    exact Ev.bind ht (Ev.now _)
  · unfold impl_RunAt.f
    refine Ev.bind iS ?_
    simp only [if_true, gf, Option.bind_some, within_, decide_eq_true hs]
    obtain ⟨n, hn⟩ := ht
    refine ⟨n, fun k hk => ?_⟩
    have := hn (k + 1) (by omega)
    simp only [] at this
    show impl_RunAt.g k l (runPlace s a) = _
    rw [run_g k l _ h0 hl, this]; rfl
end Go.Proofs.Ytiadieifofaobaa.HFnTints
/- A tint over another one, by both sides. -/
namespace Go.Proofs.Ytiadieifofaobaa.HFnTints
open Go.RowKit Go.Proofs.YtiadieifofaobaaW.PrintWords Go.Proofs.YtiadieifofaobaaW.PrintLast Go.Proofs.Ytiadieifofaobaa.Plain
set_option linter.unusedSimpArgs false
set_option linter.unusedVariables false
/-- One number of a tint over another one. -/
def over1 (x y a : Int) : Int := x + (y * (255 - a) + 127) / 255
theorem over1_wrap {x y a : Int} (hx : 0 ≤ x) (hx1 : x ≤ 255) (hy : 0 ≤ y) (hy1 : y ≤ 255) (ha : 0 ≤ a) (ha1 : a ≤ 255) :
    wrap64 (x + (wrap64 (Int.tdiv (wrap64 ((wrap64 (y * (wrap64 (255 - a)))) + 127)) 255))) = over1 x y a := by
  have h1 : 0 ≤ y * (255 - a) := Int.mul_nonneg hy (by omega)
  have h2 : y * (255 - a) ≤ 255 * 255 := Int.mul_le_mul (by omega) (by omega) (by omega) (by omega)
  rw [wrap_id (n := 255 - a) (by omega) (by omega), wrap_id (n := y * (255 - a)) (by omega) (by omega), wrap_id (n := y * (255 - a) + 127) (by omega) (by omega), tdiv_nn (by omega), wrap_id (n := (y * (255 - a) + 127) / 255) (by omega) (by omega), wrap_id (by omega) (by omega)]
  rfl
theorem good_of {r g b a : Int} (h : goodTint r g b a = true) : (0 ≤ a ∧ a ≤ 255) ∧ (0 ≤ r ∧ r ≤ a) ∧ (0 ≤ g ∧ g ≤ a) ∧ 0 ≤ b ∧ b ≤ a := by
  simp only [goodTint, Bool.and_eq_true, decide_eq_true_eq] at h
  exact ⟨h.1.1.1, h.1.1.2, h.1.2, h.2⟩
def overTint (r g b a r' g' b' a' : Int) : Int × Int × Int × Int × Bool := if goodTint r g b a = true then (if goodTint r' g' b' a' = true then (over1 r r' a, over1 g g' a, over1 b b' a, over1 a a' a, true) else (0, 0, 0, 0, false)) else (0, 0, 0, 0, false)
theorem specOver (r g b a r' g' b' a' : Int) : spec_OverTint.f r g b a r' g' b' a' = some (overTint r g b a r' g' b' a') := by
  unfold spec_OverTint.f overTint
  simp only [specGoodTint, Option.bind_some]
  cases h1 : goodTint r g b a
  · rfl
  cases h2 : goodTint r' g' b' a'
  · rfl
  have g1 := good_of h1
  have g2 := good_of h2
  simp only [if_true, spec_l12Over.f, Option.bind_some]
  rw [over1_wrap (by omega) (by omega) (by omega) (by omega) (by omega) (by omega), over1_wrap (by omega) (by omega) (by omega) (by omega) (by omega) (by omega), over1_wrap (by omega) (by omega) (by omega) (by omega) (by omega) (by omega), over1_wrap (by omega) (by omega) (by omega) (by omega) (by omega) (by omega)]
theorem implOver (r g b a r' g' b' a' : Int) : impl_OverTint.f r g b a r' g' b' a' = some (overTint r g b a r' g' b' a') := by
  unfold impl_OverTint.f overTint
  simp only [implGoodTint, Option.bind_some]
  cases h1 : goodTint r g b a
  · rfl
  cases h2 : goodTint r' g' b' a'
  · rfl
  rfl
end Go.Proofs.Ytiadieifofaobaa.HFnTints
/- Loops whose rounds run inner loops. -/
namespace Go.Proofs.Ytiadieifofaobaa.Plain
open Go.RowKit Go.Proofs.YtiadieifofaobaaW.PrintWords Go.Proofs.YtiadieifofaobaaW.PrintLast
set_option linter.unusedVariables false
end Go.Proofs.Ytiadieifofaobaa.Plain
/- Draws: they always tell something, and move on. -/
namespace Go.Proofs.Ytiadieifofaobaa.HFnTints
open Go.RowKit Go.Proofs.YtiadieifofaobaaW.PrintWords Go.Proofs.YtiadieifofaobaaW.PrintLast Go.Proofs.Ytiadieifofaobaa.Plain
set_option linter.unusedSimpArgs false
set_option linter.unusedVariables false
/-- A text of bytes. -/
def Bytes (c : List Int) : Prop := (∀ x ∈ c, 0 ≤ x ∧ x ≤ 255) ∧ c.length ≤ 140737488351232
theorem byte_rd {c : List Int} (hc : Bytes c) {i : Int} (h0 : 0 ≤ i) (h1 : i < c.length) : 0 ≤ rd c i ∧ rd c i ≤ 255 := by
  obtain ⟨n, rfl⟩ := Int.eq_ofNat_of_zero_le h0
  have hn : n < c.length := by omega
  have e : rd c ((n : Nat) : Int) = c[n] := rd_nat c n hn
  show 0 ≤ rd c ((n : Nat) : Int) ∧ rd c ((n : Nat) : Int) ≤ 255
  rw [e]
  exact hc.1 _ (List.getElem_mem hn)
theorem low8 (z : Int) : 0 ≤ Go.bits .and .u64 (IntKind.u64.wrap z / 1099511627776) 255 ∧ Go.bits .and .u64 (IntKind.u64.wrap z / 1099511627776) 255 ≤ 255 := by
  have hw : 0 ≤ IntKind.u64.wrap z ∧ IntKind.u64.wrap z < 18446744073709551616 := by rw [IntKind.wrap_u64]; omega
  rw [u64_and _ _ (by omega) (by omega) (by omega) (by omega)]
  have := @Nat.and_le_right (IntKind.u64.wrap z / 1099511627776).toNat (255 : Int).toNat
  have e : (255 : Int).toNat = 255 := rfl
  rw [e] at this ⊢
  omega
/-- A draw's place. -/
def At (a : Int) (n : Int) : Prop := 0 ≤ a ∧ a ≤ n
theorem at_le {a n m : Int} (h : At a n) (hm : n ≤ m) : At a m := ⟨h.1, Int.le_trans h.2 hm⟩
theorem next_ {c : List Int} (hc : Bytes c) {a n : Int} (s : Int) (ha : At a n) (hn : n ≤ 4611686018427387904) : ∃ r a' s', spec_l1Cur_next.f c a s = some (r, a', s') ∧ (0 ≤ r ∧ r ≤ 255) ∧ At a' (n + 1) := by
  have hw : wrap64 (a + 1) = a + 1 := wrap_id (by have := ha.1; omega) (by have := ha.2; omega)
  have h0 := ha.1
  have h2 := ha.2
  unfold spec_l1Cur_next.f
  rw [hw]
  by_cases h : a < c.length
  · have hb := byte_rd hc h0 h
    rw [if_pos h, if_pos h0]
    have hr : wrap64 (rd c a) = rd c a := wrap_id (by omega) (by omega)
    by_cases h1 : a + 1 ≤ (c.length : Int)
    · rw [if_pos h1]
      exact ⟨_, _, _, rfl, by rw [hr]; exact hb, ⟨by omega, by omega⟩⟩
    · rw [if_neg h1]
      have l8 := low8 ((IntKind.u64.wrap ((IntKind.u64.wrap (s * 6364136223846793005)) + (IntKind.u64.wrap (wrap64 (rd c a))))) + 1442695040888963407)
      exact ⟨_, _, _, rfl, by rw [wrap_id (by omega) (by omega)]; exact l8, ⟨by omega, by omega⟩⟩
  · rw [if_neg h]
    by_cases h1 : a + 1 ≤ (c.length : Int)
    · rw [if_pos h1]
      exact ⟨_, _, _, rfl, by omega, ⟨by omega, by omega⟩⟩
    · rw [if_neg h1]
      have l8 := low8 ((IntKind.u64.wrap (IntKind.u64.wrap (s * 6364136223846793005))) + 1442695040888963407)
      exact ⟨_, _, _, rfl, by rw [wrap_id (by omega) (by omega)]; exact l8, ⟨by omega, by omega⟩⟩
theorem tmod_in {x n : Int} (h0 : 0 ≤ x) (hn : 0 < n) : 0 ≤ Int.tmod x n ∧ Int.tmod x n < n := by
  rw [tmod_nn h0]
  exact ⟨Int.emod_nonneg _ (by omega), Int.emod_lt_of_pos _ hn⟩
theorem pick_ {c : List Int} (hc : Bytes c) {a n : Int} (s m : Int) (ha : At a n) (hn : n ≤ 4611686018427387000) : ∃ r a' s', spec_l1Cur_pick.f c a s m = some (r, a', s') ∧ (0 ≤ r ∧ (0 < m → r < m)) ∧ At a' (n + 2) := by
  unfold spec_l1Cur_pick.f
  by_cases h1 : m ≤ 1
  · rw [if_pos h1]
    exact ⟨_, _, _, rfl, ⟨by omega, by omega⟩, at_le ha (by omega)⟩
  · rw [if_neg h1]
    obtain ⟨r, a1, s1, e1, hr, ha1⟩ := next_ hc s ha (by omega)
    rw [e1, Option.bind_some]
    by_cases h2 : m > 200
    · obtain ⟨q, a2, s2, e2, hq, ha2⟩ := next_ hc s1 ha1 (by omega)
      rw [if_pos h2]
      simp only []
      rw [e2, Option.bind_some, if_neg (by omega), wrap_id (n := r * 256) (by omega) (by omega), wrap_id (n := r * 256 + q) (by omega) (by omega)]
      have ht := tmod_in (x := r * 256 + q) (n := m) (by omega) (by omega)
      exact ⟨_, _, _, rfl, ⟨ht.1, fun _ => ht.2⟩, at_le ha2 (by omega)⟩
    · rw [if_neg h2, if_neg (by omega)]
      have ht := tmod_in (x := r) (n := m) (by omega) (by omega)
      exact ⟨_, _, _, rfl, ⟨ht.1, fun _ => ht.2⟩, at_le ha1 (by omega)⟩
theorem one_ {c : List Int} (hc : Bytes c) {a n : Int} (s m : Int) (ha : At a n) (hn : n ≤ 4611686018427387000) : ∃ r a' s', spec_l1Cur_one.f c a s m = some (r, a', s') ∧ At a' (n + 2) := by
  obtain ⟨r, a1, s1, e1, hr, ha1⟩ := pick_ hc s m ha hn
  unfold spec_l1Cur_one.f
  rw [e1, Option.bind_some]
  exact ⟨_, _, _, rfl, ha1⟩
end Go.Proofs.Ytiadieifofaobaa.HFnTints
/- One of some numbers is drawn. -/
namespace Go.Proofs.Ytiadieifofaobaa.HFnTints
open Go.RowKit Go.Proofs.YtiadieifofaobaaW.PrintWords Go.Proofs.YtiadieifofaobaaW.PrintLast Go.Proofs.Ytiadieifofaobaa.Plain
set_option linter.unusedSimpArgs false
set_option linter.unusedVariables false
theorem among_ {c : List Int} (hc : Bytes c) {a n : Int} (s : Int) (l : List Int) (hl : l ≠ []) (ha : At a n) (hn : n ≤ 4611686018427387000) : ∃ r a' s', spec_l1Cur_among.f c a s l = some (r, a', s') ∧ r ∈ l ∧ At a' (n + 2) := by
  obtain ⟨r, a1, s1, e1, hr, ha1⟩ := pick_ hc s (l.length : Int) ha hn
  have hp : 0 < l.length := List.length_pos_iff.2 hl
  have hr1 := hr.2 (by omega)
  unfold spec_l1Cur_among.f
  rw [e1, Option.bind_some, if_pos hr.1, if_pos hr1]
  refine ⟨_, _, _, rfl, ?_, ha1⟩
  obtain ⟨i, rfl⟩ := Int.eq_ofNat_of_zero_le hr.1
  have hi : i < l.length := by omega
  have e : rd l ((i : Nat) : Int) = l[i] := rd_nat l i hi
  show rd l ((i : Nat) : Int) ∈ l
  rw [e]
  exact List.getElem_mem hi
end Go.Proofs.Ytiadieifofaobaa.HFnTints
/- Fixed numbers are drawn: a draw always tells something. -/
namespace Go.Proofs.Ytiadieifofaobaa.HFnTints
open Go.RowKit Go.Proofs.YtiadieifofaobaaW.PrintWords Go.Proofs.YtiadieifofaobaaW.PrintLast Go.Proofs.Ytiadieifofaobaa.Plain
set_option linter.unusedSimpArgs false
set_option linter.unusedVariables false
theorem wide_draw {c : List Int} (hc : Bytes c) {n : Int} (hn : n ≤ 4611686018427380000) : ∀ (d : Nat) (x i a s : Int), i = 8 - d → d ≤ 8 → At a (n + i) → ∃ r a' s', Ev (fun k => spec_l1Cur_wide.l0 k x i c a s) (r, a', s') ∧ At a' (n + 8) := by
  intro d
  induction d with
  | zero =>
    intro x i a s hi _ ha
    exact ⟨x, a, s, ev_some fun k => by rw [spec_l1Cur_wide.l0, if_neg (by omega)], at_le ha (by omega)⟩
  | succ d ih =>
    intro x i a s hi hd ha
    obtain ⟨r, a1, s1, e1, hr, ha1⟩ := next_ hc s ha (by omega)
    obtain ⟨r', a', s', h1, h2⟩ := ih (Go.bits .or .i64 (wrap64 (x * 256)) r) (i + 1) a1 s1 (by omega) (by omega) (at_le ha1 (by omega))
    refine ⟨r', a', s', Ev.step (f := fun k => spec_l1Cur_wide.l0 k (Go.bits .or .i64 (wrap64 (x * 256)) r) (i + 1) c a1 s1) (fun k => ?_) h1, h2⟩
    rw [spec_l1Cur_wide.l0, if_pos (by omega), e1, Option.bind_some, wrap_id (n := i + 1) (by omega) (by omega)]
theorem fixed_draw {c : List Int} (hc : Bytes c) {a n : Int} (s : Int) (ha : At a n) (hn : n ≤ 4611686018427300000) : ∃ r a' s', Ev (fun k => spec_l1Cur_fixed.f k c a s) (r, a', s') ∧ At a' (n + 100) := by
  obtain ⟨p, a1, s1, e1, hp, ha1⟩ := pick_ hc s 7 ha (by omega)
  unfold spec_l1Cur_fixed.f
  simp only [e1, Option.bind_some]
  by_cases h0 : p = 0
  · obtain ⟨r, a2, s2, e2, _, ha2⟩ := among_ hc s1 [0, 65536, (-65536), 1099511627776, (-1099511627776), 1, (-1)] (by simp) ha1 (by omega)
    simp only [if_pos h0, e2, Option.bind_some]
    exact ⟨_, _, _, Ev.now _, at_le ha2 (by omega)⟩
  simp only [if_neg h0]
  by_cases h1 : p = 1
  · obtain ⟨r, a2, s2, e2, ha2⟩ := wide_draw hc (n := n + 2) (by omega) 8 0 0 a1 s1 (by omega) (by omega) (at_le ha1 (by omega))
    simp only [if_pos h1]
    exact ⟨Int.tmod r 1099511627777, a2, s2, Ev.bind (g := fun k => spec_l1Cur_wide.f k c a1 s1) (a := (r, a2, s2)) e2 (Ev.now _), at_le ha2 (by omega)⟩
  simp only [if_neg h1]
  by_cases h2 : p = 2
  · obtain ⟨r, a2, s2, e2, _, ha2⟩ := pick_ hc s1 65536 ha1 (by omega)
    simp only [if_pos h2, e2, Option.bind_some]
    exact ⟨_, _, _, Ev.now _, at_le ha2 (by omega)⟩
  simp only [if_neg h2]
  obtain ⟨r, a2, s2, e2, _, ha2⟩ := pick_ hc s1 41 ha1 (by omega)
  obtain ⟨q, a3, s3, e3, hq, ha3⟩ := among_ hc s2 [1, 2, 3, 4, 7] (by simp) ha2 (by omega)
  obtain ⟨t, a4, s4, e4, _, ha4⟩ := pick_ hc s3 3 ha3 (by omega)
  obtain ⟨b, a5, s5, e5, ha5⟩ := one_ hc s4 60 ha4 (by omega)
  have hq0 : q ≠ 0 := by simp at hq; omega
  simp only [e2, Option.bind_some, e3, if_neg hq0, e4, e5]
  cases b with
  | false => exact ⟨_, _, _, Ev.now _, at_le ha5 (by omega)⟩
  | true =>
    obtain ⟨z, a6, s6, e6, _, ha6⟩ := among_ hc s5 [1099511627777, (-1099511627777), 9223372036854775807, (-9223372036854775808)] (by simp) ha5 (by omega)
    simp only [if_true, e6, Option.bind_some]
    exact ⟨_, _, _, Ev.now _, at_le ha6 (by omega)⟩
end Go.Proofs.Ytiadieifofaobaa.HFnTints
/- Tints and stops are drawn: a draw always tells something. -/
namespace Go.Proofs.Ytiadieifofaobaa.HFnTints
open Go.RowKit Go.Proofs.YtiadieifofaobaaW.PrintWords Go.Proofs.YtiadieifofaobaaW.PrintLast Go.Proofs.Ytiadieifofaobaa.Plain
set_option linter.unusedSimpArgs false
set_option linter.unusedVariables false
theorem tint_draw {c : List Int} (hc : Bytes c) {a n : Int} (s : Int) (ha : At a n) (hn : n ≤ 4611686018427300000) : ∃ r1 r2 r3 r4 a' s', spec_l1Cur_tint.f c a s = some (r1, r2, r3, r4, a', s') ∧ At a' (n + 12) := by
  unfold spec_l1Cur_tint.f
  obtain ⟨t, a1, s1, e1, _, h1⟩ := among_ hc s [0, 255, 128, 1, 254, 77] (by simp) ha (by omega)
  rw [e1, Option.bind_some]
  obtain ⟨p, a2, s2, e2, _, h2⟩ := pick_ hc s1 (wrap64 (t + 1)) h1 (by omega)
  simp only [e2, Option.bind_some]
  obtain ⟨q, a3, s3, e3, _, h3⟩ := pick_ hc s2 (wrap64 (t + 1)) h2 (by omega)
  simp only [e3, Option.bind_some]
  obtain ⟨r, a4, s4, e4, _, h4⟩ := pick_ hc s3 (wrap64 (t + 1)) h3 (by omega)
  simp only [e4, Option.bind_some]
  obtain ⟨b, a5, s5, e5, h5⟩ := one_ hc s4 60 h4 (by omega)
  simp only [e5, Option.bind_some]
  cases b with
  | false => exact ⟨_, _, _, _, _, _, rfl, at_le h5 (by omega)⟩
  | true =>
    obtain ⟨z, a6, s6, e6, _, h6⟩ := among_ hc s5 [(-1), wrap64 (t + 1), 256] (by simp) h5 (by omega)
    simp only [if_true, e6, Option.bind_some]
    exact ⟨_, _, _, _, _, _, rfl, at_le h6 (by omega)⟩
theorem stops0 {c : List Int} (hc : Bytes c) : ∀ (d : Nat) (acc : List S103) (m a s : Int), acc.length + d ≤ 20 → At a (2000 - 20 * d) → ∃ r a' s', Ev (fun k => spec_l1Cur_stops.l0 k acc m d c a s) (r, a', s') ∧ r.length ≤ 20 ∧ At a' 2100 := by
  intro d
  induction d with
  | zero =>
    intro acc m a s hl ha
    obtain ⟨b, a1, s1, e1, h1⟩ := one_ hc s 40 ha (by omega)
    cases b with
    | false => exact ⟨acc, a1, s1, ev_some fun k => by rw [spec_l1Cur_stops.l0, if_neg (by omega), e1]; rfl, by omega, at_le h1 (by omega)⟩
    | true =>
      by_cases hp : (acc.length : Int) > 0
      · obtain ⟨z, a2, s2, e2, _, h2⟩ := among_ hc s1 [(-1), 65537, 65536] (by simp) h1 (by omega)
        exact ⟨_, a2, s2, ev_some fun k => by rw [spec_l1Cur_stops.l0, if_neg (by omega), e1, Option.bind_some, if_pos rfl, if_pos hp, e2, Option.bind_some, if_pos (by omega)], by rw [List.length_set]; omega, at_le h2 (by omega)⟩
      · exact ⟨acc, a1, s1, ev_some fun k => by rw [spec_l1Cur_stops.l0, if_neg (by omega), e1, Option.bind_some, if_pos rfl, if_neg hp], by omega, at_le h1 (by omega)⟩
  | succ d ih =>
    intro acc m a s hl ha
    have w : wrap64 (((d + 1 : Nat) : Int) - 1) = (d : Int) := by rw [wrap_id (by omega) (by omega)]; omega
    obtain ⟨p, a1, s1, e1, _, h1⟩ := pick_ hc s 4 ha (by omega)
    obtain ⟨t1, t2, t3, t4, a2, s2, e2, h2⟩ := tint_draw hc s1 h1 (by omega)
    by_cases hm : wrap64 (m + (wrap64 (p * 8192))) > 65536
    · obtain ⟨r, a', s', h3, h4, h5⟩ := ih (acc ++ [(⟨65536, (⟨t1, t2, t3, t4⟩ : S25)⟩ : S103)]) 65536 a2 s2 (by simp; omega) (at_le h2 (by omega))
      refine ⟨r, a', s', Ev.step (fun k => ?_) h3, h4, h5⟩
      show spec_l1Cur_stops.l0 (k + 1) _ _ _ _ _ _ = _
      rw [spec_l1Cur_stops.l0, if_pos (by omega), e1, Option.bind_some, if_pos hm, e2, Option.bind_some, if_pos (by omega), w]
    · obtain ⟨r, a', s', h3, h4, h5⟩ := ih (acc ++ [(⟨wrap64 (m + (wrap64 (p * 8192))), (⟨t1, t2, t3, t4⟩ : S25)⟩ : S103)]) (wrap64 (m + (wrap64 (p * 8192)))) a2 s2 (by simp; omega) (at_le h2 (by omega))
      refine ⟨r, a', s', Ev.step (fun k => ?_) h3, h4, h5⟩
      show spec_l1Cur_stops.l0 (k + 1) _ _ _ _ _ _ = _
      rw [spec_l1Cur_stops.l0, if_pos (by omega), e1, Option.bind_some, if_neg hm, e2, Option.bind_some, if_pos (by omega), w]
theorem stops_draw {c : List Int} (hc : Bytes c) {a : Int} (s : Int) (ha : At a 500) : ∃ r a' s', Ev (fun k => spec_l1Cur_stops.f k c a s) (r, a', s') ∧ r.length ≤ 20 ∧ At a' 2100 := by
  unfold spec_l1Cur_stops.f
  obtain ⟨p, a1, s1, e1, hp, h1⟩ := pick_ hc s 4 ha (by omega)
  obtain ⟨b, a2, s2, e2, h2⟩ := one_ hc s1 30 h1 (by omega)
  have hp2 := hp.2 (by omega)
  simp only [e1, Option.bind_some, e2]
  cases b with
  | false =>
    obtain ⟨d, rfl⟩ := Int.eq_ofNat_of_zero_le hp.1
    simp only [Bool.false_eq_true, if_false]
    rw [show wrap64 (1 + (d : Int)) = ((1 + d : Nat) : Int) by rw [wrap_id (by omega) (by omega)]; omega]
    obtain ⟨r, a', s', h3, h4, h5⟩ := stops0 hc (1 + d) [] 0 a2 s2 (by simp; omega) (at_le h2 (by omega))
    exact ⟨r, a', s', Ev.step (fun k => by rw [spec_l1Cur_stops.j0]) h3, h4, h5⟩
  | true =>
    obtain ⟨z, a3, s3, e3, hz, h3⟩ := among_ hc s2 [0, 8, 9] (by simp) h2 (by omega)
    simp only [if_true, e3, Option.bind_some]
    obtain ⟨d, rfl⟩ : ∃ d : Nat, z = (d : Int) := Int.eq_ofNat_of_zero_le (by simp at hz; omega)
    have hd : d ≤ 9 := by simp at hz; omega
    obtain ⟨r, a', s', h4, h5, h6⟩ := stops0 hc d [] 0 a3 s3 (by simp; omega) (at_le h3 (by omega))
    exact ⟨r, a', s', Ev.step (fun k => by rw [spec_l1Cur_stops.j0]) h4, h5, h6⟩
theorem run_draw0 {c : List Int} (hc : Bytes c) (x : Int) {a : Int} (s : Int) (ha : At a 400) : ∃ r q t, Ev (fun k => spec_DrawRunAt.j0 k x c a s) (r, q, t) ∧ r.length ≤ 20 := by
  obtain ⟨p, a1, s1, e1, hp, h1⟩ := pick_ hc s 3 ha (by omega)
  obtain ⟨b, a2, s2, e2, h2⟩ := one_ hc s1 30 h1 (by omega)
  cases b with
  | false =>
    obtain ⟨r, a', s', h3, h4, h5⟩ := stops_draw hc s2 (at_le h2 (by omega))
    refine ⟨r, x, wrap64 (1 + p), Ev.step (f := fun k => (spec_l1Cur_stops.f k c a2 s2).bind fun bt322 => (some (bt322.1, x, wrap64 (1 + p)))) (fun k => ?_) (Ev.bind h3 (Ev.now _)), h4⟩
    show spec_DrawRunAt.j0 (k + 1) _ _ _ _ = _
    rw [spec_DrawRunAt.j0, e1, Option.bind_some, e2, Option.bind_some]; rfl
  | true =>
    obtain ⟨z, a3, s3, e3, hz, h3⟩ := among_ hc s2 [0, 4] (by simp) h2 (by omega)
    obtain ⟨r, a', s', h4, h5, h6⟩ := stops_draw hc s3 (at_le h3 (by omega))
    refine ⟨r, x, z, Ev.step (f := fun k => (spec_l1Cur_stops.f k c a3 s3).bind fun bt317 => (some (bt317.1, x, z))) (fun k => ?_) (Ev.bind h4 (Ev.now _)), h5⟩
    show spec_DrawRunAt.j0 (k + 1) _ _ _ _ = _
    rw [spec_DrawRunAt.j0, e1, Option.bind_some, e2, Option.bind_some, if_pos rfl, e3, Option.bind_some]
theorem run_draw {c : List Int} (hc : Bytes c) : ∃ r q t, Ev (fun k => spec_DrawRunAt.f k c) (r, q, t) ∧ r.length ≤ 20 := by
  have h0 : At 0 0 := ⟨by omega, by omega⟩
  obtain ⟨p, a1, s1, e1, hp, h1⟩ := pick_ hc 0 327680 h0 (by omega)
  obtain ⟨b, a2, s2, e2, h2⟩ := one_ hc s1 8 h1 (by omega)
  unfold spec_DrawRunAt.f
  simp only [e1, Option.bind_some, e2]
  cases b with
  | false =>
    obtain ⟨r, q, t, h3, h4⟩ := run_draw0 hc (wrap64 (p - 131072)) s2 (at_le h2 (by omega))
    exact ⟨r, q, t, h3, h4⟩
  | true =>
    obtain ⟨z, a3, s3, h3, h4⟩ := fixed_draw hc s2 h2 (by omega)
    obtain ⟨r, q, t, h5, h6⟩ := run_draw0 hc z s3 (at_le h4 (by omega))
    exact ⟨r, q, t, Ev.bind h3 h5, h6⟩
end Go.Proofs.Ytiadieifofaobaa.HFnTints
/- FnTints, as numbers: what is laid over is a tint, a full one hides what is under it and an empty one does not; a run's tint is one. -/
namespace Go.Proofs.Ytiadieifofaobaa.Pure
open Go.RowKit Go.Proofs.Ytiadieifofaobaa.HFnTints Go.Proofs.YtiadieifofaobaaW.PrintWords Go.Proofs.YtiadieifofaobaaW.PrintLast Go.Proofs.Ytiadieifofaobaa.Plain
set_option linter.unusedSimpArgs false
set_option linter.unusedVariables false
theorem over1_in {x y z v a : Int} (hx : 0 ≤ x) (hxz : x ≤ z) (hy : 0 ≤ y) (hyv : y ≤ v) (hv : v ≤ 255) (ha : 0 ≤ a) (ha1 : a ≤ 255) : 0 ≤ over1 x y a ∧ over1 x y a ≤ over1 z v a := by
  have h1 : 0 ≤ y * (255 - a) := Int.mul_nonneg hy (by omega)
  have h2 : y * (255 - a) ≤ v * (255 - a) := Int.mul_le_mul_of_nonneg_right hyv (by omega)
  unfold over1
  omega
theorem over1_top {v a : Int} (hv0 : 0 ≤ v) (hv : v ≤ 255) (ha : 0 ≤ a) (ha1 : a ≤ 255) : over1 a v a ≤ 255 := by
  have h2 : v * (255 - a) ≤ 255 * (255 - a) := Int.mul_le_mul_of_nonneg_right hv (by omega)
  unfold over1
  omega
theorem over_good {r g b a r' g' b' a' : Int} (h : goodTint r g b a = true) (h' : goodTint r' g' b' a' = true) : goodTint (over1 r r' a) (over1 g g' a) (over1 b b' a) (over1 a a' a) = true := by
  have k := good_of h
  have k' := good_of h'
  have i1 := over1_in (x := r) (y := r') (z := a) (v := a') (a := a) (by omega) (by omega) (by omega) (by omega) (by omega) (by omega) (by omega)
  have i2 := over1_in (x := g) (y := g') (z := a) (v := a') (a := a) (by omega) (by omega) (by omega) (by omega) (by omega) (by omega) (by omega)
  have i3 := over1_in (x := b) (y := b') (z := a) (v := a') (a := a) (by omega) (by omega) (by omega) (by omega) (by omega) (by omega) (by omega)
  have i4 := over1_in (x := a) (y := a') (z := a) (v := a') (a := a) (by omega) (by omega) (by omega) (by omega) (by omega) (by omega) (by omega)
  have t := over1_top (v := a') (a := a) (by omega) (by omega) (by omega) (by omega)
  simp only [goodTint, Bool.and_eq_true, decide_eq_true_eq]
  exact ⟨⟨⟨⟨i4.1, t⟩, i1.1, i1.2⟩, i2.1, i2.2⟩, i3.1, i3.2⟩
theorem over1_full (x y : Int) : over1 x y 255 = x := by unfold over1; rw [show (255 : Int) - 255 = 0 from rfl, Int.mul_zero]; omega
theorem over1_none (y : Int) : over1 0 y 0 = y := by unfold over1; omega
theorem neq_self (x : Int) : (!(x == x)) = false := by simp
theorem tail_ (l1 : List Int) (hc : Bytes l1) : Ev (fun k => laws_FnTints.j1 k l1 false) true := by
  obtain ⟨l, p, s, hd, hl⟩ := run_draw hc
  obtain ⟨r, h1, h2, hg⟩ := run_both l (by omega) p s
  refine Ev.step (f := fun k => ((spec_DrawRunAt.f k l1).bind fun bt350 => ((impl_RunAt.f k bt350.1 bt350.2.1 bt350.2.2).bind fun bt355 => ((spec_RunAt.f k bt350.1 bt350.2.1 bt350.2.2).bind fun bt361 => (if (bt355.2.2.2.2 != bt361.2.2.2.2) = true then (some false) else (if bt355.2.2.2.2 = true then ((impl_GoodTint.f bt355.1 bt355.2.1 bt355.2.2.1 bt355.2.2.2.1).bind fun t367 => (some t367)) else (some true))))))) (fun k => by rw [laws_FnTints.j1, if_neg (by decide)]) ?_
  refine Ev.bind hd (Ev.bind h2 (Ev.bind h1 ?_))
  simp only [bne_self_eq_false, Bool.false_eq_true, if_false]
  cases h : r.2.2.2.2
  · exact Ev.now _
  · simp only [if_true, implGoodTint, hg h, Option.bind_some]
    exact Ev.now _
theorem bytes_of {l : List Int} (h1 : l.length * 1 ≤ 140737488351232) (h2 : ∀ x ∈ l, (Lit.int .u8 x).wf = true) : Bytes l := by
  refine ⟨fun x hx => ?_, by omega⟩
  have := h2 x hx
  exact bounds_u8 this
set_option maxHeartbeats 4000000 in
theorem FnTints : laws_FnTints.Pure := by
  intro l0 l1 hl0 hb0 hw0 hl1 hb1 hw1
  have hc0 : Bytes l0 := bytes_of hb0 hw0
  have hc1 : Bytes l1 := bytes_of hb1 hw1
  refine Ev.rounds ?_
  unfold laws_FnTints.f
  by_cases hl : wrap64 ((l0.length : Int) + (l1.length : Int)) > 1048576
  · simp only [if_pos hl]; exact Ev.now _
  simp only [if_neg hl]
  have ht := tail_ l1 hc1
  have hA : At 0 0 := ⟨by omega, by omega⟩
  obtain ⟨r, g, b, a, p1, s1, e1, h1⟩ := tint_draw hc0 0 hA (by omega)
  obtain ⟨r', g', b', a', p2, s2, e2, h2⟩ := tint_draw hc0 s1 h1 (by omega)
  have hd : spec_DrawOverTint.f l0 = some (r, g, b, a, r', g', b', a') := by
    unfold spec_DrawOverTint.f
    simp only [e1, e2, Option.bind_some]
  simp only [hd, Option.bind_some, implOver, specOver, bne_self_eq_false, Bool.false_eq_true, if_false, neq_self, Bool.or_self]
  unfold overTint
  cases g1 : goodTint r g b a
  · simp only [Bool.false_eq_true, if_false]
    exact Ev.step (fun k => by rw [laws_FnTints.j0, if_neg (by decide), if_neg (by decide)]) ht
  cases g2 : goodTint r' g' b' a'
  · simp only [Bool.false_eq_true, if_false, if_true]
    exact Ev.step (fun k => by rw [laws_FnTints.j0, if_neg (by decide), if_neg (by decide)]) ht
  simp only [if_true]
  have hg := over_good g1 g2
  have k1 := good_of g1
  by_cases a255 : a = 255
  · subst a255
    refine Ev.step (fun k => ?_) ht
    show laws_FnTints.j0 (k + 1) _ _ _ _ _ _ _ _ _ _ _ _ _ _ _ = _
    rw [laws_FnTints.j0, if_neg (by decide), if_pos rfl, implGoodTint, hg, Option.bind_some, if_pos rfl, if_pos rfl]
    simp only [over1_full, neq_self, Bool.or_self, Bool.false_eq_true, if_false]
    rw [if_neg (by decide)]
  by_cases a0 : a = 0
  · subst a0
    obtain rfl : r = 0 := by omega
    obtain rfl : g = 0 := by omega
    obtain rfl : b = 0 := by omega
    refine Ev.step (fun k => ?_) ht
    show laws_FnTints.j0 (k + 1) _ _ _ _ _ _ _ _ _ _ _ _ _ _ _ = _
    rw [laws_FnTints.j0, if_neg (by decide), if_pos rfl, implGoodTint, hg, Option.bind_some, if_pos rfl, if_neg (by decide), if_pos rfl]
    simp only [over1_none, neq_self, Bool.or_self]
  · refine Ev.step (fun k => ?_) ht
    show laws_FnTints.j0 (k + 1) _ _ _ _ _ _ _ _ _ _ _ _ _ _ _ = _
    rw [laws_FnTints.j0, if_neg (by decide), if_pos rfl, implGoodTint, hg, Option.bind_some, if_pos rfl, if_neg a255, if_neg a0]
end Go.Proofs.Ytiadieifofaobaa.Pure
