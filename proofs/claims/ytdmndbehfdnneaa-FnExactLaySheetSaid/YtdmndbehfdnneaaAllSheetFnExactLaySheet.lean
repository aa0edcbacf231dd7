/- Merged: EqTints, In, MarkTs, Sheet, Tint, Tints. -/
import Derived.Test.YtdmndbehfdnneaaHFnExactLaySheetx
import Derived.Test.YtdmndbehfdnneaaPlain
import Derived.Test.YtdmndbehfdnneaaMarks
/- Bounds asked by both sides. -/
namespace Go.Proofs.Ytdmndbehfdnneaa.HFnExactLaySheet
open Go.RowKit Go.Proofs.YtdmndbehfdnneaaW.PrintWords Go.Proofs.YtdmndbehfdnneaaW.PrintLast Go.Proofs.Ytdmndbehfdnneaa.Plain
set_option linter.unusedSimpArgs false
set_option linter.unusedVariables false

theorem in_ (a b c : Int) : spec_l1In.f a b c = some (decide (b ≤ a ∧ a ≤ c)) := by
  unfold spec_l1In.f
  by_cases h : a ≥ b
  · rw [if_pos h]; simp [show b ≤ a from h]
  · rw [if_neg h]; simp [show ¬ b ≤ a from h]
theorem within_ (a b c : Int) : impl_within.f a b c = some (decide (b ≤ a ∧ a ≤ c)) := in_ a b c

end Go.Proofs.Ytdmndbehfdnneaa.HFnExactLaySheet

/- Tints that are good, asked by both sides. -/
namespace Go.Proofs.Ytdmndbehfdnneaa.HFnExactLaySheet
open Go.RowKit Go.Proofs.YtdmndbehfdnneaaW.PrintWords Go.Proofs.YtdmndbehfdnneaaW.PrintLast Go.Proofs.Ytdmndbehfdnneaa.Plain
set_option linter.unusedSimpArgs false
set_option linter.unusedVariables false

/-- A tint is good. -/
def goodTint (r g b a : Int) : Bool := decide (0 ≤ a ∧ a ≤ 255) && decide (0 ≤ r ∧ r ≤ a) && decide (0 ≤ g ∧ g ≤ a) && decide (0 ≤ b ∧ b ≤ a)
theorem specGoodTint (r g b a : Int) : spec_GoodTint.f r g b a = some (goodTint r g b a) := by
  unfold spec_GoodTint.f goodTint
  simp only [in_, Option.bind_some, decide_eq_true_eq]
  by_cases h1 : 0 ≤ a ∧ a ≤ 255
  · by_cases h2 : 0 ≤ r ∧ r ≤ a
    · by_cases h3 : 0 ≤ g ∧ g ≤ a
      · simp only [if_pos h1, if_pos h2, if_pos h3, decide_eq_true h1, decide_eq_true h2, decide_eq_true h3, Bool.true_and]
      · simp only [if_pos h1, if_pos h2, if_neg h3, decide_eq_false h3, Bool.and_false, Bool.false_and]
    · simp only [if_pos h1, if_neg h2, decide_eq_false h2, Bool.and_false, Bool.false_and]
  · simp only [if_neg h1, decide_eq_false h1, Bool.false_and]
theorem implGoodTint (r g b a : Int) : impl_GoodTint.f r g b a = some (goodTint r g b a) := specGoodTint r g b a

end Go.Proofs.Ytdmndbehfdnneaa.HFnExactLaySheet

/- Lists of tints, copied. -/
namespace Go.Proofs.Ytdmndbehfdnneaa.HFnExactLaySheet
open Go.RowKit Go.Proofs.YtdmndbehfdnneaaW.PrintWords Go.Proofs.YtdmndbehfdnneaaW.PrintLast Go.Proofs.Ytdmndbehfdnneaa.Plain
set_option linter.unusedSimpArgs false
set_option linter.unusedVariables false

theorem toTints (l : List S109) (hl : l.length ≤ 1048576) : Ev (fun k => laws_toTintS.f k l) (l.map fun x => ⟨x.f0, x.f1, x.f2, x.f3⟩) := by
  unfold laws_toTintS.f
  have h := copy_ev (fun x : S109 => (⟨x.f0, x.f1, x.f2, x.f3⟩ : S54)) l z109 z54 (by omega) (fun k ys i => laws_toTintS.l0 k l ys i) (fun k i ys hi hy => by
    show laws_toTintS.l0 (k + 1) l ys i = _
    rw [laws_toTintS.l0, if_pos (by omega), if_pos (by omega)]
    simp only [laws_toTint.f, Option.bind_some]
    rw [if_pos (by omega)]; rfl) (fun k ys => by
    show laws_toTintS.l0 (k + 1) l ys _ = _
    rw [laws_toTintS.l0, if_neg (by omega)]) (List.replicate ((l.length : Int)).toNat z54) (by simp)
  simp only [if_pos (show (0 : Int) ≤ l.length by omega), if_pos (show (l.length : Int).toNat ≤ 8796093022208 by omega)]
  exact h

end Go.Proofs.Ytdmndbehfdnneaa.HFnExactLaySheet

/- Lists of tints, compared. -/
namespace Go.Proofs.Ytdmndbehfdnneaa.HFnExactLaySheet
open Go.RowKit Go.Proofs.YtdmndbehfdnneaaW.PrintWords Go.Proofs.YtdmndbehfdnneaaW.PrintLast Go.Proofs.Ytdmndbehfdnneaa.Plain
set_option linter.unusedSimpArgs false
set_option linter.unusedVariables false

theorem eqTint_ (a b c d : Int) : laws_eqTint.f a b c d a b c d = some true := by simp [laws_eqTint.f]
theorem eqTints (l : List S54) (hl : l.length ≤ 9223372036854775806) : Ev (fun k => laws_eqTintS.f k l l) true := by
  unfold laws_eqTintS.f
  have h := all_ev (fun _ : S54 => true) l z54 (by omega) (fun k i => laws_eqTintS.l0 k l l i) (fun k i hi => by
    show laws_eqTintS.l0 (k + 1) l l i = _
    rw [laws_eqTintS.l0, if_pos (by omega), if_pos (by omega), if_pos (by omega), eqTint_]
    simp only [Option.bind_some]) (fun k => by
    show laws_eqTintS.l0 (k + 1) l l _ = _
    rw [laws_eqTintS.l0, if_neg (by omega)])
  rw [List.all_eq_true.2 (fun _ _ => rfl)] at h
  simp only [if_true]
  exact h
theorem eqSheet_ (a b : Int) (l : List S54) (hl : l.length ≤ 9223372036854775806) : Ev (fun k => laws_eqSheet.f k a b l a b l) true := by
  unfold laws_eqSheet.f
  simp only [if_true]
  refine Ev.bind (eqTints l hl) ?_
  exact Ev.now _

end Go.Proofs.Ytdmndbehfdnneaa.HFnExactLaySheet

/- Sheets that are good, asked by both sides. -/
namespace Go.Proofs.Ytdmndbehfdnneaa.HFnExactLaySheet
open Go.RowKit Go.Proofs.YtdmndbehfdnneaaW.PrintWords Go.Proofs.YtdmndbehfdnneaaW.PrintLast Go.Proofs.Ytdmndbehfdnneaa.Plain
set_option linter.unusedSimpArgs false
set_option linter.unusedVariables false

/-- A sheet is good. -/
def goodSheet (a b : Int) (l : List S54) : Bool := if decide (1 ≤ a ∧ a ≤ 36) && decide (1 ≤ b ∧ b ≤ 36) && !((l.length : Int) != wrap64 (a * b)) then l.all (fun x => goodTint x.f0 x.f1 x.f2 x.f3) else false

theorem specGoodSheet (a b : Int) (l : List S54) (hl : l.length ≤ 1048576) : Ev (fun k => spec_GoodSheet.f k a b l) (goodSheet a b l) := by
  have h := all_ev (fun x : S54 => goodTint x.f0 x.f1 x.f2 x.f3) l z54 (by omega) (fun k i => spec_GoodSheet.l0 k l l.length i) (fun k i hi => by
    show spec_GoodSheet.l0 (k + 1) l l.length i = _
    rw [spec_GoodSheet.l0, if_pos (by omega), if_pos (by omega), if_pos (by omega), specGoodTint]; rfl) (fun k => by
    show spec_GoodSheet.l0 (k + 1) l _ _ = _
    rw [spec_GoodSheet.l0, if_neg (by omega)])
  unfold spec_GoodSheet.f spec_l3Side.f goodSheet
  simp only [in_, Option.bind_some, decide_eq_true_eq]
  by_cases ha : 1 ≤ a ∧ a ≤ 36
  · by_cases hb : 1 ≤ b ∧ b ≤ 36
    · simp only [if_pos ha, if_pos hb, decide_eq_true ha, decide_eq_true hb, Bool.true_and]
      cases hc : ((l.length : Int) != wrap64 (a * b))
      · refine Ev.step (f := fun k => spec_GoodSheet.l0 k l l.length 0) (fun k => ?_) (by simpa using h)
        simp [spec_GoodSheet.j0]
      · exact ev_some fun k => by simp [spec_GoodSheet.j0]
    · simp only [if_pos ha, if_neg hb, decide_eq_false hb, Bool.and_false, Bool.false_and]
      exact ev_some fun k => by simp [spec_GoodSheet.j0]
  · simp only [if_neg ha, decide_eq_false ha, Bool.false_and]
    exact ev_some fun k => by simp [spec_GoodSheet.j0]

theorem run_all {α : Type} (P : α → Bool) (g : Bool) (xs : List α) : run (σ := Unit) (fun _ x => if P x = true then .inr () else .inl false) (fun _ => g) xs () = (xs.all P && g) := by
  induction xs with
  | nil => simp [run]
  | cons x xs ih =>
    cases hP : P x
    · simp only [run, hP, List.all_cons, Bool.false_and]; rfl
    · simp only [run, hP, List.all_cons, Bool.true_and, if_true]; exact ih

theorem implGoodSheet (a b : Int) (l : List S54) (hl : l.length ≤ 1048576) : Ev (fun k => impl_GoodSheet.f k a b l) (goodSheet a b l) := by
  have hs : impl_areSides.f a b = some (decide (1 ≤ a ∧ a ≤ 36) && decide (1 ≤ b ∧ b ≤ 36)) := by
    unfold impl_areSides.f
    simp only [within_, Option.bind_some, decide_eq_true_eq]
    by_cases ha : 1 ≤ a ∧ a ≤ 36
    · simp only [if_pos ha, decide_eq_true ha, Bool.true_and]
    · simp only [if_neg ha, decide_eq_false ha, Bool.false_and]
  have h := run_ev (σ := Unit) (fun _ x => if goodTint x.f0 x.f1 x.f2 x.f3 = true then .inr () else .inl false) (fun _ => (decide (1 ≤ a ∧ a ≤ 36) && decide (1 ≤ b ∧ b ≤ 36)) && ((l.length : Int) == wrap64 (a * b))) l z54 (by omega) (fun k i _ => impl_GoodSheet.l0 k l l.length i a b l) (fun k i s hi => by
    show impl_GoodSheet.l0 (k + 1) l l.length i a b l = _
    rw [impl_GoodSheet.l0, if_pos (by omega), if_pos (by omega), if_pos (by omega), implGoodTint]
    show (if goodTint (l.getD i z54).f0 (l.getD i z54).f1 (l.getD i z54).f2 (l.getD i z54).f3 = true then _ else _) = _
    cases goodTint (l.getD i z54).f0 (l.getD i z54).f1 (l.getD i z54).f2 (l.getD i z54).f3 <;> rfl) (fun k s => by
    show impl_GoodSheet.l0 (k + 1) l _ _ a b l = _
    rw [impl_GoodSheet.l0, if_neg (by omega), hs]
    simp only [Option.bind_some]
    cases (decide (1 ≤ a ∧ a ≤ 36) && decide (1 ≤ b ∧ b ≤ 36)) <;> simp) ()
  rw [run_all] at h
  unfold impl_GoodSheet.f
  have e : (l.all (fun x => goodTint x.f0 x.f1 x.f2 x.f3) && ((decide (1 ≤ a ∧ a ≤ 36) && decide (1 ≤ b ∧ b ≤ 36)) && ((l.length : Int) == wrap64 (a * b)))) = goodSheet a b l := by
    unfold goodSheet
    cases hc : ((l.length : Int) == wrap64 (a * b)) <;> cases (decide (1 ≤ a ∧ a ≤ 36) && decide (1 ≤ b ∧ b ≤ 36)) <;> simp [bne, hc]
  rw [e] at h
  exact h

end Go.Proofs.Ytdmndbehfdnneaa.HFnExactLaySheet

/- Tints are marked from any number on, and hold their marks. -/
namespace Go.Proofs.Ytdmndbehfdnneaa.HFnExactLaySheet
open Go.RowKit Go.Proofs.YtdmndbehfdnneaaW.PrintWords Go.Proofs.YtdmndbehfdnneaaW.PrintLast Go.Proofs.Ytdmndbehfdnneaa.Plain
set_option linter.unusedSimpArgs false
set_option linter.unusedVariables false

/-- The i-th mark. -/
def tintMark (m i : Nat) : S54 := ⟨((m + 4 * i : Nat) : Int), ((m + 4 * i + 1 : Nat) : Int), ((m + 4 * i + 1 + 1 : Nat) : Int), ((m + 4 * i + 1 + 1 + 1 : Nat) : Int)⟩
theorem w1 (n : Nat) (h : n ≤ 4611686018427387904) : wrap64 ((n : Int) + 1) = ((n + 1 : Nat) : Int) := by rw [wrap_id (by omega) (by omega)]; rfl
theorem markTints (l : List S54) (m : Nat) (hl : l.length ≤ 4194304) (hm : m ≤ 41943040) : Ev (fun k => laws_markTintS.f k l m) (((m + 4 * l.length : Nat) : Int), over (tintMark m) l l.length) := by
  unfold laws_markTintS.f
  refine mark_ev 4 m (tintMark m) l (by omega) (by omega) (fun k ys m i => laws_markTintS.l0 k ys m i) (fun k i ys hi hy => ?_) (fun k ys q hy => ?_)
  · show laws_markTintS.l0 (k + 1) ys _ i = _
    rw [laws_markTintS.l0, if_pos (by omega), if_pos (by omega)]
    simp only [Option.bind_some, rd_T54, Int.toNat_natCast, set_set_, w1 (m + 4 * i) (by omega), w1 (m + 4 * i + 1) (by omega), w1 (m + 4 * i + 1 + 1) (by omega), w1 (m + 4 * i + 1 + 1 + 1) (by omega), getD_set_ ys i (by omega)]
    rfl
  · show laws_markTintS.l0 (k + 1) ys _ _ = _
    rw [laws_markTintS.l0, if_neg (by omega)]
theorem heldTints (l : List S54) (m : Nat) (hl : l.length ≤ 4194304) (hm : m ≤ 41943040) : Ev (fun k => laws_heldTintS.f k (over (tintMark m) l l.length) m) ((m + 4 * l.length : Nat) : Int) := by
  unfold laws_heldTintS.f
  have ho := over_len (tintMark m) l l.length (Nat.le_refl _)
  refine held_ev 4 m l.length (by omega) (by omega) (fun k q i => laws_heldTintS.l0 k (over (tintMark m) l l.length) q i) (fun k i hi => ?_) (fun k q => ?_)
  · show laws_heldTintS.l0 (k + 1) _ _ i = _
    have hg : rd_T54 (over (tintMark m) l l.length) i = tintMark m i := over_get (tintMark m) l l.length i hi _
    rw [laws_heldTintS.l0, if_pos (by omega), if_pos (by omega), hg]
    simp only [w1 (m + 4 * i) (by omega), w1 (m + 4 * i + 1) (by omega), w1 (m + 4 * i + 1 + 1) (by omega), w1 (m + 4 * i + 1 + 1 + 1) (by omega)]
    simp only [tintMark, if_true]
    rfl
  · show laws_heldTintS.l0 (k + 1) _ _ _ = _
    rw [laws_heldTintS.l0, if_neg (by omega)]
theorem markSheet (a b : Int) (l : List S54) (m : Nat) (hl : l.length ≤ 4194304) (hm : m ≤ 41943040) : Ev (fun k => laws_markSheet.f k a b l m) (((m + 4 * l.length : Nat) : Int), over (tintMark m) l l.length) := by
  unfold laws_markSheet.f
  exact Ev.bind (f := fun _ t => some (t.1, t.2)) (markTints l m hl hm) (Ev.now _)
theorem heldSheet (a b : Int) (l : List S54) (m : Nat) (hl : l.length ≤ 4194304) (hm : m ≤ 41943040) : Ev (fun k => laws_heldSheet.f k a b (over (tintMark m) l l.length) m) ((m + 4 * l.length : Nat) : Int) := by
  unfold laws_heldSheet.f
  refine Ev.bind (f := fun _ t => if t < 0 then some (-1) else some t) (heldTints l m hl hm) ?_
  simp only [if_neg (show ¬ ((m + 4 * l.length : Nat) : Int) < 0 by omega)]
  exact Ev.now _

end Go.Proofs.Ytdmndbehfdnneaa.HFnExactLaySheet
