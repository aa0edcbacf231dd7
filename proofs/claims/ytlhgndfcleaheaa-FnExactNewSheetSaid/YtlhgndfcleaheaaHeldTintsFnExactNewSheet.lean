/- Tints that are marked hold their marks. -/
import Derived.Test.YtlhgndfcleaheaaPFnExactNewSheetx
import Derived.Test.YtlhgndfcleaheaaMarks
namespace Go.Proofs.Ytlhgndfcleaheaa.PFnExactNewSheet
open Go.RowKit Go.Proofs.YtlhgndfcleaheaaW.PrintWords Go.Proofs.YtlhgndfcleaheaaW.PrintLast Go.Proofs.Ytlhgndfcleaheaa.Plain
set_option linter.unusedSimpArgs false
set_option linter.unusedVariables false

/-- The i-th mark. -/
def tintMark (i : Nat) : S25 := ⟨((1 + 4 * i : Nat) : Int), ((1 + 4 * i + 1 : Nat) : Int), ((1 + 4 * i + 1 + 1 : Nat) : Int), ((1 + 4 * i + 1 + 1 + 1 : Nat) : Int)⟩
theorem w1 (n : Nat) (h : n ≤ 4611686018427387904) : wrap64 ((n : Int) + 1) = ((n + 1 : Nat) : Int) := by rw [wrap_id (by omega) (by omega)]; rfl
theorem markTints (l : List S25) (hl : l.length ≤ 1048576) : Ev (fun k => laws_markTintS.f k l 1) (((1 + 4 * l.length : Nat) : Int), over tintMark l l.length) := by
  unfold laws_markTintS.f
  refine mark_ev 4 1 tintMark l (by omega) (by omega) (fun k ys m i => laws_markTintS.l0 k ys m i) (fun k i ys hi hy => ?_) (fun k ys q hy => ?_)
  · show laws_markTintS.l0 (k + 1) ys _ i = _
    rw [laws_markTintS.l0, if_pos (by omega), if_pos (by omega)]
    simp only [Option.bind_some, rd_T25, Int.toNat_natCast, set_set_, w1 (1 + 4 * i) (by omega), w1 (1 + 4 * i + 1) (by omega), w1 (1 + 4 * i + 1 + 1) (by omega), w1 (1 + 4 * i + 1 + 1 + 1) (by omega), getD_set_ ys i (by omega)]
    rfl
  · show laws_markTintS.l0 (k + 1) ys _ _ = _
    rw [laws_markTintS.l0, if_neg (by omega)]
theorem heldTints (l : List S25) (hl : l.length ≤ 1048576) : Ev (fun k => laws_heldTintS.f k (over tintMark l l.length) 1) ((1 + 4 * l.length : Nat) : Int) := by
  unfold laws_heldTintS.f
  have ho := over_len tintMark l l.length (Nat.le_refl _)
  refine held_ev 4 1 l.length (by omega) (by omega) (fun k m i => laws_heldTintS.l0 k (over tintMark l l.length) m i) (fun k i hi => ?_) (fun k q => ?_)
  · show laws_heldTintS.l0 (k + 1) _ _ i = _
    have hg : rd_T25 (over tintMark l l.length) i = tintMark i := over_get tintMark l l.length i hi _
    rw [laws_heldTintS.l0, if_pos (by omega), if_pos (by omega), hg]
    simp only [w1 (1 + 4 * i) (by omega), w1 (1 + 4 * i + 1) (by omega), w1 (1 + 4 * i + 1 + 1) (by omega), w1 (1 + 4 * i + 1 + 1 + 1) (by omega)]
    simp only [tintMark, if_true]
    rfl
  · show laws_heldTintS.l0 (k + 1) _ _ _ = _
    rw [laws_heldTintS.l0, if_neg (by omega)]
theorem markSheet (a b : Int) (l : List S25) (hl : l.length ≤ 1048576) : Ev (fun k => laws_markSheet.f k a b l 1) (((1 + 4 * l.length : Nat) : Int), over tintMark l l.length) := by
  unfold laws_markSheet.f
  exact Ev.bind (f := fun _ t => some (t.1, t.2)) (markTints l hl) (Ev.now _)
theorem heldSheet (a b : Int) (l : List S25) (hl : l.length ≤ 1048576) : Ev (fun k => laws_heldSheet.f k a b (over tintMark l l.length) 1) ((1 + 4 * l.length : Nat) : Int) := by
  unfold laws_heldSheet.f
  refine Ev.bind (f := fun _ t => if t < 0 then some (-1) else some t) (heldTints l hl) ?_
  simp only [if_neg (show ¬ ((1 + 4 * l.length : Nat) : Int) < 0 by omega)]
  exact Ev.now _

end Go.Proofs.Ytlhgndfcleaheaa.PFnExactNewSheet
