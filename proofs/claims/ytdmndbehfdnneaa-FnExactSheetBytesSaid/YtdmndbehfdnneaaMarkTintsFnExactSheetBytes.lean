/- Tints are marked. -/
import Derived.Test.YtdmndbehfdnneaaPFnExactSheetBytesx
import Derived.Test.YtdmndbehfdnneaaMarks
namespace Go.Proofs.Ytdmndbehfdnneaa.PFnExactSheetBytes
open Go.RowKit Go.Proofs.YtdmndbehfdnneaaW.PrintWords Go.Proofs.YtdmndbehfdnneaaW.PrintLast Go.Proofs.Ytdmndbehfdnneaa.Plain
set_option linter.unusedSimpArgs false
set_option linter.unusedVariables false

/-- The i-th mark. -/
def tintMark (i : Nat) : S54 := ⟨((1 + 4 * i : Nat) : Int), ((1 + 4 * i + 1 : Nat) : Int), ((1 + 4 * i + 1 + 1 : Nat) : Int), ((1 + 4 * i + 1 + 1 + 1 : Nat) : Int)⟩
theorem w1 (n : Nat) (h : n ≤ 4611686018427387904) : wrap64 ((n : Int) + 1) = ((n + 1 : Nat) : Int) := by rw [wrap_id (by omega) (by omega)]; rfl
theorem markTints (l : List S54) (hl : l.length ≤ 1048576) : Ev (fun k => laws_markTintS.f k l 1) (((1 + 4 * l.length : Nat) : Int), over tintMark l l.length) := by
  unfold laws_markTintS.f
  refine mark_ev 4 1 tintMark l (by omega) (by omega) (fun k ys m i => laws_markTintS.l0 k ys m i) (fun k i ys hi hy => ?_) (fun k ys q hy => ?_)
  · show laws_markTintS.l0 (k + 1) ys _ i = _
    rw [laws_markTintS.l0, if_pos (by omega), if_pos (by omega)]
    simp only [Option.bind_some, rd_T54, Int.toNat_natCast, set_set_, w1 (1 + 4 * i) (by omega), w1 (1 + 4 * i + 1) (by omega), w1 (1 + 4 * i + 1 + 1) (by omega), w1 (1 + 4 * i + 1 + 1 + 1) (by omega), getD_set_ ys i (by omega)]
    rfl
  · show laws_markTintS.l0 (k + 1) ys _ _ = _
    rw [laws_markTintS.l0, if_neg (by omega)]
theorem markSheet (a b : Int) (l : List S54) (hl : l.length ≤ 1048576) : Ev (fun k => laws_markSheet.f k a b l 1) (((1 + 4 * l.length : Nat) : Int), over tintMark l l.length) := by
  unfold laws_markSheet.f
  exact Ev.bind (f := fun _ t => some (t.1, t.2)) (markTints l hl) (Ev.now _)

end Go.Proofs.Ytdmndbehfdnneaa.PFnExactSheetBytes
