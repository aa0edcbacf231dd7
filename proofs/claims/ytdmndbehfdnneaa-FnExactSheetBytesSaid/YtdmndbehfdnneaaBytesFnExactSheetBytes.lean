/- Lists of bytes: compared, marked. -/
import Derived.Test.YtdmndbehfdnneaaPFnExactSheetBytesx
import Derived.Test.YtdmndbehfdnneaaMarks
namespace Go.Proofs.Ytdmndbehfdnneaa.PFnExactSheetBytes
open Go.RowKit Go.Proofs.YtdmndbehfdnneaaW.PrintWords Go.Proofs.YtdmndbehfdnneaaW.PrintLast Go.Proofs.Ytdmndbehfdnneaa.Plain
set_option linter.unusedSimpArgs false
set_option linter.unusedVariables false

theorem eqBytes (l : List Int) (hl : l.length ≤ 9223372036854775806) : Ev (fun k => laws_eqByteS.f k l l) true := by
  unfold laws_eqByteS.f
  have h := all_ev (fun _ : Int => true) l 0 (by omega) (fun k i => laws_eqByteS.l0 k l l i) (fun k i hi => by
    show laws_eqByteS.l0 (k + 1) l l i = _
    rw [laws_eqByteS.l0, if_pos (by omega), if_pos (by omega), if_pos (by omega), if_pos rfl, if_pos rfl]) (fun k => by
    show laws_eqByteS.l0 (k + 1) l l _ = _
    rw [laws_eqByteS.l0, if_neg (by omega)])
  rw [List.all_eq_true.2 (fun _ _ => rfl)] at h
  simp only [if_true]
  exact h
/-- The i-th mark. -/
def byteMark (i : Nat) : Int := ((1 + 1 * i : Nat) : Int) % 256
theorem markBytes (l : List Int) (hl : l.length ≤ 16777216) : Ev (fun k => laws_markByteS.f k l 1) (((1 + 1 * l.length : Nat) : Int), over byteMark l l.length) := by
  unfold laws_markByteS.f
  refine mark_ev 1 1 byteMark l (by omega) (by omega) (fun k ys m i => laws_markByteS.l0 k ys m i) (fun k i ys hi hy => ?_) (fun k ys q hy => ?_)
  · show laws_markByteS.l0 (k + 1) ys _ i = _
    rw [laws_markByteS.l0, if_pos (by omega), if_pos (by omega), wrap_id (n := ((1 + 1 * i : Nat) : Int) + 1) (by omega) (by omega)]
    rfl
  · show laws_markByteS.l0 (k + 1) ys _ _ = _
    rw [laws_markByteS.l0, if_neg (by omega)]
theorem heldBytes (l : List Int) (hl : l.length ≤ 16777216) : Ev (fun k => laws_heldByteS.f k (over byteMark l l.length) 1) ((1 + 1 * l.length : Nat) : Int) := by
  unfold laws_heldByteS.f
  have ho := over_len byteMark l l.length (Nat.le_refl _)
  refine held_ev 1 1 l.length (by omega) (by omega) (fun k m i => laws_heldByteS.l0 k (over byteMark l l.length) m i) (fun k i hi => ?_) (fun k q => ?_)
  · show laws_heldByteS.l0 (k + 1) _ _ i = _
    have hg : rd (over byteMark l l.length) i = byteMark i := over_get byteMark l l.length i hi _
    rw [laws_heldByteS.l0, if_pos (by omega), if_pos (by omega), hg, wrap_id (n := ((1 + 1 * i : Nat) : Int) + 1) (by omega) (by omega)]
    simp only [byteMark, if_true]
    rfl
  · show laws_heldByteS.l0 (k + 1) _ _ _ = _
    rw [laws_heldByteS.l0, if_neg (by omega)]

end Go.Proofs.Ytdmndbehfdnneaa.PFnExactSheetBytes
