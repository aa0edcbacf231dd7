/- Whole numbers are marked, and hold their marks. -/
import Derived.Test.YtdmndbehfdnneaaHFnExactMeetMasksx
import Derived.Test.YtdmndbehfdnneaaMarks
namespace Go.Proofs.Ytdmndbehfdnneaa.HFnExactMeetMasks
open Go.RowKit Go.Proofs.YtdmndbehfdnneaaW.PrintWords Go.Proofs.YtdmndbehfdnneaaW.PrintLast Go.Proofs.Ytdmndbehfdnneaa.Plain
set_option linter.unusedSimpArgs false
set_option linter.unusedVariables false

/-- The i-th mark, from m on. -/
def intMark (m i : Nat) : Int := ((m + 1 * i : Nat) : Int)
theorem markInts (l : List Int) (m : Nat) (hl : l.length ≤ 4194304) (hm : m ≤ 4194304) : Ev (fun k => laws_markIntS.f k l m) (((m + 1 * l.length : Nat) : Int), over (intMark m) l l.length) := by
  unfold laws_markIntS.f
  refine mark_ev 1 m (intMark m) l (by omega) (by omega) (fun k ys m i => laws_markIntS.l0 k ys m i) (fun k i ys hi hy => ?_) (fun k ys q hy => ?_)
  · show laws_markIntS.l0 (k + 1) ys _ i = _
    rw [laws_markIntS.l0, if_pos (by omega), if_pos (by omega), Int.toNat_natCast, wrap_id (n := ((m + 1 * i : Nat) : Int) + 1) (by omega) (by omega)]
    rfl
  · show laws_markIntS.l0 (k + 1) ys _ _ = _
    rw [laws_markIntS.l0, if_neg (by omega)]
theorem heldInts (l : List Int) (m : Nat) (hl : l.length ≤ 4194304) (hm : m ≤ 4194304) : Ev (fun k => laws_heldIntS.f k (over (intMark m) l l.length) m) ((m + 1 * l.length : Nat) : Int) := by
  unfold laws_heldIntS.f
  have ho := over_len (intMark m) l l.length (Nat.le_refl _)
  refine held_ev 1 m l.length (by omega) (by omega) (fun k q i => laws_heldIntS.l0 k (over (intMark m) l l.length) q i) (fun k i hi => ?_) (fun k q => ?_)
  · show laws_heldIntS.l0 (k + 1) _ _ i = _
    have hg : rd (over (intMark m) l l.length) i = intMark m i := by
      rw [rd_nat _ _ (by omega)]
      have := over_get (intMark m) l l.length i hi 0
      rw [List.getD, List.getElem?_eq_getElem (by omega)] at this
      exact this
    rw [laws_heldIntS.l0, if_pos (by omega), if_pos (by omega), hg, if_pos (show intMark m i = ((m + 1 * i : Nat) : Int) from rfl), wrap_id (n := ((m + 1 * i : Nat) : Int) + 1) (by omega) (by omega)]
    rfl
  · show laws_heldIntS.l0 (k + 1) _ _ _ = _
    rw [laws_heldIntS.l0, if_neg (by omega)]

end Go.Proofs.Ytdmndbehfdnneaa.HFnExactMeetMasks
