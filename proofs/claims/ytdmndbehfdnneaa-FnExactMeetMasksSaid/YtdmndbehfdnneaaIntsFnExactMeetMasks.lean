/- Lists of whole numbers, copied and compared. -/
import Derived.Test.YtdmndbehfdnneaaHFnExactMeetMasksx
import Derived.Test.YtdmndbehfdnneaaPlain
namespace Go.Proofs.Ytdmndbehfdnneaa.HFnExactMeetMasks
open Go.RowKit Go.Proofs.YtdmndbehfdnneaaW.PrintWords Go.Proofs.YtdmndbehfdnneaaW.PrintLast Go.Proofs.Ytdmndbehfdnneaa.Plain
set_option linter.unusedSimpArgs false
set_option linter.unusedVariables false

theorem toInts (l : List Int) (hl : l.length ≤ 1048576) : Ev (fun k => laws_toIntS.f k l) l := by
  unfold laws_toIntS.f
  have h := copy_ev (fun x : Int => x) l 0 0 (by omega) (fun k ys i => laws_toIntS.l0 k l ys i) (fun k i ys hi hy => by
    show laws_toIntS.l0 (k + 1) l ys i = _
    rw [laws_toIntS.l0, if_pos (by omega), if_pos (by omega), if_pos (by omega)]; rfl) (fun k ys => by
    show laws_toIntS.l0 (k + 1) l ys _ = _
    rw [laws_toIntS.l0, if_neg (by omega)]) (List.replicate ((l.length : Int)).toNat 0) (by simp)
  rw [List.map_id'] at h
  simp only [if_pos (show (0 : Int) ≤ l.length by omega), if_pos (show (l.length : Int).toNat ≤ 35184372088832 by omega)]
  exact h

end Go.Proofs.Ytdmndbehfdnneaa.HFnExactMeetMasks
