/- Lists of whole numbers, compared. -/
import Derived.Test.YtdmndbehfdnneaaHFnExactMeetMasksx
import Derived.Test.YtdmndbehfdnneaaPlain
namespace Go.Proofs.Ytdmndbehfdnneaa.HFnExactMeetMasks
open Go.RowKit Go.Proofs.YtdmndbehfdnneaaW.PrintWords Go.Proofs.YtdmndbehfdnneaaW.PrintLast Go.Proofs.Ytdmndbehfdnneaa.Plain
set_option linter.unusedSimpArgs false
set_option linter.unusedVariables false

theorem eqInts (l : List Int) (hl : l.length ≤ 9223372036854775806) : Ev (fun k => laws_eqIntS.f k l l) true := by
  unfold laws_eqIntS.f
  have h := all_ev (fun _ : Int => true) l 0 (by omega) (fun k i => laws_eqIntS.l0 k l l i) (fun k i hi => by
    show laws_eqIntS.l0 (k + 1) l l i = _
    rw [laws_eqIntS.l0, if_pos (by omega), if_pos (by omega), if_pos (by omega), if_pos rfl, if_pos rfl]) (fun k => by
    show laws_eqIntS.l0 (k + 1) l l _ = _
    rw [laws_eqIntS.l0, if_neg (by omega)])
  rw [List.all_eq_true.2 (fun _ _ => rfl)] at h
  simp only [if_true]
  exact h

end Go.Proofs.Ytdmndbehfdnneaa.HFnExactMeetMasks
