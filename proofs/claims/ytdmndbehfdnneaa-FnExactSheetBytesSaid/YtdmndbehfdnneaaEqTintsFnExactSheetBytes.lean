/- Lists of tints, compared. -/
import Derived.Test.YtdmndbehfdnneaaInFnExactSheetBytes
namespace Go.Proofs.Ytdmndbehfdnneaa.PFnExactSheetBytes
open Go.RowKit Go.Proofs.YtdmndbehfdnneaaW.PrintWords Go.Proofs.YtdmndbehfdnneaaW.PrintLast Go.Proofs.Ytdmndbehfdnneaa.Plain
set_option linter.unusedSimpArgs false
set_option linter.unusedVariables false

theorem eqTint_ (a b c d : Int) : laws_eqTint.f a b c d a b c d = some true := by simp [laws_eqTint.f]
theorem eqTints (l : List S54) (hl : l.length ≤ 9223372036854775806) : Ev (fun k => laws_eqTintS.f k l l) true := by
  unfold laws_eqTintS.f
  have h := all_ev (fun _ : S54 => true) l z54 (by omega) (fun k i => laws_eqTintS.l0 k l l i) (fun k i hi => by
    show laws_eqTintS.l0 (k + 1) l l i = _
    rw [laws_eqTintS.l0, if_pos (by omega), if_pos (by omega), if_pos (by omega), eqTint_]
    simp only [Option.bind_some]) (fun k => by
    show laws_eqTintS.l0 (k + 1) l l _ = _
    rw [laws_eqTintS.l0, if_neg (by omega)])
  rw [List.all_eq_true.2 (fun _ _ => rfl)] at h
  simp only [if_true]
  exact h
theorem eqSheet_ (a b : Int) (l : List S54) (hl : l.length ≤ 9223372036854775806) : Ev (fun k => laws_eqSheet.f k a b l a b l) true := by
  unfold laws_eqSheet.f
  simp only [if_true]
  refine Ev.bind (eqTints l hl) ?_
  exact Ev.now _

end Go.Proofs.Ytdmndbehfdnneaa.PFnExactSheetBytes
