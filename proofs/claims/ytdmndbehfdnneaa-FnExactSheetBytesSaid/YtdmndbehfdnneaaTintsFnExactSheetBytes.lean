/- Lists of tints, copied. -/
import Derived.Test.YtdmndbehfdnneaaInFnExactSheetBytes
namespace Go.Proofs.Ytdmndbehfdnneaa.PFnExactSheetBytes
open Go.RowKit Go.Proofs.YtdmndbehfdnneaaW.PrintWords Go.Proofs.YtdmndbehfdnneaaW.PrintLast Go.Proofs.Ytdmndbehfdnneaa.Plain
set_option linter.unusedSimpArgs false
set_option linter.unusedVariables false

theorem toTints (l : List S109) (hl : l.length ≤ 1048576) : Ev (fun k => laws_toTintS.f k l) (l.map fun x => ⟨x.f0, x.f1, x.f2, x.f3⟩) := by
  unfold laws_toTintS.f
  have h := copy_ev (fun x : S109 => (⟨x.f0, x.f1, x.f2, x.f3⟩ : S54)) l z109 z54 (by omega) (fun k ys i => laws_toTintS.l0 k l ys i) (fun k i ys hi hy => by
    show laws_toTintS.l0 (k + 1) l ys i = _
    rw [laws_toTintS.l0, if_pos (by omega), if_pos (by omega)]
    simp only [laws_toTint.f, Option.bind_some]
    rw [if_pos (by omega)]; rfl) (fun k ys => by
    show laws_toTintS.l0 (k + 1) l ys _ = _
    rw [laws_toTintS.l0, if_neg (by omega)]) (List.replicate ((l.length : Int)).toNat z54) (by simp)
  simp only [if_pos (show (0 : Int) ≤ l.length by omega), if_pos (show (l.length : Int).toNat ≤ 8796093022208 by omega)]
  exact h

end Go.Proofs.Ytdmndbehfdnneaa.PFnExactSheetBytes
