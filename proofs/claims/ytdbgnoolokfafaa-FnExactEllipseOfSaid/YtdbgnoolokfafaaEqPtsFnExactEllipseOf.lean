/- Points and a line, compared. -/
import Derived.Test.YtdbgnoolokfafaaHFnExactEllipseOfx
import Derived.Test.YtdbgnoolokfafaaPlain
namespace Go.Proofs.Ytdbgnoolokfafaa.HFnExactEllipseOf
open Go.RowKit Go.Proofs.YtdbgnoolokfafaaW.PrintWords Go.Proofs.YtdbgnoolokfafaaW.PrintLast Go.Proofs.Ytdbgnoolokfafaa.Plain
set_option linter.unusedSimpArgs false
set_option linter.unusedVariables false

theorem eqPoints (l : List S25) (hl : l.length ≤ 9223372036854775806) : Ev (fun k => laws_eqPointS.f k l l) true := by
  unfold laws_eqPointS.f
  have h := all_ev (fun _ : S25 => true) l z25 (by omega) (fun k i => laws_eqPointS.l0 k l l i) (fun k i hi => by
    show laws_eqPointS.l0 (k + 1) l l i = _
    rw [laws_eqPointS.l0, if_pos (by omega), if_pos (by omega), if_pos (by omega)]
    simp [laws_eqPoint.f]) (fun k => by
    show laws_eqPointS.l0 (k + 1) l l _ = _
    rw [laws_eqPointS.l0, if_neg (by omega)])
  rw [List.all_eq_true.2 (fun _ _ => rfl)] at h
  simp only [if_true]
  exact h
theorem eqLine (l : List S25) (b : Bool) (hl : l.length ≤ 9223372036854775806) : Ev (fun k => laws_eqLine.f k l b l b) true := by
  unfold laws_eqLine.f
  refine Ev.bind (eqPoints l hl) ?_
  exact ev_const fun k => by simp

end Go.Proofs.Ytdbgnoolokfafaa.HFnExactEllipseOf
