/- Masks are marked, and hold their marks. -/
import Derived.Test.YtdmndbehfdnneaaMarkIntsFnExactMeetMasks
namespace Go.Proofs.Ytdmndbehfdnneaa.HFnExactMeetMasks
open Go.RowKit Go.Proofs.YtdmndbehfdnneaaW.PrintWords Go.Proofs.YtdmndbehfdnneaaW.PrintLast Go.Proofs.Ytdmndbehfdnneaa.Plain
set_option linter.unusedSimpArgs false
set_option linter.unusedVariables false

theorem markMask (a b : Int) (l : List Int) (m : Nat) (hl : l.length ≤ 4194304) (hm : m ≤ 4194304) : Ev (fun k => laws_markMask.f k a b l m) (((m + 1 * l.length : Nat) : Int), over (intMark m) l l.length) := by
  unfold laws_markMask.f
  exact Ev.bind (f := fun _ t => some (t.1, t.2)) (markInts l m hl hm) (Ev.now _)
theorem heldMask (a b : Int) (l : List Int) (m : Nat) (hl : l.length ≤ 4194304) (hm : m ≤ 4194304) : Ev (fun k => laws_heldMask.f k a b (over (intMark m) l l.length) m) ((m + 1 * l.length : Nat) : Int) := by
  unfold laws_heldMask.f
  refine Ev.bind (f := fun _ t => if t < 0 then some (-1) else some t) (heldInts l m hl hm) ?_
  simp only [if_neg (show ¬ ((m + 1 * l.length : Nat) : Int) < 0 by omega)]
  exact Ev.now _

end Go.Proofs.Ytdmndbehfdnneaa.HFnExactMeetMasks
