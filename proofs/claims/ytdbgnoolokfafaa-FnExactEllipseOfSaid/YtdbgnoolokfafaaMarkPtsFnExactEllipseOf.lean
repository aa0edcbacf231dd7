/- Points are marked from any number on, and hold their marks; lists of points that are fixed. -/
import Derived.Test.YtdbgnoolokfafaaHFnExactEllipseOfx
import Derived.Test.YtdbgnoolokfafaaMarks
namespace Go.Proofs.Ytdbgnoolokfafaa.HFnExactEllipseOf
open Go.RowKit Go.Proofs.YtdbgnoolokfafaaW.PrintWords Go.Proofs.YtdbgnoolokfafaaW.PrintLast Go.Proofs.Ytdbgnoolokfafaa.Plain
set_option linter.unusedSimpArgs false
set_option linter.unusedVariables false

/-- The i-th mark. -/
def ptMark (m i : Nat) : S25 := ⟨((m + 2 * i : Nat) : Int), ((m + 2 * i + 1 : Nat) : Int)⟩
theorem w1 (n : Nat) (h : n ≤ 4611686018427387904) : wrap64 ((n : Int) + 1) = ((n + 1 : Nat) : Int) := by rw [wrap_id (by omega) (by omega)]; rfl
theorem markPts (l : List S25) (m : Nat) (hl : l.length ≤ 4194304) (hm : m ≤ 41943040) : Ev (fun k => laws_markPointS.f k l m) (((m + 2 * l.length : Nat) : Int), over (ptMark m) l l.length) := by
  unfold laws_markPointS.f
  refine mark_ev 2 m (ptMark m) l (by omega) (by omega) (fun k ys m i => laws_markPointS.l0 k ys m i) (fun k i ys hi hy => ?_) (fun k ys q hy => ?_)
  · show laws_markPointS.l0 (k + 1) ys _ i = _
    rw [laws_markPointS.l0, if_pos (by omega), if_pos (by omega)]
    simp only [Option.bind_some, rd_T25, Int.toNat_natCast, set_set_, w1 (m + 2 * i) (by omega), w1 (m + 2 * i + 1) (by omega), getD_set_ ys i (by omega)]
    rfl
  · show laws_markPointS.l0 (k + 1) ys _ _ = _
    rw [laws_markPointS.l0, if_neg (by omega)]
theorem heldPts (l : List S25) (m : Nat) (hl : l.length ≤ 4194304) (hm : m ≤ 41943040) : Ev (fun k => laws_heldPointS.f k (over (ptMark m) l l.length) m) ((m + 2 * l.length : Nat) : Int) := by
  unfold laws_heldPointS.f
  have ho := over_len (ptMark m) l l.length (Nat.le_refl _)
  refine held_ev 2 m l.length (by omega) (by omega) (fun k q i => laws_heldPointS.l0 k (over (ptMark m) l l.length) q i) (fun k i hi => ?_) (fun k q => ?_)
  · show laws_heldPointS.l0 (k + 1) _ _ i = _
    have hg : rd_T25 (over (ptMark m) l l.length) i = ptMark m i := over_get (ptMark m) l l.length i hi _
    rw [laws_heldPointS.l0, if_pos (by omega), if_pos (by omega), hg]
    simp only [w1 (m + 2 * i) (by omega), w1 (m + 2 * i + 1) (by omega)]
    simp only [ptMark, if_true]
    rfl
  · show laws_heldPointS.l0 (k + 1) _ _ _ = _
    rw [laws_heldPointS.l0, if_neg (by omega)]

end Go.Proofs.Ytdbgnoolokfafaa.HFnExactEllipseOf
