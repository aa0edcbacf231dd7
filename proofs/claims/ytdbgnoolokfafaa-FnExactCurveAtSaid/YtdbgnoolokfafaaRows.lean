/-
  No cell of these rows narrows 'for every input' (looked for: loops, veiled, ifaces, maps, wideKeys, modest, calm, conditions, laid).
  DERIVED. THE GIVEN ROWS OF THIS SEAT. 12 by the template 'for every input the law returns true; each argument reads behind the call as it read before'; 0 by the template 'total and deterministic' (their statements: YtdbgnoolokfafaaTotals.lean).
  GIVEN WITH THE SEED: the statements are not yours to turn. If you find one false, say at which input.
  Laid BY PROGRAM, IN A SANDBOX (cutbox-rows.mjs): the forced cells as the released guide's own fill.sh prints them over the translation 81f37dc42c6167a8… (all of the seat's roots in one cut). By AI agents, Wed Nov 11 2026. No macro, syntax, notation, axiom, sorry.
-/
import Derived.Test.YtdbgnoolokfafaaChecked
import GoSem.Claim
import GoSem.ClaimJoined
import GoSem.ClaimMapViews
import Derived.JoinedTies
import Derived.KernelRfl
namespace Go.Proofs.Ytdbgnoolokfafaa
/- THE CELL 'sum', in the pinned program and in every row, IS THE sha256 OF THE DUMP (.gsa) THAT YtdbgnoolokfafaaProg.lean LOADS. Nothing in Lean hashes anything: it is a label: what it is worth is what the hold of that sum in a sandbox is worth. -/
noncomputable def Try.pinned : Pinned := { name := "ytdbgnoolokfafaa", sum := "81f37dc42c6167a842daabbc50575d439ba626a247b1b9b07fa25bac9aa2a8bf", checked := Try.checked }
namespace Rows
def none {H : Type} : Left H := { results := [], args := [] }

/-- 'laws.FnExactCurveAt': WHATEVER THE INPUT: true; the input reads as it did. -/
def fnExactCurveAtSpec : ChangeSpec := { name := "fnExactCurveAt", fn := fun _ => fun
  | [d1, d2] => { results := [.lit (.bool true)], args := [d1, d2] }
  | _ => none }
def fnExactCurveAtRow : OpenClaim := { program := "ytdbgnoolokfafaa", sum := "81f37dc42c6167a842daabbc50575d439ba626a247b1b9b07fa25bac9aa2a8bf", func := "loop.example/g00137/laws.FnExactCurveAt", spec := "fnExactCurveAt", unfollowed := true, recurses := true, plainKeys := false, apart := false }
def FnExactCurveAtSaid : Prop := fnExactCurveAtRow.holds Try.pinned (OpenSpec.ofChange fnExactCurveAtSpec)

/-- ITS FALSE NEIGHBOUR: 'it returns false'. Refute it at one input. -/
def fnExactCurveAtWrong : ChangeSpec := { name := "fnExactCurveAt", fn := fun _ => fun
  | [d1, d2] => { results := [.lit (.bool false)], args := [d1, d2] }
  | _ => none }
def FnExactCurveAtWrongFalsely : Prop := fnExactCurveAtRow.holds Try.pinned (OpenSpec.ofChange fnExactCurveAtWrong)

/-- 'laws.FnExactRunAt': WHATEVER THE INPUT: true; the input reads as it did. -/
def fnExactRunAtSpec : ChangeSpec := { name := "fnExactRunAt", fn := fun _ => fun
  | [d1, d2, d3] => { results := [.lit (.bool true)], args := [d1, d2, d3] }
  | _ => none }
def fnExactRunAtRow : OpenClaim := { program := "ytdbgnoolokfafaa", sum := "81f37dc42c6167a842daabbc50575d439ba626a247b1b9b07fa25bac9aa2a8bf", func := "loop.example/g00137/laws.FnExactRunAt", spec := "fnExactRunAt", unfollowed := true, recurses := true, plainKeys := false, apart := false }
def FnExactRunAtSaid : Prop := fnExactRunAtRow.holds Try.pinned (OpenSpec.ofChange fnExactRunAtSpec)

/-- ITS FALSE NEIGHBOUR: 'it returns false'. Refute it at one input. -/
def fnExactRunAtWrong : ChangeSpec := { name := "fnExactRunAt", fn := fun _ => fun
  | [d1, d2, d3] => { results := [.lit (.bool false)], args := [d1, d2, d3] }
  | _ => none }
def FnExactRunAtWrongFalsely : Prop := fnExactRunAtRow.holds Try.pinned (OpenSpec.ofChange fnExactRunAtWrong)

/-- 'laws.FnTints': WHATEVER THE INPUT: true; the input reads as it did. -/
def fnTintsSpec : ChangeSpec := { name := "fnTints", fn := fun _ => fun
  | [d1, d2] => { results := [.lit (.bool true)], args := [d1, d2] }
  | _ => none }
def fnTintsRow : OpenClaim := { program := "ytdbgnoolokfafaa", sum := "81f37dc42c6167a842daabbc50575d439ba626a247b1b9b07fa25bac9aa2a8bf", func := "loop.example/g00137/laws.FnTints", spec := "fnTints", unfollowed := true, recurses := true, plainKeys := false, apart := false }
def FnTintsSaid : Prop := fnTintsRow.holds Try.pinned (OpenSpec.ofChange fnTintsSpec)

/-- ITS FALSE NEIGHBOUR: 'it returns false'. Refute it at one input. -/
def fnTintsWrong : ChangeSpec := { name := "fnTints", fn := fun _ => fun
  | [d1, d2] => { results := [.lit (.bool false)], args := [d1, d2] }
  | _ => none }
def FnTintsWrongFalsely : Prop := fnTintsRow.holds Try.pinned (OpenSpec.ofChange fnTintsWrong)

/-- 'laws.FnExactPaintMask': WHATEVER THE INPUT: true; the input reads as it did. -/
def fnExactPaintMaskSpec : ChangeSpec := { name := "fnExactPaintMask", fn := fun _ => fun
  | [d1, d2, d3] => { results := [.lit (.bool true)], args := [d1, d2, d3] }
  | _ => none }
def fnExactPaintMaskRow : OpenClaim := { program := "ytdbgnoolokfafaa", sum := "81f37dc42c6167a842daabbc50575d439ba626a247b1b9b07fa25bac9aa2a8bf", func := "loop.example/g00137/laws.FnExactPaintMask", spec := "fnExactPaintMask", unfollowed := true, recurses := true, plainKeys := false, apart := false }
def FnExactPaintMaskSaid : Prop := fnExactPaintMaskRow.holds Try.pinned (OpenSpec.ofChange fnExactPaintMaskSpec)

/-- ITS FALSE NEIGHBOUR: 'it returns false'. Refute it at one input. -/
def fnExactPaintMaskWrong : ChangeSpec := { name := "fnExactPaintMask", fn := fun _ => fun
  | [d1, d2, d3] => { results := [.lit (.bool false)], args := [d1, d2, d3] }
  | _ => none }
def FnExactPaintMaskWrongFalsely : Prop := fnExactPaintMaskRow.holds Try.pinned (OpenSpec.ofChange fnExactPaintMaskWrong)

/-- 'laws.FnCover': WHATEVER THE INPUT: true; the input reads as it did. -/
def fnCoverSpec : ChangeSpec := { name := "fnCover", fn := fun _ => fun
  | [d1, d2] => { results := [.lit (.bool true)], args := [d1, d2] }
  | _ => none }
def fnCoverRow : OpenClaim := { program := "ytdbgnoolokfafaa", sum := "81f37dc42c6167a842daabbc50575d439ba626a247b1b9b07fa25bac9aa2a8bf", func := "loop.example/g00137/laws.FnCover", spec := "fnCover", plainKeys := false, apart := false }
def FnCoverSaid : Prop := fnCoverRow.holds Try.pinned (OpenSpec.ofChange fnCoverSpec)

/-- ITS FALSE NEIGHBOUR: 'it returns false'. Refute it at one input. -/
def fnCoverWrong : ChangeSpec := { name := "fnCover", fn := fun _ => fun
  | [d1, d2] => { results := [.lit (.bool false)], args := [d1, d2] }
  | _ => none }
def FnCoverWrongFalsely : Prop := fnCoverRow.holds Try.pinned (OpenSpec.ofChange fnCoverWrong)

/-- 'laws.FnExactEllipseOf': WHATEVER THE INPUT: true; the input reads as it did. -/
def fnExactEllipseOfSpec : ChangeSpec := { name := "fnExactEllipseOf", fn := fun _ => fun
  | [d1, d2, d3, d4] => { results := [.lit (.bool true)], args := [d1, d2, d3, d4] }
  | _ => none }
def fnExactEllipseOfRow : OpenClaim := { program := "ytdbgnoolokfafaa", sum := "81f37dc42c6167a842daabbc50575d439ba626a247b1b9b07fa25bac9aa2a8bf", func := "loop.example/g00137/laws.FnExactEllipseOf", spec := "fnExactEllipseOf", inPlace := ["math/bits.Add64"], recurses := true, plainKeys := false, apart := false }
def FnExactEllipseOfSaid : Prop := fnExactEllipseOfRow.holds Try.pinned (OpenSpec.ofChange fnExactEllipseOfSpec)

/-- ITS FALSE NEIGHBOUR: 'it returns false'. Refute it at one input. -/
def fnExactEllipseOfWrong : ChangeSpec := { name := "fnExactEllipseOf", fn := fun _ => fun
  | [d1, d2, d3, d4] => { results := [.lit (.bool false)], args := [d1, d2, d3, d4] }
  | _ => none }
def FnExactEllipseOfWrongFalsely : Prop := fnExactEllipseOfRow.holds Try.pinned (OpenSpec.ofChange fnExactEllipseOfWrong)

/-- 'laws.FnExactRectOf': WHATEVER THE INPUT: true; the input reads as it did. -/
def fnExactRectOfSpec : ChangeSpec := { name := "fnExactRectOf", fn := fun _ => fun
  | [d1, d2, d3, d4, d5] => { results := [.lit (.bool true)], args := [d1, d2, d3, d4, d5] }
  | _ => none }
def fnExactRectOfRow : OpenClaim := { program := "ytdbgnoolokfafaa", sum := "81f37dc42c6167a842daabbc50575d439ba626a247b1b9b07fa25bac9aa2a8bf", func := "loop.example/g00137/laws.FnExactRectOf", spec := "fnExactRectOf", inPlace := ["math/bits.Add64"], recurses := true, plainKeys := false, apart := false }
def FnExactRectOfSaid : Prop := fnExactRectOfRow.holds Try.pinned (OpenSpec.ofChange fnExactRectOfSpec)

/-- ITS FALSE NEIGHBOUR: 'it returns false'. Refute it at one input. -/
def fnExactRectOfWrong : ChangeSpec := { name := "fnExactRectOf", fn := fun _ => fun
  | [d1, d2, d3, d4, d5] => { results := [.lit (.bool false)], args := [d1, d2, d3, d4, d5] }
  | _ => none }
def FnExactRectOfWrongFalsely : Prop := fnExactRectOfRow.holds Try.pinned (OpenSpec.ofChange fnExactRectOfWrong)

/-- 'laws.FnExactCoverOf': WHATEVER THE INPUT: true; the input reads as it did. -/
def fnExactCoverOfSpec : ChangeSpec := { name := "fnExactCoverOf", fn := fun _ => fun
  | [d1, d2, d3, d4] => { results := [.lit (.bool true)], args := [d1, d2, d3, d4] }
  | _ => none }
def fnExactCoverOfRow : OpenClaim := { program := "ytdbgnoolokfafaa", sum := "81f37dc42c6167a842daabbc50575d439ba626a247b1b9b07fa25bac9aa2a8bf", func := "loop.example/g00137/laws.FnExactCoverOf", spec := "fnExactCoverOf", plainKeys := false, apart := false }
def FnExactCoverOfSaid : Prop := fnExactCoverOfRow.holds Try.pinned (OpenSpec.ofChange fnExactCoverOfSpec)

/-- ITS FALSE NEIGHBOUR: 'it returns false'. Refute it at one input. -/
def fnExactCoverOfWrong : ChangeSpec := { name := "fnExactCoverOf", fn := fun _ => fun
  | [d1, d2, d3, d4] => { results := [.lit (.bool false)], args := [d1, d2, d3, d4] }
  | _ => none }
def FnExactCoverOfWrongFalsely : Prop := fnExactCoverOfRow.holds Try.pinned (OpenSpec.ofChange fnExactCoverOfWrong)

/-- 'laws.FnExactLinesOf': WHATEVER THE INPUT: true; the input reads as it did. -/
def fnExactLinesOfSpec : ChangeSpec := { name := "fnExactLinesOf", fn := fun _ => fun
  | [d] => { results := [.lit (.bool true)], args := [d] }
  | _ => none }
def fnExactLinesOfRow : OpenClaim := { program := "ytdbgnoolokfafaa", sum := "81f37dc42c6167a842daabbc50575d439ba626a247b1b9b07fa25bac9aa2a8bf", func := "loop.example/g00137/laws.FnExactLinesOf", spec := "fnExactLinesOf", unfollowed := true, recurses := true, plainKeys := false, apart := false }
def FnExactLinesOfSaid : Prop := fnExactLinesOfRow.holds Try.pinned (OpenSpec.ofChange fnExactLinesOfSpec)

/-- ITS FALSE NEIGHBOUR: 'it returns false'. Refute it at one input. -/
def fnExactLinesOfWrong : ChangeSpec := { name := "fnExactLinesOf", fn := fun _ => fun
  | [d] => { results := [.lit (.bool false)], args := [d] }
  | _ => none }
def FnExactLinesOfWrongFalsely : Prop := fnExactLinesOfRow.holds Try.pinned (OpenSpec.ofChange fnExactLinesOfWrong)

/-- 'laws.FnExactMoveLines': WHATEVER THE INPUT: true; the input reads as it did. -/
def fnExactMoveLinesSpec : ChangeSpec := { name := "fnExactMoveLines", fn := fun _ => fun
  | [d1, d2] => { results := [.lit (.bool true)], args := [d1, d2] }
  | _ => none }
def fnExactMoveLinesRow : OpenClaim := { program := "ytdbgnoolokfafaa", sum := "81f37dc42c6167a842daabbc50575d439ba626a247b1b9b07fa25bac9aa2a8bf", func := "loop.example/g00137/laws.FnExactMoveLines", spec := "fnExactMoveLines", inPlace := ["math/bits.Add64"], plainKeys := false, apart := false }
def FnExactMoveLinesSaid : Prop := fnExactMoveLinesRow.holds Try.pinned (OpenSpec.ofChange fnExactMoveLinesSpec)

/-- ITS FALSE NEIGHBOUR: 'it returns false'. Refute it at one input. -/
def fnExactMoveLinesWrong : ChangeSpec := { name := "fnExactMoveLines", fn := fun _ => fun
  | [d1, d2] => { results := [.lit (.bool false)], args := [d1, d2] }
  | _ => none }
def FnExactMoveLinesWrongFalsely : Prop := fnExactMoveLinesRow.holds Try.pinned (OpenSpec.ofChange fnExactMoveLinesWrong)

/-- 'laws.FnExactDashed': WHATEVER THE INPUT: true; the input reads as it did. -/
def fnExactDashedSpec : ChangeSpec := { name := "fnExactDashed", fn := fun _ => fun
  | [d1, d2, d3] => { results := [.lit (.bool true)], args := [d1, d2, d3] }
  | _ => none }
def fnExactDashedRow : OpenClaim := { program := "ytdbgnoolokfafaa", sum := "81f37dc42c6167a842daabbc50575d439ba626a247b1b9b07fa25bac9aa2a8bf", func := "loop.example/g00137/laws.FnExactDashed", spec := "fnExactDashed", plainKeys := false, apart := false }
def FnExactDashedSaid : Prop := fnExactDashedRow.holds Try.pinned (OpenSpec.ofChange fnExactDashedSpec)

/-- ITS FALSE NEIGHBOUR: 'it returns false'. Refute it at one input. -/
def fnExactDashedWrong : ChangeSpec := { name := "fnExactDashed", fn := fun _ => fun
  | [d1, d2, d3] => { results := [.lit (.bool false)], args := [d1, d2, d3] }
  | _ => none }
def FnExactDashedWrongFalsely : Prop := fnExactDashedRow.holds Try.pinned (OpenSpec.ofChange fnExactDashedWrong)

/-- 'laws.FnPacked': WHATEVER THE INPUT: true; the input reads as it did. -/
def fnPackedSpec : ChangeSpec := { name := "fnPacked", fn := fun _ => fun
  | [d] => { results := [.lit (.bool true)], args := [d] }
  | _ => none }
def fnPackedRow : OpenClaim := { program := "ytdbgnoolokfafaa", sum := "81f37dc42c6167a842daabbc50575d439ba626a247b1b9b07fa25bac9aa2a8bf", func := "loop.example/g00137/laws.FnPacked", spec := "fnPacked", unfollowed := true, recurses := true, plainKeys := false, apart := false }
def FnPackedSaid : Prop := fnPackedRow.holds Try.pinned (OpenSpec.ofChange fnPackedSpec)

/-- ITS FALSE NEIGHBOUR: 'it returns false'. Refute it at one input. -/
def fnPackedWrong : ChangeSpec := { name := "fnPacked", fn := fun _ => fun
  | [d] => { results := [.lit (.bool false)], args := [d] }
  | _ => none }
def FnPackedWrongFalsely : Prop := fnPackedRow.holds Try.pinned (OpenSpec.ofChange fnPackedWrong)

/- THE SECOND FORM. 'bulk': how many values and letters a reading holds, each counted each time it is reached (what is shared counts as often as it is met; a slice's spare places count too). A statement '..UptoSaid' is the law's where the arguments, and the package variables that the reading takes, are together of bulk at most 1048576: NARROWER than '..Said'. Prove '..Said' where nothing that the law and all that it calls make is longer than what came in: it says more and counts as full. Else prove '..UptoSaid'. A law counts once. -/
mutual
def uptoBulk {H : Type} : DataW H → Nat
  | .lit (.string bytes) => bytes.length + 1
  | .lit _ => 1
  | .nil => 1
  | .ptr d => uptoBulk d + 1
  | .slice elems spare => uptoBulkAll elems + uptoBulkAll spare + 1
  | .agg parts => uptoBulkAll parts + 1
  | .iface _ d => uptoBulk d + 1
  | .map entries => uptoBulkEntries entries + 1
  | .held _ => 1
def uptoBulkAll {H : Type} : List (DataW H) → Nat
  | [] => 0
  | d :: r => uptoBulk d + uptoBulkAll r
def uptoBulkEntries {H : Type} : List (Lit × DataW H) → Nat
  | [] => 0
  | x :: r => uptoBulkEntry x + uptoBulkEntries r
def uptoBulkEntry {H : Type} : Lit × DataW H → Nat
  | (.string bytes, d) => bytes.length + uptoBulk d + 1
  | (_, d) => uptoBulk d + 1
 end
def uptoSmall : (H : Type) → List (DataW H) → Bool := fun _ ds => decide (uptoBulkAll ds ≤ 1048576)
def OpenSpec.upto (s : _root_.Go.ChangeSpec) : _root_.Go.OpenSpec := { _root_.Go.OpenSpec.ofChange s with cond := some uptoSmall }

/-- 'laws.FnExactCurveAt', WHERE WHAT IT READS IS OF BULK AT MOST 1048576: true; the input reads as it did. -/
def fnExactCurveAtUptoRow : OpenClaim := { program := "ytdbgnoolokfafaa", sum := "81f37dc42c6167a842daabbc50575d439ba626a247b1b9b07fa25bac9aa2a8bf", func := "loop.example/g00137/laws.FnExactCurveAt", spec := "fnExactCurveAt", unfollowed := true, recurses := true, plainKeys := false, apart := false, narrowed := true }
def FnExactCurveAtUptoSaid : Prop := fnExactCurveAtUptoRow.holds Try.pinned (OpenSpec.upto fnExactCurveAtSpec)

/-- 'laws.FnExactRunAt', WHERE WHAT IT READS IS OF BULK AT MOST 1048576: true; the input reads as it did. -/
def fnExactRunAtUptoRow : OpenClaim := { program := "ytdbgnoolokfafaa", sum := "81f37dc42c6167a842daabbc50575d439ba626a247b1b9b07fa25bac9aa2a8bf", func := "loop.example/g00137/laws.FnExactRunAt", spec := "fnExactRunAt", unfollowed := true, recurses := true, plainKeys := false, apart := false, narrowed := true }
def FnExactRunAtUptoSaid : Prop := fnExactRunAtUptoRow.holds Try.pinned (OpenSpec.upto fnExactRunAtSpec)

/-- 'laws.FnTints', WHERE WHAT IT READS IS OF BULK AT MOST 1048576: true; the input reads as it did. -/
def fnTintsUptoRow : OpenClaim := { program := "ytdbgnoolokfafaa", sum := "81f37dc42c6167a842daabbc50575d439ba626a247b1b9b07fa25bac9aa2a8bf", func := "loop.example/g00137/laws.FnTints", spec := "fnTints", unfollowed := true, recurses := true, plainKeys := false, apart := false, narrowed := true }
def FnTintsUptoSaid : Prop := fnTintsUptoRow.holds Try.pinned (OpenSpec.upto fnTintsSpec)

/-- 'laws.FnExactPaintMask', WHERE WHAT IT READS IS OF BULK AT MOST 1048576: true; the input reads as it did. -/
def fnExactPaintMaskUptoRow : OpenClaim := { program := "ytdbgnoolokfafaa", sum := "81f37dc42c6167a842daabbc50575d439ba626a247b1b9b07fa25bac9aa2a8bf", func := "loop.example/g00137/laws.FnExactPaintMask", spec := "fnExactPaintMask", unfollowed := true, recurses := true, plainKeys := false, apart := false, narrowed := true }
def FnExactPaintMaskUptoSaid : Prop := fnExactPaintMaskUptoRow.holds Try.pinned (OpenSpec.upto fnExactPaintMaskSpec)

/-- 'laws.FnCover', WHERE WHAT IT READS IS OF BULK AT MOST 1048576: true; the input reads as it did. -/
def fnCoverUptoRow : OpenClaim := { program := "ytdbgnoolokfafaa", sum := "81f37dc42c6167a842daabbc50575d439ba626a247b1b9b07fa25bac9aa2a8bf", func := "loop.example/g00137/laws.FnCover", spec := "fnCover", plainKeys := false, apart := false, narrowed := true }
def FnCoverUptoSaid : Prop := fnCoverUptoRow.holds Try.pinned (OpenSpec.upto fnCoverSpec)

/-- 'laws.FnExactEllipseOf', WHERE WHAT IT READS IS OF BULK AT MOST 1048576: true; the input reads as it did. -/
def fnExactEllipseOfUptoRow : OpenClaim := { program := "ytdbgnoolokfafaa", sum := "81f37dc42c6167a842daabbc50575d439ba626a247b1b9b07fa25bac9aa2a8bf", func := "loop.example/g00137/laws.FnExactEllipseOf", spec := "fnExactEllipseOf", inPlace := ["math/bits.Add64"], recurses := true, plainKeys := false, apart := false, narrowed := true }
def FnExactEllipseOfUptoSaid : Prop := fnExactEllipseOfUptoRow.holds Try.pinned (OpenSpec.upto fnExactEllipseOfSpec)

/-- 'laws.FnExactRectOf', WHERE WHAT IT READS IS OF BULK AT MOST 1048576: true; the input reads as it did. -/
def fnExactRectOfUptoRow : OpenClaim := { program := "ytdbgnoolokfafaa", sum := "81f37dc42c6167a842daabbc50575d439ba626a247b1b9b07fa25bac9aa2a8bf", func := "loop.example/g00137/laws.FnExactRectOf", spec := "fnExactRectOf", inPlace := ["math/bits.Add64"], recurses := true, plainKeys := false, apart := false, narrowed := true }
def FnExactRectOfUptoSaid : Prop := fnExactRectOfUptoRow.holds Try.pinned (OpenSpec.upto fnExactRectOfSpec)

/-- 'laws.FnExactCoverOf', WHERE WHAT IT READS IS OF BULK AT MOST 1048576: true; the input reads as it did. -/
def fnExactCoverOfUptoRow : OpenClaim := { program := "ytdbgnoolokfafaa", sum := "81f37dc42c6167a842daabbc50575d439ba626a247b1b9b07fa25bac9aa2a8bf", func := "loop.example/g00137/laws.FnExactCoverOf", spec := "fnExactCoverOf", plainKeys := false, apart := false, narrowed := true }
def FnExactCoverOfUptoSaid : Prop := fnExactCoverOfUptoRow.holds Try.pinned (OpenSpec.upto fnExactCoverOfSpec)

/-- 'laws.FnExactLinesOf', WHERE WHAT IT READS IS OF BULK AT MOST 1048576: true; the input reads as it did. -/
def fnExactLinesOfUptoRow : OpenClaim := { program := "ytdbgnoolokfafaa", sum := "81f37dc42c6167a842daabbc50575d439ba626a247b1b9b07fa25bac9aa2a8bf", func := "loop.example/g00137/laws.FnExactLinesOf", spec := "fnExactLinesOf", unfollowed := true, recurses := true, plainKeys := false, apart := false, narrowed := true }
def FnExactLinesOfUptoSaid : Prop := fnExactLinesOfUptoRow.holds Try.pinned (OpenSpec.upto fnExactLinesOfSpec)

/-- 'laws.FnExactMoveLines', WHERE WHAT IT READS IS OF BULK AT MOST 1048576: true; the input reads as it did. -/
def fnExactMoveLinesUptoRow : OpenClaim := { program := "ytdbgnoolokfafaa", sum := "81f37dc42c6167a842daabbc50575d439ba626a247b1b9b07fa25bac9aa2a8bf", func := "loop.example/g00137/laws.FnExactMoveLines", spec := "fnExactMoveLines", inPlace := ["math/bits.Add64"], plainKeys := false, apart := false, narrowed := true }
def FnExactMoveLinesUptoSaid : Prop := fnExactMoveLinesUptoRow.holds Try.pinned (OpenSpec.upto fnExactMoveLinesSpec)

/-- 'laws.FnExactDashed', WHERE WHAT IT READS IS OF BULK AT MOST 1048576: true; the input reads as it did. -/
def fnExactDashedUptoRow : OpenClaim := { program := "ytdbgnoolokfafaa", sum := "81f37dc42c6167a842daabbc50575d439ba626a247b1b9b07fa25bac9aa2a8bf", func := "loop.example/g00137/laws.FnExactDashed", spec := "fnExactDashed", plainKeys := false, apart := false, narrowed := true }
def FnExactDashedUptoSaid : Prop := fnExactDashedUptoRow.holds Try.pinned (OpenSpec.upto fnExactDashedSpec)

/-- 'laws.FnPacked', WHERE WHAT IT READS IS OF BULK AT MOST 1048576: true; the input reads as it did. -/
def fnPackedUptoRow : OpenClaim := { program := "ytdbgnoolokfafaa", sum := "81f37dc42c6167a842daabbc50575d439ba626a247b1b9b07fa25bac9aa2a8bf", func := "loop.example/g00137/laws.FnPacked", spec := "fnPacked", unfollowed := true, recurses := true, plainKeys := false, apart := false, narrowed := true }
def FnPackedUptoSaid : Prop := fnPackedUptoRow.holds Try.pinned (OpenSpec.upto fnPackedSpec)

end Rows
end Go.Proofs.Ytdbgnoolokfafaa
