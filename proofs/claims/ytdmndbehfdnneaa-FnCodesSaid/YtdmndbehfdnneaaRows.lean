/-
  No cell of these rows narrows 'for every input' (looked for: loops, veiled, ifaces, maps, wideKeys, modest, calm, conditions, laid).
  DERIVED. THE GIVEN ROWS OF THIS SEAT. 12 by the template 'for every input the law returns true; each argument reads behind the call as it read before'; 0 by the template 'total and deterministic' (their statements: YtdmndbehfdnneaaTotals.lean).
  GIVEN WITH THE SEED: the statements are not yours to turn. If you find one false, say at which input.
  Laid BY PROGRAM, IN A SANDBOX (cutbox-rows.mjs): the forced cells as the released guide's own fill.sh prints them over the translation 9db661000da24c9b… (all of the seat's roots in one cut). By AI agents, Wed Nov 11 2026. No macro, syntax, notation, axiom, sorry.
-/
import Derived.Test.YtdmndbehfdnneaaChecked
import GoSem.Claim
import GoSem.ClaimJoined
import GoSem.ClaimMapViews
import Derived.JoinedTies
import Derived.KernelRfl
namespace Go.Proofs.Ytdmndbehfdnneaa
/- THE CELL 'sum', in the pinned program and in every row, IS THE sha256 OF THE DUMP (.gsa) THAT YtdmndbehfdnneaaProg.lean LOADS. Nothing in Lean hashes anything: it is a label: what it is worth is what the hold of that sum in a sandbox is worth. -/
noncomputable def Try.pinned : Pinned := { name := "ytdmndbehfdnneaa", sum := "9db661000da24c9bdec1852bd6124948b9bcbff64965cbabf1e46a27f89b92d6", checked := Try.checked }
namespace Rows
def none {H : Type} : Left H := { results := [], args := [] }

/-- 'laws.FnExactCurveAt': WHATEVER THE INPUT: true; the input reads as it did. -/
def fnExactCurveAtSpec : ChangeSpec := { name := "fnExactCurveAt", fn := fun _ => fun
  | [d1, d2] => { results := [.lit (.bool true)], args := [d1, d2] }
  | _ => none }
def fnExactCurveAtRow : OpenClaim := { program := "ytdmndbehfdnneaa", sum := "9db661000da24c9bdec1852bd6124948b9bcbff64965cbabf1e46a27f89b92d6", func := "loop.example/g00137/laws.FnExactCurveAt", spec := "fnExactCurveAt", unfollowed := true, recurses := true, apart := false }
def FnExactCurveAtSaid : Prop := fnExactCurveAtRow.holds Try.pinned (OpenSpec.ofChange fnExactCurveAtSpec)

/-- ITS FALSE NEIGHBOUR: 'it returns false'. Refute it at one input. -/
def fnExactCurveAtWrong : ChangeSpec := { name := "fnExactCurveAt", fn := fun _ => fun
  | [d1, d2] => { results := [.lit (.bool false)], args := [d1, d2] }
  | _ => none }
def FnExactCurveAtWrongFalsely : Prop := fnExactCurveAtRow.holds Try.pinned (OpenSpec.ofChange fnExactCurveAtWrong)

/-- 'laws.FnExactMeetMasks': WHATEVER THE INPUT: true; the input reads as it did. -/
def fnExactMeetMasksSpec : ChangeSpec := { name := "fnExactMeetMasks", fn := fun _ => fun
  | [d1, d2] => { results := [.lit (.bool true)], args := [d1, d2] }
  | _ => none }
def fnExactMeetMasksRow : OpenClaim := { program := "ytdmndbehfdnneaa", sum := "9db661000da24c9bdec1852bd6124948b9bcbff64965cbabf1e46a27f89b92d6", func := "loop.example/g00137/laws.FnExactMeetMasks", spec := "fnExactMeetMasks", apart := false }
def FnExactMeetMasksSaid : Prop := fnExactMeetMasksRow.holds Try.pinned (OpenSpec.ofChange fnExactMeetMasksSpec)

/-- ITS FALSE NEIGHBOUR: 'it returns false'. Refute it at one input. -/
def fnExactMeetMasksWrong : ChangeSpec := { name := "fnExactMeetMasks", fn := fun _ => fun
  | [d1, d2] => { results := [.lit (.bool false)], args := [d1, d2] }
  | _ => none }
def FnExactMeetMasksWrongFalsely : Prop := fnExactMeetMasksRow.holds Try.pinned (OpenSpec.ofChange fnExactMeetMasksWrong)

/-- 'laws.FnCodes': WHATEVER THE INPUT: true; the input reads as it did. -/
def fnCodesSpec : ChangeSpec := { name := "fnCodes", fn := fun _ => fun
  | [d] => { results := [.lit (.bool true)], args := [d] }
  | _ => none }
def fnCodesRow : OpenClaim := { program := "ytdmndbehfdnneaa", sum := "9db661000da24c9bdec1852bd6124948b9bcbff64965cbabf1e46a27f89b92d6", func := "loop.example/g00137/laws.FnCodes", spec := "fnCodes", apart := false }
def FnCodesSaid : Prop := fnCodesRow.holds Try.pinned (OpenSpec.ofChange fnCodesSpec)

/-- ITS FALSE NEIGHBOUR: 'it returns false'. Refute it at one input. -/
def fnCodesWrong : ChangeSpec := { name := "fnCodes", fn := fun _ => fun
  | [d] => { results := [.lit (.bool false)], args := [d] }
  | _ => none }
def FnCodesWrongFalsely : Prop := fnCodesRow.holds Try.pinned (OpenSpec.ofChange fnCodesWrong)

/-- 'laws.FnExactRunAt': WHATEVER THE INPUT: true; the input reads as it did. -/
def fnExactRunAtSpec : ChangeSpec := { name := "fnExactRunAt", fn := fun _ => fun
  | [d1, d2, d3] => { results := [.lit (.bool true)], args := [d1, d2, d3] }
  | _ => none }
def fnExactRunAtRow : OpenClaim := { program := "ytdmndbehfdnneaa", sum := "9db661000da24c9bdec1852bd6124948b9bcbff64965cbabf1e46a27f89b92d6", func := "loop.example/g00137/laws.FnExactRunAt", spec := "fnExactRunAt", unfollowed := true, recurses := true, apart := false }
def FnExactRunAtSaid : Prop := fnExactRunAtRow.holds Try.pinned (OpenSpec.ofChange fnExactRunAtSpec)

/-- ITS FALSE NEIGHBOUR: 'it returns false'. Refute it at one input. -/
def fnExactRunAtWrong : ChangeSpec := { name := "fnExactRunAt", fn := fun _ => fun
  | [d1, d2, d3] => { results := [.lit (.bool false)], args := [d1, d2, d3] }
  | _ => none }
def FnExactRunAtWrongFalsely : Prop := fnExactRunAtRow.holds Try.pinned (OpenSpec.ofChange fnExactRunAtWrong)

/-- 'laws.FnExactSheetBytes': WHATEVER THE INPUT: true; the input reads as it did. -/
def fnExactSheetBytesSpec : ChangeSpec := { name := "fnExactSheetBytes", fn := fun _ => fun
  | [d] => { results := [.lit (.bool true)], args := [d] }
  | _ => none }
def fnExactSheetBytesRow : OpenClaim := { program := "ytdmndbehfdnneaa", sum := "9db661000da24c9bdec1852bd6124948b9bcbff64965cbabf1e46a27f89b92d6", func := "loop.example/g00137/laws.FnExactSheetBytes", spec := "fnExactSheetBytes", apart := false }
def FnExactSheetBytesSaid : Prop := fnExactSheetBytesRow.holds Try.pinned (OpenSpec.ofChange fnExactSheetBytesSpec)

/-- ITS FALSE NEIGHBOUR: 'it returns false'. Refute it at one input. -/
def fnExactSheetBytesWrong : ChangeSpec := { name := "fnExactSheetBytes", fn := fun _ => fun
  | [d] => { results := [.lit (.bool false)], args := [d] }
  | _ => none }
def FnExactSheetBytesWrongFalsely : Prop := fnExactSheetBytesRow.holds Try.pinned (OpenSpec.ofChange fnExactSheetBytesWrong)

/-- 'laws.FnExactLaySheet': WHATEVER THE INPUT: true; the input reads as it did. -/
def fnExactLaySheetSpec : ChangeSpec := { name := "fnExactLaySheet", fn := fun _ => fun
  | [d1, d2, d3] => { results := [.lit (.bool true)], args := [d1, d2, d3] }
  | _ => none }
def fnExactLaySheetRow : OpenClaim := { program := "ytdmndbehfdnneaa", sum := "9db661000da24c9bdec1852bd6124948b9bcbff64965cbabf1e46a27f89b92d6", func := "loop.example/g00137/laws.FnExactLaySheet", spec := "fnExactLaySheet", unfollowed := true, recurses := true, apart := false }
def FnExactLaySheetSaid : Prop := fnExactLaySheetRow.holds Try.pinned (OpenSpec.ofChange fnExactLaySheetSpec)

/-- ITS FALSE NEIGHBOUR: 'it returns false'. Refute it at one input. -/
def fnExactLaySheetWrong : ChangeSpec := { name := "fnExactLaySheet", fn := fun _ => fun
  | [d1, d2, d3] => { results := [.lit (.bool false)], args := [d1, d2, d3] }
  | _ => none }
def FnExactLaySheetWrongFalsely : Prop := fnExactLaySheetRow.holds Try.pinned (OpenSpec.ofChange fnExactLaySheetWrong)

/-- 'laws.FnTints': WHATEVER THE INPUT: true; the input reads as it did. -/
def fnTintsSpec : ChangeSpec := { name := "fnTints", fn := fun _ => fun
  | [d1, d2] => { results := [.lit (.bool true)], args := [d1, d2] }
  | _ => none }
def fnTintsRow : OpenClaim := { program := "ytdmndbehfdnneaa", sum := "9db661000da24c9bdec1852bd6124948b9bcbff64965cbabf1e46a27f89b92d6", func := "loop.example/g00137/laws.FnTints", spec := "fnTints", unfollowed := true, recurses := true, apart := false }
def FnTintsSaid : Prop := fnTintsRow.holds Try.pinned (OpenSpec.ofChange fnTintsSpec)

/-- ITS FALSE NEIGHBOUR: 'it returns false'. Refute it at one input. -/
def fnTintsWrong : ChangeSpec := { name := "fnTints", fn := fun _ => fun
  | [d1, d2] => { results := [.lit (.bool false)], args := [d1, d2] }
  | _ => none }
def FnTintsWrongFalsely : Prop := fnTintsRow.holds Try.pinned (OpenSpec.ofChange fnTintsWrong)

/-- 'laws.FnExactSideOf': WHATEVER THE INPUT: true; the input reads as it did. -/
def fnExactSideOfSpec : ChangeSpec := { name := "fnExactSideOf", fn := fun _ => fun
  | [d1, d2, d3] => { results := [.lit (.bool true)], args := [d1, d2, d3] }
  | _ => none }
def fnExactSideOfRow : OpenClaim := { program := "ytdmndbehfdnneaa", sum := "9db661000da24c9bdec1852bd6124948b9bcbff64965cbabf1e46a27f89b92d6", func := "loop.example/g00137/laws.FnExactSideOf", spec := "fnExactSideOf", inPlace := ["math/bits.Add64"], apart := false }
def FnExactSideOfSaid : Prop := fnExactSideOfRow.holds Try.pinned (OpenSpec.ofChange fnExactSideOfSpec)

/-- ITS FALSE NEIGHBOUR: 'it returns false'. Refute it at one input. -/
def fnExactSideOfWrong : ChangeSpec := { name := "fnExactSideOf", fn := fun _ => fun
  | [d1, d2, d3] => { results := [.lit (.bool false)], args := [d1, d2, d3] }
  | _ => none }
def FnExactSideOfWrongFalsely : Prop := fnExactSideOfRow.holds Try.pinned (OpenSpec.ofChange fnExactSideOfWrong)

/-- 'laws.FnExactWindingAt': WHATEVER THE INPUT: true; the input reads as it did. -/
def fnExactWindingAtSpec : ChangeSpec := { name := "fnExactWindingAt", fn := fun _ => fun
  | [d1, d2, d3] => { results := [.lit (.bool true)], args := [d1, d2, d3] }
  | _ => none }
def fnExactWindingAtRow : OpenClaim := { program := "ytdmndbehfdnneaa", sum := "9db661000da24c9bdec1852bd6124948b9bcbff64965cbabf1e46a27f89b92d6", func := "loop.example/g00137/laws.FnExactWindingAt", spec := "fnExactWindingAt", apart := false }
def FnExactWindingAtSaid : Prop := fnExactWindingAtRow.holds Try.pinned (OpenSpec.ofChange fnExactWindingAtSpec)

/-- ITS FALSE NEIGHBOUR: 'it returns false'. Refute it at one input. -/
def fnExactWindingAtWrong : ChangeSpec := { name := "fnExactWindingAt", fn := fun _ => fun
  | [d1, d2, d3] => { results := [.lit (.bool false)], args := [d1, d2, d3] }
  | _ => none }
def FnExactWindingAtWrongFalsely : Prop := fnExactWindingAtRow.holds Try.pinned (OpenSpec.ofChange fnExactWindingAtWrong)

/-- 'laws.FnExactViewAffine': WHATEVER THE INPUT: true; the input reads as it did. -/
def fnExactViewAffineSpec : ChangeSpec := { name := "fnExactViewAffine", fn := fun _ => fun
  | [d1, d2, d3, d4, d5, d6] => { results := [.lit (.bool true)], args := [d1, d2, d3, d4, d5, d6] }
  | _ => none }
def fnExactViewAffineRow : OpenClaim := { program := "ytdmndbehfdnneaa", sum := "9db661000da24c9bdec1852bd6124948b9bcbff64965cbabf1e46a27f89b92d6", func := "loop.example/g00137/laws.FnExactViewAffine", spec := "fnExactViewAffine", inPlace := ["math/bits.Add64"], apart := false }
def FnExactViewAffineSaid : Prop := fnExactViewAffineRow.holds Try.pinned (OpenSpec.ofChange fnExactViewAffineSpec)

/-- ITS FALSE NEIGHBOUR: 'it returns false'. Refute it at one input. -/
def fnExactViewAffineWrong : ChangeSpec := { name := "fnExactViewAffine", fn := fun _ => fun
  | [d1, d2, d3, d4, d5, d6] => { results := [.lit (.bool false)], args := [d1, d2, d3, d4, d5, d6] }
  | _ => none }
def FnExactViewAffineWrongFalsely : Prop := fnExactViewAffineRow.holds Try.pinned (OpenSpec.ofChange fnExactViewAffineWrong)

/-- 'laws.FnFixed': WHATEVER THE INPUT: true; the input reads as it did. -/
def fnFixedSpec : ChangeSpec := { name := "fnFixed", fn := fun _ => fun
  | [d1, d2] => { results := [.lit (.bool true)], args := [d1, d2] }
  | _ => none }
def fnFixedRow : OpenClaim := { program := "ytdmndbehfdnneaa", sum := "9db661000da24c9bdec1852bd6124948b9bcbff64965cbabf1e46a27f89b92d6", func := "loop.example/g00137/laws.FnFixed", spec := "fnFixed", inPlace := ["math/bits.Add64"], apart := false }
def FnFixedSaid : Prop := fnFixedRow.holds Try.pinned (OpenSpec.ofChange fnFixedSpec)

/-- ITS FALSE NEIGHBOUR: 'it returns false'. Refute it at one input. -/
def fnFixedWrong : ChangeSpec := { name := "fnFixed", fn := fun _ => fun
  | [d1, d2] => { results := [.lit (.bool false)], args := [d1, d2] }
  | _ => none }
def FnFixedWrongFalsely : Prop := fnFixedRow.holds Try.pinned (OpenSpec.ofChange fnFixedWrong)

/-- 'laws.FnExactPaintMask': WHATEVER THE INPUT: true; the input reads as it did. -/
def fnExactPaintMaskSpec : ChangeSpec := { name := "fnExactPaintMask", fn := fun _ => fun
  | [d1, d2, d3] => { results := [.lit (.bool true)], args := [d1, d2, d3] }
  | _ => none }
def fnExactPaintMaskRow : OpenClaim := { program := "ytdmndbehfdnneaa", sum := "9db661000da24c9bdec1852bd6124948b9bcbff64965cbabf1e46a27f89b92d6", func := "loop.example/g00137/laws.FnExactPaintMask", spec := "fnExactPaintMask", unfollowed := true, recurses := true, apart := false }
def FnExactPaintMaskSaid : Prop := fnExactPaintMaskRow.holds Try.pinned (OpenSpec.ofChange fnExactPaintMaskSpec)

/-- ITS FALSE NEIGHBOUR: 'it returns false'. Refute it at one input. -/
def fnExactPaintMaskWrong : ChangeSpec := { name := "fnExactPaintMask", fn := fun _ => fun
  | [d1, d2, d3] => { results := [.lit (.bool false)], args := [d1, d2, d3] }
  | _ => none }
def FnExactPaintMaskWrongFalsely : Prop := fnExactPaintMaskRow.holds Try.pinned (OpenSpec.ofChange fnExactPaintMaskWrong)

/- THE SECOND FORM. 'bulk': how many values and letters a reading holds, each counted each time it is reached (what is shared counts as often as it is met; a slice's spare places count too). A statement '..UptoSaid' is the law's where the arguments, and the package variables that the reading takes, are together of bulk at most 1048576: NARROWER than '..Said'. Prove '..Said' where nothing that the law and all that it calls make is longer than what came in: it says more and counts as full. Else prove '..UptoSaid'. A law counts once. -/
mutual
def uptoBulk {H : Type} : DataW H → Nat
  | .lit (.string bytes) => bytes.length + 1
  | .lit _ => 1
  | .nil => 1
  | .ptr d => uptoBulk d + 1
  | .slice elems spare => uptoBulkAll elems + uptoBulkAll spare + 1
  | .agg parts => uptoBulkAll parts + 1
  | .iface _ d => uptoBulk d + 1
  | .map entries => uptoBulkEntries entries + 1
  | .held _ => 1
def uptoBulkAll {H : Type} : List (DataW H) → Nat
  | [] => 0
  | d :: r => uptoBulk d + uptoBulkAll r
def uptoBulkEntries {H : Type} : List (Lit × DataW H) → Nat
  | [] => 0
  | x :: r => uptoBulkEntry x + uptoBulkEntries r
def uptoBulkEntry {H : Type} : Lit × DataW H → Nat
  | (.string bytes, d) => bytes.length + uptoBulk d + 1
  | (_, d) => uptoBulk d + 1
 end
def uptoSmall : (H : Type) → List (DataW H) → Bool := fun _ ds => decide (uptoBulkAll ds ≤ 1048576)
def OpenSpec.upto (s : _root_.Go.ChangeSpec) : _root_.Go.OpenSpec := { _root_.Go.OpenSpec.ofChange s with cond := some uptoSmall }

/-- 'laws.FnExactCurveAt', WHERE WHAT IT READS IS OF BULK AT MOST 1048576: true; the input reads as it did. -/
def fnExactCurveAtUptoRow : OpenClaim := { program := "ytdmndbehfdnneaa", sum := "9db661000da24c9bdec1852bd6124948b9bcbff64965cbabf1e46a27f89b92d6", func := "loop.example/g00137/laws.FnExactCurveAt", spec := "fnExactCurveAt", unfollowed := true, recurses := true, apart := false, narrowed := true }
def FnExactCurveAtUptoSaid : Prop := fnExactCurveAtUptoRow.holds Try.pinned (OpenSpec.upto fnExactCurveAtSpec)

/-- 'laws.FnExactMeetMasks', WHERE WHAT IT READS IS OF BULK AT MOST 1048576: true; the input reads as it did. -/
def fnExactMeetMasksUptoRow : OpenClaim := { program := "ytdmndbehfdnneaa", sum := "9db661000da24c9bdec1852bd6124948b9bcbff64965cbabf1e46a27f89b92d6", func := "loop.example/g00137/laws.FnExactMeetMasks", spec := "fnExactMeetMasks", apart := false, narrowed := true }
def FnExactMeetMasksUptoSaid : Prop := fnExactMeetMasksUptoRow.holds Try.pinned (OpenSpec.upto fnExactMeetMasksSpec)

/-- 'laws.FnCodes', WHERE WHAT IT READS IS OF BULK AT MOST 1048576: true; the input reads as it did. -/
def fnCodesUptoRow : OpenClaim := { program := "ytdmndbehfdnneaa", sum := "9db661000da24c9bdec1852bd6124948b9bcbff64965cbabf1e46a27f89b92d6", func := "loop.example/g00137/laws.FnCodes", spec := "fnCodes", apart := false, narrowed := true }
def FnCodesUptoSaid : Prop := fnCodesUptoRow.holds Try.pinned (OpenSpec.upto fnCodesSpec)

/-- 'laws.FnExactRunAt', WHERE WHAT IT READS IS OF BULK AT MOST 1048576: true; the input reads as it did. -/
def fnExactRunAtUptoRow : OpenClaim := { program := "ytdmndbehfdnneaa", sum := "9db661000da24c9bdec1852bd6124948b9bcbff64965cbabf1e46a27f89b92d6", func := "loop.example/g00137/laws.FnExactRunAt", spec := "fnExactRunAt", unfollowed := true, recurses := true, apart := false, narrowed := true }
def FnExactRunAtUptoSaid : Prop := fnExactRunAtUptoRow.holds Try.pinned (OpenSpec.upto fnExactRunAtSpec)

/-- 'laws.FnExactSheetBytes', WHERE WHAT IT READS IS OF BULK AT MOST 1048576: true; the input reads as it did. -/
def fnExactSheetBytesUptoRow : OpenClaim := { program := "ytdmndbehfdnneaa", sum := "9db661000da24c9bdec1852bd6124948b9bcbff64965cbabf1e46a27f89b92d6", func := "loop.example/g00137/laws.FnExactSheetBytes", spec := "fnExactSheetBytes", apart := false, narrowed := true }
def FnExactSheetBytesUptoSaid : Prop := fnExactSheetBytesUptoRow.holds Try.pinned (OpenSpec.upto fnExactSheetBytesSpec)

/-- 'laws.FnExactLaySheet', WHERE WHAT IT READS IS OF BULK AT MOST 1048576: true; the input reads as it did. -/
def fnExactLaySheetUptoRow : OpenClaim := { program := "ytdmndbehfdnneaa", sum := "9db661000da24c9bdec1852bd6124948b9bcbff64965cbabf1e46a27f89b92d6", func := "loop.example/g00137/laws.FnExactLaySheet", spec := "fnExactLaySheet", unfollowed := true, recurses := true, apart := false, narrowed := true }
def FnExactLaySheetUptoSaid : Prop := fnExactLaySheetUptoRow.holds Try.pinned (OpenSpec.upto fnExactLaySheetSpec)

/-- 'laws.FnTints', WHERE WHAT IT READS IS OF BULK AT MOST 1048576: true; the input reads as it did. -/
def fnTintsUptoRow : OpenClaim := { program := "ytdmndbehfdnneaa", sum := "9db661000da24c9bdec1852bd6124948b9bcbff64965cbabf1e46a27f89b92d6", func := "loop.example/g00137/laws.FnTints", spec := "fnTints", unfollowed := true, recurses := true, apart := false, narrowed := true }
def FnTintsUptoSaid : Prop := fnTintsUptoRow.holds Try.pinned (OpenSpec.upto fnTintsSpec)

/-- 'laws.FnExactSideOf', WHERE WHAT IT READS IS OF BULK AT MOST 1048576: true; the input reads as it did. -/
def fnExactSideOfUptoRow : OpenClaim := { program := "ytdmndbehfdnneaa", sum := "9db661000da24c9bdec1852bd6124948b9bcbff64965cbabf1e46a27f89b92d6", func := "loop.example/g00137/laws.FnExactSideOf", spec := "fnExactSideOf", inPlace := ["math/bits.Add64"], apart := false, narrowed := true }
def FnExactSideOfUptoSaid : Prop := fnExactSideOfUptoRow.holds Try.pinned (OpenSpec.upto fnExactSideOfSpec)

/-- 'laws.FnExactWindingAt', WHERE WHAT IT READS IS OF BULK AT MOST 1048576: true; the input reads as it did. -/
def fnExactWindingAtUptoRow : OpenClaim := { program := "ytdmndbehfdnneaa", sum := "9db661000da24c9bdec1852bd6124948b9bcbff64965cbabf1e46a27f89b92d6", func := "loop.example/g00137/laws.FnExactWindingAt", spec := "fnExactWindingAt", apart := false, narrowed := true }
def FnExactWindingAtUptoSaid : Prop := fnExactWindingAtUptoRow.holds Try.pinned (OpenSpec.upto fnExactWindingAtSpec)

/-- 'laws.FnExactViewAffine', WHERE WHAT IT READS IS OF BULK AT MOST 1048576: true; the input reads as it did. -/
def fnExactViewAffineUptoRow : OpenClaim := { program := "ytdmndbehfdnneaa", sum := "9db661000da24c9bdec1852bd6124948b9bcbff64965cbabf1e46a27f89b92d6", func := "loop.example/g00137/laws.FnExactViewAffine", spec := "fnExactViewAffine", inPlace := ["math/bits.Add64"], apart := false, narrowed := true }
def FnExactViewAffineUptoSaid : Prop := fnExactViewAffineUptoRow.holds Try.pinned (OpenSpec.upto fnExactViewAffineSpec)

/-- 'laws.FnFixed', WHERE WHAT IT READS IS OF BULK AT MOST 1048576: true; the input reads as it did. -/
def fnFixedUptoRow : OpenClaim := { program := "ytdmndbehfdnneaa", sum := "9db661000da24c9bdec1852bd6124948b9bcbff64965cbabf1e46a27f89b92d6", func := "loop.example/g00137/laws.FnFixed", spec := "fnFixed", inPlace := ["math/bits.Add64"], apart := false, narrowed := true }
def FnFixedUptoSaid : Prop := fnFixedUptoRow.holds Try.pinned (OpenSpec.upto fnFixedSpec)

/-- 'laws.FnExactPaintMask', WHERE WHAT IT READS IS OF BULK AT MOST 1048576: true; the input reads as it did. -/
def fnExactPaintMaskUptoRow : OpenClaim := { program := "ytdmndbehfdnneaa", sum := "9db661000da24c9bdec1852bd6124948b9bcbff64965cbabf1e46a27f89b92d6", func := "loop.example/g00137/laws.FnExactPaintMask", spec := "fnExactPaintMask", unfollowed := true, recurses := true, apart := false, narrowed := true }
def FnExactPaintMaskUptoSaid : Prop := fnExactPaintMaskUptoRow.holds Try.pinned (OpenSpec.upto fnExactPaintMaskSpec)

end Rows
end Go.Proofs.Ytdmndbehfdnneaa
