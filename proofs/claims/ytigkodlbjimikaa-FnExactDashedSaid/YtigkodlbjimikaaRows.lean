/-
  No cell of these rows narrows 'for every input' (looked for: loops, veiled, ifaces, maps, wideKeys, modest, calm, conditions, laid).
  DERIVED. THE GIVEN ROWS OF THIS SEAT. 8 by the template 'for every input the law returns true; each argument reads behind the call as it read before'; 0 by the template 'total and deterministic' (their statements: YtigkodlbjimikaaTotals.lean).
  GIVEN WITH THE SEED: the statements are not yours to turn. If you find one false, say at which input.
  Laid BY PROGRAM, IN A SANDBOX (cutbox-rows.mjs): the forced cells as the released guide's own fill.sh prints them over the translation e28c8263cb3391a0… (all of the seat's roots in one cut). By AI agents, Wed Nov 11 2026. No macro, syntax, notation, axiom, sorry.
-/
import Derived.Test.YtigkodlbjimikaaChecked
import GoSem.Claim
import GoSem.ClaimJoined
import GoSem.ClaimMapViews
import Derived.JoinedTies
import Derived.KernelRfl
namespace Go.Proofs.Ytigkodlbjimikaa
/- THE CELL 'sum', in the pinned program and in every row, IS THE sha256 OF THE DUMP (.gsa) THAT YtigkodlbjimikaaProg.lean LOADS. Nothing in Lean hashes anything: it is a label: what it is worth is what the hold of that sum in a sandbox is worth. -/
noncomputable def Try.pinned : Pinned := { name := "ytigkodlbjimikaa", sum := "e28c8263cb3391a0ecc026c816e769f7a06170bfef8d35a9cff69dfe662d8218", checked := Try.checked }
namespace Rows
def none {H : Type} : Left H := { results := [], args := [] }

/-- 'laws.FnExactPaintMask': WHATEVER THE INPUT: true; the input reads as it did. -/
def fnExactPaintMaskSpec : ChangeSpec := { name := "fnExactPaintMask", fn := fun _ => fun
  | [d1, d2, d3] => { results := [.lit (.bool true)], args := [d1, d2, d3] }
  | _ => none }
def fnExactPaintMaskRow : OpenClaim := { program := "ytigkodlbjimikaa", sum := "e28c8263cb3391a0ecc026c816e769f7a06170bfef8d35a9cff69dfe662d8218", func := "loop.example/g00137/laws.FnExactPaintMask", spec := "fnExactPaintMask", unfollowed := true, recurses := true, plainKeys := false, apart := false }
def FnExactPaintMaskSaid : Prop := fnExactPaintMaskRow.holds Try.pinned (OpenSpec.ofChange fnExactPaintMaskSpec)

/-- ITS FALSE NEIGHBOUR: 'it returns false'. Refute it at one input. -/
def fnExactPaintMaskWrong : ChangeSpec := { name := "fnExactPaintMask", fn := fun _ => fun
  | [d1, d2, d3] => { results := [.lit (.bool false)], args := [d1, d2, d3] }
  | _ => none }
def FnExactPaintMaskWrongFalsely : Prop := fnExactPaintMaskRow.holds Try.pinned (OpenSpec.ofChange fnExactPaintMaskWrong)

/-- 'laws.FnExactLinesOf': WHATEVER THE INPUT: true; the input reads as it did. -/
def fnExactLinesOfSpec : ChangeSpec := { name := "fnExactLinesOf", fn := fun _ => fun
  | [d] => { results := [.lit (.bool true)], args := [d] }
  | _ => none }
def fnExactLinesOfRow : OpenClaim := { program := "ytigkodlbjimikaa", sum := "e28c8263cb3391a0ecc026c816e769f7a06170bfef8d35a9cff69dfe662d8218", func := "loop.example/g00137/laws.FnExactLinesOf", spec := "fnExactLinesOf", unfollowed := true, recurses := true, plainKeys := false, apart := false }
def FnExactLinesOfSaid : Prop := fnExactLinesOfRow.holds Try.pinned (OpenSpec.ofChange fnExactLinesOfSpec)

/-- ITS FALSE NEIGHBOUR: 'it returns false'. Refute it at one input. -/
def fnExactLinesOfWrong : ChangeSpec := { name := "fnExactLinesOf", fn := fun _ => fun
  | [d] => { results := [.lit (.bool false)], args := [d] }
  | _ => none }
def FnExactLinesOfWrongFalsely : Prop := fnExactLinesOfRow.holds Try.pinned (OpenSpec.ofChange fnExactLinesOfWrong)

/-- 'laws.FnExactDashed': WHATEVER THE INPUT: true; the input reads as it did. -/
def fnExactDashedSpec : ChangeSpec := { name := "fnExactDashed", fn := fun _ => fun
  | [d1, d2, d3] => { results := [.lit (.bool true)], args := [d1, d2, d3] }
  | _ => none }
def fnExactDashedRow : OpenClaim := { program := "ytigkodlbjimikaa", sum := "e28c8263cb3391a0ecc026c816e769f7a06170bfef8d35a9cff69dfe662d8218", func := "loop.example/g00137/laws.FnExactDashed", spec := "fnExactDashed", plainKeys := false, apart := false }
def FnExactDashedSaid : Prop := fnExactDashedRow.holds Try.pinned (OpenSpec.ofChange fnExactDashedSpec)

/-- ITS FALSE NEIGHBOUR: 'it returns false'. Refute it at one input. -/
def fnExactDashedWrong : ChangeSpec := { name := "fnExactDashed", fn := fun _ => fun
  | [d1, d2, d3] => { results := [.lit (.bool false)], args := [d1, d2, d3] }
  | _ => none }
def FnExactDashedWrongFalsely : Prop := fnExactDashedRow.holds Try.pinned (OpenSpec.ofChange fnExactDashedWrong)

/-- 'laws.FnPacked': WHATEVER THE INPUT: true; the input reads as it did. -/
def fnPackedSpec : ChangeSpec := { name := "fnPacked", fn := fun _ => fun
  | [d] => { results := [.lit (.bool true)], args := [d] }
  | _ => none }
def fnPackedRow : OpenClaim := { program := "ytigkodlbjimikaa", sum := "e28c8263cb3391a0ecc026c816e769f7a06170bfef8d35a9cff69dfe662d8218", func := "loop.example/g00137/laws.FnPacked", spec := "fnPacked", unfollowed := true, recurses := true, plainKeys := false, apart := false }
def FnPackedSaid : Prop := fnPackedRow.holds Try.pinned (OpenSpec.ofChange fnPackedSpec)

/-- ITS FALSE NEIGHBOUR: 'it returns false'. Refute it at one input. -/
def fnPackedWrong : ChangeSpec := { name := "fnPacked", fn := fun _ => fun
  | [d] => { results := [.lit (.bool false)], args := [d] }
  | _ => none }
def FnPackedWrongFalsely : Prop := fnPackedRow.holds Try.pinned (OpenSpec.ofChange fnPackedWrong)

/-- 'laws.FnStrokes': WHATEVER THE INPUT: true; the input reads as it did. -/
def fnStrokesSpec : ChangeSpec := { name := "fnStrokes", fn := fun _ => fun
  | [d1, d2] => { results := [.lit (.bool true)], args := [d1, d2] }
  | _ => none }
def fnStrokesRow : OpenClaim := { program := "ytigkodlbjimikaa", sum := "e28c8263cb3391a0ecc026c816e769f7a06170bfef8d35a9cff69dfe662d8218", func := "loop.example/g00137/laws.FnStrokes", spec := "fnStrokes", inPlace := ["math/bits.Add64"], recurses := true, plainKeys := false, apart := false }
def FnStrokesSaid : Prop := fnStrokesRow.holds Try.pinned (OpenSpec.ofChange fnStrokesSpec)

/-- ITS FALSE NEIGHBOUR: 'it returns false'. Refute it at one input. -/
def fnStrokesWrong : ChangeSpec := { name := "fnStrokes", fn := fun _ => fun
  | [d1, d2] => { results := [.lit (.bool false)], args := [d1, d2] }
  | _ => none }
def FnStrokesWrongFalsely : Prop := fnStrokesRow.holds Try.pinned (OpenSpec.ofChange fnStrokesWrong)

/-- 'laws.FnExactStrokeLines': WHATEVER THE INPUT: true; the input reads as it did. -/
def fnExactStrokeLinesSpec : ChangeSpec := { name := "fnExactStrokeLines", fn := fun _ => fun
  | [d1, d2] => { results := [.lit (.bool true)], args := [d1, d2] }
  | _ => none }
def fnExactStrokeLinesRow : OpenClaim := { program := "ytigkodlbjimikaa", sum := "e28c8263cb3391a0ecc026c816e769f7a06170bfef8d35a9cff69dfe662d8218", func := "loop.example/g00137/laws.FnExactStrokeLines", spec := "fnExactStrokeLines", inPlace := ["math/bits.Add64"], recurses := true, plainKeys := false, apart := false }
def FnExactStrokeLinesSaid : Prop := fnExactStrokeLinesRow.holds Try.pinned (OpenSpec.ofChange fnExactStrokeLinesSpec)

/-- ITS FALSE NEIGHBOUR: 'it returns false'. Refute it at one input. -/
def fnExactStrokeLinesWrong : ChangeSpec := { name := "fnExactStrokeLines", fn := fun _ => fun
  | [d1, d2] => { results := [.lit (.bool false)], args := [d1, d2] }
  | _ => none }
def FnExactStrokeLinesWrongFalsely : Prop := fnExactStrokeLinesRow.holds Try.pinned (OpenSpec.ofChange fnExactStrokeLinesWrong)

/-- 'laws.FnPictures': WHATEVER THE INPUT: true; the input reads as it did. -/
def fnPicturesSpec : ChangeSpec := { name := "fnPictures", fn := fun _ => fun
  | [d1, d2] => { results := [.lit (.bool true)], args := [d1, d2] }
  | _ => none }
def fnPicturesRow : OpenClaim := { program := "ytigkodlbjimikaa", sum := "e28c8263cb3391a0ecc026c816e769f7a06170bfef8d35a9cff69dfe662d8218", func := "loop.example/g00137/laws.FnPictures", spec := "fnPictures", unfollowed := true, recurses := true, plainKeys := false, apart := false }
def FnPicturesSaid : Prop := fnPicturesRow.holds Try.pinned (OpenSpec.ofChange fnPicturesSpec)

/-- ITS FALSE NEIGHBOUR: 'it returns false'. Refute it at one input. -/
def fnPicturesWrong : ChangeSpec := { name := "fnPictures", fn := fun _ => fun
  | [d1, d2] => { results := [.lit (.bool false)], args := [d1, d2] }
  | _ => none }
def FnPicturesWrongFalsely : Prop := fnPicturesRow.holds Try.pinned (OpenSpec.ofChange fnPicturesWrong)

/-- 'laws.FnShapes': WHATEVER THE INPUT: true; the input reads as it did. -/
def fnShapesSpec : ChangeSpec := { name := "fnShapes", fn := fun _ => fun
  | [d1, d2] => { results := [.lit (.bool true)], args := [d1, d2] }
  | _ => none }
def fnShapesRow : OpenClaim := { program := "ytigkodlbjimikaa", sum := "e28c8263cb3391a0ecc026c816e769f7a06170bfef8d35a9cff69dfe662d8218", func := "loop.example/g00137/laws.FnShapes", spec := "fnShapes", inPlace := ["math/bits.Add64"], unfollowed := true, recurses := true, plainKeys := false, apart := false }
def FnShapesSaid : Prop := fnShapesRow.holds Try.pinned (OpenSpec.ofChange fnShapesSpec)

/-- ITS FALSE NEIGHBOUR: 'it returns false'. Refute it at one input. -/
def fnShapesWrong : ChangeSpec := { name := "fnShapes", fn := fun _ => fun
  | [d1, d2] => { results := [.lit (.bool false)], args := [d1, d2] }
  | _ => none }
def FnShapesWrongFalsely : Prop := fnShapesRow.holds Try.pinned (OpenSpec.ofChange fnShapesWrong)

/- THE SECOND FORM. 'bulk': how many values and letters a reading holds, each counted each time it is reached (what is shared counts as often as it is met; a slice's spare places count too). A statement '..UptoSaid' is the law's where the arguments, and the package variables that the reading takes, are together of bulk at most 1048576: NARROWER than '..Said'. Prove '..Said' where nothing that the law and all that it calls make is longer than what came in: it says more and counts as full. Else prove '..UptoSaid'. A law counts once. -/
mutual
def uptoBulk {H : Type} : DataW H → Nat
  | .lit (.string bytes) => bytes.length + 1
  | .lit _ => 1
  | .nil => 1
  | .ptr d => uptoBulk d + 1
  | .slice elems spare => uptoBulkAll elems + uptoBulkAll spare + 1
  | .agg parts => uptoBulkAll parts + 1
  | .iface _ d => uptoBulk d + 1
  | .map entries => uptoBulkEntries entries + 1
  | .held _ => 1
def uptoBulkAll {H : Type} : List (DataW H) → Nat
  | [] => 0
  | d :: r => uptoBulk d + uptoBulkAll r
def uptoBulkEntries {H : Type} : List (Lit × DataW H) → Nat
  | [] => 0
  | x :: r => uptoBulkEntry x + uptoBulkEntries r
def uptoBulkEntry {H : Type} : Lit × DataW H → Nat
  | (.string bytes, d) => bytes.length + uptoBulk d + 1
  | (_, d) => uptoBulk d + 1
 end
def uptoSmall : (H : Type) → List (DataW H) → Bool := fun _ ds => decide (uptoBulkAll ds ≤ 1048576)
def OpenSpec.upto (s : _root_.Go.ChangeSpec) : _root_.Go.OpenSpec := { _root_.Go.OpenSpec.ofChange s with cond := some uptoSmall }

/-- 'laws.FnExactPaintMask', WHERE WHAT IT READS IS OF BULK AT MOST 1048576: true; the input reads as it did. -/
def fnExactPaintMaskUptoRow : OpenClaim := { program := "ytigkodlbjimikaa", sum := "e28c8263cb3391a0ecc026c816e769f7a06170bfef8d35a9cff69dfe662d8218", func := "loop.example/g00137/laws.FnExactPaintMask", spec := "fnExactPaintMask", unfollowed := true, recurses := true, plainKeys := false, apart := false, narrowed := true }
def FnExactPaintMaskUptoSaid : Prop := fnExactPaintMaskUptoRow.holds Try.pinned (OpenSpec.upto fnExactPaintMaskSpec)

/-- 'laws.FnExactLinesOf', WHERE WHAT IT READS IS OF BULK AT MOST 1048576: true; the input reads as it did. -/
def fnExactLinesOfUptoRow : OpenClaim := { program := "ytigkodlbjimikaa", sum := "e28c8263cb3391a0ecc026c816e769f7a06170bfef8d35a9cff69dfe662d8218", func := "loop.example/g00137/laws.FnExactLinesOf", spec := "fnExactLinesOf", unfollowed := true, recurses := true, plainKeys := false, apart := false, narrowed := true }
def FnExactLinesOfUptoSaid : Prop := fnExactLinesOfUptoRow.holds Try.pinned (OpenSpec.upto fnExactLinesOfSpec)

/-- 'laws.FnExactDashed', WHERE WHAT IT READS IS OF BULK AT MOST 1048576: true; the input reads as it did. -/
def fnExactDashedUptoRow : OpenClaim := { program := "ytigkodlbjimikaa", sum := "e28c8263cb3391a0ecc026c816e769f7a06170bfef8d35a9cff69dfe662d8218", func := "loop.example/g00137/laws.FnExactDashed", spec := "fnExactDashed", plainKeys := false, apart := false, narrowed := true }
def FnExactDashedUptoSaid : Prop := fnExactDashedUptoRow.holds Try.pinned (OpenSpec.upto fnExactDashedSpec)

/-- 'laws.FnPacked', WHERE WHAT IT READS IS OF BULK AT MOST 1048576: true; the input reads as it did. -/
def fnPackedUptoRow : OpenClaim := { program := "ytigkodlbjimikaa", sum := "e28c8263cb3391a0ecc026c816e769f7a06170bfef8d35a9cff69dfe662d8218", func := "loop.example/g00137/laws.FnPacked", spec := "fnPacked", unfollowed := true, recurses := true, plainKeys := false, apart := false, narrowed := true }
def FnPackedUptoSaid : Prop := fnPackedUptoRow.holds Try.pinned (OpenSpec.upto fnPackedSpec)

/-- 'laws.FnStrokes', WHERE WHAT IT READS IS OF BULK AT MOST 1048576: true; the input reads as it did. -/
def fnStrokesUptoRow : OpenClaim := { program := "ytigkodlbjimikaa", sum := "e28c8263cb3391a0ecc026c816e769f7a06170bfef8d35a9cff69dfe662d8218", func := "loop.example/g00137/laws.FnStrokes", spec := "fnStrokes", inPlace := ["math/bits.Add64"], recurses := true, plainKeys := false, apart := false, narrowed := true }
def FnStrokesUptoSaid : Prop := fnStrokesUptoRow.holds Try.pinned (OpenSpec.upto fnStrokesSpec)

/-- 'laws.FnExactStrokeLines', WHERE WHAT IT READS IS OF BULK AT MOST 1048576: true; the input reads as it did. -/
def fnExactStrokeLinesUptoRow : OpenClaim := { program := "ytigkodlbjimikaa", sum := "e28c8263cb3391a0ecc026c816e769f7a06170bfef8d35a9cff69dfe662d8218", func := "loop.example/g00137/laws.FnExactStrokeLines", spec := "fnExactStrokeLines", inPlace := ["math/bits.Add64"], recurses := true, plainKeys := false, apart := false, narrowed := true }
def FnExactStrokeLinesUptoSaid : Prop := fnExactStrokeLinesUptoRow.holds Try.pinned (OpenSpec.upto fnExactStrokeLinesSpec)

/-- 'laws.FnPictures', WHERE WHAT IT READS IS OF BULK AT MOST 1048576: true; the input reads as it did. -/
def fnPicturesUptoRow : OpenClaim := { program := "ytigkodlbjimikaa", sum := "e28c8263cb3391a0ecc026c816e769f7a06170bfef8d35a9cff69dfe662d8218", func := "loop.example/g00137/laws.FnPictures", spec := "fnPictures", unfollowed := true, recurses := true, plainKeys := false, apart := false, narrowed := true }
def FnPicturesUptoSaid : Prop := fnPicturesUptoRow.holds Try.pinned (OpenSpec.upto fnPicturesSpec)

/-- 'laws.FnShapes', WHERE WHAT IT READS IS OF BULK AT MOST 1048576: true; the input reads as it did. -/
def fnShapesUptoRow : OpenClaim := { program := "ytigkodlbjimikaa", sum := "e28c8263cb3391a0ecc026c816e769f7a06170bfef8d35a9cff69dfe662d8218", func := "loop.example/g00137/laws.FnShapes", spec := "fnShapes", inPlace := ["math/bits.Add64"], unfollowed := true, recurses := true, plainKeys := false, apart := false, narrowed := true }
def FnShapesUptoSaid : Prop := fnShapesUptoRow.holds Try.pinned (OpenSpec.upto fnShapesSpec)

end Rows
end Go.Proofs.Ytigkodlbjimikaa
