/-
  No cell of these rows narrows 'for every input' (looked for: loops, veiled, ifaces, maps, wideKeys, modest, calm, conditions, laid).
  DERIVED. THE GIVEN ROWS OF THIS SEAT. 12 by the template 'for every input the law returns true; each argument reads behind the call as it read before'; 0 by the template 'total and deterministic' (their statements: YtlhgndfcleaheaaTotals.lean).
  GIVEN WITH THE SEED: the statements are not yours to turn. If you find one false, say at which input.
  Laid BY PROGRAM, IN A SANDBOX (cutbox-rows.mjs): the forced cells as the released guide's own fill.sh prints them over the translation 66d0afd650d145fe… (all of the seat's roots in one cut). By AI agents, Wed Nov 11 2026. No macro, syntax, notation, axiom, sorry.
-/
import Derived.Test.YtlhgndfcleaheaaChecked
import GoSem.Claim
import GoSem.ClaimJoined
import GoSem.ClaimMapViews
import Derived.JoinedTies
import Derived.KernelRfl
namespace Go.Proofs.Ytlhgndfcleaheaa
/- THE CELL 'sum', in the pinned program and in every row, IS THE sha256 OF THE DUMP (.gsa) THAT YtlhgndfcleaheaaProg.lean LOADS. Nothing in Lean hashes anything: it is a label: what it is worth is what the hold of that sum in a sandbox is worth. -/
noncomputable def Try.pinned : Pinned := { name := "ytlhgndfcleaheaa", sum := "66d0afd650d145fe11cfc071185558d5fb7e09d224ee71ac80f167b3db6d27b2", checked := Try.checked }
namespace Rows
def none {H : Type} : Left H := { results := [], args := [] }

/-- 'laws.FnExactGoodTint': WHATEVER THE INPUT: true; the input reads as it did. -/
def fnExactGoodTintSpec : ChangeSpec := { name := "fnExactGoodTint", fn := fun _ => fun
  | [d] => { results := [.lit (.bool true)], args := [d] }
  | _ => none }
def fnExactGoodTintRow : OpenClaim := { program := "ytlhgndfcleaheaa", sum := "66d0afd650d145fe11cfc071185558d5fb7e09d224ee71ac80f167b3db6d27b2", func := "loop.example/g00137/laws.FnExactGoodTint", spec := "fnExactGoodTint", apart := false }
def FnExactGoodTintSaid : Prop := fnExactGoodTintRow.holds Try.pinned (OpenSpec.ofChange fnExactGoodTintSpec)

/-- ITS FALSE NEIGHBOUR: 'it returns false'. Refute it at one input. -/
def fnExactGoodTintWrong : ChangeSpec := { name := "fnExactGoodTint", fn := fun _ => fun
  | [d] => { results := [.lit (.bool false)], args := [d] }
  | _ => none }
def FnExactGoodTintWrongFalsely : Prop := fnExactGoodTintRow.holds Try.pinned (OpenSpec.ofChange fnExactGoodTintWrong)

/-- 'laws.FnExactFineOf': WHATEVER THE INPUT: true; the input reads as it did. -/
def fnExactFineOfSpec : ChangeSpec := { name := "fnExactFineOf", fn := fun _ => fun
  | [d] => { results := [.lit (.bool true)], args := [d] }
  | _ => none }
def fnExactFineOfRow : OpenClaim := { program := "ytlhgndfcleaheaa", sum := "66d0afd650d145fe11cfc071185558d5fb7e09d224ee71ac80f167b3db6d27b2", func := "loop.example/g00137/laws.FnExactFineOf", spec := "fnExactFineOf", apart := false }
def FnExactFineOfSaid : Prop := fnExactFineOfRow.holds Try.pinned (OpenSpec.ofChange fnExactFineOfSpec)

/-- ITS FALSE NEIGHBOUR: 'it returns false'. Refute it at one input. -/
def fnExactFineOfWrong : ChangeSpec := { name := "fnExactFineOf", fn := fun _ => fun
  | [d] => { results := [.lit (.bool false)], args := [d] }
  | _ => none }
def FnExactFineOfWrongFalsely : Prop := fnExactFineOfRow.holds Try.pinned (OpenSpec.ofChange fnExactFineOfWrong)

/-- 'laws.FnExactTintOf': WHATEVER THE INPUT: true; the input reads as it did. -/
def fnExactTintOfSpec : ChangeSpec := { name := "fnExactTintOf", fn := fun _ => fun
  | [d1, d2] => { results := [.lit (.bool true)], args := [d1, d2] }
  | _ => none }
def fnExactTintOfRow : OpenClaim := { program := "ytlhgndfcleaheaa", sum := "66d0afd650d145fe11cfc071185558d5fb7e09d224ee71ac80f167b3db6d27b2", func := "loop.example/g00137/laws.FnExactTintOf", spec := "fnExactTintOf", apart := false }
def FnExactTintOfSaid : Prop := fnExactTintOfRow.holds Try.pinned (OpenSpec.ofChange fnExactTintOfSpec)

/-- ITS FALSE NEIGHBOUR: 'it returns false'. Refute it at one input. -/
def fnExactTintOfWrong : ChangeSpec := { name := "fnExactTintOf", fn := fun _ => fun
  | [d1, d2] => { results := [.lit (.bool false)], args := [d1, d2] }
  | _ => none }
def FnExactTintOfWrongFalsely : Prop := fnExactTintOfRow.holds Try.pinned (OpenSpec.ofChange fnExactTintOfWrong)

/-- 'laws.FnExactOverTint': WHATEVER THE INPUT: true; the input reads as it did. -/
def fnExactOverTintSpec : ChangeSpec := { name := "fnExactOverTint", fn := fun _ => fun
  | [d1, d2] => { results := [.lit (.bool true)], args := [d1, d2] }
  | _ => none }
def fnExactOverTintRow : OpenClaim := { program := "ytlhgndfcleaheaa", sum := "66d0afd650d145fe11cfc071185558d5fb7e09d224ee71ac80f167b3db6d27b2", func := "loop.example/g00137/laws.FnExactOverTint", spec := "fnExactOverTint", unfollowed := true, recurses := true, apart := false }
def FnExactOverTintSaid : Prop := fnExactOverTintRow.holds Try.pinned (OpenSpec.ofChange fnExactOverTintSpec)

/-- ITS FALSE NEIGHBOUR: 'it returns false'. Refute it at one input. -/
def fnExactOverTintWrong : ChangeSpec := { name := "fnExactOverTint", fn := fun _ => fun
  | [d1, d2] => { results := [.lit (.bool false)], args := [d1, d2] }
  | _ => none }
def FnExactOverTintWrongFalsely : Prop := fnExactOverTintRow.holds Try.pinned (OpenSpec.ofChange fnExactOverTintWrong)

/-- 'laws.FnExactThinTint': WHATEVER THE INPUT: true; the input reads as it did. -/
def fnExactThinTintSpec : ChangeSpec := { name := "fnExactThinTint", fn := fun _ => fun
  | [d1, d2] => { results := [.lit (.bool true)], args := [d1, d2] }
  | _ => none }
def fnExactThinTintRow : OpenClaim := { program := "ytlhgndfcleaheaa", sum := "66d0afd650d145fe11cfc071185558d5fb7e09d224ee71ac80f167b3db6d27b2", func := "loop.example/g00137/laws.FnExactThinTint", spec := "fnExactThinTint", unfollowed := true, recurses := true, apart := false }
def FnExactThinTintSaid : Prop := fnExactThinTintRow.holds Try.pinned (OpenSpec.ofChange fnExactThinTintSpec)

/-- ITS FALSE NEIGHBOUR: 'it returns false'. Refute it at one input. -/
def fnExactThinTintWrong : ChangeSpec := { name := "fnExactThinTint", fn := fun _ => fun
  | [d1, d2] => { results := [.lit (.bool false)], args := [d1, d2] }
  | _ => none }
def FnExactThinTintWrongFalsely : Prop := fnExactThinTintRow.holds Try.pinned (OpenSpec.ofChange fnExactThinTintWrong)

/-- 'laws.FnExactSizeOf': WHATEVER THE INPUT: true; the input reads as it did. -/
def fnExactSizeOfSpec : ChangeSpec := { name := "fnExactSizeOf", fn := fun _ => fun
  | [d1, d2] => { results := [.lit (.bool true)], args := [d1, d2] }
  | _ => none }
def fnExactSizeOfRow : OpenClaim := { program := "ytlhgndfcleaheaa", sum := "66d0afd650d145fe11cfc071185558d5fb7e09d224ee71ac80f167b3db6d27b2", func := "loop.example/g00137/laws.FnExactSizeOf", spec := "fnExactSizeOf", apart := false }
def FnExactSizeOfSaid : Prop := fnExactSizeOfRow.holds Try.pinned (OpenSpec.ofChange fnExactSizeOfSpec)

/-- ITS FALSE NEIGHBOUR: 'it returns false'. Refute it at one input. -/
def fnExactSizeOfWrong : ChangeSpec := { name := "fnExactSizeOf", fn := fun _ => fun
  | [d1, d2] => { results := [.lit (.bool false)], args := [d1, d2] }
  | _ => none }
def FnExactSizeOfWrongFalsely : Prop := fnExactSizeOfRow.holds Try.pinned (OpenSpec.ofChange fnExactSizeOfWrong)

/-- 'laws.FnExactGoodMask': WHATEVER THE INPUT: true; the input reads as it did. -/
def fnExactGoodMaskSpec : ChangeSpec := { name := "fnExactGoodMask", fn := fun _ => fun
  | [d] => { results := [.lit (.bool true)], args := [d] }
  | _ => none }
def fnExactGoodMaskRow : OpenClaim := { program := "ytlhgndfcleaheaa", sum := "66d0afd650d145fe11cfc071185558d5fb7e09d224ee71ac80f167b3db6d27b2", func := "loop.example/g00137/laws.FnExactGoodMask", spec := "fnExactGoodMask", apart := false }
def FnExactGoodMaskSaid : Prop := fnExactGoodMaskRow.holds Try.pinned (OpenSpec.ofChange fnExactGoodMaskSpec)

/-- ITS FALSE NEIGHBOUR: 'it returns false'. Refute it at one input. -/
def fnExactGoodMaskWrong : ChangeSpec := { name := "fnExactGoodMask", fn := fun _ => fun
  | [d] => { results := [.lit (.bool false)], args := [d] }
  | _ => none }
def FnExactGoodMaskWrongFalsely : Prop := fnExactGoodMaskRow.holds Try.pinned (OpenSpec.ofChange fnExactGoodMaskWrong)

/-- 'laws.FnExactGoodPen': WHATEVER THE INPUT: true; the input reads as it did. -/
def fnExactGoodPenSpec : ChangeSpec := { name := "fnExactGoodPen", fn := fun _ => fun
  | [d] => { results := [.lit (.bool true)], args := [d] }
  | _ => none }
def fnExactGoodPenRow : OpenClaim := { program := "ytlhgndfcleaheaa", sum := "66d0afd650d145fe11cfc071185558d5fb7e09d224ee71ac80f167b3db6d27b2", func := "loop.example/g00137/laws.FnExactGoodPen", spec := "fnExactGoodPen", apart := false }
def FnExactGoodPenSaid : Prop := fnExactGoodPenRow.holds Try.pinned (OpenSpec.ofChange fnExactGoodPenSpec)

/-- ITS FALSE NEIGHBOUR: 'it returns false'. Refute it at one input. -/
def fnExactGoodPenWrong : ChangeSpec := { name := "fnExactGoodPen", fn := fun _ => fun
  | [d] => { results := [.lit (.bool false)], args := [d] }
  | _ => none }
def FnExactGoodPenWrongFalsely : Prop := fnExactGoodPenRow.holds Try.pinned (OpenSpec.ofChange fnExactGoodPenWrong)

/-- 'laws.FnExactStopsGood': WHATEVER THE INPUT: true; the input reads as it did. -/
def fnExactStopsGoodSpec : ChangeSpec := { name := "fnExactStopsGood", fn := fun _ => fun
  | [d] => { results := [.lit (.bool true)], args := [d] }
  | _ => none }
def fnExactStopsGoodRow : OpenClaim := { program := "ytlhgndfcleaheaa", sum := "66d0afd650d145fe11cfc071185558d5fb7e09d224ee71ac80f167b3db6d27b2", func := "loop.example/g00137/laws.FnExactStopsGood", spec := "fnExactStopsGood", apart := false }
def FnExactStopsGoodSaid : Prop := fnExactStopsGoodRow.holds Try.pinned (OpenSpec.ofChange fnExactStopsGoodSpec)

/-- ITS FALSE NEIGHBOUR: 'it returns false'. Refute it at one input. -/
def fnExactStopsGoodWrong : ChangeSpec := { name := "fnExactStopsGood", fn := fun _ => fun
  | [d] => { results := [.lit (.bool false)], args := [d] }
  | _ => none }
def FnExactStopsGoodWrongFalsely : Prop := fnExactStopsGoodRow.holds Try.pinned (OpenSpec.ofChange fnExactStopsGoodWrong)

/-- 'laws.FnExactSumOf': WHATEVER THE INPUT: true; the input reads as it did. -/
def fnExactSumOfSpec : ChangeSpec := { name := "fnExactSumOf", fn := fun _ => fun
  | [d] => { results := [.lit (.bool true)], args := [d] }
  | _ => none }
def fnExactSumOfRow : OpenClaim := { program := "ytlhgndfcleaheaa", sum := "66d0afd650d145fe11cfc071185558d5fb7e09d224ee71ac80f167b3db6d27b2", func := "loop.example/g00137/laws.FnExactSumOf", spec := "fnExactSumOf", apart := false }
def FnExactSumOfSaid : Prop := fnExactSumOfRow.holds Try.pinned (OpenSpec.ofChange fnExactSumOfSpec)

/-- ITS FALSE NEIGHBOUR: 'it returns false'. Refute it at one input. -/
def fnExactSumOfWrong : ChangeSpec := { name := "fnExactSumOf", fn := fun _ => fun
  | [d] => { results := [.lit (.bool false)], args := [d] }
  | _ => none }
def FnExactSumOfWrongFalsely : Prop := fnExactSumOfRow.holds Try.pinned (OpenSpec.ofChange fnExactSumOfWrong)

/-- 'laws.FnExactNewSheet': WHATEVER THE INPUT: true; the input reads as it did. -/
def fnExactNewSheetSpec : ChangeSpec := { name := "fnExactNewSheet", fn := fun _ => fun
  | [d1, d2] => { results := [.lit (.bool true)], args := [d1, d2] }
  | _ => none }
def fnExactNewSheetRow : OpenClaim := { program := "ytlhgndfcleaheaa", sum := "66d0afd650d145fe11cfc071185558d5fb7e09d224ee71ac80f167b3db6d27b2", func := "loop.example/g00137/laws.FnExactNewSheet", spec := "fnExactNewSheet", apart := false }
def FnExactNewSheetSaid : Prop := fnExactNewSheetRow.holds Try.pinned (OpenSpec.ofChange fnExactNewSheetSpec)

/-- ITS FALSE NEIGHBOUR: 'it returns false'. Refute it at one input. -/
def fnExactNewSheetWrong : ChangeSpec := { name := "fnExactNewSheet", fn := fun _ => fun
  | [d1, d2] => { results := [.lit (.bool false)], args := [d1, d2] }
  | _ => none }
def FnExactNewSheetWrongFalsely : Prop := fnExactNewSheetRow.holds Try.pinned (OpenSpec.ofChange fnExactNewSheetWrong)

/-- 'laws.FnExactGoodSheet': WHATEVER THE INPUT: true; the input reads as it did. -/
def fnExactGoodSheetSpec : ChangeSpec := { name := "fnExactGoodSheet", fn := fun _ => fun
  | [d] => { results := [.lit (.bool true)], args := [d] }
  | _ => none }
def fnExactGoodSheetRow : OpenClaim := { program := "ytlhgndfcleaheaa", sum := "66d0afd650d145fe11cfc071185558d5fb7e09d224ee71ac80f167b3db6d27b2", func := "loop.example/g00137/laws.FnExactGoodSheet", spec := "fnExactGoodSheet", apart := false }
def FnExactGoodSheetSaid : Prop := fnExactGoodSheetRow.holds Try.pinned (OpenSpec.ofChange fnExactGoodSheetSpec)

/-- ITS FALSE NEIGHBOUR: 'it returns false'. Refute it at one input. -/
def fnExactGoodSheetWrong : ChangeSpec := { name := "fnExactGoodSheet", fn := fun _ => fun
  | [d] => { results := [.lit (.bool false)], args := [d] }
  | _ => none }
def FnExactGoodSheetWrongFalsely : Prop := fnExactGoodSheetRow.holds Try.pinned (OpenSpec.ofChange fnExactGoodSheetWrong)

/- THE SECOND FORM. 'bulk': how many values and letters a reading holds, each counted each time it is reached (what is shared counts as often as it is met; a slice's spare places count too). A statement '..UptoSaid' is the law's where the arguments, and the package variables that the reading takes, are together of bulk at most 1048576: NARROWER than '..Said'. Prove '..Said' where nothing that the law and all that it calls make is longer than what came in: it says more and counts as full. Else prove '..UptoSaid'. A law counts once. -/
mutual
def uptoBulk {H : Type} : DataW H → Nat
  | .lit (.string bytes) => bytes.length + 1
  | .lit _ => 1
  | .nil => 1
  | .ptr d => uptoBulk d + 1
  | .slice elems spare => uptoBulkAll elems + uptoBulkAll spare + 1
  | .agg parts => uptoBulkAll parts + 1
  | .iface _ d => uptoBulk d + 1
  | .map entries => uptoBulkEntries entries + 1
  | .held _ => 1
def uptoBulkAll {H : Type} : List (DataW H) → Nat
  | [] => 0
  | d :: r => uptoBulk d + uptoBulkAll r
def uptoBulkEntries {H : Type} : List (Lit × DataW H) → Nat
  | [] => 0
  | x :: r => uptoBulkEntry x + uptoBulkEntries r
def uptoBulkEntry {H : Type} : Lit × DataW H → Nat
  | (.string bytes, d) => bytes.length + uptoBulk d + 1
  | (_, d) => uptoBulk d + 1
 end
def uptoSmall : (H : Type) → List (DataW H) → Bool := fun _ ds => decide (uptoBulkAll ds ≤ 1048576)
def OpenSpec.upto (s : _root_.Go.ChangeSpec) : _root_.Go.OpenSpec := { _root_.Go.OpenSpec.ofChange s with cond := some uptoSmall }

/-- 'laws.FnExactGoodTint', WHERE WHAT IT READS IS OF BULK AT MOST 1048576: true; the input reads as it did. -/
def fnExactGoodTintUptoRow : OpenClaim := { program := "ytlhgndfcleaheaa", sum := "66d0afd650d145fe11cfc071185558d5fb7e09d224ee71ac80f167b3db6d27b2", func := "loop.example/g00137/laws.FnExactGoodTint", spec := "fnExactGoodTint", apart := false, narrowed := true }
def FnExactGoodTintUptoSaid : Prop := fnExactGoodTintUptoRow.holds Try.pinned (OpenSpec.upto fnExactGoodTintSpec)

/-- 'laws.FnExactFineOf', WHERE WHAT IT READS IS OF BULK AT MOST 1048576: true; the input reads as it did. -/
def fnExactFineOfUptoRow : OpenClaim := { program := "ytlhgndfcleaheaa", sum := "66d0afd650d145fe11cfc071185558d5fb7e09d224ee71ac80f167b3db6d27b2", func := "loop.example/g00137/laws.FnExactFineOf", spec := "fnExactFineOf", apart := false, narrowed := true }
def FnExactFineOfUptoSaid : Prop := fnExactFineOfUptoRow.holds Try.pinned (OpenSpec.upto fnExactFineOfSpec)

/-- 'laws.FnExactTintOf', WHERE WHAT IT READS IS OF BULK AT MOST 1048576: true; the input reads as it did. -/
def fnExactTintOfUptoRow : OpenClaim := { program := "ytlhgndfcleaheaa", sum := "66d0afd650d145fe11cfc071185558d5fb7e09d224ee71ac80f167b3db6d27b2", func := "loop.example/g00137/laws.FnExactTintOf", spec := "fnExactTintOf", apart := false, narrowed := true }
def FnExactTintOfUptoSaid : Prop := fnExactTintOfUptoRow.holds Try.pinned (OpenSpec.upto fnExactTintOfSpec)

/-- 'laws.FnExactOverTint', WHERE WHAT IT READS IS OF BULK AT MOST 1048576: true; the input reads as it did. -/
def fnExactOverTintUptoRow : OpenClaim := { program := "ytlhgndfcleaheaa", sum := "66d0afd650d145fe11cfc071185558d5fb7e09d224ee71ac80f167b3db6d27b2", func := "loop.example/g00137/laws.FnExactOverTint", spec := "fnExactOverTint", unfollowed := true, recurses := true, apart := false, narrowed := true }
def FnExactOverTintUptoSaid : Prop := fnExactOverTintUptoRow.holds Try.pinned (OpenSpec.upto fnExactOverTintSpec)

/-- 'laws.FnExactThinTint', WHERE WHAT IT READS IS OF BULK AT MOST 1048576: true; the input reads as it did. -/
def fnExactThinTintUptoRow : OpenClaim := { program := "ytlhgndfcleaheaa", sum := "66d0afd650d145fe11cfc071185558d5fb7e09d224ee71ac80f167b3db6d27b2", func := "loop.example/g00137/laws.FnExactThinTint", spec := "fnExactThinTint", unfollowed := true, recurses := true, apart := false, narrowed := true }
def FnExactThinTintUptoSaid : Prop := fnExactThinTintUptoRow.holds Try.pinned (OpenSpec.upto fnExactThinTintSpec)

/-- 'laws.FnExactSizeOf', WHERE WHAT IT READS IS OF BULK AT MOST 1048576: true; the input reads as it did. -/
def fnExactSizeOfUptoRow : OpenClaim := { program := "ytlhgndfcleaheaa", sum := "66d0afd650d145fe11cfc071185558d5fb7e09d224ee71ac80f167b3db6d27b2", func := "loop.example/g00137/laws.FnExactSizeOf", spec := "fnExactSizeOf", apart := false, narrowed := true }
def FnExactSizeOfUptoSaid : Prop := fnExactSizeOfUptoRow.holds Try.pinned (OpenSpec.upto fnExactSizeOfSpec)

/-- 'laws.FnExactGoodMask', WHERE WHAT IT READS IS OF BULK AT MOST 1048576: true; the input reads as it did. -/
def fnExactGoodMaskUptoRow : OpenClaim := { program := "ytlhgndfcleaheaa", sum := "66d0afd650d145fe11cfc071185558d5fb7e09d224ee71ac80f167b3db6d27b2", func := "loop.example/g00137/laws.FnExactGoodMask", spec := "fnExactGoodMask", apart := false, narrowed := true }
def FnExactGoodMaskUptoSaid : Prop := fnExactGoodMaskUptoRow.holds Try.pinned (OpenSpec.upto fnExactGoodMaskSpec)

/-- 'laws.FnExactGoodPen', WHERE WHAT IT READS IS OF BULK AT MOST 1048576: true; the input reads as it did. -/
def fnExactGoodPenUptoRow : OpenClaim := { program := "ytlhgndfcleaheaa", sum := "66d0afd650d145fe11cfc071185558d5fb7e09d224ee71ac80f167b3db6d27b2", func := "loop.example/g00137/laws.FnExactGoodPen", spec := "fnExactGoodPen", apart := false, narrowed := true }
def FnExactGoodPenUptoSaid : Prop := fnExactGoodPenUptoRow.holds Try.pinned (OpenSpec.upto fnExactGoodPenSpec)

/-- 'laws.FnExactStopsGood', WHERE WHAT IT READS IS OF BULK AT MOST 1048576: true; the input reads as it did. -/
def fnExactStopsGoodUptoRow : OpenClaim := { program := "ytlhgndfcleaheaa", sum := "66d0afd650d145fe11cfc071185558d5fb7e09d224ee71ac80f167b3db6d27b2", func := "loop.example/g00137/laws.FnExactStopsGood", spec := "fnExactStopsGood", apart := false, narrowed := true }
def FnExactStopsGoodUptoSaid : Prop := fnExactStopsGoodUptoRow.holds Try.pinned (OpenSpec.upto fnExactStopsGoodSpec)

/-- 'laws.FnExactSumOf', WHERE WHAT IT READS IS OF BULK AT MOST 1048576: true; the input reads as it did. -/
def fnExactSumOfUptoRow : OpenClaim := { program := "ytlhgndfcleaheaa", sum := "66d0afd650d145fe11cfc071185558d5fb7e09d224ee71ac80f167b3db6d27b2", func := "loop.example/g00137/laws.FnExactSumOf", spec := "fnExactSumOf", apart := false, narrowed := true }
def FnExactSumOfUptoSaid : Prop := fnExactSumOfUptoRow.holds Try.pinned (OpenSpec.upto fnExactSumOfSpec)

/-- 'laws.FnExactNewSheet', WHERE WHAT IT READS IS OF BULK AT MOST 1048576: true; the input reads as it did. -/
def fnExactNewSheetUptoRow : OpenClaim := { program := "ytlhgndfcleaheaa", sum := "66d0afd650d145fe11cfc071185558d5fb7e09d224ee71ac80f167b3db6d27b2", func := "loop.example/g00137/laws.FnExactNewSheet", spec := "fnExactNewSheet", apart := false, narrowed := true }
def FnExactNewSheetUptoSaid : Prop := fnExactNewSheetUptoRow.holds Try.pinned (OpenSpec.upto fnExactNewSheetSpec)

/-- 'laws.FnExactGoodSheet', WHERE WHAT IT READS IS OF BULK AT MOST 1048576: true; the input reads as it did. -/
def fnExactGoodSheetUptoRow : OpenClaim := { program := "ytlhgndfcleaheaa", sum := "66d0afd650d145fe11cfc071185558d5fb7e09d224ee71ac80f167b3db6d27b2", func := "loop.example/g00137/laws.FnExactGoodSheet", spec := "fnExactGoodSheet", apart := false, narrowed := true }
def FnExactGoodSheetUptoSaid : Prop := fnExactGoodSheetUptoRow.holds Try.pinned (OpenSpec.upto fnExactGoodSheetSpec)

end Rows
end Go.Proofs.Ytlhgndfcleaheaa
