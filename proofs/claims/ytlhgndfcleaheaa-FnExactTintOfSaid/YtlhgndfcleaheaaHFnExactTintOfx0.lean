-- Printed by a program of this session over the kit's print; functions that the print does not take stand here by hand.
import Derived.Test.YtlhgndfcleaheaaProg
import Derived.Below
import Derived.Deep.Draws
import Derived.Deep.AppendLies
import Derived.Maps.AppendAt
import Derived.OwnWalk
import Derived.Laws.BytesArg
import Derived.Laws.MakeOwn
import Derived.Laws.OwnMore
import Derived.Deep.OwnRows
import Derived.Tactics
import Derived.Lib.ConvBytes
import Derived.Laws.Slices
import Derived.WalkKit
import Derived.KernelRfl
import Derived.RowKit3
import Derived.Deep.LoopGhost
import Derived.Deep.QuietTactic
import Derived.BigQuiet
import Derived.WideLaws
import Derived.Deep.DeepCutAuto
import Derived.Deep.CutBlock
import Derived.Deep.RegionHeld3
import Derived.Laws.Rows
import Derived.Lib.AppendStr
import Derived.ArgAppend
import Derived.Laws.IdiomCopy
import Derived.OrdersHeld
import Derived.Laws.BitsLemmas
import Derived.RowKit
import Derived.Lib.Hide
import Derived.StillTailTactics
import Derived.Test.YtlhgndfcleaheaaWWords
import Derived.Test.YtlhgndfcleaheaaWLast
import Derived.Test.YtlhgndfcleaheaaWTab
import Derived.Test.YtlhgndfcleaheaaWFour
import Derived.Test.YtlhgndfcleaheaaWQPut
import Derived.Test.YtlhgndfcleaheaaWApart
import Derived.Test.YtlhgndfcleaheaaWArr
import Derived.Test.YtlhgndfcleaheaaWZeros
import Derived.Test.YtlhgndfcleaheaaWFoot
import Derived.Test.YtlhgndfcleaheaaWKept
import Derived.Test.YtlhgndfcleaheaaWShare
import Derived.Test.YtlhgndfcleaheaaWN
import Derived.Test.YtlhgndfcleaheaaWFootNe
import Derived.Test.YtlhgndfcleaheaaWAt
import Derived.Test.YtlhgndfcleaheaaWEqStruct
import Derived.Test.YtlhgndfcleaheaaWRepsOne
import Derived.Test.YtlhgndfcleaheaaWInv
import Derived.Test.YtlhgndfcleaheaaWInvWords
import Derived.Test.YtlhgndfcleaheaaWGuard
import Derived.Test.YtlhgndfcleaheaaWNEv
import Derived.Test.YtlhgndfcleaheaaWMore
namespace Go.Proofs.Ytlhgndfcleaheaa.HFnExactTintOf
open Go.RowKit Go.Proofs.YtlhgndfcleaheaaW.PrintWords Go.Proofs.YtlhgndfcleaheaaW.PrintLast Go.Proofs.YtlhgndfcleaheaaW.PrintMore
attribute [local go_sem] max2_int min2_int max_two min_two max_three min_three max_four min_four   -- for this text's walks alone
set_option linter.unusedVariables false
set_option linter.unusedSimpArgs false



def errW : Option Int → Value
  | none => .nilIface
  | some c => .iface 0 (.int .i64 c)
theorem errW_none : errW none = .nilIface := rfl
theorem errW_some (c : Int) : errW (some c) = .iface 0 (.int .i64 c) := rfl

-- the values' own types

end Go.Proofs.Ytlhgndfcleaheaa.HFnExactTintOf
