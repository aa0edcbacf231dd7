-- Printed by a program of this session over the kit's print; functions that the print does not take stand here by hand.
import Derived.Test.YtdmndbehfdnneaaProg
import Derived.Below
import Derived.Deep.Draws
import Derived.Deep.AppendLies
import Derived.Maps.AppendAt
import Derived.OwnWalk
import Derived.Laws.BytesArg
import Derived.Laws.MakeOwn
import Derived.Laws.OwnMore
import Derived.Deep.OwnRows
import Derived.Tactics
import Derived.Lib.ConvBytes
import Derived.Laws.Slices
import Derived.WalkKit
import Derived.KernelRfl
import Derived.RowKit3
import Derived.Deep.LoopGhost
import Derived.Deep.QuietTactic
import Derived.BigQuiet
import Derived.WideLaws
import Derived.Deep.DeepCutAuto
import Derived.Deep.CutBlock
import Derived.Deep.RegionHeld3
import Derived.Laws.Rows
import Derived.Lib.AppendStr
import Derived.ArgAppend
import Derived.Laws.IdiomCopy
import Derived.OrdersHeld
import Derived.Laws.BitsLemmas
import Derived.RowKit
import Derived.Lib.Hide
import Derived.StillTailTactics
import Derived.Laws.Externs
import Derived.Test.YtdmndbehfdnneaaWWords
import Derived.Test.YtdmndbehfdnneaaWLast
import Derived.Test.YtdmndbehfdnneaaWTab
import Derived.Test.YtdmndbehfdnneaaWFour
import Derived.Test.YtdmndbehfdnneaaWQPut
import Derived.Test.YtdmndbehfdnneaaWApart
import Derived.Test.YtdmndbehfdnneaaWArr
import Derived.Test.YtdmndbehfdnneaaWZeros
import Derived.Test.YtdmndbehfdnneaaWFoot
import Derived.Test.YtdmndbehfdnneaaWKept
import Derived.Test.YtdmndbehfdnneaaWShare
import Derived.Test.YtdmndbehfdnneaaWN
import Derived.Test.YtdmndbehfdnneaaWFootNe
import Derived.Test.YtdmndbehfdnneaaWAt
import Derived.Test.YtdmndbehfdnneaaWEqStruct
import Derived.Test.YtdmndbehfdnneaaWRepsOne
import Derived.Test.YtdmndbehfdnneaaWInv
import Derived.Test.YtdmndbehfdnneaaWInvWords
import Derived.Test.YtdmndbehfdnneaaWGuard
import Derived.Test.YtdmndbehfdnneaaWNEv
import Derived.Test.YtdmndbehfdnneaaWMore
namespace Go.Proofs.Ytdmndbehfdnneaa.HFnCodes
open Go.RowKit Go.Proofs.YtdmndbehfdnneaaW.PrintWords Go.Proofs.YtdmndbehfdnneaaW.PrintLast Go.Proofs.YtdmndbehfdnneaaW.PrintMore
attribute [local go_sem] max2_int min2_int max_two min_two max_three min_three max_four min_four   -- for this text's walks alone
set_option linter.unusedVariables false
set_option linter.unusedSimpArgs false



def errW : Option Int → Value
  | none => .nilIface
  | some c => .iface 0 (.int .i64 c)
theorem errW_none : errW none = .nilIface := rfl
theorem errW_some (c : Int) : errW (some c) = .iface 0 (.int .i64 c) := rfl

theorem info3 : (Try.prog.info? 3).map (fun i => (i.zero, i.size, i.bytes)) = some (some (.int .i64 0), 1, 8) := by kernel_rfl
-- the values' own types

end Go.Proofs.Ytdmndbehfdnneaa.HFnCodes
