-- Cut by shake.py from a text that print.sh printed.
import Derived.Test.YtdbgnoolokfafaaYWInv
import Derived.Test.YtdbgnoolokfafaaYWFootNe
namespace Go.Proofs.YtdbgnoolokfafaaW.PrintWords
open Go.RowKit
end Go.Proofs.YtdbgnoolokfafaaW.PrintWords
namespace Go.Proofs.YtdbgnoolokfafaaW.PrintLast
section
variable {ops : Array Oper} {a : Act} {o og : Oper} {g : Nat} {t : Tmp} {u : Bool}
end
end Go.Proofs.YtdbgnoolokfafaaW.PrintLast
