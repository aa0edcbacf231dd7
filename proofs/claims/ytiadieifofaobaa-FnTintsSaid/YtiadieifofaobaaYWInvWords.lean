-- Cut by shake.py from a text that print.sh printed.
import Derived.Test.YtiadieifofaobaaYWInv
import Derived.Test.YtiadieifofaobaaYWFootNe
namespace Go.Proofs.YtiadieifofaobaaW.PrintWords
open Go.RowKit
end Go.Proofs.YtiadieifofaobaaW.PrintWords
namespace Go.Proofs.YtiadieifofaobaaW.PrintLast
section
variable {ops : Array Oper} {a : Act} {o og : Oper} {g : Nat} {t : Tmp} {u : Bool}
end
end Go.Proofs.YtiadieifofaobaaW.PrintLast
