import Derived.Test.YtljhlpkoilapiaaZWInv
import Derived.Test.YtljhlpkoilapiaaZWFootNe
-- Cut by merge.py from a text of words that print.sh printed for this seat: theorems that this claim does not name are left out.
namespace Go.Proofs.YtljhlpkoilapiaaW.PrintWords
open Go.RowKit
end Go.Proofs.YtljhlpkoilapiaaW.PrintWords
namespace Go.Proofs.YtljhlpkoilapiaaW.PrintLast
section
variable {ops : Array Oper} {a : Act} {o og : Oper} {g : Nat} {t : Tmp} {u : Bool}
end
end Go.Proofs.YtljhlpkoilapiaaW.PrintLast
