import Derived.Test.YtcbjkejboegmlaaZWInv
import Derived.Test.YtcbjkejboegmlaaZWFootNe
-- Cut by merge.py from a text of words that print.sh printed for this seat: theorems that this claim does not name are left out.
namespace Go.Proofs.YtcbjkejboegmlaaW.PrintWords
open Go.RowKit
end Go.Proofs.YtcbjkejboegmlaaW.PrintWords
namespace Go.Proofs.YtcbjkejboegmlaaW.PrintLast
section
variable {ops : Array Oper} {a : Act} {o og : Oper} {g : Nat} {t : Tmp} {u : Bool}
end
end Go.Proofs.YtcbjkejboegmlaaW.PrintLast
