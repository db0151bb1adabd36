import Derived.Test.YtcbjkejboegmlaaZWWords
-- Cut by merge.py from a text of words that print.sh printed for this seat: theorems that this claim does not name are left out.
/-! ### 58. A guarded operation whose guard is known to want it: the same goal without the guard -/
namespace Go.Proofs.YtcbjkejboegmlaaW.PrintWords
open Go.RowKit
section
variable {P : Program} {ops : Array Oper} {rest : List Oper} {o : Oper} {a : Act} {Q : Exit → Act → World → Prop} {W : World}
end
end Go.Proofs.YtcbjkejboegmlaaW.PrintWords
