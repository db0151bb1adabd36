import Derived.Test.YtcbjkejboegmlaaZWTab
-- Cut by merge.py from a text of words that print.sh printed for this seat: theorems that this claim does not name are left out.
/-! ### 56. Four, five, six operations that may come up next, in any order -/
namespace Go.Proofs.YtcbjkejboegmlaaW.PrintLast
section
variable {P : Program} {ops : Array Oper} {Q : Exit → Act → World → Prop} {md : Region.Mode} {S : World → Prop} {ds : List Nat} {T : Bool × List (List Nat × List Nat)}
end
end Go.Proofs.YtcbjkejboegmlaaW.PrintLast
