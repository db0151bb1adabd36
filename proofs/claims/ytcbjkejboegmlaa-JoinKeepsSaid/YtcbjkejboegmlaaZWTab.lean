import Derived.Test.YtcbjkejboegmlaaZWLast
import Derived.Test.YtcbjkejboegmlaaZWWords
-- Cut by merge.py from a text of words that print.sh printed for this seat: theorems that this claim does not name are left out.
/-! ### 50. A region's order in a table, made once a region: each step asks the table (numbers alone), not the operations -/
namespace Go.Proofs.YtcbjkejboegmlaaW.PrintLast
open Go.Proofs.YtcbjkejboegmlaaW.PrintWords (Aside0)
section
variable {md : Region.Mode} {ops : Array Oper} {T : Bool × List (List Nat × List Nat)} {l l' li lj lk : Array Bool} {ds : List Nat} {i j k : Nat}
end
end Go.Proofs.YtcbjkejboegmlaaW.PrintLast
