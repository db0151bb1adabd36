import Derived.Test.YtljhlpkoilapiaaZWWords
import Derived.Laws.StructEq
-- Cut by merge.py from a text of words that print.sh printed for this seat: theorems that this claim does not name are left out.
/-! ### 53. '==' of structs as_ one Bool -/
namespace Go.Proofs.YtljhlpkoilapiaaW.PrintWords
open Go.RowKit
section
variable {P : Program} {d : Nat} {xs ys : Array Value} {f : Field} {fs : List Field} {a b : Value} {r s : Bool} {w : World}
end
end Go.Proofs.YtljhlpkoilapiaaW.PrintWords
