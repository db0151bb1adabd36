import Derived.SizedLaws
import Derived.ChangeSlices
import Derived.Deep.Grids
import Derived.SliceStrings
import Derived.Test.YtcbjkejboegmlaaZWWords
import Derived.Test.YtcbjkejboegmlaaZWShare
import Derived.Test.YtcbjkejboegmlaaZWMore
/- Helpers of the rows: a slice of bools that came in reads as a list of bools, and is no longer than its weight allows. -/
namespace Go.Proofs.Ytcbjkejboegmlaa.HRow
open Go.ChangeShapes Go.WideShapes Go.Deep Go.Proofs.YtcbjkejboegmlaaW.PrintWords

end Go.Proofs.Ytcbjkejboegmlaa.HRow
