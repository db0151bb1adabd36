import Derived.Test.YtcbjkejboegmlaaZJnQ
import Derived.Test.YtcbjkejboegmlaaZJnW
/- JoinPairs: its region 22 (two literals, a call), walked by itself: the whole walk takes more memory than one text may. -/
set_option linter.unusedVariables false
set_option linter.unusedSimpArgs false
namespace Go.Proofs.Ytcbjkejboegmlaa.HW
open Go.RowKit Go.Proofs.Ytcbjkejboegmlaa.P Go.Proofs.Ytcbjkejboegmlaa.HP Go.Proofs.YtcbjkejboegmlaaW.PrintWords Go.Proofs.YtcbjkejboegmlaaW.PrintLast Go.Proofs.YtcbjkejboegmlaaW.PrintMore
attribute [local go_sem] max2_int min2_int max_two min_two max_three min_three max_four min_four
def regOps (n : Nat) : Code → List (Array Oper)
  | .region k ops _ => bif k == n then [ops] else []
  | .seq a b => regOps n a ++ regOps n b
  | .cond _ a b => regOps n a ++ regOps n b
  | .block _ b => regOps n b
  | .loop b => regOps n b
  | _ => []
end Go.Proofs.Ytcbjkejboegmlaa.HW
