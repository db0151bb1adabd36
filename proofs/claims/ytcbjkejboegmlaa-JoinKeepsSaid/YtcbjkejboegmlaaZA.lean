import Derived.Test.YtcbjkejboegmlaaZWWords
import Derived.Test.YtcbjkejboegmlaaZWMore
/- Plain lemmas on numbers, lists and rounds, without any program. -/
set_option linter.unusedVariables false
set_option linter.unusedSimpArgs false
namespace Go.Proofs.Ytcbjkejboegmlaa.HP
open Go.RowKit Go.Proofs.YtcbjkejboegmlaaW.PrintWords Go.Proofs.YtcbjkejboegmlaaW.PrintMore

theorem wr1 (i : Nat) (h : i < 140737488351232) : wrap64 ((i : Int) + 1) = ((i + 1 : Nat) : Int) := by unfold wrap64; omega
theorem rd_nat (l : List Int) (i : Nat) (h : i < l.length) : rd l (i : Int) = l[i] := by simp [rd, List.getD_eq_getElem?_getD, h]
/-- The places of a row of bools, from o on. -/
def plf : Nat → List Bool → List Int
  | _, [] => []
  | o, b :: t => if b = true then (o : Int) :: plf (o + 1) t else plf (o + 1) t
def pl (b : List Bool) : List Int := plf 0 b
end Go.Proofs.Ytcbjkejboegmlaa.HP
