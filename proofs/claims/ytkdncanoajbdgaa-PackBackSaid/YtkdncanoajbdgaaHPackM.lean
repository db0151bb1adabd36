/- Little facts of quotients. -/
import Derived.Test.YtkdncanoajbdgaaHPackN
set_option linter.unusedVariables false
set_option linter.unusedSimpArgs false
namespace Go.Proofs.Ytkdncanoajbdgaa.HP
open Go.RowKit Go.Proofs.Ytkdncanoajbdgaa.P Go.Proofs.YtkdncanoajbdgaaW.PrintWords Go.Proofs.YtkdncanoajbdgaaW.PrintLast Go.Proofs.YtkdncanoajbdgaaW.PrintMore
theorem wr_nat (a : Nat) (ha : a < 2 ^ 62) : wrap64 (a : Int) = (a : Int) := by unfold wrap64; omega
theorem tdiv_nat (a p : Nat) (ha : a < 2 ^ 62) : wrap64 (Int.tdiv (a : Int) (p : Int)) = ((a / p : Nat) : Int) := by
  rw [Int.tdiv_eq_ediv_of_nonneg (by omega), ← Int.natCast_ediv]
  exact wr_nat _ (Nat.lt_of_le_of_lt (Nat.div_le_self _ _) ha)
theorem tmod2 (q : Nat) : Int.tmod (q : Int) 2 = ((q % 2 : Nat) : Int) := by
  rw [Int.tmod_eq_emod_of_nonneg (by omega)]
  omega
theorem bitof (a k : Nat) (ha : a < 2 ^ 62) : Int.tmod (wrap64 (Int.tdiv (a : Int) ((2 ^ k : Nat) : Int))) 2 = (((if a.testBit k = true then 1 else 0 : Nat)) : Int) := by
  rw [tdiv_nat a _ ha, tmod2, bit_num]
theorem add256 (a b : Nat) (h : a + b < 256) : ((a : Int) + (b : Int) % 256) % 256 = ((a + b : Nat) : Int) := by omega
theorem dbl (a b : Nat) (ha : a < 2 ^ 40) (hb : b < 2) : wrap64 (wrap64 (2 * (a : Int)) + (b : Int)) = ((b + 2 * a : Nat) : Int) := by
  unfold wrap64
  omega
theorem dbl0 (a : Nat) (ha : a < 2 ^ 40) : wrap64 (2 * (a : Int)) = ((2 * a : Nat) : Int) := by
  unfold wrap64
  omega
end Go.Proofs.Ytkdncanoajbdgaa.HP
