/- Bits and varints, in plain numbers. -/
import Derived.Test.YtkdncanoajbdgaaHP
import Derived.Laws.BitsLemmas
set_option linter.unusedVariables false
set_option linter.unusedSimpArgs false
namespace Go.Proofs.Ytkdncanoajbdgaa.HP
open Go.RowKit Go.Proofs.YtkdncanoajbdgaaW.PrintWords Go.Proofs.YtkdncanoajbdgaaW.PrintMore

/-- The number that a row of bits is, the least bit first. -/
def num : List Bool → Nat
  | [] => 0
  | b :: t => (if b = true then 1 else 0) + 2 * num t
theorem num_lt (l : List Bool) : num l < 2 ^ l.length := by
  induction l with
  | nil => simp [num]
  | cons b t ih => simp only [num, List.length_cons, Nat.pow_succ]; split <;> omega
theorem num_snoc (l : List Bool) (b : Bool) : num (l ++ [b]) = num l + (if b = true then 2 ^ l.length else 0) := by
  induction l with
  | nil => cases b <;> simp [num]
  | cons x t ih =>
    simp only [List.cons_append, num, ih, List.length_cons, Nat.pow_succ]
    cases b <;> simp <;> omega
theorem or_new : ∀ q : Fin 8, ∀ a : Fin 128, a.val < 2 ^ q.val → Go.bits .or .u8 (a.val : Int) (shl .u8 1 (q.val : Int)) = (a.val : Int) + (2 : Int) ^ q.val := by decide +kernel
theorem or_bit {a : Nat} {q : Nat} (hq : q < 8) (ha : a < 2 ^ q) : Go.bits .or .u8 (a : Int) (shl .u8 1 (q : Int)) = ((a + 2 ^ q : Nat) : Int) := by
  have h128 : 2 ^ q ≤ 128 := by
    have := Nat.pow_le_pow_right (n := 2) (by omega) (show q ≤ 7 by omega)
    simpa using this
  have := or_new ⟨q, hq⟩ ⟨a, by omega⟩ ha
  rw [this]
  push_cast
  rfl
theorem or128_all : ∀ a : Fin 256, Go.bits .or .u8 (a.val : Int) 128 = ((a.val % 128 + 128 : Nat) : Int) := by decide +kernel
theorem or128 (n : Nat) : Go.bits .or .u8 ((n : Int) % 256) 128 = ((n % 128 + 128 : Nat) : Int) := by
  have := or128_all ⟨n % 256, by omega⟩
  simp only at this
  rw [show ((n : Int) % 256) = ((n % 256 : Nat) : Int) by omega, this]
  congr 2
  omega

/-- A number's varint. -/
def vint (n : Nat) : List Int := if n < 128 then [(n : Int)] else ((n % 128 + 128 : Nat) : Int) :: vint (n / 128)
termination_by n
decreasing_by omega
theorem vint_small {n : Nat} (h : n < 128) : vint n = [(n : Int)] := by rw [vint, if_pos h]
theorem vint_big {n : Nat} (h : ¬ n < 128) : vint n = ((n % 128 + 128 : Nat) : Int) :: vint (n / 128) := by rw [vint, if_neg h]
theorem vint_len_pow : ∀ (k n : Nat), n < 128 ^ (k + 1) → (vint n).length ≤ k + 1 := by
  intro k
  induction k with
  | zero => intro n h; rw [vint_small (by simpa using h)]; simp
  | succ k ih =>
    intro n h
    by_cases hn : n < 128
    · rw [vint_small hn]; simp
    · rw [vint_big hn]
      have : n / 128 < 128 ^ (k + 1) := by
        rw [Nat.div_lt_iff_lt_mul (by omega)]
        rw [Nat.pow_succ] at h
        exact h
      have := ih _ this
      simp
      omega
theorem vint_len (n : Nat) (h : n < 9223372036854775808) : (vint n).length ≤ 9 := vint_len_pow 8 n (by simpa using h)
theorem vint_pos (n : Nat) : 0 < (vint n).length := by
  by_cases hn : n < 128
  · rw [vint_small hn]; simp
  · rw [vint_big hn]; simp
end Go.Proofs.Ytkdncanoajbdgaa.HP
