/- Bits packed, eight a byte, in plain lists. -/
import Derived.Test.YtkdncanoajbdgaaHPower
import Derived.Test.YtkdncanoajbdgaaHBits
set_option linter.unusedVariables false
set_option linter.unusedSimpArgs false
namespace Go.Proofs.Ytkdncanoajbdgaa.HP
open Go.RowKit Go.Proofs.Ytkdncanoajbdgaa.P Go.Proofs.YtkdncanoajbdgaaW.PrintWords Go.Proofs.YtkdncanoajbdgaaW.PrintLast Go.Proofs.YtkdncanoajbdgaaW.PrintMore
theorem rd_set (l : List Int) (i j : Nat) (v : Int) (hi : i < l.length) : rd (l.set i v) (j : Int) = if i = j then v else rd l (j : Int) := by
  simp only [rd, Int.toNat_natCast, List.getD_eq_getElem?_getD, List.getElem?_set]
  by_cases h : i = j
  · subst h; simp [hi]
  · simp [h]
theorem rd_app (l : List Int) (v : Int) (j : Nat) : rd (l ++ [v]) (j : Int) = if j = l.length then v else rd l (j : Int) := by
  simp only [rd, Int.toNat_natCast, List.getD_eq_getElem?_getD, List.getElem?_append]
  by_cases h : j < l.length
  · simp [h, show ¬ j = l.length by omega]
  · by_cases e : j = l.length
    · simp [e]
    · simp only [if_neg h, if_neg e]
      rw [List.getElem?_eq_none (by simp; omega), List.getElem?_eq_none (by omega)]
def bval (b : List Bool) (i j : Nat) : Nat := num (((b.take i).drop (8 * j)).take 8)
def size8 (n : Nat) : Nat := (n + 7) / 8
def pack (b : List Bool) : List Int := (List.range (size8 b.length)).map (fun j => (num ((b.drop (8 * j)).take 8) : Int))
theorem pack_len (b : List Bool) : (pack b).length ≤ b.length := by simp [pack, size8]; omega
theorem bval_lt (b : List Bool) (i : Nat) (hi : i ≤ b.length) : bval b i (i / 8) < 2 ^ (i % 8) := by
  unfold bval
  refine Nat.lt_of_lt_of_le (num_lt _) (Nat.pow_le_pow_right (by omega) ?_)
  simp
  omega
theorem bval_zero (b : List Bool) (i j : Nat) (h : i ≤ 8 * j) : bval b i j = 0 := by
  unfold bval
  rw [List.drop_eq_nil_of_le (by simp; omega)]
  rfl
theorem bval_succ (b : List Bool) (i j : Nat) (hi : i < b.length) : bval b (i + 1) j = bval b i j + (if i / 8 = j ∧ b[i] = true then 2 ^ (i % 8) else 0) := by
  have hl : (b.take i).length = i := by simp; omega
  by_cases h1 : i / 8 = j
  · subst h1
    unfold bval
    rw [List.take_succ_eq_append_getElem hi, List.drop_append_of_le_length (by omega)]
    have hL : ((b.take i).drop (8 * (i / 8))).length = i % 8 := by simp; omega
    rw [List.take_of_length_le (l := (b.take i).drop (8 * (i / 8)) ++ [b[i]]) (by simp; omega), num_snoc, List.take_of_length_le (l := (b.take i).drop (8 * (i / 8))) (by omega), hL]
    simp
  · simp only [h1, false_and, if_false, Nat.add_zero]
    by_cases h2 : j < i / 8
    · unfold bval
      rw [List.take_succ_eq_append_getElem hi, List.drop_append_of_le_length (by omega), List.take_append_of_le_length (by simp; omega)]
    · rw [bval_zero b i j (by omega), bval_zero b (i + 1) j (by omega)]
theorem pack_of (b : List Bool) (x : List Int) (hl : x.length = size8 b.length) (hx : ∀ j, j < x.length → rd x (j : Int) = (bval b b.length j : Int)) : x = pack b := by
  apply List.ext_getElem
  · simp [pack, hl]
  · intro j h1 h2
    have := hx j h1
    rw [rd_nat x j h1] at this
    rw [this]
    simp [pack, bval]
theorem div8 (i : Nat) (h : i ≤ 1000000) : wrap64 (Int.tdiv (i : Int) 8) = ((i / 8 : Nat) : Int) := by
  rw [Int.tdiv_eq_ediv_of_nonneg (by omega)]; unfold wrap64; omega
theorem mod8 (i : Nat) : Int.tmod (i : Int) 8 = ((i % 8 : Nat) : Int) := by
  rw [Int.tmod_eq_emod_of_nonneg (by omega)]; omega
theorem or_bit2 {a b q : Nat} (hq : q < 8) (ha : a < 2 ^ q) (hb : b < 2) : Go.bits .or .u8 (a : Int) (shl .u8 ((b : Nat) : Int) (q : Int)) = ((a + b * 2 ^ q : Nat) : Int) := by
  have h128 : 2 ^ q ≤ 128 := by
    have := Nat.pow_le_pow_right (n := 2) (by omega) (show q ≤ 7 by omega)
    simpa using this
  rcases (by omega : b = 0 ∨ b = 1) with rfl | rfl
  · have e : shl .u8 ((0 : Nat) : Int) (q : Int) = ((0 : Nat) : Int) := by simp [shl, IntKind.wrap_u8]
    rw [e, (bits_nat .u8 8 (by decide) wraps_u8 a 0 (by omega) (by omega)).2]
    simp
  · have := or_bit hq ha
    rw [Nat.one_mul]
    exact this
theorem wraps_i64b (n : Int) (h₀ : 0 ≤ n) (h₁ : n < 2 ^ 62) : IntKind.i64.wrap n = n := by rw [IntKind.wrap_i64]; omega
theorem or64_bit {a b q : Nat} (hq : q ≤ 60) (ha : a < 2 ^ q) (hb : b < 2) : Go.bits .or .i64 (a : Int) (shl .i64 ((b : Nat) : Int) (q : Int)) = ((a + b * 2 ^ q : Nat) : Int) := by
  have h60 : 2 ^ q ≤ 2 ^ 60 := Nat.pow_le_pow_right (by omega) hq
  have hpos := Nat.two_pow_pos q
  have hbq : b * 2 ^ q < 2 ^ 62 := by
    rcases (by omega : b = 0 ∨ b = 1) with rfl | rfl <;> omega
  have e : shl .i64 ((b : Nat) : Int) (q : Int) = ((b * 2 ^ q : Nat) : Int) := by
    unfold shl
    rw [show min (q : Int).toNat IntKind.i64.bits = q by simp [IntKind.bits]; omega]
    rw [show ((b : Nat) : Int) * 2 ^ q = ((b * 2 ^ q : Nat) : Int) by push_cast; rfl]
    exact wraps_i64b _ (by omega) (by omega)
  rw [e, (bits_nat .i64 62 (by decide) wraps_i64b a (b * 2 ^ q) (by omega) hbq).2, Nat.or_comm, Nat.mul_comm b, ← Nat.two_pow_add_eq_or_of_lt ha, Nat.add_comm]
theorem and64_1 (a : Nat) (ha : a < 2 ^ 62) : Go.bits .and .i64 (a : Int) 1 = ((a % 2 : Nat) : Int) := by
  have := bits_mask .i64 62 (by decide) wraps_i64b 1 (by decide) (a : Int) (by omega) (by exact_mod_cast ha)
  rw [show ((2 : Int) ^ 1 - 1) = 1 from rfl] at this
  rw [this]
  omega
theorem and8_1 (a : Nat) (ha : a < 256) : Go.bits .and .u8 (a : Int) 1 = ((a % 2 : Nat) : Int) := by
  have := bits_mask .u8 8 (by decide) wraps_u8 1 (by decide) (a : Int) (by omega) (by omega)
  rw [show ((2 : Int) ^ 1 - 1) = 1 from rfl] at this
  rw [this]
  omega
theorem shr_nat (k : IntKind) (a q : Nat) (hq : q ≤ k.bits) : shr k (a : Int) (q : Int) = ((a / 2 ^ q : Nat) : Int) := by
  unfold shr
  rw [show min (q : Int).toNat k.bits = q by simp; omega]
  push_cast
  rfl
theorem bit_num (x : Nat) (k : Nat) : x / 2 ^ k % 2 = (if x.testBit k = true then 1 else 0) := by
  rw [Nat.testBit_eq_decide_div_mod_eq]
  rcases Nat.mod_two_eq_zero_or_one (x / 2 ^ k) with h | h <;> simp [h]
/-- A byte that some bits were put into: bval at i, its bit more. -/
theorem bval_step (b : List Bool) (i j : Nat) (hi : i < b.length) : bval b (i + 1) j = bval b i j + (if i / 8 = j then (if b[i] = true then 1 else 0) * 2 ^ (i % 8) else 0) := by
  rw [bval_succ b i j hi]
  by_cases h : i / 8 = j <;> cases b[i] <;> simp [h]
end Go.Proofs.Ytkdncanoajbdgaa.HP
