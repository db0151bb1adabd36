/- What Number reads: varints, and nothing else. -/
import Derived.Test.YtkdncanoajbdgaaHBits
import Derived.Test.YtkdncanoajbdgaaPx2
set_option linter.unusedVariables false
set_option linter.unusedSimpArgs false
namespace Go.Proofs.Ytkdncanoajbdgaa.HP
open Go.RowKit Go.Proofs.Ytkdncanoajbdgaa.P Go.Proofs.YtkdncanoajbdgaaW.PrintWords Go.Proofs.YtkdncanoajbdgaaW.PrintLast Go.Proofs.YtkdncanoajbdgaaW.PrintMore
def isBy (l : List Int) : Prop := ∀ x ∈ l, 0 ≤ x ∧ x < 256
theorem and127 (b : Nat) (hb : b < 256) : Go.bits .and .u8 (b : Int) 127 = ((b % 128 : Nat) : Int) := by
  have := bits_mask .u8 8 (by decide) wraps_u8 7 (by decide) (b : Int) (by omega) (by omega)
  rw [show ((2 : Int) ^ 7 - 1) = 127 from rfl] at this
  rw [this]
  omega
theorem wraps_i64c (n : Int) (h₀ : 0 ≤ n) (h₁ : n < 2 ^ 63) : IntKind.i64.wrap n = n := by rw [IntKind.wrap_i64]; omega
theorem m_nat (i x b : Nat) (hi : i ≤ 8) (hx : x < 2 ^ (7 * i)) (hb : b < 256) : cursor_Cursor_Number.m i (x : Int) (b : Int) = ((x + b % 128 * 2 ^ (7 * i) : Nat) : Int) := by
  have h56 : 2 ^ (7 * i) ≤ 2 ^ 56 := Nat.pow_le_pow_right (by omega) (by omega)
  have hp := Nat.two_pow_pos (7 * i)
  have hlt : b % 128 * 2 ^ (7 * i) < 2 ^ 63 := by
    have h1 : b % 128 * 2 ^ (7 * i) ≤ 127 * 2 ^ (7 * i) := Nat.mul_le_mul_right _ (by omega)
    omega
  unfold cursor_Cursor_Number.m
  rw [and127 b hb]
  have e1 : wrap64 ((b % 128 : Nat) : Int) = ((b % 128 : Nat) : Int) := by unfold wrap64; omega
  have e2 : wrap64 (((b % 128 : Nat) : Int) * 2 ^ (7 * i)) = ((b % 128 * 2 ^ (7 * i) : Nat) : Int) := by
    rw [show ((b % 128 : Nat) : Int) * 2 ^ (7 * i) = ((b % 128 * 2 ^ (7 * i) : Nat) : Int) by push_cast; rfl]
    generalize b % 128 * 2 ^ (7 * i) = z at *
    unfold wrap64
    omega
  rw [e1, e2, (bits_nat .i64 63 (by decide) wraps_i64c x (b % 128 * 2 ^ (7 * i)) (by omega) hlt).2, Nat.or_comm, Nat.mul_comm (b % 128), ← Nat.two_pow_add_eq_or_of_lt hx, Nat.add_comm]
theorem p7 (i : Nat) : 2 ^ (7 * (i + 1)) = 128 * 2 ^ (7 * i) := by rw [Nat.mul_add, Nat.pow_add, Nat.mul_comm]
/-- A varint is read as its number. -/
theorem z_vint : ∀ (n i x : Nat) (t : List Int), i + (vint n).length ≤ 9 → x < 2 ^ (7 * i) → (i = 0 ∨ 0 < n) →
    cursor_Cursor_Number.z (vint n ++ t) i (x : Int) = (((x + n * 2 ^ (7 * i) : Nat) : Int), ((i + (vint n).length : Nat) : Int), 0) := by
  intro n
  induction n using Nat.strongRecOn with
  | ind n ih =>
    intro i x t hl hx h0
    by_cases hn : n < 128
    · rw [vint_small hn] at hl ⊢
      simp only [List.length_singleton] at hl
      have hc : ¬ ((n : Int) = 0 ∧ 0 < i) := by omega
      simp only [List.singleton_append, cursor_Cursor_Number.z, if_neg (show ¬ i = 9 by omega), if_pos (show (n : Int) < 128 by omega), if_neg hc, m_nat i x n (by omega) hx (by omega), Nat.mod_eq_of_lt hn, List.length_singleton]
      push_cast
      rfl
    · rw [vint_big hn] at hl ⊢
      simp only [List.length_cons] at hl
      have hm := m_nat i x (n % 128 + 128) (by have := vint_pos (n / 128); omega) hx (by omega)
      rw [show (n % 128 + 128) % 128 = n % 128 by omega] at hm
      simp only [List.cons_append, cursor_Cursor_Number.z, if_neg (show ¬ i = 9 by have := vint_pos (n / 128); omega), if_neg (show ¬ ((n % 128 + 128 : Nat) : Int) < 128 by omega), hm, List.length_cons]
      have hx2 : x + n % 128 * 2 ^ (7 * i) < 2 ^ (7 * (i + 1)) := by
        rw [p7]
        have : n % 128 * 2 ^ (7 * i) ≤ 127 * 2 ^ (7 * i) := Nat.mul_le_mul_right _ (by omega)
        omega
      rw [ih (n / 128) (by omega) (i + 1) _ t (by omega) hx2 (by right; omega)]
      have e : x + n % 128 * 2 ^ (7 * i) + n / 128 * 2 ^ (7 * (i + 1)) = x + n * 2 ^ (7 * i) := by
        rw [p7, Nat.mul_left_comm, ← Nat.mul_assoc, Nat.add_assoc, ← Nat.add_mul]
        congr 2
        omega
      rw [e]
      simp only [Prod.mk.injEq, true_and, and_true]
      omega
theorem z_put (n : Nat) (hn : n < 9223372036854775808) (t : List Int) : cursor_Cursor_Number.z (vint n ++ t) 0 0 = ((n : Int), ((vint n).length : Int), 0) := by
  have := z_vint n 0 0 t (by have := vint_len n hn; omega) (by simp) (by left; rfl)
  simpa using this
/-- What is read was a varint. -/
theorem z_back : ∀ (l : List Int) (i x : Nat), isBy l → i ≤ 9 → x < 2 ^ (7 * i) → 
    (∃ n : Nat, ∃ t : List Int, l = vint n ++ t ∧ (i = 0 ∨ 0 < n) ∧ i + (vint n).length ≤ 9 ∧ cursor_Cursor_Number.z l i (x : Int) = (((x + n * 2 ^ (7 * i) : Nat) : Int), ((i + (vint n).length : Nat) : Int), 0)) ∨ cursor_Cursor_Number.z l i (x : Int) = (0, 0, 2) ∨ cursor_Cursor_Number.z l i (x : Int) = (0, 0, 3) := by
  intro l
  induction l with
  | nil => intro i x _ _ _; right; left; rfl
  | cons b t ih =>
    intro i x hb hi hx
    have hb0 := hb b List.mem_cons_self
    obtain ⟨c, rfl⟩ : ∃ c : Nat, b = (c : Int) := ⟨b.toNat, by omega⟩
    by_cases c9 : i = 9
    · right; right
      simp only [cursor_Cursor_Number.z, if_pos c9]
    · have hm := m_nat i x c (by omega) hx (by omega)
      by_cases hc : (c : Int) < 128
      · by_cases hz : (c : Int) = 0 ∧ 0 < i
        · right; right
          simp only [cursor_Cursor_Number.z, if_neg c9, if_pos hc, if_pos hz]
        · left
          refine ⟨c, t, ?_, by omega, ?_, ?_⟩
          · rw [vint_small (by omega)]; rfl
          · rw [vint_small (by omega)]; simp; omega
          · rw [vint_small (by omega)]
            simp only [cursor_Cursor_Number.z, if_neg c9, if_pos hc, if_neg hz, hm, Nat.mod_eq_of_lt (show c < 128 by omega), List.length_singleton]
            push_cast
            rfl
      · have hx2 : x + c % 128 * 2 ^ (7 * i) < 2 ^ (7 * (i + 1)) := by
          rw [p7]
          have : c % 128 * 2 ^ (7 * i) ≤ 127 * 2 ^ (7 * i) := Nat.mul_le_mul_right _ (by omega)
          omega
        have hr : cursor_Cursor_Number.z ((c : Int) :: t) i (x : Int) = cursor_Cursor_Number.z t (i + 1) ((x + c % 128 * 2 ^ (7 * i) : Nat) : Int) := by
          simp only [cursor_Cursor_Number.z, if_neg c9, if_neg hc, hm]
        rcases ih (i + 1) _ (fun y hy => hb y (List.mem_cons_of_mem _ hy)) (by omega) hx2 with ⟨n, t2, e1, h2, h3, e4⟩ | e | e
        · left
          have hn : 0 < n := by omega
          have hbig : ¬ (c % 128 + 128 * n) < 128 := by omega
          have ev : vint (c % 128 + 128 * n) = ((c : Nat) : Int) :: vint n := by
            rw [vint_big hbig, show (c % 128 + 128 * n) % 128 + 128 = c by omega, show (c % 128 + 128 * n) / 128 = n by omega]
          refine ⟨c % 128 + 128 * n, t2, ?_, by omega, ?_, ?_⟩
          · rw [ev, e1]; rfl
          · rw [ev]; simp; omega
          · rw [hr, e4, ev]
            have e : x + c % 128 * 2 ^ (7 * i) + n * 2 ^ (7 * (i + 1)) = x + (c % 128 + 128 * n) * 2 ^ (7 * i) := by
              rw [p7, Nat.add_mul, Nat.mul_left_comm, ← Nat.mul_assoc, Nat.add_assoc]
            rw [e]
            simp only [Prod.mk.injEq, true_and, and_true, List.length_cons]
            omega
        · right; left; rw [hr]; exact e
        · right; right; rw [hr]; exact e
theorem vint_small9 {n : Nat} (h : (vint n).length ≤ 9) : n < 9223372036854775808 := by
  have key : ∀ (k n : Nat), (vint n).length ≤ k → n < 2 ^ (7 * k) := by
    intro k
    induction k with
    | zero => intro n h; have := vint_pos n; omega
    | succ k ih =>
      intro n h
      by_cases hn : n < 128
      · rw [p7]; have := Nat.two_pow_pos (7 * k); omega
      · rw [vint_big hn] at h
        have := ih (n / 128) (by simpa using h)
        rw [p7]
        omega
  have := key 9 n h
  simpa using this
theorem z_any (l : List Int) (hl : isBy l) : (∃ n : Nat, n < 9223372036854775808 ∧ ∃ t : List Int, l = vint n ++ t ∧ cursor_Cursor_Number.z l 0 0 = ((n : Int), ((vint n).length : Int), 0)) ∨ cursor_Cursor_Number.z l 0 0 = (0, 0, 2) ∨ cursor_Cursor_Number.z l 0 0 = (0, 0, 3) := by
  rcases z_back l 0 0 hl (by omega) (by simp) with ⟨n, t, e1, _, h3, e4⟩ | e | e
  · left
    exact ⟨n, vint_small9 (by omega), t, e1, by simpa using e4⟩
  · right; left; exact e
  · right; right; exact e
end Go.Proofs.Ytkdncanoajbdgaa.HP
