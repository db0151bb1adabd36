/- What is packed is got as it was. -/
import Derived.Test.YtkdncanoajbdgaaHPackL
set_option linter.unusedVariables false
set_option linter.unusedSimpArgs false
namespace Go.Proofs.Ytkdncanoajbdgaa.HP
open Go.RowKit Go.Proofs.Ytkdncanoajbdgaa.P Go.Proofs.YtkdncanoajbdgaaW.PrintWords Go.Proofs.YtkdncanoajbdgaaW.PrintLast Go.Proofs.YtkdncanoajbdgaaW.PrintMore
theorem num_testBit : ∀ (b : List Bool) (k : Nat), (num b).testBit k = b.getD k false := by
  intro b
  induction b with
  | nil => intro k; simp [num]
  | cons a t ih =>
    intro k
    have e : num (a :: t) = (if a = true then 1 else 0) + 2 * num t := rfl
    rw [e]
    cases k with
    | zero =>
      rw [Nat.testBit_zero]
      cases a <;> simp <;> omega
    | succ k =>
      rw [Nat.testBit_succ, show ((if a = true then 1 else 0) + 2 * num t) / 2 = num t by cases a <;> simp <;> omega, ih k]
      simp
theorem num_bits (x w : Nat) (h : x < 2 ^ w) : num ((List.range w).map (fun k => x.testBit k)) = x := by
  apply Nat.eq_of_testBit_eq
  intro k
  rw [num_testBit]
  by_cases hk : k < w
  · simp [List.getD_eq_getElem?_getD, hk]
  · rw [List.getD_eq_getElem?_getD, List.getElem?_eq_none (by simp; omega)]
    have : x < 2 ^ k := Nat.lt_of_lt_of_le h (Nat.pow_le_pow_right (by omega) (by omega))
    rw [Nat.testBit_lt_two_pow this]
    rfl
theorem pack_length (b : List Bool) : (pack b).length = size8 b.length := by simp [pack]
theorem bitB_pack (b : List Bool) (n : Nat) (h : n < b.length) : bitB (pack b) n = b[n] := by
  have h8 : n / 8 < (pack b).length := by rw [pack_length]; unfold size8; omega
  unfold bitB
  rw [decide_eq_true h8, Bool.true_and]
  have e : (pack b).getD (n / 8) 0 = ((num ((b.drop (8 * (n / 8))).take 8) : Nat) : Int) := by
    have : n / 8 < size8 b.length := by rw [← pack_length]; exact h8
    simp [pack, List.getD_eq_getElem?_getD, this]
  rw [e, Int.toNat_natCast, num_testBit, List.getD_eq_getElem?_getD, List.getElem?_take, if_pos (by omega), List.getElem?_drop, show 8 * (n / 8) + n % 8 = n by omega]
  simp [h]
theorem getN_pack (w : Nat) (l : List Int) (h : l.all (goodN w) = true) (i : Nat) (hi : i < l.length) : ((getN (pack (bitsL w l)) w i : Nat) : Int) = l[i] := by
  have hg := List.all_eq_true.mp h l[i] (List.getElem_mem _)
  unfold goodN at hg
  simp only [Bool.and_eq_true, decide_eq_true_eq] at hg
  have e : getL (pack (bitsL w l)) w i = (List.range w).map (fun k => (l[i].toNat).testBit k) := by
    unfold getL
    apply List.map_congr_left
    intro k hk
    have hkw : k < w := by simpa using hk
    have hn := iw_lt hi hkw
    have hb : i * w + k < (bitsL w l).length := by rw [bitsL_len]; exact hn
    rw [bitB_pack _ _ hb, bitsL_at w l i k hi hkw hb]
  unfold getN
  rw [e, num_bits _ _ (by omega)]
  omega
theorem isB_pack (b : List Bool) : isB (pack b) := by
  intro x hx
  simp only [pack, List.mem_map] at hx
  obtain ⟨j, _, rfl⟩ := hx
  have h1 := num_lt ((b.drop (8 * j)).take 8)
  have h2 : 2 ^ ((b.drop (8 * j)).take 8).length ≤ 2 ^ 8 := Nat.pow_le_pow_right (by omega) (by simp; omega)
  have h3 : (2 : Nat) ^ 8 = 256 := by decide
  omega
theorem pget_pack (w : Nat) (hw : w ≤ 32) (l : List Int) (hl : l.length ≤ 10000) (h : l.all (goodN w) = true) (i : Nat) (hi : i < l.length) : Ev (fun q => pack_Get.f q (pack (bitsL w l)) (w : Int) (i : Int)) l[i] := by
  rw [← getN_pack w l h i hi]
  exact pget_f _ (isB_pack _) (packB_len l hl w hw) w hw i (by omega)
theorem good_up {w w' : Nat} (hw : w ≤ w') {l : List Int} (h : l.all (goodN w) = true) : l.all (goodN w') = true := by
  rw [List.all_eq_true] at h ⊢
  intro a ha
  have := h a ha
  have hp := Nat.pow_le_pow_right (n := 2) (by omega) hw
  unfold goodN at this ⊢
  simp only [Bool.and_eq_true, decide_eq_true_eq] at this ⊢
  omega
end Go.Proofs.Ytkdncanoajbdgaa.HP
