/- Both Gets tell the same number. -/
import Derived.Test.YtkdncanoajbdgaaHPackM
set_option linter.unusedVariables false
set_option linter.unusedSimpArgs false
namespace Go.Proofs.Ytkdncanoajbdgaa.HP
open Go.RowKit Go.Proofs.Ytkdncanoajbdgaa.P Go.Proofs.YtkdncanoajbdgaaW.PrintWords Go.Proofs.YtkdncanoajbdgaaW.PrintLast Go.Proofs.YtkdncanoajbdgaaW.PrintMore
def isB (l : List Int) : Prop := ∀ x ∈ l, 0 ≤ x ∧ x < 256
theorem isB_wf {l : List Int} (h : ∀ x ∈ l, (Lit.int .u8 x).wf = true) : isB l := by
  intro x hx
  have := h x hx
  simp [Lit.wf, IntKind.min, IntKind.max, IntKind.signed, IntKind.bits] at this
  omega
/-- A bit of bytes; behind their end there is none. -/
def bitB (b : List Int) (n : Nat) : Bool := decide (n / 8 < b.length) && (b.getD (n / 8) 0).toNat.testBit (n % 8)
/-- A number's bits. -/
def getL (b : List Int) (w i : Nat) : List Bool := (List.range w).map (fun k => bitB b (i * w + k))
theorem getL_len (b : List Int) (w i : Nat) : (getL b w i).length = w := by simp [getL]
theorem getL_at (b : List Int) (w i k : Nat) (h : k < (getL b w i).length) : (getL b w i)[k] = bitB b (i * w + k) := by simp [getL]
def getN (b : List Int) (w i : Nat) : Nat := num (getL b w i)
theorem num_take (l : List Bool) (k : Nat) (hk : k < l.length) : num (l.take (k + 1)) = num (l.take k) + (if l[k] = true then 1 else 0) * 2 ^ k := by
  rw [List.take_succ_eq_append_getElem hk, num_snoc]
  have : (l.take k).length = k := by simp; omega
  rw [this]
  cases l[k] <;> simp
theorem byte_bit (b : List Int) (hb : isB b) (n : Nat) (h : n / 8 < b.length) : rd b ((n / 8 : Nat) : Int) = (((b.getD (n / 8) 0).toNat : Nat) : Int) ∧ (b.getD (n / 8) 0).toNat < 256 := by
  have e : b.getD (n / 8) 0 = b[n / 8] := by simp [List.getD_eq_getElem?_getD, h]
  have := hb b[n / 8] (List.getElem_mem _)
  rw [rd_nat b _ h, e]
  omega
theorem pget_l (b : List Int) (hb : isB b) (hbl : b.length ≤ 100000) (w : Nat) (hw : w ≤ 32) (i : Nat) (hi : i ≤ 65535) : ∀ (d k : Nat), k + d = w →
    Ev (fun q => pack_Get.l0 q b (w : Int) (i : Int) ((num ((getL b w i).take k) : Nat) : Int) (w : Int) (k : Int)) ((getN b w i : Nat) : Int) := by
  have hiw : i * w ≤ 65535 * 32 := Nat.mul_le_mul hi hw
  intro d
  induction d with
  | zero =>
    intro k h
    refine Ev.step (fun q => by rw [pack_Get.l0]) ?_
    simp only [if_neg (show ¬ (k : Int) < (w : Int) by omega)]
    rw [List.take_of_length_le (by rw [getL_len]; omega)]
    exact Ev.now _
  | succ d ih =>
    intro k h
    have hk : k < (getL b w i).length := by rw [getL_len]; omega
    have hnum := num_take (getL b w i) k hk
    rw [getL_at] at hnum
    have hlt : num ((getL b w i).take k) < 2 ^ k := by
      have := num_lt ((getL b w i).take k)
      rwa [show ((getL b w i).take k).length = k by simp; omega] at this
    refine Ev.step (fun q => by rw [pack_Get.l0]) ?_
    simp only [if_pos (show (k : Int) < (w : Int) by omega), mulw i w (by omega) (by omega), addw (i * w) k (by omega) (by omega), div8b (i * w + k) (by omega), mod8 (i * w + k), wr1 k (by omega)]
    by_cases hin : (i * w + k) / 8 < b.length
    · obtain ⟨e1, e2⟩ := byte_bit b hb (i * w + k) hin
      have e3 : wrap64 (Go.bits .and .u8 (shr .u8 (rd b (((i * w + k) / 8 : Nat) : Int)) (((i * w + k) % 8 : Nat) : Int)) 1) = (((b.getD ((i * w + k) / 8) 0).toNat / 2 ^ ((i * w + k) % 8) % 2 : Nat) : Int) := by
        rw [e1, shr_nat .u8 _ _ (by simp [IntKind.bits]; omega), and8_1 _ (Nat.lt_of_le_of_lt (Nat.div_le_self _ _) e2)]
        exact wr_nat _ (by omega)
      have hbit : bitB b (i * w + k) = (b.getD ((i * w + k) / 8) 0).toNat.testBit ((i * w + k) % 8) := by unfold bitB; rw [decide_eq_true hin, Bool.true_and]
      simp only [if_pos (show (((i * w + k) / 8 : Nat) : Int) < (b.length : Int) by omega), if_pos (show 0 ≤ (((i * w + k) / 8 : Nat) : Int) by omega), if_pos (show 0 ≤ (((i * w + k) % 8 : Nat) : Int) by omega), if_pos (show 0 ≤ (k : Int) by omega), e3, or64_bit (show k ≤ 60 by omega) hlt (show (b.getD ((i * w + k) / 8) 0).toNat / 2 ^ ((i * w + k) % 8) % 2 < 2 by omega)]
      rw [bit_num, ← hbit, ← hnum]
      exact ih (k + 1) (by omega)
    · have hbit : bitB b (i * w + k) = false := by unfold bitB; rw [decide_eq_false hin, Bool.false_and]
      simp only [if_neg (show ¬ (((i * w + k) / 8 : Nat) : Int) < (b.length : Int) by omega)]
      rw [hbit] at hnum
      simp only [Bool.false_eq_true, if_false, Nat.zero_mul, Nat.add_zero] at hnum
      rw [← hnum]
      exact ih (k + 1) (by omega)
theorem pget_f (b : List Int) (hb : isB b) (hbl : b.length ≤ 100000) (w : Nat) (hw : w ≤ 32) (i : Nat) (hi : i ≤ 65535) : Ev (fun q => pack_Get.f q b (w : Int) (i : Int)) ((getN b w i : Nat) : Int) :=
  pget_l b hb hbl w hw i hi w 0 (by omega)
theorem num_drop (l : List Bool) (k : Nat) (hk : k < l.length) : num (l.drop k) = (if l[k] = true then 1 else 0) + 2 * num (l.drop (k + 1)) := by
  rw [List.drop_eq_getElem_cons hk]
  rfl
theorem rget_l (b : List Int) (hb : isB b) (hbl : b.length ≤ 100000) (w : Nat) (hw : w ≤ 32) (i : Nat) (hi : i ≤ 65535) : ∀ (k : Nat), k ≤ w →
    Ev (fun q => hopperref03_Get.l0 q b (w : Int) (i : Int) ((num ((getL b w i).drop k) : Nat) : Int) ((k : Int) - 1)) ((getN b w i : Nat) : Int) := by
  have hiw : i * w ≤ 65535 * 32 := Nat.mul_le_mul hi hw
  intro k
  induction k with
  | zero =>
    intro h
    refine Ev.step (fun q => by rw [hopperref03_Get.l0]) ?_
    simp only [if_neg (show ¬ ((0 : Nat) : Int) - 1 ≥ 0 by omega), List.drop_zero]
    exact Ev.now _
  | succ k ih =>
    intro h
    have hk : k < (getL b w i).length := by rw [getL_len]; omega
    have hnum := num_drop (getL b w i) k hk
    rw [getL_at] at hnum
    have hlt : num ((getL b w i).drop (k + 1)) < 2 ^ 32 := by
      refine Nat.lt_of_lt_of_le (num_lt _) (Nat.pow_le_pow_right (by omega) ?_)
      simp [getL_len]
      omega
    refine Ev.step (fun q => by rw [hopperref03_Get.l0]) ?_
    have ek : (((k + 1 : Nat) : Int) - 1) = (k : Int) := by omega
    have em : wrap64 ((k : Int) - 1) = (k : Int) - 1 := by unfold wrap64; omega
    have e2n : wrap64 (2 * ((num ((getL b w i).drop (k + 1)) : Nat) : Int)) = ((2 * num ((getL b w i).drop (k + 1)) : Nat) : Int) := dbl0 _ (by omega)
    simp only [ek, em, e2n, if_pos (show (k : Int) ≥ 0 by omega), mulw i w (by omega) (by omega), addw (i * w) k (by omega) (by omega), div8b (i * w + k) (by omega), mod8 (i * w + k)]
    by_cases hin : (i * w + k) / 8 < b.length
    · obtain ⟨e1, e2⟩ := byte_bit b hb (i * w + k) hin
      have hbit : bitB b (i * w + k) = (b.getD ((i * w + k) / 8) 0).toNat.testBit ((i * w + k) % 8) := by unfold bitB; rw [decide_eq_true hin, Bool.true_and]
      simp only [if_pos (show (((i * w + k) / 8 : Nat) : Int) < (b.length : Int) by omega), if_pos (show 0 ≤ (((i * w + k) / 8 : Nat) : Int) by omega)]
      refine (power_f ((i * w + k) % 8) (by omega)).bind ?_
      have hpos := Nat.two_pow_pos ((i * w + k) % 8)
      have e3 : wrap64 (((2 * num ((getL b w i).drop (k + 1)) : Nat) : Int) + Int.tmod (wrap64 (Int.tdiv (wrap64 (rd b (((i * w + k) / 8 : Nat) : Int))) ((2 ^ ((i * w + k) % 8) : Nat) : Int))) 2) = ((num ((getL b w i).drop k) : Nat) : Int) := by
        rw [e1, wr_nat _ (by omega), bitof _ _ (by omega), hnum, hbit]
        rw [show ((2 * num ((getL b w i).drop (k + 1)) : Nat) : Int) = wrap64 (2 * ((num ((getL b w i).drop (k + 1)) : Nat) : Int)) from (dbl0 _ (by omega)).symm]
        exact dbl _ _ (by omega) (by split <;> omega)
      simp only [if_neg (show ¬ ((2 ^ ((i * w + k) % 8) : Nat) : Int) = 0 by omega), e3]
      exact ih (by omega)
    · have hbit : bitB b (i * w + k) = false := by unfold bitB; rw [decide_eq_false hin, Bool.false_and]
      simp only [if_neg (show ¬ (((i * w + k) / 8 : Nat) : Int) < (b.length : Int) by omega)]
      rw [hbit] at hnum
      simp only [Bool.false_eq_true, if_false, Nat.zero_add] at hnum
      rw [← hnum]
      exact ih (by omega)
theorem rget_f (b : List Int) (hb : isB b) (hbl : b.length ≤ 100000) (w : Nat) (hw : w ≤ 32) (i : Nat) (hi : i ≤ 65535) : Ev (fun q => hopperref03_Get.f q b (w : Int) (i : Int)) ((getN b w i : Nat) : Int) := by
  have h := rget_l b hb hbl w hw i hi w (Nat.le_refl _)
  rw [List.drop_of_length_le (by rw [getL_len]; omega)] at h
  unfold hopperref03_Get.f
  have em : wrap64 ((w : Int) - 1) = (w : Int) - 1 := by unfold wrap64; omega
  simp only [em]
  exact h
end Go.Proofs.Ytkdncanoajbdgaa.HP
