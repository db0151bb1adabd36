/- How strings compare, in plain lists. -/
import Derived.Test.YtpbplflocdhahaaHMk
import Derived.Test.YtpbplflocdhahaaPx1
import Derived.Test.YtpbplflocdhahaaPx2
set_option linter.unusedVariables false
set_option linter.unusedSimpArgs false
namespace Go.Proofs.Ytpbplflocdhahaa.HP
open Go.Proofs.Ytpbplflocdhahaa.HW
open Go.RowKit Go.Proofs.Ytpbplflocdhahaa.P Go.Proofs.YtpbplflocdhahaaW.PrintWords Go.Proofs.YtpbplflocdhahaaW.PrintLast Go.Proofs.YtpbplflocdhahaaW.PrintMore
def cu : List UInt8 → List UInt8 → Int
  | [], [] => 0
  | [], _ :: _ => -1
  | _ :: _, [] => 1
  | a :: x, b :: y => if a < b then -1 else if b < a then 1 else cu x y
theorem cu_kind : ∀ x y : List UInt8, cu x y = 0 ∨ cu x y = -1 ∨ cu x y = 1
  | [], [] => .inl rfl
  | [], _ :: _ => .inr (.inl rfl)
  | _ :: _, [] => .inr (.inr rfl)
  | a :: x, b :: y => by
    unfold cu
    split
    · exact .inr (.inl rfl)
    · split
      · exact .inr (.inr rfl)
      · exact cu_kind x y
theorem u8_eq {a b : UInt8} (h1 : ¬ a < b) (h2 : ¬ b < a) : a = b := by
  rw [UInt8.lt_iff_toNat_lt] at h1 h2
  exact UInt8.toNat_inj.1 (by omega)
theorem cu_less : ∀ x y : List UInt8, (Op.bytesLess x y = true ↔ cu x y = -1) ∧ (Op.bytesLess y x = true ↔ cu x y = 1)
  | [], [] => by simp [Op.bytesLess, cu]
  | [], _ :: _ => by simp [Op.bytesLess, cu]
  | _ :: _, [] => by simp [Op.bytesLess, cu]
  | a :: x, b :: y => by
    have ih := cu_less x y
    unfold Op.bytesLess cu
    by_cases h1 : a < b
    · have h2 : ¬ b < a := by rw [UInt8.lt_iff_toNat_lt] at h1 ⊢; omega
      have h3 : ¬ b = a := by rintro rfl; exact h2 h1
      simp [h1, h2, h3]
    · by_cases h2 : b < a
      · have h3 : ¬ a = b := by rintro rfl; exact h1 h2
        simp [h1, h2, h3]
      · obtain rfl := u8_eq h1 h2
        simp [h1, ih.1, ih.2]
theorem cu_zero : ∀ x y : List UInt8, cu x y = 0 ↔ x = y
  | [], [] => by simp [cu]
  | [], _ :: _ => by simp [cu]
  | _ :: _, [] => by simp [cu]
  | a :: x, b :: y => by
    have ih := cu_zero x y
    unfold cu
    by_cases h1 : a < b
    · have h3 : ¬ a = b := by rintro rfl; rw [UInt8.lt_iff_toNat_lt] at h1; omega
      simp [h1, h3]
    · by_cases h2 : b < a
      · have h3 : ¬ a = b := by rintro rfl; exact h1 h2
        simp [h1, h2, h3]
      · obtain rfl := u8_eq h1 h2
        simp [h1, ih]
theorem cu_take : ∀ (n : Nat) (x y : List UInt8), cu (x.take n) (y.take n) ≠ 0 → cu x y = cu (x.take n) (y.take n)
  | 0, x, y, h => absurd (show cu (x.take 0) (y.take 0) = 0 from rfl) h
  | n + 1, [], [], h => rfl
  | n + 1, [], _ :: _, h => rfl
  | n + 1, _ :: _, [], h => rfl
  | n + 1, a :: x, b :: y, h => by
    rw [List.take_succ_cons, List.take_succ_cons] at h ⊢
    unfold cu at h ⊢
    by_cases h1 : a < b
    · simp [h1]
    · by_cases h2 : b < a
      · simp [h1, h2]
      · simp only [if_neg h1, if_neg h2] at h ⊢
        exact cu_take n x y h
/-- How two strings compare. -/
def cs (a b : ByteArray) : Int := cu a.toList b.toList
theorem cs_zero (a b : ByteArray) : cs a b = 0 ↔ a = b := by
  unfold cs
  rw [cu_zero]
  constructor
  · intro e
    rw [ByteArray.toList_eq, ByteArray.toList_eq] at e
    obtain ⟨⟨x⟩⟩ := a
    obtain ⟨⟨y⟩⟩ := b
    simp only at e
    rw [e]
  · rintro rfl; rfl
theorem cmp_f (a b : ByteArray) : cmp_Compare_string.f a b = some (cs a b) := by
  have h := cu_less a.toList b.toList
  have hk := cu_kind a.toList b.toList
  unfold cmp_Compare_string.f cs
  by_cases h1 : Op.bytesLess a.toList b.toList = true
  · rw [if_pos h1, h.1.1 h1]
  · rw [if_neg h1]
    by_cases h2 : a.toList = b.toList
    · rw [if_pos (by simpa using h2), (cu_zero _ _).2 h2]
    · rw [if_neg (by simpa using h2)]
      rcases hk with e | e | e
      · exact absurd ((cu_zero _ _).1 e) h2
      · exact absurd (h.1.2 e) h1
      · rw [e]
theorem pre_list (s : ByteArray) : (preB s).toList = s.toList.take 4 := by
  have e : bytesOf (preB s) = (bytesOf s).take 4 := by unfold preB; rw [bytes_str _ (isB_take (bytes_b s) 4)]
  rw [ByteArray.toList_eq, ByteArray.toList_eq]
  unfold bytesOf at e
  rw [← List.map_take] at e
  exact (List.map_inj_right (fun x y (h : (x.toNat : Int) = (y.toNat : Int)) => UInt8.toNat_inj.1 (by omega))).1 e
theorem cs_pre (a b : ByteArray) (h : cs (preB a) (preB b) ≠ 0) : cs a b = cs (preB a) (preB b) := by
  unfold cs at h ⊢
  rw [pre_list, pre_list] at h ⊢
  exact cu_take 4 _ _ h
theorem bt_nat (s : ByteArray) (i : Nat) (h : i < s.data.toList.length) : bt s (i : Int) = ((s.data.toList[i]).toNat : Int) := by
  have h2 : i < s.size := by simpa using h
  unfold bt
  rw [dif_pos (by simpa using h2)]
  rfl
theorem rc_l (a b : ByteArray) (ha : a.size ≤ 1000000) (hb : b.size ≤ 1000000) : ∀ (d i : Nat), i + d = a.data.toList.length → i ≤ b.data.toList.length →
    Ev (fun k => hopperref07_Compare.l0 k a b (i : Int)) (cu (a.data.toList.drop i) (b.data.toList.drop i)) := by
  have e1 : (a.size : Int) = (a.data.toList.length : Int) := by simp
  have e2 : (b.size : Int) = (b.data.toList.length : Int) := by simp
  have la : a.data.toList.length ≤ 1000000 := by simpa using ha
  intro d
  induction d with
  | zero =>
    intro i hi hib
    refine Ev.step (fun k => by rw [hopperref07_Compare.l0]) ?_
    rw [e1]
    simp only [if_neg (show ¬ (i : Int) < (a.data.toList.length : Int) by omega)]
    refine Ev.step (fun k => by rw [hopperref07_Compare.j1]) ?_
    rw [e1, e2]
    simp only [Bool.false_eq_true, if_false]
    rw [List.drop_eq_nil_of_le (show a.data.toList.length ≤ i by omega)]
    by_cases h : i < b.data.toList.length
    · rw [List.drop_eq_getElem_cons h]
      simp only [if_pos (show (a.data.toList.length : Int) < (b.data.toList.length : Int) by omega)]
      exact Ev.now _
    · rw [List.drop_eq_nil_of_le (by omega)]
      simp only [if_neg (show ¬ (a.data.toList.length : Int) < (b.data.toList.length : Int) by omega), if_neg (show ¬ (a.data.toList.length : Int) > (b.data.toList.length : Int) by omega)]
      exact Ev.now _
  | succ d ih =>
    intro i hi hib
    have hlt : i < a.data.toList.length := by omega
    refine Ev.step (fun k => by rw [hopperref07_Compare.l0]) ?_
    rw [e1, e2]
    simp only [if_pos (show (i : Int) < (a.data.toList.length : Int) by omega)]
    refine Ev.step (fun k => by rw [hopperref07_Compare.j1]) ?_
    rw [e1, e2]
    rw [List.drop_eq_getElem_cons hlt]
    by_cases h : i < b.data.toList.length
    · rw [List.drop_eq_getElem_cons h]
      have w1 : wrap64 ((i : Int) + 1) = ((i + 1 : Nat) : Int) := wr1 i (by omega)
      simp only [decide_eq_true (show (i : Int) < (b.data.toList.length : Int) by omega), if_true, if_pos (show (0 : Int) ≤ (i : Int) by omega), if_pos (show (i : Int) < (a.data.toList.length : Int) by omega), if_pos (show (i : Int) < (b.data.toList.length : Int) by omega), bt_nat a i hlt, bt_nat b i h, w1, cu]
      by_cases c1 : a.data.toList[i] < b.data.toList[i]
      · have c1' := UInt8.lt_iff_toNat_lt.1 c1
        simp only [if_pos c1, if_pos (show ((a.data.toList[i]).toNat : Int) < ((b.data.toList[i]).toNat : Int) by omega)]
        exact Ev.now _
      · have c1' : ¬ (a.data.toList[i]).toNat < (b.data.toList[i]).toNat := fun hh => c1 (UInt8.lt_iff_toNat_lt.2 hh)
        by_cases c2 : b.data.toList[i] < a.data.toList[i]
        · have c2' := UInt8.lt_iff_toNat_lt.1 c2
          simp only [if_neg c1, if_pos c2, if_neg (show ¬ ((a.data.toList[i]).toNat : Int) < ((b.data.toList[i]).toNat : Int) by omega), if_pos (show ((a.data.toList[i]).toNat : Int) > ((b.data.toList[i]).toNat : Int) by omega)]
          exact Ev.now _
        · have c2' : ¬ (b.data.toList[i]).toNat < (a.data.toList[i]).toNat := fun hh => c2 (UInt8.lt_iff_toNat_lt.2 hh)
          simp only [if_neg c1, if_neg c2, if_neg (show ¬ ((a.data.toList[i]).toNat : Int) < ((b.data.toList[i]).toNat : Int) by omega), if_neg (show ¬ ((a.data.toList[i]).toNat : Int) > ((b.data.toList[i]).toNat : Int) by omega)]
          exact ih (i + 1) (by omega) (by omega)
    · rw [List.drop_eq_nil_of_le (show b.data.toList.length ≤ i by omega)]
      simp only [decide_eq_false (show ¬ (i : Int) < (b.data.toList.length : Int) by omega), Bool.false_eq_true, if_false, if_neg (show ¬ (a.data.toList.length : Int) < (b.data.toList.length : Int) by omega), if_pos (show (a.data.toList.length : Int) > (b.data.toList.length : Int) by omega)]
      exact Ev.now _
theorem rc_f (a b : ByteArray) (ha : a.size ≤ 1000000) (hb : b.size ≤ 1000000) : Ev (fun k => hopperref07_Compare.f k a b) (cs a b) := by
  have := rc_l a b ha hb _ 0 (Nat.zero_add _) (Nat.zero_le _)
  rw [List.drop_zero, List.drop_zero, ← ByteArray.toList_eq, ← ByteArray.toList_eq] at this
  exact this
end Go.Proofs.Ytpbplflocdhahaa.HP
