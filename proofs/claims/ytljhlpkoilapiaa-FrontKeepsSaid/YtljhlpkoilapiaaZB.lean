import Derived.Test.YtljhlpkoilapiaaZA
import Derived.Test.YtljhlpkoilapiaaZPx12
import Derived.Test.YtljhlpkoilapiaaZPx1
import Derived.Test.YtljhlpkoilapiaaZPx2
import Derived.Test.YtljhlpkoilapiaaZPx13
import Derived.Test.YtljhlpkoilapiaaZPx3
import Derived.Test.YtljhlpkoilapiaaZPx17
import Derived.Test.YtljhlpkoilapiaaZPx10
import Derived.Test.YtljhlpkoilapiaaZPx9
/- Texts laid together by merge.py: FrA FrB FrD FrE FrC FrF FrO. -/
section
/- Front, plain: how strings compare, what two share, which are right. -/
set_option linter.unusedVariables false
set_option linter.unusedSimpArgs false
namespace Go.Proofs.Ytljhlpkoilapiaa.HP
open Go.RowKit Go.Proofs.Ytljhlpkoilapiaa.P Go.Proofs.YtljhlpkoilapiaaW.PrintWords Go.Proofs.YtljhlpkoilapiaaW.PrintLast Go.Proofs.YtljhlpkoilapiaaW.PrintMore
def cu : List UInt8 → List UInt8 → Int
  | [], [] => 0
  | [], _ :: _ => -1
  | _ :: _, [] => 1
  | a :: x, b :: y => if a < b then -1 else if b < a then 1 else cu x y
theorem cu_kind : ∀ x y : List UInt8, cu x y = 0 ∨ cu x y = -1 ∨ cu x y = 1
  | [], [] => .inl rfl
  | [], _ :: _ => .inr (.inl rfl)
  | _ :: _, [] => .inr (.inr rfl)
  | a :: x, b :: y => by
    unfold cu
    split
    · exact .inr (.inl rfl)
    · split
      · exact .inr (.inr rfl)
      · exact cu_kind x y
theorem u8_eq {a b : UInt8} (h1 : ¬ a < b) (h2 : ¬ b < a) : a = b := by
  rw [UInt8.lt_iff_toNat_lt] at h1 h2
  exact UInt8.toNat_inj.1 (by omega)
theorem cu_less : ∀ x y : List UInt8, (Op.bytesLess x y = true ↔ cu x y = -1) ∧ (Op.bytesLess y x = true ↔ cu x y = 1)
  | [], [] => by simp [Op.bytesLess, cu]
  | [], _ :: _ => by simp [Op.bytesLess, cu]
  | _ :: _, [] => by simp [Op.bytesLess, cu]
  | a :: x, b :: y => by
    have ih := cu_less x y
    unfold Op.bytesLess cu
    by_cases h1 : a < b
    · have h2 : ¬ b < a := by rw [UInt8.lt_iff_toNat_lt] at h1 ⊢; omega
      have h3 : ¬ b = a := by rintro rfl; exact h2 h1
      simp [h1, h2, h3]
    · by_cases h2 : b < a
      · have h3 : ¬ a = b := by rintro rfl; exact h1 h2
        simp [h1, h2, h3]
      · obtain rfl := u8_eq h1 h2
        simp [h1, ih.1, ih.2]
/-- How two strings compare. -/
def cs (a b : ByteArray) : Int := cu a.toList b.toList
theorem bt_nat (s : ByteArray) (i : Nat) (h : i < s.data.toList.length) : bt s (i : Int) = ((s.data.toList[i]).toNat : Int) := by
  have h2 : i < s.size := by simpa using h
  unfold bt
  rw [dif_pos (by simpa using h2)]
  rfl
theorem rc_l (a b : ByteArray) (ha : a.size ≤ 1000000) (hb : b.size ≤ 1000000) : ∀ (d i : Nat), i + d = a.data.toList.length → i ≤ b.data.toList.length →
    Ev (fun k => hopperref07_Compare.l0 k a b (i : Int)) (cu (a.data.toList.drop i) (b.data.toList.drop i)) := by
  have e1 : (a.size : Int) = (a.data.toList.length : Int) := by simp
  have e2 : (b.size : Int) = (b.data.toList.length : Int) := by simp
  have la : a.data.toList.length ≤ 1000000 := by simpa using ha
  intro d
  induction d with
  | zero =>
    intro i hi hib
    refine Ev.step (fun k => by rw [hopperref07_Compare.l0]) ?_
    rw [e1]
    simp only [if_neg (show ¬ (i : Int) < (a.data.toList.length : Int) by omega)]
    refine Ev.step (fun k => by rw [hopperref07_Compare.j1]) ?_
    rw [e1, e2]
    simp only [Bool.false_eq_true, if_false]
    rw [List.drop_eq_nil_of_le (show a.data.toList.length ≤ i by omega)]
    by_cases h : i < b.data.toList.length
    · rw [List.drop_eq_getElem_cons h]
      simp only [if_pos (show (a.data.toList.length : Int) < (b.data.toList.length : Int) by omega)]
      exact Ev.now _
    · rw [List.drop_eq_nil_of_le (by omega)]
      simp only [if_neg (show ¬ (a.data.toList.length : Int) < (b.data.toList.length : Int) by omega), if_neg (show ¬ (a.data.toList.length : Int) > (b.data.toList.length : Int) by omega)]
      exact Ev.now _
  | succ d ih =>
    intro i hi hib
    have hlt : i < a.data.toList.length := by omega
    refine Ev.step (fun k => by rw [hopperref07_Compare.l0]) ?_
    rw [e1, e2]
    simp only [if_pos (show (i : Int) < (a.data.toList.length : Int) by omega)]
    refine Ev.step (fun k => by rw [hopperref07_Compare.j1]) ?_
    rw [e1, e2]
    rw [List.drop_eq_getElem_cons hlt]
    by_cases h : i < b.data.toList.length
    · rw [List.drop_eq_getElem_cons h]
      have w1 : wrap64 ((i : Int) + 1) = ((i + 1 : Nat) : Int) := wr1 i (by omega)
      simp only [decide_eq_true (show (i : Int) < (b.data.toList.length : Int) by omega), if_true, if_pos (show (0 : Int) ≤ (i : Int) by omega), if_pos (show (i : Int) < (a.data.toList.length : Int) by omega), if_pos (show (i : Int) < (b.data.toList.length : Int) by omega), bt_nat a i hlt, bt_nat b i h, w1, cu]
      by_cases c1 : a.data.toList[i] < b.data.toList[i]
      · have c1' := UInt8.lt_iff_toNat_lt.1 c1
        simp only [if_pos c1, if_pos (show ((a.data.toList[i]).toNat : Int) < ((b.data.toList[i]).toNat : Int) by omega)]
        exact Ev.now _
      · have c1' : ¬ (a.data.toList[i]).toNat < (b.data.toList[i]).toNat := fun hh => c1 (UInt8.lt_iff_toNat_lt.2 hh)
        by_cases c2 : b.data.toList[i] < a.data.toList[i]
        · have c2' := UInt8.lt_iff_toNat_lt.1 c2
          simp only [if_neg c1, if_pos c2, if_neg (show ¬ ((a.data.toList[i]).toNat : Int) < ((b.data.toList[i]).toNat : Int) by omega), if_pos (show ((a.data.toList[i]).toNat : Int) > ((b.data.toList[i]).toNat : Int) by omega)]
          exact Ev.now _
        · have c2' : ¬ (b.data.toList[i]).toNat < (a.data.toList[i]).toNat := fun hh => c2 (UInt8.lt_iff_toNat_lt.2 hh)
          simp only [if_neg c1, if_neg c2, if_neg (show ¬ ((a.data.toList[i]).toNat : Int) < ((b.data.toList[i]).toNat : Int) by omega), if_neg (show ¬ ((a.data.toList[i]).toNat : Int) > ((b.data.toList[i]).toNat : Int) by omega)]
          exact ih (i + 1) (by omega) (by omega)
    · rw [List.drop_eq_nil_of_le (show b.data.toList.length ≤ i by omega)]
      simp only [decide_eq_false (show ¬ (i : Int) < (b.data.toList.length : Int) by omega), Bool.false_eq_true, if_false, if_neg (show ¬ (a.data.toList.length : Int) < (b.data.toList.length : Int) by omega), if_pos (show (a.data.toList.length : Int) > (b.data.toList.length : Int) by omega)]
      exact Ev.now _
theorem rc_f (a b : ByteArray) (ha : a.size ≤ 1000000) (hb : b.size ≤ 1000000) : Ev (fun k => hopperref07_Compare.f k a b) (cs a b) := by
  have := rc_l a b ha hb _ 0 (Nat.zero_add _) (Nat.zero_le _)
  rw [List.drop_zero, List.drop_zero, ← ByteArray.toList_eq, ← ByteArray.toList_eq] at this
  exact this
theorem cs_kind (a b : ByteArray) : cs a b = 0 ∨ cs a b = -1 ∨ cs a b = 1 := cu_kind _ _
theorem cs_less (a b : ByteArray) : Op.bytesLess a.toList b.toList = true ↔ cs a b = -1 := (cu_less _ _).1
/-- How many bytes two strings share at the beginning. -/
def shL : List UInt8 → List UInt8 → Nat
  | a :: x, b :: y => if a = b then shL x y + 1 else 0
  | _, _ => 0
def sh (a b : ByteArray) : Nat := shL a.data.toList b.data.toList
theorem shL_le : ∀ x y : List UInt8, shL x y ≤ x.length ∧ shL x y ≤ y.length
  | [], _ => by simp [shL]
  | _ :: _, [] => by simp [shL]
  | a :: x, b :: y => by
    have := shL_le x y
    unfold shL
    split
    · simp; omega
    · simp
theorem sh_le (a b : ByteArray) : sh a b ≤ a.size ∧ sh a b ≤ b.size := by
  have := shL_le a.data.toList b.data.toList
  unfold sh
  simpa using this
theorem shared_l (a b : ByteArray) (ha : a.size ≤ 1000000) : ∀ (d i : Nat), i + d = a.data.toList.length → i ≤ b.data.toList.length →
    Ev (fun k => front_shared.l0 k a b (i : Int)) ((i + shL (a.data.toList.drop i) (b.data.toList.drop i) : Nat) : Int) := by
  have e1 : (a.size : Int) = (a.data.toList.length : Int) := by simp
  have e2 : (b.size : Int) = (b.data.toList.length : Int) := by simp
  have la : a.data.toList.length ≤ 1000000 := by simpa using ha
  intro d
  induction d with
  | zero =>
    intro i hi hib
    refine Ev.step (fun k => by rw [front_shared.l0]) ?_
    rw [e1]
    simp only [if_neg (show ¬ (i : Int) < (a.data.toList.length : Int) by omega)]
    rw [List.drop_eq_nil_of_le (show a.data.toList.length ≤ i by omega)]
    simp only [shL, Nat.add_zero]
    exact Ev.now _
  | succ d ih =>
    intro i hi hib
    have hlt : i < a.data.toList.length := by omega
    refine Ev.step (fun k => by rw [front_shared.l0]) ?_
    rw [e1, e2]
    simp only [if_pos (show (i : Int) < (a.data.toList.length : Int) by omega)]
    rw [List.drop_eq_getElem_cons hlt]
    by_cases h : i < b.data.toList.length
    · rw [List.drop_eq_getElem_cons h]
      have w1 : wrap64 ((i : Int) + 1) = ((i + 1 : Nat) : Int) := wr1 i (by omega)
      simp only [if_pos (show (i : Int) < (b.data.toList.length : Int) by omega), if_pos (show (0 : Int) ≤ (i : Int) by omega), bt_nat a i hlt, bt_nat b i h, w1, shL]
      by_cases c1 : a.data.toList[i] = b.data.toList[i]
      · simp only [c1, if_true]
        have h9 := ih (i + 1) (by omega) (by omega)
        rw [show i + (shL (a.data.toList.drop (i + 1)) (b.data.toList.drop (i + 1)) + 1) = i + 1 + shL (a.data.toList.drop (i + 1)) (b.data.toList.drop (i + 1)) by omega]
        exact h9
      · simp only [if_neg c1, if_neg (show ¬ ((a.data.toList[i]).toNat : Int) = ((b.data.toList[i]).toNat : Int) from fun hh => c1 (UInt8.toNat_inj.1 (by omega)))]
        exact Ev.now _
    · rw [List.drop_eq_nil_of_le (show b.data.toList.length ≤ i by omega)]
      simp only [if_neg (show ¬ (i : Int) < (b.data.toList.length : Int) by omega), shL, Nat.add_zero]
      exact Ev.now _
theorem shared_f (a b : ByteArray) (ha : a.size ≤ 1000000) : Ev (fun k => front_shared.f k a b) (sh a b : Int) := by
  have := shared_l a b ha _ 0 (Nat.zero_add _) (Nat.zero_le _)
  rw [List.drop_zero, List.drop_zero, Nat.zero_add] at this
  exact this
def at_ (l : List ByteArray) (i : Nat) : ByteArray := l.getD i ByteArray.empty
theorem at_rd (l : List ByteArray) (i : Nat) : rdOf ByteArray.empty l (i : Int) = at_ l i := by simp [rdOf, at_]
theorem at_get (l : List ByteArray) (i : Nat) (h : i < l.length) : at_ l i = l[i] := by simp [at_, List.getD_eq_getElem?_getD, h]
/-- The string at a place may be there. -/
def okA (l : List ByteArray) (i : Nat) : Bool := decide ((at_ l i).size ≤ 4096) && (decide (i = 0) || decide (cs (at_ l (i - 1)) (at_ l i) < 0))
def okL (l : List ByteArray) : Bool := (List.range' 0 l.length).all (okA l)
/-- Which strings and block are a dictionary. -/
def rightL (l : List ByteArray) (n : Int) : Bool := decide (1 ≤ n ∧ n ≤ 64 ∧ l.length ≤ 4096) && okL l
theorem okL_at {l : List ByteArray} (h : okL l = true) (i : Nat) (hi : i < l.length) : (at_ l i).size ≤ 4096 ∧ (0 < i → cs (at_ l (i - 1)) (at_ l i) < 0) := by
  have h2 := List.all_eq_true.1 h i (by simp; omega)
  unfold okA at h2
  simp only [Bool.and_eq_true, Bool.or_eq_true, decide_eq_true_eq] at h2
  exact ⟨h2.1, fun hp => h2.2.resolve_left (by omega)⟩
theorem right_l (l : List ByteArray) (hl : l.length ≤ 100000) : ∀ (d i : Nat), i + d = l.length → Ev (fun k => front_right.l0 k l l (l.length : Int) (i : Int)) ((List.range' i d).all (okA l)) := by
  intro d
  induction d with
  | zero =>
    intro i hi
    refine Ev.step (fun k => by rw [front_right.l0]) ?_
    simp only [if_neg (show ¬ (i : Int) < (l.length : Int) by omega)]
    exact Ev.now _
  | succ d ih =>
    intro i hi
    have w1 : wrap64 ((i : Int) + 1) = ((i + 1 : Nat) : Int) := wr1 i (by omega)
    refine Ev.step (fun k => by rw [front_right.l0]) ?_
    rw [List.range'_succ, List.all_cons]
    simp only [if_pos (show (i : Int) < (l.length : Int) by omega), if_pos (show (0 : Int) ≤ (i : Int) by omega), at_rd, w1]
    by_cases c : (at_ l i).size ≤ 4096
    · simp only [if_neg (show ¬ ((at_ l i).size : Int) > 4096 by omega)]
      have ih := ih (i + 1) (by omega)
      rcases Nat.eq_zero_or_pos i with h0 | h0
      · subst h0
        have hk : okA l 0 = true := by unfold okA; simp [c]
        rw [hk, Bool.true_and]
        simp only [if_neg (show ¬ ((0 : Nat) : Int) > 0 by omega)]
        exact ih
      · have w2 : wrap64 ((i : Int) - 1) = ((i - 1 : Nat) : Int) := by rw [wm1 (by omega) (by omega)]; omega
        simp only [if_pos (show (i : Int) > 0 by omega), w2, if_pos (show (0 : Int) ≤ ((i - 1 : Nat) : Int) by omega), if_pos (show ((i - 1 : Nat) : Int) < (l.length : Int) by omega), at_rd]
        by_cases c2 : Op.bytesLess (at_ l (i - 1)).toList (at_ l i).toList = true
        · have hc := (cs_less _ _).1 c2
          have hk : okA l i = true := by unfold okA; simp [c, hc]
          rw [hk, Bool.true_and]
          simp only [if_pos c2]
          exact ih
        · have hc : ¬ cs (at_ l (i - 1)) (at_ l i) < 0 := fun h => c2 ((cs_less _ _).2 (by have := cs_kind (at_ l (i - 1)) (at_ l i); omega))
          have hk : okA l i = false := by unfold okA; simp only [Bool.and_eq_false_iff, Bool.or_eq_false_iff, decide_eq_false_iff_not]; exact .inr ⟨by omega, hc⟩
          rw [hk, Bool.false_and]
          simp only [if_neg c2]
          exact Ev.now _
    · have hk : okA l i = false := by unfold okA; simp [c]
      rw [hk, Bool.false_and]
      simp only [if_pos (show ((at_ l i).size : Int) > 4096 by omega)]
      exact Ev.now _
theorem right_f (l : List ByteArray) (n : Int) : Ev (fun k => front_right.f k l n) (rightL l n) := by
  unfold rightL
  have hj : Ev (fun k => front_right.j0 k l true) false := by
    refine Ev.step (fun k => by rw [front_right.j0]) ?_
    simp only [if_true]
    exact Ev.now _
  by_cases h1 : n < 1
  · simp only [front_right.f, if_pos h1]
    rw [decide_eq_false (by omega), Bool.false_and]
    exact hj
  · by_cases h2 : n > 64
    · simp only [front_right.f, if_neg h1, if_pos h2]
      rw [decide_eq_false (by omega), Bool.false_and]
      exact hj
    · simp only [front_right.f, if_neg h1, if_neg h2]
      by_cases h3 : l.length ≤ 4096
      · rw [decide_eq_true (show 1 ≤ n ∧ n ≤ 64 ∧ l.length ≤ 4096 by omega), Bool.true_and]
        simp only [decide_eq_false (show ¬ (l.length : Int) > 4096 by omega)]
        refine Ev.step (fun k => by rw [front_right.j0]) ?_
        simp only [Bool.false_eq_true, if_false]
        exact right_l l (by omega) _ 0 (Nat.zero_add _)
      · rw [decide_eq_false (show ¬ (1 ≤ n ∧ n ≤ 64 ∧ l.length ≤ 4096) by omega), Bool.false_and]
        simp only [decide_eq_true (show (l.length : Int) > 4096 by omega)]
        exact hj
end Go.Proofs.Ytljhlpkoilapiaa.HP
end
section
/- Front, plain: a block's entries, the pieces of a list, what is built. -/
set_option linter.unusedVariables false
set_option linter.unusedSimpArgs false
namespace Go.Proofs.Ytljhlpkoilapiaa.HP
open Go.RowKit Go.Proofs.Ytljhlpkoilapiaa.P Go.Proofs.YtljhlpkoilapiaaW.PrintWords Go.Proofs.YtljhlpkoilapiaaW.PrintLast Go.Proofs.YtljhlpkoilapiaaW.PrintMore
theorem wb (a : Nat) (h : a ≤ 4000000000) : wrap64 (a : Int) = (a : Int) := by unfold wrap64; omega
/-- What is behind the first n bytes of a string. -/
def strD (s : ByteArray) (n : Nat) : ByteArray := s.extract n s.size
theorem strD_size (s : ByteArray) (n : Nat) : (strD s n).size = s.size - n := by simp [strD]
def stepL (p s : ByteArray) : List Int := vint (sh p s) ++ textL (strD s (sh p s))
def restL : ByteArray → List ByteArray → List Int
  | _, [] => []
  | p, s :: t => stepL p s ++ restL s t
def entL : List ByteArray → List Int
  | [] => []
  | s :: t => textL s ++ restL s t
theorem restL_snoc : ∀ (t : List ByteArray) (p s : ByteArray), restL p (t ++ [s]) = restL p t ++ stepL ((p :: t).getLast (by simp)) s
  | [], p, s => by simp [restL]
  | a :: t, p, s => by
    have := restL_snoc t a s
    simp only [List.cons_append, restL, this, List.append_assoc]
    rw [List.getLast_cons (show a :: t ≠ [] by simp)]
theorem entL_snoc (c : List ByteArray) (hc : c ≠ []) (s : ByteArray) : entL (c ++ [s]) = entL c ++ stepL (c.getLast hc) s := by
  cases c with
  | nil => exact absurd rfl hc
  | cons a t =>
    simp only [List.cons_append, entL, restL_snoc, List.append_assoc]
def fsum (l : List ByteArray) : Nat := (l.map (·.size)).sum
def smallL (l : List ByteArray) : Prop := ∀ s ∈ l, s.size ≤ 4096
theorem vint2 (n : Nat) (h : n ≤ 4096) : (vint n).length ≤ 2 := vint_len_pow 1 n (by simp; omega)
theorem textL_len (s : ByteArray) : (textL s).length = (vint s.size).length + s.size := by unfold textL; rw [List.length_append, bytesOf_length]
theorem stepL_len (p s : ByteArray) (h : s.size ≤ 4096) : (stepL p s).length ≤ s.size + 4 := by
  have h1 := sh_le p s
  have h2 := vint2 (sh p s) (by omega)
  have h3 := vint2 (s.size - sh p s) (by omega)
  unfold stepL
  rw [List.length_append, textL_len, strD_size]
  omega
theorem restL_len : ∀ (t : List ByteArray) (p : ByteArray), smallL t → (restL p t).length ≤ fsum t + 4 * t.length
  | [], p, _ => by simp [restL, fsum]
  | s :: t, p, h => by
    have h1 := stepL_len p s (h s (by simp))
    have h2 := restL_len t s (fun x hx => h x (List.mem_cons_of_mem _ hx))
    unfold fsum at h2 ⊢
    simp only [restL, List.length_append, List.map_cons, List.sum_cons, List.length_cons]
    omega
theorem entL_len (c : List ByteArray) (h : smallL c) : (entL c).length ≤ fsum c + 4 * c.length := by
  cases c with
  | nil => simp [entL]
  | cons s t =>
    have h0 := h s (by simp)
    have h1 := vint2 s.size h0
    have h2 := restL_len t s (fun x hx => h x (List.mem_cons_of_mem _ hx))
    unfold fsum at h2 ⊢
    simp only [entL, List.length_append, textL_len, List.map_cons, List.sum_cons, List.length_cons]
    omega
/-- The pieces of a list, of k each; the last one may be shorter. -/
def chunks {α : Type} (k : Nat) (l : List α) : List (List α) := (List.range ((l.length + k - 1) / k)).map fun j => (l.drop (j * k)).take k
theorem ceil_lt {n k j : Nat} (hk : 1 ≤ k) : j < (n + k - 1) / k ↔ j * k < n := by
  rw [Nat.lt_div_iff_mul_lt (by omega)]
  omega
theorem chunks_flat {α : Type} (k : Nat) (hk : 1 ≤ k) (l : List α) : (chunks k l).flatten = l := by
  unfold chunks
  have h : ∀ n : Nat, ((List.range n).map fun j => (l.drop (j * k)).take k).flatten = l.take (n * k) := fun n => by
    induction n with
    | zero => simp
    | succ n ih =>
      rw [List.range_succ, List.map_append, List.flatten_append, ih, Nat.succ_mul, List.take_add]
      simp
  rw [h]
  refine List.take_of_length_le ?_
  have h1 := Nat.div_add_mod (l.length + k - 1) k
  have h2 := Nat.mod_lt (l.length + k - 1) (show k > 0 by omega)
  rw [Nat.mul_comm] at h1
  omega
theorem chunks_len {α : Type} (k : Nat) (hk : 1 ≤ k) (l : List α) : (chunks k l).length ≤ l.length := by
  unfold chunks
  rw [List.length_map, List.length_range]
  have h3 : l.length ≤ k * l.length := Nat.le_mul_of_pos_left _ hk
  have h4 : (l.length + k - 1) / k < l.length + 1 := Nat.div_lt_of_lt_mul (by rw [Nat.mul_add]; omega)
  omega
theorem chunks_ne {α : Type} {k : Nat} (hk : 1 ≤ k) {l : List α} {c : List α} (h : c ∈ chunks k l) : c ≠ [] := by
  unfold chunks at h
  obtain ⟨j, hj, rfl⟩ := List.mem_map.1 h
  have hj := (ceil_lt hk).1 (List.mem_range.1 hj)
  intro e
  have := congrArg List.length e
  rw [List.length_take, List.length_drop] at this
  simp at this
  omega
theorem chunks_sub {α : Type} {k : Nat} (hk : 1 ≤ k) {l : List α} {c : List α} (h : c ∈ chunks k l) : ∀ x ∈ c, x ∈ l := fun x hx => by
  rw [← chunks_flat k hk l]
  exact List.mem_flatten.2 ⟨c, h, hx⟩
/-- The pieces of a beginning: j whole ones, and r strings more. -/
theorem chunk_take {α : Type} (k j r : Nat) (hk : 1 ≤ k) (hr : r ≤ k) (l : List α) (h : j * k + r ≤ l.length) : chunks k (l.take (j * k + r)) = (List.range j).map (fun j => (l.drop (j * k)).take k) ++ (if r = 0 then [] else [(l.drop (j * k)).take r]) := by
  have hl : (l.take (j * k + r)).length = j * k + r := by rw [List.length_take]; omega
  have hful : ∀ m n : Nat, m ≤ j → n ≤ k → m * k + n ≤ j * k + r → ((l.take (j * k + r)).drop (m * k)).take n = (l.drop (m * k)).take n := fun m n hm hn hmn => by
    rw [List.drop_take, List.take_take, Nat.min_eq_left (by omega)]
  unfold chunks
  rw [hl]
  by_cases h0 : r = 0
  · subst h0
    have hd : (j * k + 0 + k - 1) / k = j := by
      rw [show j * k + 0 + k - 1 = (k - 1) + k * j by rw [Nat.mul_comm k j]; omega, Nat.add_mul_div_left _ _ (by omega), Nat.div_eq_of_lt (by omega), Nat.zero_add]
    rw [hd, if_pos rfl, List.append_nil]
    refine List.map_congr_left (fun m hm => ?_)
    have hm := List.mem_range.1 hm
    have : m * k + k ≤ j * k := by rw [← Nat.succ_mul]; exact Nat.mul_le_mul_right k hm
    exact hful m k (by omega) (Nat.le_refl _) (by omega)
  · have hd : (j * k + r + k - 1) / k = j + 1 := by
      rw [show j * k + r + k - 1 = (r - 1) + k * (j + 1) by rw [Nat.mul_add, Nat.mul_comm k j]; omega, Nat.add_mul_div_left _ _ (by omega), Nat.div_eq_of_lt (by omega), Nat.zero_add]
    rw [hd, if_neg h0, List.range_succ, List.map_append]
    congr 1
    · refine List.map_congr_left (fun m hm => ?_)
      have hm := List.mem_range.1 hm
      have : m * k + k ≤ j * k := by rw [← Nat.succ_mul]; exact Nat.mul_le_mul_right k hm
      exact hful m k (by omega) (Nat.le_refl _) (by omega)
    · simp only [List.map_cons, List.map_nil]
      rw [List.drop_take, show j * k + r - j * k = r by omega, List.take_take, Nat.min_eq_right hr]
def sizesL (k : Nat) (l : List ByteArray) : List Int := (chunks k l).map fun c => ((entL c).length : Int)
def allL (k : Nat) (l : List ByteArray) : List Int := ((chunks k l).map entL).flatten
def buildL (k : Nat) (l : List ByteArray) : List Int := vint l.length ++ vint k ++ writeL (sizesL k l) ++ allL k l
theorem allL_len (k : Nat) (hk : 1 ≤ k) (l : List ByteArray) (h : smallL l) : (allL k l).length ≤ fsum l + 4 * l.length := by
  have hf := chunks_flat k hk l
  have hc : ∀ c ∈ chunks k l, smallL c := fun c hc s hs => h s (chunks_sub hk hc s hs)
  unfold allL
  have key : ∀ L : List (List ByteArray), (∀ c ∈ L, smallL c) → ((L.map entL).flatten).length ≤ fsum L.flatten + 4 * L.flatten.length := fun L => by
    induction L with
    | nil => intro _; simp [fsum]
    | cons c t ih =>
      intro h
      have h1 := entL_len c (h c (by simp))
      have h2 := ih (fun x hx => h x (List.mem_cons_of_mem _ hx))
      unfold fsum at h1 h2 ⊢
      simp only [List.map_cons, List.flatten_cons, List.length_append, List.map_append, List.sum_append] at h1 h2 ⊢
      omega
  have := key _ hc
  rwa [hf] at this
theorem fsum_take (l : List ByteArray) (i : Nat) : fsum (l.take i) ≤ fsum l := by
  unfold fsum
  conv => rhs; rw [← List.take_append_drop i l, List.map_append, List.sum_append]
  omega
theorem small_take {l : List ByteArray} (h : smallL l) (i : Nat) : smallL (l.take i) := fun s hs => h s (List.mem_of_mem_take hs)
/-- The entries of a block, as the program makes them. -/
theorem entries_l (l : List ByteArray) (hl : l.length ≤ 100000) (hs : smallL l) : ∀ (t : List ByteArray) (i : Nat) (out : List Int), (l.drop 1).drop i = t → i ≤ (l.drop 1).length → out.length + (restL (at_ l i) t).length ≤ 1000000000 →
    Ev (fun k => front_entries.l0 k l out (l.drop 1) ((l.drop 1).length : Int) (i : Int)) (out ++ restL (at_ l i) t) := by
  intro t
  induction t with
  | nil =>
    intro i out ht hi hb
    have := drop_nil ht
    refine Ev.step (fun k => by rw [front_entries.l0]) ?_
    simp only [if_neg (show ¬ (i : Int) < ((l.drop 1).length : Int) by omega), restL, List.append_nil]
    exact Ev.now _
  | cons s t ih =>
    intro i out ht hi hb
    have hlt := drop_lt ht
    have htl := drop_tl ht
    have hlen : (l.drop 1).length = l.length - 1 := by simp
    have e1 : rdOf ByteArray.empty (l.drop 1) (i : Int) = s := drop_rdOf _ ht
    have e2 : at_ l (i + 1) = s := by
      rw [← e1, at_rd]
      simp [at_, List.getD_eq_getElem?_getD, List.getElem?_drop, Nat.add_comm]
    have hsz : s.size ≤ 4096 := hs s (List.mem_of_mem_drop (by
      have hm : s ∈ (l.drop 1).drop i := by rw [ht]; simp
      exact List.mem_of_mem_drop hm))
    have hpz : (at_ l i).size ≤ 4096 := hs _ (by rw [at_get l i (by omega)]; exact List.getElem_mem _)
    have hsh := sh_le (at_ l i) s
    have w1 : wrap64 ((i : Int) + 1) = ((i + 1 : Nat) : Int) := wr1 i (by omega)
    simp only [restL, List.length_append] at hb
    have hst : (stepL (at_ l i) s).length = (vint (sh (at_ l i) s)).length + (textL (strD s (sh (at_ l i) s))).length := by unfold stepL; rw [List.length_append]
    refine Ev.step (fun k => by rw [front_entries.l0]) ?_
    simp only [if_pos (show (i : Int) < ((l.drop 1).length : Int) by omega), if_pos (show (0 : Int) ≤ (i : Int) by omega), if_pos (show (i : Int) < (l.length : Int) by omega), at_rd l, e1, w1]
    refine Ev.bind (shared_f (at_ l i) s (by omega)) ?_
    refine Ev.bind (cput_f (sh (at_ l i) s) (by omega)) ?_
    simp only [if_pos (show (0 : Int) ≤ (sh (at_ l i) s : Int) by omega), if_pos (show (sh (at_ l i) s : Int) ≤ (s.size : Int) by omega), Int.toNat_natCast]
    refine Ev.bind (ctext_f (strD s (sh (at_ l i) s)) (by rw [strD_size]; omega)) ?_
    have hcat : slices_Concat_byte_byte.f [out, vint (sh (at_ l i) s), textL (strD s (sh (at_ l i) s))] = some (out ++ stepL (at_ l i) s) := by
      unfold slices_Concat_byte_byte.f stepL
      rw [if_pos (by simp only [List.flatten_cons, List.flatten_nil, List.length_append, List.length_nil]; omega)]
      simp
    simp only [hcat, Option.bind_some]
    have h9 := ih (i + 1) (out ++ stepL (at_ l i) s) htl (by omega) (by rw [List.length_append, e2]; omega)
    rw [e2, List.append_assoc] at h9
    simp only [restL]
    exact h9
theorem entries_f (c : List ByteArray) (hc : c ≠ []) (hl : c.length ≤ 100000) (hs : smallL c) (hb : (entL c).length ≤ 1000000000) : Ev (fun k => front_entries.f k c) (entL c) := by
  cases c with
  | nil => exact absurd rfl hc
  | cons s t =>
    have hsz := hs s (by simp)
    have e0 : at_ (s :: t) 0 = s := rfl
    unfold front_entries.f
    simp only [if_pos (show 0 < ((s :: t).length : Int) by rw [List.length_cons]; omega)]
    have e1 : rdOf ByteArray.empty (s :: t) 0 = s := by have := at_rd (s :: t) 0; rw [e0] at this; exact this
    simp only [e1]
    refine Ev.bind (ctext_f s (by omega)) ?_
    simp only [if_pos (show 1 ≤ ((s :: t).length : Int) by rw [List.length_cons]; omega)]
    have h9 := entries_l (s :: t) hl hs t 0 (textL s) rfl (Nat.zero_le _) (by simp only [entL, List.length_append] at hb; rw [e0]; exact hb)
    rw [e0] at h9
    exact h9
/-- The reference's Build: behind i strings. -/
def SA (k : Nat) (l : List ByteArray) (i : Nat) : List Int × List Int := (sizesL k (l.take i), allL k (l.take i))
theorem SA_new (k j : Nat) (hk : 1 ≤ k) (l : List ByteArray) (h : j * k < l.length) : SA k l (j * k + 1) = ((SA k l (j * k)).1 ++ [((textL (at_ l (j * k))).length : Int)], (SA k l (j * k)).2 ++ textL (at_ l (j * k))) := by
  have h1 := chunk_take k j 1 hk hk l (by omega)
  have h0 := chunk_take k j 0 hk (by omega) l (by omega)
  rw [if_neg (by omega)] at h1
  rw [if_pos rfl, List.append_nil, Nat.add_zero] at h0
  have e : (l.drop (j * k)).take 1 = [at_ l (j * k)] := by rw [at_get l _ h, List.drop_eq_getElem_cons h]; rfl
  unfold SA sizesL allL
  simp only [h1, h0, e, List.map_append, List.map_cons, List.map_nil, List.flatten_append, List.flatten_cons, List.flatten_nil, entL, restL, List.append_nil]
theorem SA_more (k j r : Nat) (hk : 1 ≤ k) (hr : 1 ≤ r) (hrk : r < k) (l : List ByteArray) (h : j * k + r < l.length) : ∃ (X : List Int) (v : Nat), SA k l (j * k + r) = (X ++ [(v : Int)], (SA k l (j * k + r)).2) ∧ v ≤ (SA k l (j * k + r)).2.length ∧
    SA k l (j * k + r + 1) = (X ++ [((v + (stepL (at_ l (j * k + r - 1)) (at_ l (j * k + r))).length : Nat) : Int)], (SA k l (j * k + r)).2 ++ stepL (at_ l (j * k + r - 1)) (at_ l (j * k + r))) := by
  have h1 := chunk_take k j r hk (by omega) l (by omega)
  have h2 := chunk_take k j (r + 1) hk (by omega) l (by omega)
  rw [if_neg (by omega)] at h1 h2
  have hd : r < (l.drop (j * k)).length := by rw [List.length_drop]; omega
  have e : (l.drop (j * k)).take (r + 1) = (l.drop (j * k)).take r ++ [at_ l (j * k + r)] := by
    rw [List.take_succ_eq_append_getElem hd, at_get l _ h, List.getElem_drop]
  have hne : (l.drop (j * k)).take r ≠ [] := by
    intro e
    have := congrArg List.length e
    rw [List.length_take, List.length_drop] at this
    simp at this
    omega
  have hlast : ((l.drop (j * k)).take r).getLast hne = at_ l (j * k + r - 1) := by
    rw [List.getLast_eq_getElem, List.getElem_take, List.getElem_drop, at_get l _ (by omega)]
    congr 1
    rw [List.length_take, List.length_drop]
    omega
  refine ⟨((List.range j).map (fun j => (l.drop (j * k)).take k)).map (fun c => ((entL c).length : Int)), (entL ((l.drop (j * k)).take r)).length, ?_, ?_, ?_⟩
  · unfold SA sizesL
    simp only [h1, List.map_append, List.map_cons, List.map_nil]
  · unfold SA allL
    simp only [h1, List.map_append, List.map_cons, List.map_nil, List.flatten_append, List.flatten_cons, List.flatten_nil, List.append_nil, List.length_append]
    omega
  · rw [Nat.add_assoc]
    unfold SA sizesL allL
    simp only [h2, h1, e, entL_snoc _ hne, hlast, List.map_append, List.map_cons, List.map_nil, List.flatten_append, List.flatten_cons, List.flatten_nil, List.append_nil, List.length_append, List.append_assoc]
end Go.Proofs.Ytljhlpkoilapiaa.HP
end
section
/- Front, plain: what is taken of bytes: numbers, texts, a block's entries. -/
set_option linter.unusedVariables false
set_option linter.unusedSimpArgs false
namespace Go.Proofs.Ytljhlpkoilapiaa.HP
open Go.RowKit Go.Proofs.Ytljhlpkoilapiaa.P Go.Proofs.YtljhlpkoilapiaaW.PrintWords Go.Proofs.YtljhlpkoilapiaaW.PrintLast Go.Proofs.YtljhlpkoilapiaaW.PrintMore
theorem bytes_str (l : List Int) (h : isBy l) : bytesOf (strOfNums l) = l := by
  induction l with
  | nil => rfl
  | cons x t ih =>
    have hx := h x List.mem_cons_self
    have ih := ih (fun y hy => h y (List.mem_cons_of_mem _ hy))
    have e : bytesOf (strOfNums (x :: t)) = ((UInt8.ofNat x.toNat).toNat : Int) :: bytesOf (strOfNums t) := by
      unfold bytesOf strOfNums
      simp
    rw [e, ih]
    congr 1
    simp
    omega
theorem str_size (l : List Int) : (strOfNums l).size = l.length := by
  show ((l.map _).toArray).size = _
  simp
theorem isBy_drop {l : List Int} (h : isBy l) (n : Nat) : isBy (l.drop n) := fun x hx => h x (List.mem_of_mem_drop hx)
theorem isBy_take {l : List Int} (h : isBy l) (n : Nat) : isBy (l.take n) := fun x hx => h x (List.mem_of_mem_take hx)
theorem Ev.uniq {α : Type} {g : Nat → Option α} {a b : α} (h : Ev g a) (k : Ev g b) : a = b := by
  obtain ⟨K, h⟩ := h
  obtain ⟨K', k⟩ := k
  have := (h (max K K') (by omega)).symm.trans (k (max K K') (by omega))
  exact Option.some.inj this
section
variable (l : List Int) (hb : isBy l) (hl : l.length ≤ 1000000)
theorem number_err (a e : Int) (he : e ≠ 0) : cursor_Cursor_Number.f l a e = some (0, a, e) := by
  unfold cursor_Cursor_Number.f
  rw [if_neg he]
theorem most_err (a e m : Int) (he : e ≠ 0) (hm : 0 ≤ m) : cursor_Cursor_Most.f l a e m = some (0, a, e) := by
  unfold cursor_Cursor_Most.f
  rw [number_err l a e he]
  simp only [Option.bind_some, if_neg (show ¬ (0 : Int) > m by omega)]
theorem bytes_err (a e n : Int) (he : e ≠ 0) : cursor_Cursor_Bytes.f l a e n = some ([], a, e) := by
  unfold cursor_Cursor_Bytes.f
  rw [if_neg he]
theorem bytes_cut (a n : Nat) (ha : a ≤ l.length) (h : l.length < a + n) : cursor_Cursor_Bytes.f l (a : Int) 0 (n : Int) = some ([], (a : Int), 2) := by
  unfold cursor_Cursor_Bytes.f
  rw [if_pos rfl, if_neg (by omega), if_pos (by omega), if_pos (by omega)]
theorem text_err (a e : Int) (he : e ≠ 0) : cursor_Cursor_Text.f l a e = some (strOfNums [], a, e) := by
  unfold cursor_Cursor_Text.f
  rw [most_err l a e 4096 he (by omega)]
  simp only [Option.bind_some]
  rw [bytes_err l a e 0 he]
  simp only [Option.bind_some, if_neg he]
include hb hl
theorem most_any (a m : Nat) (ha : a ≤ l.length) : (∃ n : Nat, n ≤ m ∧ n < 9223372036854775808 ∧ l.drop a = vint n ++ l.drop (a + (vint n).length) ∧ a + (vint n).length ≤ l.length ∧ cursor_Cursor_Most.f l (a : Int) 0 (m : Int) = some ((n : Int), ((a + (vint n).length : Nat) : Int), 0)) ∨ ∃ e : Int, e ≠ 0 ∧ cursor_Cursor_Most.f l (a : Int) 0 (m : Int) = some (0, (a : Int), e) := by
  have bad : ∀ e : Int, e ≠ 0 → cursor_Cursor_Number.f l (a : Int) 0 = some (0, (a : Int), e) → cursor_Cursor_Most.f l (a : Int) 0 (m : Int) = some (0, (a : Int), e) := fun e he h => by
    unfold cursor_Cursor_Most.f
    rw [h]
    simp only [Option.bind_some, if_neg (show ¬ (0 : Int) > (m : Int) by omega)]
  rcases number_any l hb hl a ha with ⟨n, hn, t, hd, hf⟩ | h | h
  · by_cases hm : n ≤ m
    · refine .inl ⟨n, hm, hn, ?_, ?_, most_at l a n m t hn hm hl hd⟩
      · have h1 : l.drop (a + (vint n).length) = t := by rw [← List.drop_drop, hd, List.drop_left]
        rw [h1]; exact hd
      · have := congrArg List.length hd
        rw [List.length_drop, List.length_append] at this
        omega
    · refine .inr ⟨3, by omega, ?_⟩
      unfold cursor_Cursor_Most.f
      rw [hf]
      simp only [Option.bind_some, if_pos (show (n : Int) > (m : Int) by omega)]
      unfold cursor_Cursor_Fail.f
      rfl
  · exact .inr ⟨2, by omega, bad 2 (by omega) h⟩
  · exact .inr ⟨3, by omega, bad 3 (by omega) h⟩
theorem text_any (a : Nat) (ha : a ≤ l.length) : (∃ s : ByteArray, s.size ≤ 4096 ∧ l.drop a = textL s ++ l.drop (a + (textL s).length) ∧ a + (textL s).length ≤ l.length ∧ cursor_Cursor_Text.f l (a : Int) 0 = some (s, ((a + (textL s).length : Nat) : Int), 0)) ∨ ∃ e : Int, e ≠ 0 ∧ cursor_Cursor_Text.f l (a : Int) 0 = some (strOfNums [], (a : Int), e) := by
  rcases most_any l hb hl a 4096 ha with ⟨n, hm, hn, hd, hle, hf⟩ | ⟨e, he, hf⟩
  · by_cases hc : a + (vint n).length + n ≤ l.length
    · left
      obtain ⟨bs, hbs⟩ : ∃ bs, bs = (l.drop (a + (vint n).length)).take n := ⟨_, rfl⟩
      have hbl : bs.length = n := by rw [hbs, List.length_take, List.length_drop]; omega
      have hbb : isBy bs := by rw [hbs]; exact isBy_take (isBy_drop hb _) _
      have hts : textL (strOfNums bs) = vint n ++ bs := by unfold textL; rw [str_size, hbl, bytes_str bs hbb]
      have htl : (textL (strOfNums bs)).length = (vint n).length + n := by rw [hts, List.length_append, hbl]
      have hdd : l.drop a = textL (strOfNums bs) ++ l.drop (a + (textL (strOfNums bs)).length) := by
        rw [htl, hts, List.append_assoc, ← Nat.add_assoc, ← List.drop_drop (i := n), hbs, List.take_append_drop]
        exact hd
      exact ⟨strOfNums bs, by rw [str_size]; omega, hdd, by omega, text_at l a _ _ (by rw [str_size]; omega) hl hdd⟩
    · right
      refine ⟨2, by omega, ?_⟩
      unfold cursor_Cursor_Text.f
      rw [show (4096 : Int) = ((4096 : Nat) : Int) from rfl, hf]
      simp only [Option.bind_some]
      rw [bytes_cut l _ n hle (by omega)]
      simp only [Option.bind_some, if_neg (show ¬ (2 : Int) = 0 by omega)]
  · right
    refine ⟨e, he, ?_⟩
    unfold cursor_Cursor_Text.f
    rw [show (4096 : Int) = ((4096 : Nat) : Int) from rfl, hf]
    simp only [Option.bind_some]
    rw [bytes_err l _ e 0 he]
    simp only [Option.bind_some, if_neg he]
end
/-- The shared beginning and what is behind it. -/
theorem shL_take : ∀ x y : List UInt8, x.take (shL x y) = y.take (shL x y)
  | [], _ => by simp [shL]
  | _ :: _, [] => by simp [shL]
  | a :: x, b :: y => by
    unfold shL
    split
    · rename_i h
      subst h
      simp [shL_take x y]
    · simp
theorem ba_ext {x y : ByteArray} (h : x.data.toList = y.data.toList) : x = y := by
  obtain ⟨⟨x⟩⟩ := x
  obtain ⟨⟨y⟩⟩ := y
  simp only at h
  rw [h]
theorem sh_join (p s : ByteArray) : p.extract 0 (sh p s) ++ strD s (sh p s) = s := by
  have h := shL_take p.data.toList s.data.toList
  refine ba_ext ?_
  have h2 : (p.extract 0 (sh p s)).data.toList = p.data.toList.take (sh p s) := by simp
  have h3 : (strD s (sh p s)).data.toList = s.data.toList.drop (sh p s) := by
    unfold strD
    have h9 : s.data.toList.length = s.size := by simp
    simp only [ByteArray.data_extract, Array.toList_extract, List.extract_eq_take_drop]
    rw [List.take_of_length_le (by rw [List.length_drop]; omega)]
  rw [ByteArray.data_append, Array.toList_append, h2, h3]
  unfold sh
  rw [h, List.take_append_drop]
theorem ext_strD (p t : ByteArray) (k : Nat) (hk : k ≤ p.size) : strD (p.extract 0 k ++ t) k = t ∧ (p.extract 0 k ++ t).size = k + t.size := by
  have hs : (p.extract 0 k).size = k := by rw [ByteArray.size_extract]; omega
  have h2 : (p.extract 0 k ++ t).size = k + t.size := by rw [ByteArray.size_append, hs]
  refine ⟨?_, h2⟩
  refine ba_ext ?_
  unfold strD
  have h9 : ((p.extract 0 k).data.toList).length = k := by rw [Array.length_toList]; exact hs
  have h8 : t.data.toList.length = t.size := by simp
  have h6 : ∀ (z : ByteArray) (u v : Nat), (z.extract u v).data.toList = (z.data.toList.drop u).take (v - u) := fun z u v => by simp only [ByteArray.data_extract, Array.toList_extract, List.extract_eq_take_drop]
  rw [h6, h2, ByteArray.data_append, Array.toList_append]
  generalize (p.extract 0 k).data.toList = P at h9
  rw [List.drop_left' h9, List.take_of_length_le (by omega)]
def lastS (out : List ByteArray) : ByteArray := at_ out (out.length - 1)
theorem lastS_snoc (out : List ByteArray) (s : ByteArray) : lastS (out ++ [s]) = s := by simp [lastS, at_, List.getD_eq_getElem?_getD]
section
variable (l : List Int) (hb : isBy l) (hl : l.length ≤ 1000000)
theorem taken_end (out : List ByteArray) (size was : Int) (hw : 0 ≤ was ∧ was ≤ 1000000) (m a : Nat) (e : Int) (ha : a ≤ l.length) (hl : l.length ≤ 1000000) :
    Ev (fun k => front_taken.l0 k size was out (m : Int) (m : Int) l (a : Int) e) (out, (a : Int), if e = 0 then (if was - ((l.length - a : Nat) : Int) = size then 0 else 3) else e) := by
  have hlf := left_at l a e hl ha
  have w : Aside0 (wrap64 (was - ((l.length - a : Nat) : Int)) = was - ((l.length - a : Nat) : Int)) := ⟨by unfold wrap64; omega⟩
  refine Ev.step (fun k => by rw [front_taken.l0]) ?_
  simp only [if_neg (show ¬ (m : Int) < (m : Int) by omega), hlf, Option.bind_some, w.out]
  by_cases h : was - ((l.length - a : Nat) : Int) = size
  · simp only [if_pos h]
    by_cases he : e = 0
    · simp only [if_pos he, he]
      exact Ev.now _
    · simp only [if_neg he]
      exact Ev.now _
  · simp only [if_neg h]
    by_cases he : e = 0
    · subst he
      simp only [cursor_Cursor_Fail.f, if_true, Option.bind_some]
      exact Ev.now _
    · simp only [cursor_Cursor_Fail.f, if_neg he, Option.bind_some]
      exact Ev.now _
theorem taken_err (out : List ByteArray) (hout : 0 < out.length) (ho : out.length ≤ 10000) (size was : Int) (hw : 0 ≤ was ∧ was ≤ 1000000) (m i a : Nat) (e : Int) (ha : a ≤ l.length) (hl : l.length ≤ 1000000) (hi : i ≤ m) (he : e ≠ 0) :
    ∃ r, Ev (fun k => front_taken.l0 k size was out (m : Int) (i : Int) l (a : Int) e) (r, (a : Int), e) ∧ r.length ≤ out.length := by
  rcases Nat.lt_or_ge i m with h | h
  · have w0 : wrap64 ((out.length : Int) - 1) = ((out.length - 1 : Nat) : Int) := by rw [wm1 (by omega) (by omega)]; omega
    refine ⟨[], Ev.step (fun k => by rw [front_taken.l0]) ?_, Nat.zero_le _⟩
    simp only [if_pos (show (i : Int) < (m : Int) by omega), w0, if_pos (show (0 : Int) ≤ ((out.length - 1 : Nat) : Int) by omega), if_pos (show ((out.length - 1 : Nat) : Int) < (out.length : Int) by omega), most_err l _ e _ he (Int.natCast_nonneg _), Option.bind_some, if_pos (show (0 : Int) ≤ 0 by omega), if_pos (show (0 : Int) ≤ ((rdOf ByteArray.empty out ((out.length - 1 : Nat) : Int)).size : Int) by omega), text_err l _ e he]
    have hz : ((rdOf ByteArray.empty out ((out.length - 1 : Nat) : Int)).extract 0 (0 : Int).toNat).size + (strOfNums []).size ≤ 9223372036854775807 := by
      rw [ByteArray.size_extract, str_size]; simp
    simp only [if_pos hz, cursor_Cursor_Good.f, Option.bind_some, show (e == 0) = false by simpa using he, Bool.false_eq_true, if_false]
    exact Ev.now _
  · obtain rfl : i = m := by omega
    have h9 := taken_end l out size was hw i a e ha hl
    rw [if_neg he] at h9
    exact ⟨out, h9, Nat.le_refl _⟩
include hb hl
/-- What taken reads, whatever the bytes: entries, or an error. -/
theorem taken_any (size was : Int) (hw : 0 ≤ was ∧ was ≤ 1000000) (m : Nat) (hm : m ≤ 70) : ∀ (d i a : Nat) (out : List ByteArray), i + d = m → out.length = i + 1 → a ≤ l.length → (lastS out).size ≤ 4096 * (i + 1) →
    ∃ (r : List ByteArray) (a' : Nat) (e' : Int), Ev (fun k => front_taken.l0 k size was out (m : Int) (i : Int) l (a : Int) 0) (r, (a' : Int), e') ∧ a' ≤ l.length ∧ r.length ≤ m + 1 ∧ (e' = 0 → ∃ c : List ByteArray, r = out ++ c ∧ c.length = d ∧ l.drop a = restL (lastS out) c ++ l.drop a' ∧ a' = a + (restL (lastS out) c).length ∧ was - ((l.length - a' : Nat) : Int) = size) := by
  intro d
  induction d with
  | zero =>
    intro i a out hi ho ha hz
    obtain rfl : i = m := by omega
    have h9 := taken_end l out size was hw i a 0 ha hl
    rw [if_pos rfl] at h9
    refine ⟨out, a, _, h9, ha, by omega, fun he => ⟨[], by simp, rfl, by simp [restL], by simp [restL], ?_⟩⟩
    by_cases h : was - ((l.length - a : Nat) : Int) = size
    · exact h
    · rw [if_neg h] at he; omega
  | succ d ih =>
    intro i a out hi ho ha hz
    have him : i < m := by omega
    have w0 : wrap64 ((out.length : Int) - 1) = ((out.length - 1 : Nat) : Int) := by rw [wm1 (by omega) (by omega)]; omega
    have w1 : wrap64 ((i : Int) + 1) = ((i + 1 : Nat) : Int) := wr1 i (by omega)
    obtain ⟨p, hp⟩ : ∃ p, p = lastS out := ⟨_, rfl⟩
    have hrd : rdOf ByteArray.empty out ((out.length - 1 : Nat) : Int) = p := by rw [at_rd, hp]; rfl
    rw [← hp] at hz ⊢
    have hstep : ∀ (R : List ByteArray × Int × Int), Ev (fun k => (cursor_Cursor_Most.f l (a : Int) 0 (p.size : Int)).bind fun bt225 => (if 0 ≤ bt225.1 then (if bt225.1 ≤ (p.size : Int) then ((cursor_Cursor_Text.f l bt225.2.1 bt225.2.2).bind fun bt228 => (if (p.extract 0 (bt225.1 : Int).toNat).size + bt228.1.size ≤ 9223372036854775807 then ((cursor_Cursor_Good.f l bt228.2.1 bt228.2.2).bind fun bt231 => (if bt231.1 = true then ((front_shared.f k p ((p.extract 0 (bt225.1 : Int).toNat) ++ bt228.1)).bind fun t234 => (if t234 = bt225.1 then (if out.length < 8796093022208 then (front_taken.l0 k size was (out ++ [(p.extract 0 (bt225.1 : Int).toNat) ++ bt228.1]) (m : Int) ((i + 1 : Nat) : Int) l bt231.2.1 bt231.2.2) else (none)) else ((cursor_Cursor_Fail.f l bt231.2.1 bt231.2.2 3).bind fun bt238 => (if out.length < 8796093022208 then (front_taken.l0 k size was (out ++ [(p.extract 0 (bt225.1 : Int).toNat) ++ bt228.1]) (m : Int) ((i + 1 : Nat) : Int) l bt238.1 bt238.2) else (none))))) else (some (([] : List ByteArray), bt231.2.1, bt231.2.2)))) else (none))) else (none)) else (none))) R → Ev (fun k => front_taken.l0 k size was out (m : Int) (i : Int) l (a : Int) 0) R := fun R h => by
      refine Ev.step (fun k => by rw [front_taken.l0]) ?_
      simp only [if_pos (show (i : Int) < (m : Int) by omega), w0, w1, if_pos (show (0 : Int) ≤ ((out.length - 1 : Nat) : Int) by omega), if_pos (show ((out.length - 1 : Nat) : Int) < (out.length : Int) by omega), hrd]
      exact h
    rcases most_any l hb hl a p.size ha with ⟨n, hnp, hn, hd, hle, hf⟩ | ⟨e, he, hf⟩
    · rcases text_any l hb hl (a + (vint n).length) hle with ⟨t, ht, hd2, hle2, hf2⟩ | ⟨e, he, hf2⟩
      · obtain ⟨hsd, hss⟩ := ext_strD p t n hnp
        obtain ⟨s, hs⟩ : ∃ s, s = p.extract 0 n ++ t := ⟨_, rfl⟩
        rw [← hs] at hsd hss
        obtain ⟨a2, ha2⟩ : ∃ a2, a2 = a + (vint n).length + (textL t).length := ⟨_, rfl⟩
        rw [← ha2] at hd2 hle2 hf2
        have hez : (p.extract 0 n).size + t.size ≤ 9223372036854775807 := by rw [ByteArray.size_extract]; omega
        have hshe := shared_f p s (by omega)
        by_cases hsh : sh p s = n
        · obtain ⟨r, a', e', hev, ha', hrl, hgood⟩ := ih (i + 1) a2 (out ++ [s]) (by omega) (by rw [List.length_append, ho]; rfl) hle2 (by rw [lastS_snoc]; omega)
          refine ⟨r, a', e', hstep _ ?_, ha', hrl, fun he => ?_⟩
          · simp only [hf, Option.bind_some, if_pos (show (0 : Int) ≤ (n : Int) by omega), if_pos (show (n : Int) ≤ (p.size : Int) by omega), hf2, Int.toNat_natCast, if_pos hez, cursor_Cursor_Good.f, beq_self_eq_true, if_true, ← hs]
            refine Ev.bind hshe ?_
            simp only [if_pos (show (sh p s : Int) = (n : Int) by omega), if_pos (show out.length < 8796093022208 by omega)]
            exact hev
          · obtain ⟨c, hc1, hc2, hc3, hc4, hc5⟩ := hgood he
            rw [lastS_snoc] at hc3 hc4
            have hst : stepL p s = vint n ++ textL t := by unfold stepL; rw [hsh, hsd]
            refine ⟨s :: c, by rw [hc1, List.append_assoc]; rfl, by rw [List.length_cons, hc2], ?_, ?_, hc5⟩
            · rw [restL, hst, hd, hd2, hc3]
              simp only [List.append_assoc]
            · rw [restL, List.length_append, hst, List.length_append, hc4, ha2]
              omega
        · obtain ⟨r, hev, hrl⟩ := taken_err l (out ++ [s]) (by simp) (by rw [List.length_append, ho]; simp; omega) size was hw m (i + 1) a2 3 hle2 hl (by omega) (by omega)
          refine ⟨r, a2, 3, hstep _ ?_, hle2, by rw [List.length_append, ho] at hrl; simp at hrl; omega, fun he => by omega⟩
          simp only [hf, Option.bind_some, if_pos (show (0 : Int) ≤ (n : Int) by omega), if_pos (show (n : Int) ≤ (p.size : Int) by omega), hf2, Int.toNat_natCast, if_pos hez, cursor_Cursor_Good.f, beq_self_eq_true, if_true, ← hs]
          refine Ev.bind hshe ?_
          simp only [if_neg (show ¬ (sh p s : Int) = (n : Int) by omega), cursor_Cursor_Fail.f, if_true, Option.bind_some, if_pos (show out.length < 8796093022208 by omega)]
          exact hev
      · refine ⟨[], a + (vint n).length, e, hstep _ ?_, hle, Nat.zero_le _, fun h => absurd h he⟩
        have hez : (p.extract 0 n).size + (strOfNums []).size ≤ 9223372036854775807 := by rw [ByteArray.size_extract, str_size]; simp; omega
        simp only [hf, Option.bind_some, if_pos (show (0 : Int) ≤ (n : Int) by omega), if_pos (show (n : Int) ≤ (p.size : Int) by omega), hf2, Int.toNat_natCast, if_pos hez, cursor_Cursor_Good.f, show (e == 0) = false by simpa using he, Bool.false_eq_true, if_false]
        exact Ev.now _
    · refine ⟨[], a, e, hstep _ ?_, ha, Nat.zero_le _, fun h => absurd h he⟩
      have hez : (p.extract 0 (0 : Int).toNat).size + (strOfNums []).size ≤ 9223372036854775807 := by rw [ByteArray.size_extract, str_size]; simp
      simp only [hf, Option.bind_some, if_pos (show (0 : Int) ≤ 0 by omega), if_pos (show (0 : Int) ≤ (p.size : Int) by omega), text_err l _ e he, if_pos hez, cursor_Cursor_Good.f, show (e == 0) = false by simpa using he, Bool.false_eq_true, if_false]
      exact Ev.now _
omit hb in
/-- What is laid as entries is taken as it was. -/
theorem taken_at (size was : Int) (hw : 0 ≤ was ∧ was ≤ 1000000) (m : Nat) (hm : m ≤ 70) : ∀ (c : List ByteArray) (i a : Nat) (out : List ByteArray) (t : List Int), i + c.length = m → out.length = i + 1 → a ≤ l.length → (lastS out).size ≤ 4096 → smallL c → l.drop a = restL (lastS out) c ++ t → was - ((l.length - (a + (restL (lastS out) c).length) : Nat) : Int) = size →
    Ev (fun k => front_taken.l0 k size was out (m : Int) (i : Int) l (a : Int) 0) (out ++ c, ((a + (restL (lastS out) c).length : Nat) : Int), 0) := by
  intro c
  induction c with
  | nil =>
    intro i a out t hi ho ha hz hs hd hsz
    obtain rfl : i = m := by simpa using hi
    have h9 := taken_end l out size was hw i a 0 ha hl
    simp only [restL, List.length_nil, Nat.add_zero] at hsz
    rw [if_pos rfl, if_pos hsz] at h9
    simpa [restL] using h9
  | cons s c ih =>
    intro i a out t hi ho ha hz hs hd hsz
    simp only [List.length_cons] at hi
    have w0 : wrap64 ((out.length : Int) - 1) = ((out.length - 1 : Nat) : Int) := by rw [wm1 (by omega) (by omega)]; omega
    have w1 : wrap64 ((i : Int) + 1) = ((i + 1 : Nat) : Int) := wr1 i (by omega)
    obtain ⟨p, hp⟩ : ∃ p, p = lastS out := ⟨_, rfl⟩
    have hrd : rdOf ByteArray.empty out ((out.length - 1 : Nat) : Int) = p := by rw [at_rd, hp]; rfl
    rw [← hp] at hz hd hsz ⊢
    have hssz := hs s (by simp)
    have hsl := sh_le p s
    obtain ⟨n, hn⟩ : ∃ n, n = sh p s := ⟨_, rfl⟩
    have hst : stepL p s = vint n ++ textL (strD s n) := by unfold stepL; rw [hn]
    have hj : p.extract 0 n ++ strD s n = s := by rw [hn]; exact sh_join p s
    have hdl : l.length - a = (restL p (s :: c)).length + t.length := by
      have := congrArg List.length hd
      rwa [List.length_drop, List.length_append] at this
    have hrl : (restL p (s :: c)).length = (vint n).length + (textL (strD s n)).length + (restL s c).length := by rw [restL, List.length_append, hst, List.length_append]
    have hd1 : l.drop a = vint n ++ (textL (strD s n) ++ (restL s c ++ t)) := by rw [hd, restL, hst]; simp only [List.append_assoc]
    have hmost := most_at l a n p.size _ (by omega) (by omega) hl hd1
    have hd2 : l.drop (a + (vint n).length) = textL (strD s n) ++ (restL s c ++ t) := by rw [← List.drop_drop, hd1, List.drop_left]
    have htext := text_at l (a + (vint n).length) (strD s n) _ (by rw [strD_size]; omega) hl hd2
    have hd3 : l.drop (a + (vint n).length + (textL (strD s n)).length) = restL s c ++ t := by rw [← List.drop_drop, hd2, List.drop_left]
    have hez : (p.extract 0 n).size + (strD s n).size ≤ 9223372036854775807 := by rw [ByteArray.size_extract, strD_size]; omega
    have h9 := ih (i + 1) (a + (vint n).length + (textL (strD s n)).length) (out ++ [s]) t (by omega) (by rw [List.length_append, ho]; rfl) (by omega) (by rw [lastS_snoc]; exact hssz) (fun x hx => hs x (List.mem_cons_of_mem _ hx)) (by rw [lastS_snoc]; exact hd3) (by rw [lastS_snoc]; rw [hrl] at hsz; rw [show a + (vint n).length + (textL (strD s n)).length + (restL s c).length = a + ((vint n).length + (textL (strD s n)).length + (restL s c).length) by omega]; exact hsz)
    rw [lastS_snoc, List.append_assoc] at h9
    have hpos : a + (vint n).length + (textL (strD s n)).length + (restL s c).length = a + (restL p (s :: c)).length := by rw [hrl]; omega
    rw [hpos] at h9
    refine Ev.step (fun k => by rw [front_taken.l0]) ?_
    simp only [if_pos (show (i : Int) < (m : Int) by omega), w0, w1, if_pos (show (0 : Int) ≤ ((out.length - 1 : Nat) : Int) by omega), if_pos (show ((out.length - 1 : Nat) : Int) < (out.length : Int) by omega), hrd, hmost, Option.bind_some, if_pos (show (0 : Int) ≤ (n : Int) by omega), if_pos (show (n : Int) ≤ (p.size : Int) by omega), htext, Int.toNat_natCast, if_pos hez, cursor_Cursor_Good.f, beq_self_eq_true, if_true, hj]
    refine Ev.bind (shared_f p s (by omega)) ?_
    simp only [if_pos (show (sh p s : Int) = (n : Int) by omega), if_pos (show out.length < 8796093022208 by omega)]
    exact h9
end
end Go.Proofs.Ytljhlpkoilapiaa.HP
end
section
/- Front, plain: packed numbers and blocks, read of whatever bytes. -/
set_option linter.unusedVariables false
set_option linter.unusedSimpArgs false
namespace Go.Proofs.Ytljhlpkoilapiaa.HP
open Go.RowKit Go.Proofs.Ytljhlpkoilapiaa.P Go.Proofs.YtljhlpkoilapiaaW.PrintWords Go.Proofs.YtljhlpkoilapiaaW.PrintLast Go.Proofs.YtljhlpkoilapiaaW.PrintMore
theorem equal_l2 (a b : List Int) (hl : a.length ≤ 1000000) (hab : a.length = b.length) : ∀ (s t : List Int) (i : Nat), a.drop i = s → b.drop i = t → Ev (fun k => slices_Equal_byte_byte.l0 k a b (a.length : Int) (i : Int)) (decide (s = t)) := by
  intro s
  induction s with
  | nil =>
    intro t i ha hb
    have := drop_nil ha
    obtain rfl : t = [] := by rw [← hb]; exact List.drop_eq_nil_of_le (by omega)
    refine Ev.step (fun k => by rw [slices_Equal_byte_byte.l0]) ?_
    simp only [if_neg (show ¬ (i : Int) < (a.length : Int) by omega), decide_true]
    exact Ev.now _
  | cons x s ih =>
    intro t i ha hb
    have hlt := drop_lt ha
    cases t with
    | nil => have := drop_nil hb; omega
    | cons y t =>
      refine Ev.step (fun k => by rw [slices_Equal_byte_byte.l0]) ?_
      simp only [if_pos (show (i : Int) < (a.length : Int) by omega), if_pos (show 0 ≤ (i : Int) by omega), if_pos (show (i : Int) < (b.length : Int) by omega), drop_rd ha, drop_rd hb, wr1 i (by omega)]
      by_cases e : x = y
      · subst e
        simp only [if_true]
        have := ih t (i + 1) (drop_tl ha) (drop_tl hb)
        simpa using this
      · simp only [if_neg e]
        rw [decide_eq_false (show ¬ x :: s = y :: t by simp [e])]
        exact Ev.now _
theorem equal_f2 (a b : List Int) (hl : a.length ≤ 1000000) : Ev (fun k => slices_Equal_byte_byte.f k a b) (decide (a = b)) := by
  unfold slices_Equal_byte_byte.f
  by_cases h : a.length = b.length
  · simp only [if_pos (show (a.length : Int) = (b.length : Int) by omega)]
    exact equal_l2 a b hl h a b 0 rfl rfl
  · simp only [if_neg (show ¬ (a.length : Int) = (b.length : Int) by omega)]
    rw [decide_eq_false (fun e => h (by rw [e]))]
    exact Ev.now _
/-- The numbers that lie in packed bytes. -/
def getG (b : List Int) (w n : Nat) : List Int := (List.range n).map fun i => ((getN b w i : Nat) : Int)
theorem getG_len (b : List Int) (w n : Nat) : (getG b w n).length = n := by simp [getG]
theorem getN_lt (b : List Int) (w i : Nat) : getN b w i < 2 ^ w := by
  unfold getN
  have := num_lt (getL b w i)
  rwa [getL_len] at this
theorem getG_good (b : List Int) (w n : Nat) : (getG b w n).all (goodN w) = true := by
  refine List.all_eq_true.2 (fun x hx => ?_)
  unfold getG at hx
  obtain ⟨i, _, rfl⟩ := List.mem_map.1 hx
  have := getN_lt b w i
  unfold goodN
  simp only [Bool.and_eq_true, decide_eq_true_eq]
  omega
theorem getG_may (b : List Int) (w n : Nat) (hw : w ≤ 32) : mayL (getG b w n) = true := by
  refine List.all_eq_true.2 (fun x hx => ?_)
  unfold getG at hx
  obtain ⟨i, _, rfl⟩ := List.mem_map.1 hx
  have h1 := getN_lt b w i
  have h2 : 2 ^ w ≤ 2 ^ 32 := Nat.pow_le_pow_right (by omega) hw
  simp only [Bool.and_eq_true, decide_eq_true_eq]
  omega
theorem getG_succ (b : List Int) (w i : Nat) : getG b w (i + 1) = getG b w i ++ [((getN b w i : Nat) : Int)] := by simp [getG, List.range_succ]
theorem getG_at (b : List Int) (w n i : Nat) (h : i < (getG b w n).length) : (getG b w n)[i] = ((getN b w i : Nat) : Int) := by simp [getG]
theorem getG_pack (m : List Int) (hm : mayL m = true) : getG (pack (bitsL (wideL m 0) m)) (wideL m 0) m.length = m := by
  apply List.ext_getElem (getG_len _ _ _)
  intro i h1 h2
  rw [getG_at]
  exact getN_pack _ m (wide_good hm) i h2
def readOk (b : List Int) (w n : Nat) : Prop := wideL (getG b w n) 0 = w ∧ pack (bitsL w (getG b w n)) = b
theorem read_loop (b : List Int) (hb : isB b) (hbl : b.length ≤ 100000) (w : Nat) (hw : w ≤ 32) (n : Nat) (hn : n ≤ 5000) (l : List Int) (a e : Int) : ∀ (d i : Nat), i + d = n →
    Ev (fun k => pack_Read.l0 k (w : Int) b (getG b w i) (n : Int) (i : Int) l a e) (open Classical in if readOk b w n then (getG b w n, a, e) else ([], a, if e = 0 then 3 else e)) := by
  intro d
  induction d with
  | zero =>
    intro i hi
    obtain rfl : i = n := by omega
    have hp := packB_len (getG b w i) (by rw [getG_len]; omega) w hw
    refine Ev.step (fun k => by rw [pack_Read.l0]) ?_
    simp only [if_neg (show ¬ (i : Int) < (i : Int) by omega)]
    refine (pput_f w hw (getG b w i) (by rw [getG_len]; omega)).bind ?_
    rw [if_pos (getG_good b w i)]
    refine Ev.bind (g := fun _ => pack_Width.f _) (ev_some (pwidth_f (getG b w i) (by rw [getG_len]; omega) (getG_may b w i hw))) ?_
    by_cases h1 : wideL (getG b w i) 0 = w
    · simp only [if_pos (show ((wideL (getG b w i) 0 : Nat) : Int) = (w : Int) by omega)]
      rw [show (packed w (getG b w i)).1 = pack (bitsL w (getG b w i)) from rfl]
      refine (equal_f2 _ b (by omega)).bind ?_
      by_cases h2 : pack (bitsL w (getG b w i)) = b
      · rw [if_pos (show readOk b w i from ⟨h1, h2⟩), decide_eq_true h2]
        simp only [if_true]
        exact Ev.now _
      · rw [if_neg (show ¬ readOk b w i from fun h => h2 h.2), decide_eq_false h2]
        simp only [Bool.false_eq_true, if_false, cursor_Cursor_Fail.f]
        by_cases he : e = 0
        · simp only [if_pos he, Option.bind_some]; exact Ev.now _
        · simp only [if_neg he, Option.bind_some]; exact Ev.now _
    · rw [if_neg (show ¬ readOk b w i from fun h => h1 h.1)]
      simp only [if_neg (show ¬ ((wideL (getG b w i) 0 : Nat) : Int) = (w : Int) by omega), cursor_Cursor_Fail.f]
      by_cases he : e = 0
      · simp only [if_pos he, Option.bind_some]; exact Ev.now _
      · simp only [if_neg he, Option.bind_some]; exact Ev.now _
  | succ d ih =>
    intro i hi
    refine Ev.step (fun k => by rw [pack_Read.l0]) ?_
    simp only [if_pos (show (i : Int) < (n : Int) by omega)]
    refine (pget_f b hb hbl w hw i (by omega)).bind ?_
    simp only [if_pos (show (getG b w i).length < 17592186044416 by rw [getG_len]; omega), wr1 i (by omega), ← getG_succ]
    exact ih (i + 1) (by omega)
section
variable (l : List Int) (hb : isBy l) (hl : l.length ≤ 1000000)
theorem read_err (a e : Int) (he : e ≠ 0) : ∃ r : List Int, Ev (fun k => pack_Read.f k l a e 4096) (r, a, e) := by
  have h9 := read_loop [] (fun x hx => by simp at hx) (by simp) 0 (by omega) 0 (by omega) l a e 0 0 rfl
  have hr : readOk [] 0 0 := ⟨rfl, rfl⟩
  rw [if_pos hr] at h9
  refine ⟨getG [] 0 0, ?_⟩
  have hby : cursor_Cursor_Byte.f l a e = some (0, a, e) := by
    unfold cursor_Cursor_Byte.f
    rw [bytes_err l a e 1 he]
    rfl
  have hps : pack_size.f 0 0 = some 0 := by decide +kernel
  unfold pack_Read.f
  refine Ev.bind (g := fun _ => cursor_Cursor_Most.f _ _ _ _) (ev_some (most_err l a e 4096 he (by omega))) ?_
  refine Ev.bind (g := fun _ => cursor_Cursor_Byte.f _ _ _) (ev_some hby) ?_
  simp only [if_neg (show ¬ (0 : Int) > 32 by omega), hps, Option.bind_some, bytes_err l a e 0 he, List.length_nil, Int.natCast_zero, if_neg (show ¬ (0 : Int) < 0 by omega)]
  exact h9
include hb hl
/-- What pack.Read reads, whatever the bytes: numbers that are written as they stood, or an error. -/
theorem read_any (a : Nat) (ha : a ≤ l.length) : ∃ (r : List Int) (a' : Nat) (e' : Int), Ev (fun k => pack_Read.f k l (a : Int) 0 4096) (r, (a' : Int), e') ∧ a' ≤ l.length ∧ (e' = 0 → mayL r = true ∧ r.length ≤ 4096 ∧ l.drop a = writeL r ++ l.drop a' ∧ a' = a + (writeL r).length) := by
  rcases most_any l hb hl a 4096 ha with ⟨n, hm, hn, hd, hle, hf⟩ | ⟨e, he, hf⟩
  · obtain ⟨a1, ha1⟩ : ∃ a1, a1 = a + (vint n).length := ⟨_, rfl⟩
    rw [← ha1] at hd hle hf
    rcases Nat.lt_or_ge a1 l.length with h1 | h1
    · have hbt := hb l[a1] (List.getElem_mem h1)
      have hbyte := byte_at l a1 hl h1 hbt.1 hbt.2
      obtain ⟨w, hw⟩ : ∃ w : Nat, l[a1] = (w : Int) := ⟨l[a1].toNat, by omega⟩
      rw [hw] at hbyte hbt
      by_cases hw32 : w ≤ 32
      · have hps := psize_f n w (by omega) hw32
        have hnw := nw_le (show n ≤ 10000 by omega) hw32
        have hs8 : size8 (n * w) ≤ 50000 := by unfold size8; omega
        by_cases hfit : a1 + 1 + size8 (n * w) ≤ l.length
        · have hbytes := bytes_at l (a1 + 1) (size8 (n * w)) hl hfit
          obtain ⟨b, hbe⟩ : ∃ b, b = (l.drop (a1 + 1)).take (size8 (n * w)) := ⟨_, rfl⟩
          have hbl : b.length = size8 (n * w) := by rw [hbe, List.length_take, List.length_drop]; omega
          have hbb : isBy b := by rw [hbe]; exact isBy_take (isBy_drop hb _) _
          rw [← hbe] at hbytes
          have h9 := read_loop b hbb (by omega) w hw32 n (by omega) l ((a1 + 1 + size8 (n * w) : Nat) : Int) 0 n 0 (Nat.zero_add _)
          have hev : ∀ R, Ev (fun k => pack_Read.l0 k (w : Int) b (getG b w 0) (n : Int) ((0 : Nat) : Int) l ((a1 + 1 + size8 (n * w) : Nat) : Int) 0) R → Ev (fun k => pack_Read.f k l (a : Int) 0 4096) R := fun R h => by
            unfold pack_Read.f
            refine Ev.bind (g := fun _ => cursor_Cursor_Most.f _ _ _ _) (ev_some hf) ?_
            refine Ev.bind (g := fun _ => cursor_Cursor_Byte.f _ _ _) (ev_some hbyte) ?_
            simp only [if_neg (show ¬ (w : Int) > 32 by omega), hps, Option.bind_some, hbytes, hbl, if_neg (show ¬ ((size8 (n * w) : Nat) : Int) < ((size8 (n * w) : Nat) : Int) by omega)]
            exact h
          by_cases hok : readOk b w n
          · rw [if_pos hok] at h9
            refine ⟨_, _, _, hev _ h9, hfit, fun _ => ⟨getG_may b w n hw32, by rw [getG_len]; exact hm, ?_, ?_⟩⟩
            · have hwr : writeL (getG b w n) = vint n ++ [(w : Int)] ++ b := by unfold writeL; rw [getG_len, hok.1, hok.2]
              rw [hwr, hd, List.append_assoc, List.append_assoc]
              congr 1
              rw [List.drop_eq_getElem_cons h1, hw, ← List.drop_drop (i := size8 (n * w)) (j := a1 + 1), hbe, List.take_append_drop]
              rfl
            · have hwr : writeL (getG b w n) = vint n ++ [(w : Int)] ++ b := by unfold writeL; rw [getG_len, hok.1, hok.2]
              rw [hwr, List.length_append, List.length_append, hbl, ha1]
              simp
              omega
          · rw [if_neg hok] at h9
            exact ⟨_, _, _, hev _ h9, hfit, fun h => absurd h (by simp)⟩
        · refine ⟨[], a1 + 1, 2, ?_, by omega, fun h => by omega⟩
          unfold pack_Read.f
          refine Ev.bind (g := fun _ => cursor_Cursor_Most.f _ _ _ _) (ev_some hf) ?_
          refine Ev.bind (g := fun _ => cursor_Cursor_Byte.f _ _ _) (ev_some hbyte) ?_
          simp only [if_neg (show ¬ (w : Int) > 32 by omega), hps, Option.bind_some, bytes_cut l (a1 + 1) (size8 (n * w)) (by omega) (by omega), List.length_nil, if_pos (show ((0 : Nat) : Int) < ((size8 (n * w) : Nat) : Int) by omega)]
          exact Ev.now _
      · refine ⟨[], a1 + 1, 3, ?_, by omega, fun h => by omega⟩
        unfold pack_Read.f
        refine Ev.bind (g := fun _ => cursor_Cursor_Most.f _ _ _ _) (ev_some hf) ?_
        refine Ev.bind (g := fun _ => cursor_Cursor_Byte.f _ _ _) (ev_some hbyte) ?_
        simp only [if_pos (show (w : Int) > 32 by omega), cursor_Cursor_Fail.f, if_true, Option.bind_some]
        exact Ev.now _
    · have hc := bytes_cut l a1 1 hle (by omega)
      rw [show ((1 : Nat) : Int) = 1 from rfl] at hc
      have hbyte : cursor_Cursor_Byte.f l (a1 : Int) 0 = some (0, (a1 : Int), 2) := by
        unfold cursor_Cursor_Byte.f
        rw [hc]
        rfl
      have hps := psize_f n 0 (by omega) (by omega)
      rw [Nat.mul_zero, show size8 0 = 0 from rfl] at hps
      have h9 := read_loop [] (fun x hx => by simp at hx) (by simp) 0 (by omega) n (by omega) l (a1 : Int) 2 n 0 (Nat.zero_add _)
      have hev : ∀ R, Ev (fun k => pack_Read.l0 k ((0 : Nat) : Int) [] (getG [] 0 0) (n : Int) ((0 : Nat) : Int) l (a1 : Int) 2) R → Ev (fun k => pack_Read.f k l (a : Int) 0 4096) R := fun R h => by
        unfold pack_Read.f
        refine Ev.bind (g := fun _ => cursor_Cursor_Most.f _ _ _ _) (ev_some hf) ?_
        refine Ev.bind (g := fun _ => cursor_Cursor_Byte.f _ _ _) (ev_some hbyte) ?_
        simp only [if_neg (show ¬ (0 : Int) > 32 by omega)]
        have hps : pack_size.f (n : Int) 0 = some 0 := hps
        simp only [hps, Option.bind_some, bytes_err l (a1 : Int) 2 0 (by omega), List.length_nil, Int.natCast_zero, if_neg (show ¬ (0 : Int) < 0 by omega)]
        exact h
      by_cases hok : readOk [] 0 n
      · rw [if_pos hok] at h9
        exact ⟨_, a1, 2, hev _ h9, hle, fun h => by omega⟩
      · rw [if_neg hok] at h9
        exact ⟨_, a1, 2, hev _ h9, hle, fun h => by omega⟩
  · have hby : cursor_Cursor_Byte.f l (a : Int) e = some (0, (a : Int), e) := by
      unfold cursor_Cursor_Byte.f
      rw [bytes_err l (a : Int) e 1 he]
      rfl
    have hps : pack_size.f 0 0 = some 0 := by decide +kernel
    have h9 := read_loop [] (fun x hx => by simp at hx) (by simp) 0 (by omega) 0 (by omega) l (a : Int) e 0 0 rfl
    have hr : readOk [] 0 0 := ⟨rfl, rfl⟩
    rw [if_pos hr] at h9
    refine ⟨getG [] 0 0, a, e, ?_, ha, fun h => absurd h he⟩
    unfold pack_Read.f
    refine Ev.bind (g := fun _ => cursor_Cursor_Most.f _ _ _ _) (ev_some hf) ?_
    refine Ev.bind (g := fun _ => cursor_Cursor_Byte.f _ _ _) (ev_some hby) ?_
    simp only [if_neg (show ¬ (0 : Int) > 32 by omega), hps, Option.bind_some, bytes_err l (a : Int) e 0 he, List.length_nil, Int.natCast_zero, if_neg (show ¬ (0 : Int) < 0 by omega)]
    exact h9
omit hb in
/-- What is written is read as it was. -/
theorem read_at (m : List Int) (hm : mayL m = true) (hml : m.length ≤ 4096) (a : Nat) (t : List Int) (ha : a ≤ l.length) (hd : l.drop a = writeL m ++ t) : Ev (fun k => pack_Read.f k l (a : Int) 0 4096) (m, ((a + (writeL m).length : Nat) : Int), 0) := by
  have hw := wide_32 hm
  obtain ⟨w, hwe⟩ : ∃ w, w = wideL m 0 := ⟨_, rfl⟩
  obtain ⟨b, hbe⟩ : ∃ b, b = pack (bitsL (wideL m 0) m) := ⟨_, rfl⟩
  have hwr : writeL m = vint m.length ++ ([(w : Int)] ++ b) := by unfold writeL; rw [List.append_assoc, ← hwe, hbe, ← hwe]
  have hbl : b.length = size8 (m.length * w) := by rw [hbe, pack_length, bitsL_len, hwe]
  have hps := psize_f m.length w (by omega) (by omega)
  have hnw := nw_le (show m.length ≤ 10000 by omega) (show w ≤ 32 by omega)
  have hs8 : size8 (m.length * w) ≤ 50000 := by unfold size8; omega
  have hlen : l.length - a = (vint m.length).length + 1 + b.length + t.length := by
    have := congrArg List.length hd
    rw [List.length_drop, List.length_append, hwr, List.length_append, List.length_append] at this
    simp at this
    omega
  have hd1 : l.drop a = vint m.length ++ ((w : Int) :: (b ++ t)) := by rw [hd, hwr]; simp
  have hmost := most_at l a m.length 4096 _ (by omega) hml hl hd1
  obtain ⟨a1, ha1⟩ : ∃ a1, a1 = a + (vint m.length).length := ⟨_, rfl⟩
  rw [← ha1] at hmost
  have hd2 : l.drop a1 = (w : Int) :: (b ++ t) := by rw [ha1, ← List.drop_drop, hd1, List.drop_left]
  have h1 : a1 < l.length := by omega
  have hg : l[a1] = (w : Int) := by
    have := List.drop_eq_getElem_cons h1
    rw [hd2] at this
    injection this with h _
    exact h.symm
  have hbyte := byte_at l a1 hl h1 (by rw [hg]; omega) (by rw [hg]; omega)
  rw [hg] at hbyte
  have hd3 : l.drop (a1 + 1) = b ++ t := by rw [← List.drop_drop, hd2]; rfl
  have hbytes := bytes_at l (a1 + 1) (size8 (m.length * w)) hl (by omega)
  rw [hd3, ← hbl, List.take_left, hbl] at hbytes
  have h9 := read_loop b (by rw [hbe]; exact isB_pack _) (by omega) w (by omega) m.length (by omega) l ((a1 + 1 + size8 (m.length * w) : Nat) : Int) 0 m.length 0 (Nat.zero_add _)
  have hG : getG b w m.length = m := by rw [hbe, hwe]; exact getG_pack m hm
  have hok : readOk b w m.length := ⟨by rw [hG, hwe], by rw [hG, hbe, hwe]⟩
  rw [if_pos hok, hG] at h9
  have hpos : a1 + 1 + size8 (m.length * w) = a + (writeL m).length := by rw [hwr, List.length_append, List.length_append, hbl, ha1]; simp; omega
  rw [hpos] at h9 hbytes
  unfold pack_Read.f
  refine Ev.bind (g := fun _ => cursor_Cursor_Most.f _ _ _ _) (ev_some hmost) ?_
  refine Ev.bind (g := fun _ => cursor_Cursor_Byte.f _ _ _) (ev_some hbyte) ?_
  simp only [if_neg (show ¬ (w : Int) > 32 by omega), hps, Option.bind_some, hbytes, hbl, if_neg (show ¬ ((size8 (m.length * w) : Nat) : Int) < ((size8 (m.length * w) : Nat) : Int) by omega)]
  exact h9
end
section
variable (l : List Int) (hb : isBy l) (hl : l.length ≤ 1000000)
theorem lastS_one (s : ByteArray) : lastS [s] = s := rfl
/-- A block, read with an error already there. -/
theorem block_err (hl : l.length ≤ 1000000) (a : Nat) (ha : a ≤ l.length) (e : Int) (he : e ≠ 0) (n : Nat) (hn : 1 ≤ n) (hn2 : n ≤ 64) (size : Int) : ∃ r : List ByteArray, Ev (fun k => front_taken.f k l (a : Int) e (n : Int) size) (r, (a : Int), e) ∧ r.length ≤ 64 := by
  have w0 : Aside0 (wrap64 ((n : Int) - 1) = ((n - 1 : Nat) : Int)) := ⟨by rw [wm1 (by omega) (by omega)]; omega⟩
  obtain ⟨r, h9, hrl⟩ := taken_err l [strOfNums []] (by simp) (by simp) size ((l.length - a : Nat) : Int) (by omega) (n - 1) 0 a e ha hl (by omega) he
  refine ⟨r, ?_, by simp at hrl; omega⟩
  unfold front_taken.f
  simp only [left_at l a e hl ha, Option.bind_some, text_err l (a : Int) e he, w0.out]
  exact h9
include hb hl
theorem block_any (a : Nat) (ha : a ≤ l.length) (n : Nat) (hn : 1 ≤ n) (hn2 : n ≤ 64) (size : Int) : ∃ (r : List ByteArray) (a' : Nat) (e' : Int), Ev (fun k => front_taken.f k l (a : Int) 0 (n : Int) size) (r, (a' : Int), e') ∧ a' ≤ l.length ∧ r.length ≤ 64 ∧ (e' = 0 → r.length = n ∧ l.drop a = entL r ++ l.drop a' ∧ a' = a + (entL r).length ∧ size = ((entL r).length : Int)) := by
  have w0 : Aside0 (wrap64 ((n : Int) - 1) = ((n - 1 : Nat) : Int)) := ⟨by rw [wm1 (by omega) (by omega)]; omega⟩
  rcases text_any l hb hl a ha with ⟨s, hs, hd, hle, hf⟩ | ⟨e, he, hf⟩
  · obtain ⟨r, a', e', hev, ha', hrl, hg⟩ := taken_any l hb hl size ((l.length - a : Nat) : Int) (by omega) (n - 1) (by omega) (n - 1) 0 (a + (textL s).length) [s] (by omega) rfl hle (by rw [lastS_one]; omega)
    refine ⟨r, a', e', ?_, ha', by omega, fun h => ?_⟩
    · unfold front_taken.f
      simp only [left_at l a 0 hl ha, Option.bind_some, hf, w0.out]
      exact hev
    · obtain ⟨c, hc1, hc2, hc3, hc4, hc5⟩ := hg h
      clear hg hev
      rw [lastS_one] at hc3 hc4
      have hr : r = s :: c := hc1
      have hlen : (entL r).length = (textL s).length + (restL s c).length := by rw [hr, entL, List.length_append]
      refine ⟨by rw [hr, List.length_cons, hc2]; omega, by rw [hr, entL, hd, hc3, List.append_assoc], by omega, by omega⟩
  · obtain ⟨r, h9, hrl⟩ := taken_err l [strOfNums []] (by simp) (by simp) size ((l.length - a : Nat) : Int) (by omega) (n - 1) 0 a e ha hl (by omega) he
    refine ⟨r, a, e, ?_, ha, by simp at hrl; omega, fun h => absurd h he⟩
    unfold front_taken.f
    simp only [left_at l a 0 hl ha, Option.bind_some, hf, w0.out]
    exact h9
omit hb in
theorem block_at (c : List ByteArray) (hc : c ≠ []) (hc2 : c.length ≤ 64) (hs : smallL c) (a : Nat) (t : List Int) (ha : a ≤ l.length) (hd : l.drop a = entL c ++ t) : Ev (fun k => front_taken.f k l (a : Int) 0 (c.length : Int) ((entL c).length : Int)) (c, ((a + (entL c).length : Nat) : Int), 0) := by
  cases c with
  | nil => exact absurd rfl hc
  | cons s c =>
    simp only [List.length_cons] at hc2
    have w0 : Aside0 (wrap64 (((s :: c).length : Int) - 1) = (c.length : Int)) := ⟨by rw [List.length_cons]; unfold wrap64; omega⟩
    have hlen : l.length - a = (entL (s :: c)).length + t.length := by
      have := congrArg List.length hd
      rwa [List.length_drop, List.length_append] at this
    have hel : (entL (s :: c)).length = (textL s).length + (restL s c).length := by rw [entL, List.length_append]
    have hd1 : l.drop a = textL s ++ (restL s c ++ t) := by rw [hd, entL, List.append_assoc]
    have htext := text_at l a s _ (hs s (by simp)) hl hd1
    have hd2 : l.drop (a + (textL s).length) = restL s c ++ t := by rw [← List.drop_drop, hd1, List.drop_left]
    have h9 := taken_at l hl ((entL (s :: c)).length : Int) ((l.length - a : Nat) : Int) (by omega) c.length (by omega) c 0 (a + (textL s).length) [s] t (Nat.zero_add _) rfl (by omega) (by rw [lastS_one]; exact hs s (by simp)) (fun x hx => hs x (List.mem_cons_of_mem _ hx)) (by rw [lastS_one]; exact hd2) (by rw [lastS_one]; omega)
    rw [lastS_one, show a + (textL s).length + (restL s c).length = a + (entL (s :: c)).length by omega] at h9
    unfold front_taken.f
    simp only [left_at l a 0 hl ha, Option.bind_some, htext, w0.out]
    exact h9
end
end Go.Proofs.Ytljhlpkoilapiaa.HP
end
section
/- Front, plain: the reference's Build. -/
set_option linter.unusedVariables false
set_option linter.unusedSimpArgs false
namespace Go.Proofs.Ytljhlpkoilapiaa.HP
open Go.RowKit Go.Proofs.Ytljhlpkoilapiaa.P Go.Proofs.YtljhlpkoilapiaaW.PrintWords Go.Proofs.YtljhlpkoilapiaaW.PrintLast Go.Proofs.YtljhlpkoilapiaaW.PrintMore
theorem set_end (X : List Int) (v u : Int) : (X ++ [v]).set X.length u = X ++ [u] := by simp
theorem rd_end (X : List Int) (v : Int) : rd (X ++ [v]) ((X.length : Nat) : Int) = v := by simp [rd, List.getD_eq_getElem?_getD]
theorem last_ix (n : Nat) (h : n ≤ 100000) : wrap64 (((n + 1 : Nat) : Int) - 1) = (n : Int) := by unfold wrap64; omega
section
variable (kb : Nat) (l : List ByteArray) (hk : 1 ≤ kb) (hl : l.length ≤ 10000) (hs : smallL l)
/-- Behind the shared bytes: the number, the rest, and on. -/
theorem rb_tail (X A : List Int) (v i n : Nat) (hll : l.length ≤ 10000) (hX : X.length ≤ 100000) (hv : v ≤ 1000000000) (hA : A.length ≤ 1000000000) (hi : i < l.length) (hi0 : 0 < i) (hn : n = sh (at_ l (i - 1)) (at_ l i)) (hsz : (at_ l i).size ≤ 4096) (R : List Int)
    (HR : Ev (fun k => hopperref13_Build.l0 k l (kb : Int) (X ++ [((v + (stepL (at_ l (i - 1)) (at_ l i)).length : Nat) : Int)]) (A ++ stepL (at_ l (i - 1)) (at_ l i)) ((i + 1 : Nat) : Int)) R) :
    ∀ (d m : Nat), m + d = (at_ l (i - 1)).data.toList.length → m ≤ (at_ l i).data.toList.length → m + shL ((at_ l (i - 1)).data.toList.drop m) ((at_ l i).data.toList.drop m) = n → (at_ l (i - 1)).size ≤ 4096 →
    Ev (fun k => hopperref13_Build.l1 k l (kb : Int) (X ++ [(v : Int)]) A (i : Int) (m : Int)) R := by
  obtain ⟨a, ha⟩ : ∃ a, a = at_ l (i - 1) := ⟨_, rfl⟩
  obtain ⟨b, hb⟩ : ∃ b, b = at_ l i := ⟨_, rfl⟩
  rw [← ha, ← hb] at hn HR ⊢
  rw [← hb] at hsz
  have hsl := sh_le a b
  have w0 : Aside0 (wrap64 ((i : Int) - 1) = ((i - 1 : Nat) : Int)) := ⟨by rw [wm1 (by omega) (by omega)]; omega⟩
  have w1 : Aside0 (wrap64 ((i : Int) + 1) = ((i + 1 : Nat) : Int)) := ⟨wr1 i (by omega)⟩
  have er1 : rdOf ByteArray.empty l ((i - 1 : Nat) : Int) = a := by rw [at_rd, ha]
  have er2 : rdOf ByteArray.empty l (i : Int) = b := by rw [at_rd, hb]
  have e1 : (a.size : Int) = (a.data.toList.length : Int) := by simp
  have e2 : (b.size : Int) = (b.data.toList.length : Int) := by simp
  have hbz : b.data.toList.length ≤ 4096 := by simpa using hsz
  have hstl : stepL a b = vint n ++ textL (strD b n) := by unfold stepL; rw [← hn]
  have hstz : (stepL a b).length ≤ b.size + 4 := stepL_len a b hsz
  have hcut : b.extract n b.size = strD b n := rfl
  have hlx := Aside0.mk (last_ix X.length hX)
  have hwv : Aside0 (wrap64 (((v : Nat) : Int) + (((vint n ++ textL (strD b n)).length : Nat) : Int)) = ((v + (vint n ++ textL (strD b n)).length : Nat) : Int)) := ⟨by
    rw [← hstl, ← Int.natCast_add]; exact wb _ (by omega)⟩
  have hxl : (X ++ [(v : Int)]).length = X.length + 1 := by simp
  have hpt : (vint n).length + (textL (strD b n)).length < 140737488355328 := by rw [hstl, List.length_append] at hstz; omega
  have hal : A.length + (vint n ++ textL (strD b n)).length < 140737488355328 := by rw [← hstl]; omega
  rw [hstl] at HR
  have hput := rput n (by omega)
  have htxt := rtext_f (strD b n) (by rw [strD_size]; omega)
  have hn4 : n ≤ b.data.toList.length := by rw [hn]; simpa using hsl.2
  intro d
  induction d with
  | zero =>
    intro m hm hmb hmn haz
    have haz' : a.data.toList.length ≤ 4096 := by simpa using haz
    have hmn' : m = n := by rw [List.drop_eq_nil_of_le (show a.data.toList.length ≤ m by omega)] at hmn; simpa [shL] using hmn
    subst hmn'
    refine Ev.step (fun k => by rw [hopperref13_Build.l1]) ?_
    simp only [w0.out, if_pos (show (0 : Int) ≤ ((i - 1 : Nat) : Int) by omega), if_pos (show ((i - 1 : Nat) : Int) < (l.length : Int) by omega), er1, er2, e1, e2, if_neg (show ¬ (m : Int) < (a.data.toList.length : Int) by omega)]
    refine Ev.bind hput ?_
    simp only [if_pos (show (0 : Int) ≤ (i : Int) by omega), if_pos (show (i : Int) < (l.length : Int) by omega), if_pos (show (0 : Int) ≤ (m : Int) by omega), if_pos (show (m : Int) ≤ (b.data.toList.length : Int) by omega), Int.toNat_natCast, hcut]
    refine Ev.bind htxt ?_
    simp only [if_pos hpt, Option.bind_some, hlx.out, if_pos (show (0 : Int) ≤ ((X.length : Nat) : Int) by omega), hxl, if_pos (show ((X.length : Nat) : Int) < ((X.length + 1 : Nat) : Int) by omega), if_pos hal, Int.toNat_natCast, rd_end, hwv.out, set_end, w1.out]
    exact HR
  | succ d ih =>
    intro m hm hmb hmn haz
    have haz' : a.data.toList.length ≤ 4096 := by simpa using haz
    have hlt : m < a.data.toList.length := by omega
    refine Ev.step (fun k => by rw [hopperref13_Build.l1]) ?_
    simp only [w0.out, if_pos (show (0 : Int) ≤ ((i - 1 : Nat) : Int) by omega), if_pos (show ((i - 1 : Nat) : Int) < (l.length : Int) by omega), er1, er2, e1, e2, if_pos (show (m : Int) < (a.data.toList.length : Int) by omega), if_pos (show (0 : Int) ≤ (i : Int) by omega), if_pos (show (i : Int) < (l.length : Int) by omega)]
    rw [List.drop_eq_getElem_cons hlt] at hmn
    by_cases h : m < b.data.toList.length
    · rw [List.drop_eq_getElem_cons h] at hmn
      have w2 : Aside0 (wrap64 ((m : Int) + 1) = ((m + 1 : Nat) : Int)) := ⟨wr1 m (by omega)⟩
      simp only [if_pos (show (m : Int) < (b.data.toList.length : Int) by omega), if_pos (show (0 : Int) ≤ (m : Int) by omega), bt_nat a m hlt, bt_nat b m h, w2.out]
      unfold shL at hmn
      by_cases c1 : a.data.toList[m] = b.data.toList[m]
      · rw [if_pos c1] at hmn
        simp only [c1, if_true]
        exact ih (m + 1) (by omega) (by omega) (by omega) haz
      · rw [if_neg c1, Nat.add_zero] at hmn
        subst hmn
        simp only [if_neg (show ¬ ((a.data.toList[m]).toNat : Int) = ((b.data.toList[m]).toNat : Int) from fun hh => c1 (UInt8.toNat_inj.1 (by omega)))]
        refine Ev.bind hput ?_
        simp only [if_pos (show (m : Int) ≤ (b.data.toList.length : Int) by omega), Int.toNat_natCast, hcut]
        refine Ev.bind htxt ?_
        simp only [if_pos hpt, Option.bind_some, hlx.out, if_pos (show (0 : Int) ≤ ((X.length : Nat) : Int) by omega), hxl, if_pos (show ((X.length : Nat) : Int) < ((X.length + 1 : Nat) : Int) by omega), if_pos hal, Int.toNat_natCast, rd_end, hwv.out, set_end, w1.out]
        exact HR
    · rw [List.drop_eq_nil_of_le (show b.data.toList.length ≤ m by omega)] at hmn
      have hmn' : m = n := by simpa [shL] using hmn
      subst hmn'
      simp only [if_neg (show ¬ (m : Int) < (b.data.toList.length : Int) by omega)]
      refine Ev.bind hput ?_
      simp only [if_pos (show (0 : Int) ≤ (m : Int) by omega), if_pos (show (m : Int) ≤ (b.data.toList.length : Int) by omega), Int.toNat_natCast, hcut]
      refine Ev.bind htxt ?_
      simp only [if_pos hpt, Option.bind_some, hlx.out, if_pos (show (0 : Int) ≤ ((X.length : Nat) : Int) by omega), hxl, if_pos (show ((X.length : Nat) : Int) < ((X.length + 1 : Nat) : Int) by omega), if_pos hal, Int.toNat_natCast, rd_end, hwv.out, set_end, w1.out]
      exact HR
end
theorem sizes_may (k : Nat) (hk : 1 ≤ k) (l : List ByteArray) (hs : smallL l) (hb : fsum l + 4 * l.length ≤ 1000000000) : mayL (sizesL k l) = true ∧ (sizesL k l).length ≤ l.length := by
  have ha := allL_len k hk l hs
  refine ⟨?_, by unfold sizesL; rw [List.length_map]; exact chunks_len k hk l⟩
  unfold mayL sizesL
  rw [List.all_map]
  refine List.all_eq_true.2 (fun c hc => ?_)
  have h1 : (entL c).length ≤ (allL k l).length := by
    unfold allL
    rw [List.length_flatten, List.map_map]
    have hm : (entL c).length ∈ (chunks k l).map (List.length ∘ entL) := List.mem_map.2 ⟨c, hc, rfl⟩
    have key : ∀ (L : List Nat) (x : Nat), x ∈ L → x ≤ L.sum := fun L => by
      induction L with
      | nil => intro x hx; simp at hx
      | cons y t ih =>
        intro x hx
        rcases List.mem_cons.1 hx with rfl | hx
        · simp
        · have := ih x hx; simp; omega
    exact key _ _ hm
  simp only [Function.comp, Bool.and_eq_true, decide_eq_true_eq]
  omega
theorem rbuild_l (kb : Nat) (hk : 1 ≤ kb) (hk2 : kb ≤ 64) (l : List ByteArray) (hl : l.length ≤ 10000) (hs : smallL l) (hb : fsum l + 4 * l.length ≤ 1000000000) : ∀ (d i : Nat), i + d = l.length → Ev (fun k => hopperref13_Build.l0 k l (kb : Int) (SA kb l i).1 (SA kb l i).2 (i : Int)) (buildL kb l) := by
  intro d
  induction d with
  | zero =>
    intro i hi
    obtain rfl : i = l.length := by omega
    have hal := allL_len kb hk l hs
    have hm := sizes_may kb hk l hs hb
    have e : SA kb l l.length = (sizesL kb l, allL kb l) := by unfold SA; rw [List.take_length]
    have hv1 := vint_len l.length (by omega)
    have hv2 := vint_len kb (by omega)
    have hwl : (writeL (sizesL kb l)).length ≤ 100000000 := by
      unfold writeL
      have h1 := packB_len (sizesL kb l) (by omega) (wideL (sizesL kb l) 0) (wide_32 hm.1)
      have h2 := vint_len (sizesL kb l).length (by omega)
      simp only [List.length_append, List.length_cons, List.length_nil]
      omega
    rw [e]
    refine Ev.step (fun k => by rw [hopperref13_Build.l0]) ?_
    simp only [if_neg (show ¬ (l.length : Int) < (l.length : Int) by omega)]
    refine Ev.bind (rput l.length (by omega)) ?_
    refine Ev.bind (rput kb (by omega)) ?_
    simp only [if_pos (show (vint l.length).length + (vint kb).length < 140737488355328 by omega), Option.bind_some]
    refine Ev.bind (rwrite_f (sizesL kb l) (by omega) hm.1) ?_
    simp only [if_pos (show (vint l.length ++ vint kb).length + (writeL (sizesL kb l)).length < 140737488355328 by rw [List.length_append]; omega), Option.bind_some, if_pos (show (vint l.length ++ vint kb ++ writeL (sizesL kb l)).length + (allL kb l).length < 140737488355328 by rw [List.length_append, List.length_append]; omega)]
    exact Ev.now _
  | succ d ih =>
    intro i hi
    have hlt : i < l.length := by omega
    have ih := ih (i + 1) (by omega)
    have hsz : (at_ l i).size ≤ 4096 := hs _ (by rw [at_get l i hlt]; exact List.getElem_mem _)
    have w1 : Aside0 (wrap64 ((i : Int) + 1) = ((i + 1 : Nat) : Int)) := ⟨wr1 i (by omega)⟩
    have hAl : (SA kb l i).2.length ≤ 1000000000 := by
      have h1 := allL_len kb hk (l.take i) (small_take hs i)
      have h2 := fsum_take l i
      have h3 : (l.take i).length ≤ l.length := by rw [List.length_take]; omega
      show (allL kb (l.take i)).length ≤ _
      omega
    have hSl : (SA kb l i).1.length ≤ 10000 := by
      have h1 := chunks_len kb hk (l.take i)
      have h3 : (l.take i).length ≤ l.length := by rw [List.length_take]; omega
      show (sizesL kb (l.take i)).length ≤ _
      unfold sizesL
      rw [List.length_map]
      omega
    have hq : i = i / kb * kb + i % kb := by have := Nat.div_add_mod i kb; rw [Nat.mul_comm] at this; exact this.symm
    have htm : Int.tmod (i : Int) (kb : Int) = ((i % kb : Nat) : Int) := rfl
    refine Ev.step (fun k => by rw [hopperref13_Build.l0]) ?_
    simp only [if_pos (show (i : Int) < (l.length : Int) by omega), if_neg (show ¬ (kb : Int) = 0 by omega), htm]
    by_cases h0 : i % kb = 0
    · have hi2 : i / kb * kb = i := by omega
      have hnew := SA_new kb (i / kb) hk l (by omega)
      rw [hi2] at hnew
      rw [hnew] at ih
      have hvt := vint2 (at_ l i).size hsz
      have htl := textL_len (at_ l i)
      have hx : (at_ l i).extract 0 (at_ l i).size = at_ l i := by simp
      have hlx := Aside0.mk (last_ix (SA kb l i).1.length (by omega))
      have hwv : Aside0 (wrap64 (0 + (((textL (at_ l i)).length : Nat) : Int)) = ((textL (at_ l i)).length : Int)) := ⟨by rw [Int.zero_add]; exact wb _ (by omega)⟩
      have hxl : ((SA kb l i).1 ++ [0]).length = (SA kb l i).1.length + 1 := by simp
      simp only [h0, Int.natCast_zero, if_true, if_pos (show (SA kb l i).1.length < 17592186044416 by omega), Option.bind_some, if_pos (show (0 : Int) ≤ (i : Int) by omega), at_rd, if_pos (show (0 : Int) ≤ ((at_ l i).size : Int) by omega), hx]
      refine Ev.bind (rtext_f (at_ l i) (by omega)) ?_
      simp only [List.length_nil, Nat.zero_add, if_pos (show (textL (at_ l i)).length < 140737488355328 by omega), List.nil_append, Option.bind_some, hlx.out, if_pos (show (0 : Int) ≤ (((SA kb l i).1.length : Nat) : Int) by omega), hxl, if_pos (show (((SA kb l i).1.length : Nat) : Int) < (((SA kb l i).1.length + 1 : Nat) : Int) by omega), if_pos (show (SA kb l i).2.length + (textL (at_ l i)).length < 140737488355328 by omega), Int.toNat_natCast, rd_end, hwv.out, set_end, w1.out]
      exact ih
    · obtain ⟨X, v, hSA, hv, hnx⟩ := SA_more kb (i / kb) (i % kb) hk (by omega) (Nat.mod_lt _ (by omega)) l (by omega)
      rw [← hq] at hSA hv hnx
      have hS1 : (SA kb l i).1 = X ++ [(v : Int)] := by rw [hSA]
      have hi0 : 0 < i := by
        rcases Nat.eq_zero_or_pos i with h | h
        · subst h; simp at h0
        · exact h
      rw [hnx] at ih
      have hXl : X.length ≤ 100000 := by rw [hS1, List.length_append] at hSl; omega
      have hpz : (at_ l (i - 1)).size ≤ 4096 := hs _ (by rw [at_get l (i - 1) (by omega)]; exact List.getElem_mem _)
      simp only [if_neg (show ¬ ((i % kb : Nat) : Int) = 0 by omega)]
      rw [hS1]
      refine rb_tail kb l X _ v i (sh (at_ l (i - 1)) (at_ l i)) hl hXl (by omega) hAl hlt hi0 rfl hsz _ ih (at_ l (i - 1)).data.toList.length 0 (Nat.zero_add _) (Nat.zero_le _) (by rw [List.drop_zero, List.drop_zero, Nat.zero_add]; rfl) hpz
theorem rbuild_f (kb : Nat) (hk : 1 ≤ kb) (hk2 : kb ≤ 64) (l : List ByteArray) (hl : l.length ≤ 10000) (hs : smallL l) (hb : fsum l + 4 * l.length ≤ 1000000000) : Ev (fun k => hopperref13_Build.f k l (kb : Int)) (buildL kb l) := by
  have h := rbuild_l kb hk hk2 l hl hs hb l.length 0 (Nat.zero_add _)
  have e : SA kb l 0 = ([], []) := by
    have hc : chunks kb (l.take 0) = [] := by
      unfold chunks
      rw [List.take_zero, List.length_nil, Nat.div_eq_of_lt (show 0 + kb - 1 < kb by omega)]
      rfl
    unfold SA sizesL allL
    rw [hc]
    rfl
  rw [e] at h
  exact h
end Go.Proofs.Ytljhlpkoilapiaa.HP
end
section
/- Front, plain: what Open answers. -/
set_option linter.unusedVariables false
set_option linter.unusedSimpArgs false
namespace Go.Proofs.Ytljhlpkoilapiaa.HP
open Go.RowKit Go.Proofs.Ytljhlpkoilapiaa.P Go.Proofs.YtljhlpkoilapiaaW.PrintWords Go.Proofs.YtljhlpkoilapiaaW.PrintLast Go.Proofs.YtljhlpkoilapiaaW.PrintMore
/-- The blocks, one behind the other. -/
def LoopR (l : List Int) (n b : Nat) : List Int → Nat → List ByteArray → Nat → Int → Option (List ByteArray) → Nat → Int → Prop
  | [], _, acc, a, e, R, a', e' => R = some acc ∧ a' = a ∧ e' = e
  | s :: t, i, acc, a, e, R, a', e' => ∃ (r : List ByteArray) (a1 : Nat) (e1 : Int), Ev (fun k => front_taken.f k l (a : Int) e ((min b (n - i * b) : Nat) : Int) s) (r, (a1 : Int), e1) ∧ a1 ≤ l.length ∧ r.length ≤ 64 ∧
      ((e1 = 0 ∧ LoopR l n b t (i + 1) (acc ++ r) a1 0 R a' e') ∨ (e1 ≠ 0 ∧ R = none ∧ a' = a1 ∧ e' = e1))
theorem chunks_lens {α : Type} (b : Nat) (hb : 1 ≤ b) (l : List α) (j : Nat) (c : List α) (h : (chunks b l)[j]? = some c) : c.length = min b (l.length - j * b) := by
  unfold chunks at h
  rw [List.getElem?_map] at h
  obtain ⟨m, hm, rfl⟩ := Option.map_eq_some_iff.1 h
  obtain ⟨hj, rfl⟩ := List.getElem?_eq_some_iff.1 hm
  simp only [List.getElem_range]
  rw [List.length_take, List.length_drop]
theorem chunks_count {α : Type} (b : Nat) (l : List α) : (chunks b l).length = (l.length + b - 1) / b := by unfold chunks; simp
section
variable (l : List Int) (hb : isBy l) (hl : l.length ≤ 1000000) (n b : Nat) (hb1 : 1 ≤ b) (hb2 : b ≤ 64)
include hb hl hb1 hb2
theorem loop_total : ∀ (t : List Int) (i : Nat) (acc : List ByteArray) (a : Nat) (e : Int), i + t.length = (n + b - 1) / b → a ≤ l.length → ∃ R a' e', LoopR l n b t i acc a e R a' e' ∧ a' ≤ l.length
  | [], i, acc, a, e, _, ha => ⟨some acc, a, e, ⟨rfl, rfl, rfl⟩, ha⟩
  | s :: t, i, acc, a, e, hi, ha => by
    simp only [List.length_cons] at hi
    have hin : i * b < n := (ceil_lt hb1).1 (by omega)
    have hm1 : 1 ≤ min b (n - i * b) := by omega
    by_cases he : e = 0
    · subst he
      obtain ⟨r, a1, e1, hev, ha1, hrl, _⟩ := block_any l hb hl a ha (min b (n - i * b)) hm1 (by omega) s
      by_cases h1 : e1 = 0
      · obtain ⟨R, a', e', hr, ha'⟩ := loop_total t (i + 1) (acc ++ r) a1 0 (by omega) ha1
        exact ⟨R, a', e', ⟨r, a1, e1, hev, ha1, hrl, .inl ⟨h1, hr⟩⟩, ha'⟩
      · exact ⟨none, a1, e1, ⟨r, a1, e1, hev, ha1, hrl, .inr ⟨h1, rfl, rfl, rfl⟩⟩, ha1⟩
    · obtain ⟨r, hev, hrl⟩ := block_err l hl a ha e he (min b (n - i * b)) hm1 (by omega) s
      exact ⟨none, a, e, ⟨r, a, e, hev, ha, hrl, .inr ⟨he, rfl, rfl, rfl⟩⟩, ha⟩
omit hb in
theorem loop_at (rest : List Int) : ∀ (cs : List (List ByteArray)) (i : Nat) (acc : List ByteArray) (a : Nat) (R : Option (List ByteArray)) (a' : Nat) (e' : Int), a ≤ l.length → (∀ c ∈ cs, c ≠ [] ∧ smallL c) → (∀ j c, cs[j]? = some c → c.length = min b (n - (i + j) * b)) → l.drop a = (cs.map entL).flatten ++ rest →
    LoopR l n b (cs.map (fun c => ((entL c).length : Int))) i acc a 0 R a' e' → R = some (acc ++ cs.flatten) ∧ a' = a + ((cs.map entL).flatten).length ∧ e' = 0
  | [], i, acc, a, R, a', e', _, _, _, _, ⟨h1, h2, h3⟩ => by subst h1 h2 h3; simp
  | c :: cs, i, acc, a, R, a', e', ha, hc, hlen, hd, ⟨r, a1, e1, hev, ha1, hrl, hrest⟩ => by
    have h0 := hlen 0 c rfl
    rw [Nat.add_zero] at h0
    have hcc := hc c (by simp)
    rw [List.map_cons, List.flatten_cons, List.append_assoc] at hd
    have h9 := block_at l hl c hcc.1 (by omega) hcc.2 a _ ha hd
    rw [← h0] at hev
    have h9 := Ev.uniq hev h9
    simp only [Prod.mk.injEq] at h9
    obtain ⟨q1, q2, q3⟩ := h9
    have q2 : a1 = a + (entL c).length := by omega
    subst q1 q2 q3
    rcases hrest with ⟨_, hr⟩ | ⟨h, _⟩
    · have hd2 : l.drop (a + (entL r).length) = (cs.map entL).flatten ++ rest := by rw [← List.drop_drop, hd, List.drop_left]
      obtain ⟨k1, k2, k3⟩ := loop_at rest cs (i + 1) (acc ++ r) (a + (entL r).length) R a' e' ha1 (fun x hx => hc x (List.mem_cons_of_mem _ hx)) (fun j x hx => by
        have := hlen (j + 1) x (by simpa using hx)
        rw [this, show i + 1 + j = i + (j + 1) by omega]) hd2 hr
      refine ⟨by rw [k1, List.flatten_cons, List.append_assoc], by rw [k2, List.map_cons, List.flatten_cons, List.length_append]; omega, k3⟩
    · exact absurd rfl h
end
/-- What Open answers at a place: a dictionary's strings, the place behind, the error. -/
def OpenR (l : List Int) (a : Nat) (d : List ByteArray) (a' : Nat) (e' : Int) : Prop :=
  ∃ (n b a1 a2 : Nat) (e1 e2 : Int) (sz : List Int) (a3 : Nat) (e3 : Int), cursor_Cursor_Most.f l (a : Int) 0 4096 = some ((n : Int), (a1 : Int), e1) ∧ cursor_Cursor_Most.f l (a1 : Int) e1 64 = some ((b : Int), (a2 : Int), e2) ∧ Ev (fun k => pack_Read.f k l (a2 : Int) e2 4096) (sz, (a3 : Int), e3) ∧ n ≤ 4096 ∧ b ≤ 64 ∧ a3 ≤ l.length ∧
    (((b = 0 ∨ sz.length ≠ (n + b - 1) / b) ∧ d = [] ∧ a' = a3 ∧ e' = if e3 = 0 then 3 else e3) ∨
     (¬ (b = 0 ∨ sz.length ≠ (n + b - 1) / b) ∧ ∃ (R : Option (List ByteArray)) (a4 : Nat) (e4 : Int), LoopR l n b sz 0 [] a3 e3 R a4 e4 ∧ a4 ≤ l.length ∧
        ((R = none ∧ d = [] ∧ a' = a4 ∧ e' = e4) ∨ ∃ acc, R = some acc ∧ a' = a4 ∧ (e' = if rightL acc (b : Int) = true then e4 else if e4 = 0 then 3 else e4) ∧ d = if e' = 0 then acc else [])))
section
variable (l : List Int) (hb : isBy l) (hl : l.length ≤ 1000000)
include hb hl
theorem most_tot (a : Nat) (ha : a ≤ l.length) (e : Int) (m : Nat) : ∃ (n a1 : Nat) (e1 : Int), n ≤ m ∧ a1 ≤ l.length ∧ cursor_Cursor_Most.f l (a : Int) e (m : Int) = some ((n : Int), (a1 : Int), e1) := by
  by_cases he : e = 0
  · subst he
    rcases most_any l hb hl a m ha with ⟨n, hm, _, _, hle, hf⟩ | ⟨e, _, hf⟩
    · exact ⟨n, _, 0, hm, hle, hf⟩
    · exact ⟨0, a, e, Nat.zero_le _, ha, hf⟩
  · exact ⟨0, a, e, Nat.zero_le _, ha, most_err l (a : Int) e (m : Int) he (Int.natCast_nonneg _)⟩
theorem open_total (a : Nat) (ha : a ≤ l.length) : ∃ d a' e', OpenR l a d a' e' ∧ a' ≤ l.length := by
  obtain ⟨n, a1, e1, hn, ha1, h1⟩ := most_tot l hb hl a ha 0 4096
  obtain ⟨b, a2, e2, hb2, ha2, h2⟩ := most_tot l hb hl a1 ha1 e1 64
  obtain ⟨sz, a3, e3, h3, ha3⟩ : ∃ (sz : List Int) (a3 : Nat) (e3 : Int), Ev (fun k => pack_Read.f k l (a2 : Int) e2 4096) (sz, (a3 : Int), e3) ∧ a3 ≤ l.length := by
    by_cases he : e2 = 0
    · subst he
      obtain ⟨r, a', e', h, ha', _⟩ := read_any l hb hl a2 ha2
      exact ⟨r, a', e', h, ha'⟩
    · obtain ⟨r, h⟩ := read_err l (a2 : Int) e2 he
      exact ⟨r, a2, e2, h, ha2⟩
  by_cases hc : b = 0 ∨ sz.length ≠ (n + b - 1) / b
  · exact ⟨[], a3, _, ⟨n, b, a1, a2, e1, e2, sz, a3, e3, h1, h2, h3, hn, hb2, ha3, .inl ⟨hc, rfl, rfl, rfl⟩⟩, ha3⟩
  · have hc' : b ≠ 0 ∧ sz.length = (n + b - 1) / b := ⟨fun h => hc (.inl h), Decidable.byContradiction (fun h => hc (.inr h))⟩
    obtain ⟨R, a4, e4, hr, ha4⟩ := loop_total l hb hl n b (by omega) hb2 sz 0 [] a3 e3 (by omega) ha3
    cases R with
    | none => exact ⟨[], a4, e4, ⟨n, b, a1, a2, e1, e2, sz, a3, e3, h1, h2, h3, hn, hb2, ha3, .inr ⟨hc, none, a4, e4, hr, ha4, .inl ⟨rfl, rfl, rfl, rfl⟩⟩⟩, ha4⟩
    | some acc => exact ⟨_, a4, _, ⟨n, b, a1, a2, e1, e2, sz, a3, e3, h1, h2, h3, hn, hb2, ha3, .inr ⟨hc, some acc, a4, e4, hr, ha4, .inr ⟨acc, rfl, rfl, rfl, rfl⟩⟩⟩, ha4⟩
omit hb in
/-- What is built is answered. -/
theorem open_at (t : List ByteArray) (b : Nat) (hright : rightL t (b : Int) = true) (hbound : fsum t + 4 * t.length ≤ 1000000000) (a : Nat) (ha : a ≤ l.length) (rest : List Int) (hd : l.drop a = buildL b t ++ rest) (d : List ByteArray) (a' : Nat) (e' : Int) (h : OpenR l a d a' e') : d = t ∧ a' = a + (buildL b t).length ∧ e' = 0 := by
  obtain ⟨n, b', a1, a2, e1, e2, sz, a3, e3, h1, h2, h3, hn, hb2, ha3, hc⟩ := h
  have hr2 := hright
  unfold rightL at hr2
  simp only [Bool.and_eq_true, decide_eq_true_eq] at hr2
  obtain ⟨⟨hb1, hb64, htl⟩, hok⟩ := hr2
  have hsm : smallL t := fun s hs => by
    obtain ⟨i, hi, rfl⟩ := List.getElem_of_mem hs
    have := (okL_at hok i hi).1
    rwa [at_get t i hi] at this
  have hmay := sizes_may b (by omega) t hsm hbound
  unfold buildL at hd
  simp only [List.append_assoc] at hd
  have g1 := most_at l a t.length 4096 _ (by omega) htl hl hd
  have h9 := h1.symm.trans g1
  simp only [Option.some.injEq, Prod.mk.injEq] at h9
  obtain ⟨q1, q2, q3⟩ := h9
  have q1 : n = t.length := by omega
  have q2 : a1 = a + (vint t.length).length := by omega
  subst q1 q2 q3
  have hlen : l.length - a = (buildL b t).length + rest.length := by
    have := congrArg List.length hd
    rw [List.length_drop] at this
    unfold buildL
    simp only [List.length_append] at this ⊢
    omega
  have hbl : (buildL b t).length = (vint t.length).length + (vint b).length + (writeL (sizesL b t)).length + (allL b t).length := by unfold buildL; simp only [List.length_append]
  have hd2 : l.drop (a + (vint t.length).length) = vint b ++ (writeL (sizesL b t) ++ (allL b t ++ rest)) := by rw [← List.drop_drop, hd, List.drop_left]
  have g2 := most_at l (a + (vint t.length).length) b 64 _ (by omega) (by omega) hl hd2
  have h9 := h2.symm.trans g2
  simp only [Option.some.injEq, Prod.mk.injEq] at h9
  obtain ⟨q1, q2, q3⟩ := h9
  have q1 : b' = b := by omega
  have q2 : a2 = a + (vint t.length).length + (vint b).length := by omega
  subst q1 q2 q3
  have hd3 : l.drop (a + (vint t.length).length + (vint b').length) = writeL (sizesL b' t) ++ (allL b' t ++ rest) := by rw [← List.drop_drop, hd2, List.drop_left]
  have g3 := read_at l hl (sizesL b' t) hmay.1 (by omega) (a + (vint t.length).length + (vint b').length) _ (by omega) hd3
  have h9 := Ev.uniq h3 g3
  simp only [Prod.mk.injEq] at h9
  obtain ⟨q1, q2, q3⟩ := h9
  have q2 : a3 = a + (vint t.length).length + (vint b').length + (writeL (sizesL b' t)).length := by omega
  subst q1 q2 q3
  have hszl : (sizesL b' t).length = (t.length + b' - 1) / b' := by unfold sizesL; rw [List.length_map, chunks_count]
  rcases hc with ⟨hc, _⟩ | ⟨_, R, a4, e4, hr, ha4, hR⟩
  · rcases hc with h | h
    · omega
    · exact absurd hszl h
  · have hd4 : l.drop (a + (vint t.length).length + (vint b').length + (writeL (sizesL b' t)).length) = ((chunks b' t).map entL).flatten ++ rest := by rw [← List.drop_drop, hd3, List.drop_left]; rfl
    have hfl := chunks_flat b' (by omega) t
    obtain ⟨k1, k2, k3⟩ := loop_at l hl t.length b' (by omega) hb2 rest (chunks b' t) 0 [] _ R a4 e4 ha3 (fun c hc => ⟨chunks_ne (by omega) hc, fun s hs => hsm s (chunks_sub (by omega) hc s hs)⟩) (fun j c hj => by rw [Nat.zero_add]; exact chunks_lens b' (by omega) t j c hj) hd4 hr
    rw [List.nil_append, hfl] at k1
    rw [k1] at hR
    rcases hR with ⟨h, _⟩ | ⟨acc, h, rfl, he, hd⟩
    · cases h
    · have h : t = acc := Option.some.inj h
      subst h
      rw [if_pos hright, k3] at he
      rw [he, if_pos rfl] at hd
      refine ⟨hd, ?_, he⟩
      rw [k2, hbl]
      show _ = _
      unfold allL
      omega
end
end Go.Proofs.Ytljhlpkoilapiaa.HP
end
section
/- front.Open, walked. -/
set_option linter.unusedVariables false
set_option linter.unusedSimpArgs false
namespace Go.Proofs.Ytljhlpkoilapiaa.HW
open Go.RowKit Go.Proofs.Ytljhlpkoilapiaa.P Go.Proofs.Ytljhlpkoilapiaa.HP Go.Proofs.YtljhlpkoilapiaaW.PrintWords Go.Proofs.YtljhlpkoilapiaaW.PrintLast Go.Proofs.YtljhlpkoilapiaaW.PrintMore
attribute [local go_sem] max2_int min2_int max_two min_two max_three min_three max_four min_four
theorem blk_lt {W : World} {g : Nat} {o : Obj} (h : W.heap[g]? = some o) : g < W.heap.size := (Array.getElem?_eq_some_iff.1 h).1
theorem blk_new (W : World) (o : Obj) : (W.alloc o).heap[W.heap.size]? = some o := by simpa using heap_alloc_new W o
theorem blk_cell {W : World} {g : Nat} {cs : Array Value} {t : TypeId} (h : W.heap[g]? = some (.cells cs t (0, 0))) (j : Nat) : W.cell? ⟨g, j, none⟩ = cs[j]? := by unfold World.cell?; simp [h]
theorem below_size {B : Nat} {w w' : World} (h : Below B w w') : w.heap.size ≤ w'.heap.size := h.size
section
variable {lo : Nat} {w : World} {g : Nat} {l : List Int} {i e : Int}
theorem Cur.read {n : Int} {r : List Int} {i' e' : Int} (k : Nat) (h : Cur lo w g l i e) (hf : pack_Read.f k l i e n = some (r, i', e')) :
    Calls Try.prog 37 #[.pointer (some ⟨g, 0, none⟩), .int .i64 n] w fun en w' => ∃ v : Value, en = .returned v ∧ Kd.R (Kd.int .i64) 3 w' w.heap.size (fun _ => True) v r ∧ Cur lo w' g l i' e' ∧ KeepBut w w' g none ∧ Below lo w w' := by
  refine (pack_Read.calls k g l i e n r i' e' (trw w g lo) w h.isS h.trb hf).mono ?_
  rintro en w' ⟨v, rfl, ho, hi, hb, hk⟩
  exact ⟨v, rfl, ho, h.back hk hi, hk, ⟨hb.os, hb.tape, hb.output, hk.1, fun k hk2 => hk.2 k (by have := h.lt; have := h.ge; omega) (by have := h.ge; omega) (by simp)⟩⟩
theorem Cur.taken {n m : Int} {r : List ByteArray} {i' e' : Int} (k : Nat) (h : Cur lo w g l i e) (hf : front_taken.f k l i e n m = some (r, i', e')) :
    Calls Try.prog 39 #[.pointer (some ⟨g, 0, none⟩), .int .i64 n, .int .i64 m] w fun en w' => ∃ v : Value, en = .returned v ∧ Kd.R Kd.string 9 w' w.heap.size (fun _ => True) v r ∧ Cur lo w' g l i' e' ∧ KeepBut w w' g none ∧ Below lo w w' := by
  refine (front_taken.calls k g l i e n m r i' e' (trw w g lo) w h.isS h.trb hf).mono ?_
  rintro en w' ⟨v, rfl, ho, hi, hb, hk⟩
  exact ⟨v, rfl, ho, h.back hk hi, hk, ⟨hb.os, hb.tape, hb.output, hk.1, fun k hk2 => hk.2 k (by have := h.lt; have := h.ge; omega) (by have := h.ge; omega) (by simp)⟩⟩
end
/-- A dictionary of these strings, at block q. -/
def DictP (lo : Nat) (w : World) (q : Nat) (d : List ByteArray) : Prop := ∃ (A : Option Addr) (c : Nat), w.heap[q]? = some (.cells #[.slice A d.length c] 64 (0, 0)) ∧ d.length ≤ c ∧ Kd.C Kd.string w A d.length d ∧ lo ≤ q ∧ (0 < d.length → ∀ ad, A = some ad → lo ≤ ad.block)
theorem DictP.below {lo : Nat} {w w' : World} {q : Nat} {d : List ByteArray} (h : DictP lo w q d) (hb : Below w.heap.size w w') : DictP lo w' q d := by
  obtain ⟨A, c, hq, hc, hr, h1, h2⟩ := h
  exact ⟨A, c, (hb.block _ (blk_lt hq)).trans hq, hc, Kd.C_below hr hb, h1, h2⟩
theorem DictP.keep {lo g : Nat} {w w' : World} {q : Nat} {d : List ByteArray} (h : DictP lo w q d) (hk : KeepBut w w' g none) (hg : g < lo) : DictP lo w' q d := by
  obtain ⟨A, c, hq, hc, hr, h1, h2⟩ := h
  exact ⟨A, c, (hk.2 q (blk_lt hq) (by omega) (by simp)).trans hq, hc, Kd.C_keep ByteArray.empty hr hk (fun ad e hn => by have := h2 hn ad e; omega), h1, h2⟩
theorem R_but {α : Type} {enc : α → Value} {h1 : ∀ x, (enc x).oneCell' = true} {e b0 g : Nat} {w w' : World} {v : Value} {xs : List α} (h : (Kd.scalar enc h1).R e w b0 (fun _ => True) v xs) (hk : KeepBut w w' g none) (hg : g < b0) : (Kd.scalar enc h1).R e w' b0 (fun _ => True) v xs :=
  Kd.R_mono (Kd.R_step (Kd.R_tight rfl h) (fun k hk' hlt => hk.2 k hlt (by have := Kd.R_base h k hk'.symm; omega) (by simp))) (fun _ _ => trivial)
theorem infoS : (Try.prog.info? 9).map (fun i => (i.zero, i.size, i.bytes)) = some (some (.string ⟨#[]⟩), 1, 16) := by kernel_rfl
theorem loop_nil {l : List Int} {n b i : Nat} {acc : List ByteArray} {a : Nat} {e : Int} {R : Option (List ByteArray)} {a' : Nat} {e' : Int} (h : LoopR l n b [] i acc a e R a' e') : R = some acc ∧ a' = a ∧ e' = e := h
theorem below_alloc_lo {lo : Nat} {w w' : World} {o : Obj} (h : Below lo w w') (hl : lo ≤ w'.heap.size) : Below lo w (w'.alloc o) := h.trans ((below_alloc (Below.refl _ w') o).mono hl)
set_option maxHeartbeats 8000000 in
set_option maxRecDepth 100000 in
theorem Open_zero {lo g a : Nat} {l : List Int} (w : World) (hc : Cur lo w g l (a : Int) 0) (n b a1 a2 : Nat) (e1 e2 : Int) (sz : List Int) (a3 : Nat) (e3 : Int) (k3 : Nat) (h1 : cursor_Cursor_Most.f l (a : Int) 0 4096 = some ((n : Int), (a1 : Int), e1)) (h2 : cursor_Cursor_Most.f l (a1 : Int) e1 64 = some ((b : Int), (a2 : Int), e2)) (h3 : pack_Read.f k3 l (a2 : Int) e2 4096 = some (sz, (a3 : Int), e3)) (hn : n ≤ 4096) (hb2 : b ≤ 64) (e' : Int) (he : e' = if e3 = 0 then 3 else e3) (hz : b = 0) :
    Calls Try.prog 15 #[.pointer (some ⟨g, 0, none⟩)] w fun en w' => ∃ q : Nat, en = .returned (.pointer (some ⟨q, 0, none⟩)) ∧ w.heap.size ≤ q ∧ DictP w.heap.size w' q [] ∧ Cur lo w' g l (a3 : Int) e' ∧ KeepBut w w' g none ∧ Below lo w w' := by
  subst hz
  have HC := Aside0.mk hc
  have HG := Aside0.mk (And.intro hc.ge hc.lt)
  have H1 := Aside0.mk h1
  have H2 := Aside0.mk h2
  have H3 := Aside0.mk h3
  have HE' := Aside0.mk he
  clear he hc h1 h2 h3 hn hb2
  go_enter Try.func15, Try.ntmps15
  go_wp2_with fail
  refine (Cur.most HC.out H1.out).mono ?_
  rintro e w1 ⟨rfl, hc1, hk1, hb1⟩
  have HC1 := Aside0.mk hc1
  have HK1 := Aside0.mk hk1
  have HB1 := Aside0.mk hb1
  clear HC H1 hc1 hk1 hb1
  go_wp2_with fail
  refine (Cur.most HC1.out H2.out).mono ?_
  rintro e w2 ⟨rfl, hc2, hk2, hb2⟩
  have HC2 := Aside0.mk hc2
  have HK2 := Aside0.mk (HK1.out.trans hk2 (.inl rfl))
  have HB2 := Aside0.mk (HB1.out.trans hb2)
  clear HC1 HK1 HB1 H2 hc2 hk2 hb2
  go_wp2_with fail
  refine (Cur.read k3 HC2.out H3.out).mono ?_
  rintro e w3 ⟨v3, rfl, ho3, hc3, hk3, hb3⟩
  obtain ⟨A3, c3, rfl, hl3, hr3⟩ := Kd.R_reads ho3
  have HC3 := Aside0.mk hc3
  have HK3 := Aside0.mk (HK2.out.trans hk3 (.inl rfl))
  have HB3 := Aside0.mk (HB2.out.trans hb3)
  have HO3 := Aside0.mk (Kd.R_lower ho3 HK2.out.1)
  clear HC2 HK2 HB2 H3 hc3 hk3 hb3 ho3 hl3 hr3
  go_wp2_with fail
  refine (Cur.fail HC3.out (i' := (a3 : Int)) (e' := e') (by rw [HE'.out]; unfold cursor_Cursor_Fail.f; by_cases h : e3 = 0 <;> simp [h])).mono ?_
  rintro e w4 ⟨rfl, hc4, hk4, hb4⟩
  have HC4 := Aside0.mk hc4
  have HK4 := Aside0.mk (HK3.out.trans hk4 (.inl rfl))
  have HB4 := Aside0.mk (HB3.out.trans hb4)
  clear HC3 HK3 HB3 hc4 hk4 hb4
  go_wp2_with fail
  go_ret
  exact ⟨_, rfl, HK4.out.1, ⟨none, 0, blk_new _ _, Nat.le_refl _, Kd.C_of_reads (h1 := fun _ => rfl) (d := ByteArray.empty) ⟨rfl, by simp, fun h => by simp at h⟩, HK4.out.1, fun h => by simp at h⟩, HC4.out.below (below_alloc (Below.refl _ _) _), keep_alloc HK4.out _, below_alloc_lo HB4.out (Nat.le_trans HG.out.1 (Nat.le_trans (Nat.le_of_lt HG.out.2) HK4.out.1))⟩
set_option maxHeartbeats 8000000 in
set_option maxRecDepth 100000 in
theorem Open_odd {lo g a : Nat} {l : List Int} (w : World) (hc : Cur lo w g l (a : Int) 0) (n b a1 a2 : Nat) (e1 e2 : Int) (sz : List Int) (a3 : Nat) (e3 : Int) (k3 : Nat) (h1 : cursor_Cursor_Most.f l (a : Int) 0 4096 = some ((n : Int), (a1 : Int), e1)) (h2 : cursor_Cursor_Most.f l (a1 : Int) e1 64 = some ((b : Int), (a2 : Int), e2)) (h3 : pack_Read.f k3 l (a2 : Int) e2 4096 = some (sz, (a3 : Int), e3)) (hn : n ≤ 4096) (hb2 : b ≤ 64) (e' : Int) (he : e' = if e3 = 0 then 3 else e3) (hz : b ≠ 0) (hs : sz.length ≠ (n + b - 1) / b) :
    Calls Try.prog 15 #[.pointer (some ⟨g, 0, none⟩)] w fun en w' => ∃ q : Nat, en = .returned (.pointer (some ⟨q, 0, none⟩)) ∧ w.heap.size ≤ q ∧ DictP w.heap.size w' q [] ∧ Cur lo w' g l (a3 : Int) e' ∧ KeepBut w w' g none ∧ Below lo w w' := by
  have HC := Aside0.mk hc
  have HG := Aside0.mk (And.intro hc.ge hc.lt)
  have H1 := Aside0.mk h1
  have H2 := Aside0.mk h2
  have H3 := Aside0.mk h3
  have hq0 : wrap64 ((n : Int) + (b : Int)) = ((n + b : Nat) : Int) := by rw [← Int.natCast_add]; exact wb _ (by omega)
  have hq1 : wrap64 ((n : Int) + (b : Int) - 1) = ((n + b - 1 : Nat) : Int) := by rw [show (n : Int) + (b : Int) - 1 = ((n + b - 1 : Nat) : Int) by omega]; exact wb _ (by omega)
  have hq2 : wrap64 (Int.tdiv ((n + b - 1 : Nat) : Int) (b : Int)) = (((n + b - 1) / b : Nat) : Int) := by
    have h9 : Int.tdiv ((n + b - 1 : Nat) : Int) (b : Int) = (((n + b - 1) / b : Nat) : Int) := rfl
    rw [h9]
    refine wb _ ?_
    have : (n + b - 1) / b ≤ n + b - 1 := Nat.div_le_self _ _
    omega
  have hq3 : wrap64 (((n + b - 1 : Nat) : Int) / (b : Int)) = (((n + b - 1) / b : Nat) : Int) := by
    have h9 : ((n + b - 1 : Nat) : Int) / (b : Int) = (((n + b - 1) / b : Nat) : Int) := rfl
    rw [h9]
    refine wb _ ?_
    have : (n + b - 1) / b ≤ n + b - 1 := Nat.div_le_self _ _
    omega
  have HQ := Aside0.mk (And.intro hq0 (And.intro hq1 (And.intro hq2 hq3)))
  have tb0 : ((b : Int) == 0) = false := by simp; omega
  have tb1 : ((b : Int) = 0) = False := eq_false (by omega)
  have tb2 : (b = 0) = False := eq_false (by omega)
  clear hq0 hq1 hq2 hq3
  obtain ⟨M, hM⟩ : ∃ M, M = (n + b - 1) / b := ⟨_, rfl⟩
  rw [← hM] at HQ hs
  have ts0 : ((sz.length : Int) != (M : Int)) = true := by simp; omega
  have ts1 : ((sz.length : Int) == (M : Int)) = false := by simp; omega
  have ts2 : (sz.length == M) = false := by simp; omega
  have ts3 : decide (sz.length = M) = false := decide_eq_false hs
  have HE' := Aside0.mk he
  clear he hc h1 h2 h3 hn hb2 hz hs hM
  go_enter Try.func15, Try.ntmps15
  go_wp2_with fail
  refine (Cur.most HC.out H1.out).mono ?_
  rintro e w1 ⟨rfl, hc1, hk1, hb1⟩
  have HC1 := Aside0.mk hc1
  have HK1 := Aside0.mk hk1
  have HB1 := Aside0.mk hb1
  clear HC H1 hc1 hk1 hb1
  go_wp2_with fail
  refine (Cur.most HC1.out H2.out).mono ?_
  rintro e w2 ⟨rfl, hc2, hk2, hb2⟩
  have HC2 := Aside0.mk hc2
  have HK2 := Aside0.mk (HK1.out.trans hk2 (.inl rfl))
  have HB2 := Aside0.mk (HB1.out.trans hb2)
  clear HC1 HK1 HB1 H2 hc2 hk2 hb2
  go_wp2_with fail
  refine (Cur.read k3 HC2.out H3.out).mono ?_
  rintro e w3 ⟨v3, rfl, ho3, hc3, hk3, hb3⟩
  obtain ⟨A3, c3, rfl, hl3, hr3⟩ := Kd.R_reads ho3
  have HC3 := Aside0.mk hc3
  have HK3 := Aside0.mk (HK2.out.trans hk3 (.inl rfl))
  have HB3 := Aside0.mk (HB2.out.trans hb3)
  have HO3 := Aside0.mk (Kd.R_lower ho3 HK2.out.1)
  clear HC2 HK2 HB2 H3 hc3 hk3 hb3 ho3 hl3 hr3
  obtain ⟨hq0, hq1, hq2, hq3⟩ := HQ.out
  go_wp2_with fail
  refine (Cur.fail HC3.out (i' := (a3 : Int)) (e' := e') (by rw [HE'.out]; unfold cursor_Cursor_Fail.f; by_cases h : e3 = 0 <;> simp [h])).mono ?_
  rintro e w4 ⟨rfl, hc4, hk4, hb4⟩
  have HC4 := Aside0.mk hc4
  have HK4 := Aside0.mk (HK3.out.trans hk4 (.inl rfl))
  have HB4 := Aside0.mk (HB3.out.trans hb4)
  clear HC3 HK3 HB3 hc4 hk4 hb4
  go_wp2_with fail
  go_ret
  exact ⟨_, rfl, HK4.out.1, ⟨none, 0, blk_new _ _, Nat.le_refl _, Kd.C_of_reads (h1 := fun _ => rfl) (d := ByteArray.empty) ⟨rfl, by simp, fun h => by simp at h⟩, HK4.out.1, fun h => by simp at h⟩, HC4.out.below (below_alloc (Below.refl _ _) _), keep_alloc HK4.out _, below_alloc_lo HB4.out (Nat.le_trans HG.out.1 (Nat.le_trans (Nat.le_of_lt HG.out.2) HK4.out.1))⟩
theorem own_typed_ {w : World} {base e size n : Nat} {v : Value} {xs : List Value} (h : w.ownsRow base e size v n xs) (k : Nat) (hk : v.ownBlock = some k) : ∃ cells, w.heap[k]? = some (.cells cells e (0, 0)) := by
  rcases h.2 with ⟨rfl, _⟩ | ⟨g, cap, cur, rfl, _, hgb, _⟩
  · simp [Value.ownBlock] at hk
  · obtain rfl : g = k := by simpa [Value.ownBlock] using hk
    exact ⟨cur, hgb⟩
theorem R_apart {α β : Type} {enc : α → Value} {h1 : ∀ x, (enc x).oneCell' = true} {enc2 : β → Value} {h12 : ∀ x, (enc2 x).oneCell' = true} {e e2 b1 b2 : Nat} {W W' : World} {v u : Value} {xs : List α} {ys : List β}
    (h : (Kd.scalar enc h1).R e W b1 (fun _ => True) v xs) (h2 : (Kd.scalar enc2 h12).R e2 W b2 (fun _ => True) u ys) (ht : e ≠ e2) (hg : W.grownBy W' u.ownBlock) : (Kd.scalar enc h1).R e W' b1 (fun _ => True) v xs :=
  Kd.R_mono (Kd.R_step (Kd.R_tight rfl h) (fun k hk hlt => hg.block k hlt (fun e3 => by
    obtain ⟨c1, q1⟩ := own_typed_ (Kd.own_of_R h) k hk.symm
    obtain ⟨c2, q2⟩ := own_typed_ (Kd.own_of_R h2) k e3.symm
    rw [q1] at q2
    injection q2 with q2
    injection q2 with _ q2 _
    exact ht q2))) (fun _ _ => trivial)
theorem keep_below {w W W' : World} {g : Nat} (h : KeepBut w W g none) (hb : Below w.heap.size W W') : KeepBut w W' g none := ⟨Nat.le_trans h.1 hb.size, fun i hi hg hr => (hb.block i hi).trans (h.2 i hi hg hr)⟩
theorem wmul (i b : Nat) (hi : i ≤ 100000) (hb : b ≤ 100) : wrap64 ((i : Int) * (b : Int)) = ((i * b : Nat) : Int) := by
  rw [← Int.natCast_mul]
  have : i * b ≤ 100000 * 100 := Nat.mul_le_mul hi hb
  exact wb _ (by omega)
set_option maxHeartbeats 8000000 in
set_option maxRecDepth 100000 in
theorem Open_run {lo g a : Nat} {l : List Int} (w : World) (hc : Cur lo w g l (a : Int) 0) (n b a1 a2 : Nat) (e1 e2 : Int) (sz : List Int) (a3 : Nat) (e3 : Int) (k3 : Nat) (h1 : cursor_Cursor_Most.f l (a : Int) 0 4096 = some ((n : Int), (a1 : Int), e1)) (h2 : cursor_Cursor_Most.f l (a1 : Int) e1 64 = some ((b : Int), (a2 : Int), e2)) (h3 : pack_Read.f k3 l (a2 : Int) e2 4096 = some (sz, (a3 : Int), e3)) (hn : n ≤ 4096) (hb2 : b ≤ 64) (e' : Int) (d : List ByteArray) (R : Option (List ByteArray)) (a4 : Nat) (e4 : Int) (hz : b ≠ 0) (hs : sz.length = (n + b - 1) / b) (hloop : LoopR l n b sz 0 [] a3 e3 R a4 e4) (hR : (R = none ∧ d = [] ∧ e' = e4) ∨ ∃ acc, R = some acc ∧ (e' = if rightL acc (b : Int) = true then e4 else if e4 = 0 then 3 else e4) ∧ d = if e' = 0 then acc else []) :
    Calls Try.prog 15 #[.pointer (some ⟨g, 0, none⟩)] w fun en w' => ∃ q : Nat, en = .returned (.pointer (some ⟨q, 0, none⟩)) ∧ w.heap.size ≤ q ∧ DictP w.heap.size w' q d ∧ Cur lo w' g l (a4 : Int) e' ∧ KeepBut w w' g none ∧ Below lo w w' := by
  have HC := Aside0.mk hc
  have HG := Aside0.mk (And.intro hc.ge hc.lt)
  have H1 := Aside0.mk h1
  have H2 := Aside0.mk h2
  have H3 := Aside0.mk h3
  have HLP := Aside0.mk hloop
  have HRR := Aside0.mk hR
  clear hloop hR
  have hq0 : wrap64 ((n : Int) + (b : Int)) = ((n + b : Nat) : Int) := by rw [← Int.natCast_add]; exact wb _ (by omega)
  have hq1 : wrap64 ((n : Int) + (b : Int) - 1) = ((n + b - 1 : Nat) : Int) := by rw [show (n : Int) + (b : Int) - 1 = ((n + b - 1 : Nat) : Int) by omega]; exact wb _ (by omega)
  have hq2 : wrap64 (Int.tdiv ((n + b - 1 : Nat) : Int) (b : Int)) = (((n + b - 1) / b : Nat) : Int) := by
    have h9 : Int.tdiv ((n + b - 1 : Nat) : Int) (b : Int) = (((n + b - 1) / b : Nat) : Int) := rfl
    rw [h9]
    refine wb _ ?_
    have : (n + b - 1) / b ≤ n + b - 1 := Nat.div_le_self _ _
    omega
  have hq3 : wrap64 (((n + b - 1 : Nat) : Int) / (b : Int)) = (((n + b - 1) / b : Nat) : Int) := by
    have h9 : ((n + b - 1 : Nat) : Int) / (b : Int) = (((n + b - 1) / b : Nat) : Int) := rfl
    rw [h9]
    refine wb _ ?_
    have : (n + b - 1) / b ≤ n + b - 1 := Nat.div_le_self _ _
    omega
  have HQ := Aside0.mk (And.intro hq0 (And.intro hq1 (And.intro hq2 hq3)))
  have tb0 : ((b : Int) == 0) = false := by simp; omega
  have tb1 : ((b : Int) = 0) = False := eq_false (by omega)
  have tb2 : (b = 0) = False := eq_false (by omega)
  clear hq0 hq1 hq2 hq3
  have hm4 : (n + b - 1) / b ≤ 5000 := by
    have : (n + b - 1) / b ≤ n + b - 1 := Nat.div_le_self _ _
    omega
  obtain ⟨M, hM⟩ : ∃ M, M = (n + b - 1) / b := ⟨_, rfl⟩
  rw [← hM] at HQ hs hm4
  have HM4 := Aside0.mk hm4
  have HMS := Aside0.mk hs
  have HNB := Aside0.mk (And.intro hn hb2)
  have hM2 := hM
  have HIN : Aside0 (∀ i, i < M → i * b < n) := ⟨fun i hi => (ceil_lt (by omega)).1 (by omega)⟩
  have ts0 : ((M : Int) != (M : Int)) = false := by simp
  clear hc h1 h2 h3 hn hb2 hz hs hM hm4 hM2
  go_enter Try.func15, Try.ntmps15
  go_wp2_with fail
  refine (Cur.most HC.out H1.out).mono ?_
  rintro e w1 ⟨rfl, hc1, hk1, hb1⟩
  have HC1 := Aside0.mk hc1
  have HK1 := Aside0.mk hk1
  have HB1 := Aside0.mk hb1
  clear HC H1 hc1 hk1 hb1
  go_wp2_with fail
  refine (Cur.most HC1.out H2.out).mono ?_
  rintro e w2 ⟨rfl, hc2, hk2, hb2⟩
  have HC2 := Aside0.mk hc2
  have HK2 := Aside0.mk (HK1.out.trans hk2 (.inl rfl))
  have HB2 := Aside0.mk (HB1.out.trans hb2)
  clear HC1 HK1 HB1 H2 hc2 hk2 hb2
  go_wp2_with fail
  refine (Cur.read k3 HC2.out H3.out).mono ?_
  rintro e w3 ⟨v3, rfl, ho3, hc3, hk3, hb3⟩
  obtain ⟨A3, c3, rfl, hl3, hr3⟩ := Kd.R_reads ho3
  have HC3 := Aside0.mk hc3
  have HK3 := Aside0.mk (HK2.out.trans hk3 (.inl rfl))
  have HB3 := Aside0.mk (HB2.out.trans hb3)
  have HO3 := Aside0.mk (Kd.R_lower ho3 HK2.out.1)
  clear HC2 HK2 HB2 H3 hc3 hk3 hb3 ho3 hl3 hr3
  rw [HMS.out] at HO3
  obtain ⟨hq0, hq1, hq2, hq3⟩ := HQ.out
  rw [HMS.out]
  go_wp2_with fail
  clear hq0 hq1 hq2 hq3
  go_loopg [6, 34] (M : Nat) (fun kq v6 v34 w' => ∃ (i : Nat) (acc : List ByteArray) (a5 : Nat) (e5 : Int), v34 = .int .i64 (i : Int) ∧ Aside0 (i + kq = M) ∧ Aside0 (LoopR l n b (sz.drop i) i acc a5 e5 R a4 e4) ∧ Aside0 (acc.length ≤ 64 * i) ∧ Aside0 (Kd.R Kd.string 9 w' w.heap.size (fun _ => True) v6 acc) ∧ Aside0 (Kd.R (Kd.int .i64) 3 w' w.heap.size (fun _ => True) (.slice A3 M c3) sz) ∧ Aside0 (Cur lo w' g l (a5 : Int) e5) ∧ Aside0 (KeepBut w w' g none) ∧ Aside0 (Below lo w w'))
  case atStart => exact ⟨0, [], a3, e3, rfl, ⟨by omega⟩, ⟨by rw [List.drop_zero]; exact HLP.out⟩, ⟨by simp⟩, ⟨Kd.R_nil _ _ _ _ _⟩, HO3, HC3, HK3, HB3⟩
  case round =>
    obtain ⟨i, acc, a5, e5, rfl, HI, HL, HAL, HS, HZ, HC, HK, HB⟩ := hrel
    clear HO3 HC3 HK3 HB3 HLP
    cases gk with
    | zero =>
      obtain rfl : i = M := by have := HI.out; omega
      have hln : LoopR l n b [] i acc a5 e5 R a4 e4 := by have h9 := HL.out; rwa [List.drop_eq_nil_of_le (by rw [HMS.out]; exact Nat.le_refl _)] at h9
      obtain ⟨hRe, hae, hee⟩ := loop_nil hln
      obtain ⟨acc2, hR2, he', hd⟩ : ∃ acc2, R = some acc2 ∧ (e' = if rightL acc2 (b : Int) = true then e4 else if e4 = 0 then 3 else e4) ∧ d = if e' = 0 then acc2 else [] := by
        rcases HRR.out with ⟨h, _⟩ | h
        · rw [hRe] at h; cases h
        · exact h
      rw [hRe] at hR2
      obtain rfl : acc = acc2 := Option.some.inj hR2
      subst hae hee
      have HE' := Aside0.mk he'
      have HD := Aside0.mk hd
      obtain ⟨A6, c6, hv6, hl6, hr6⟩ := Kd.R_reads HS.out
      subst hv6
      have HL6 := Aside0.mk hl6
      have HR6 := Aside0.mk hr6
      obtain ⟨kr, hkr⟩ := (right_f acc (b : Int)).rounds
      have HKR := Aside0.mk hkr
      have tN : decide ((i : Int) < (i : Int)) = false := decide_eq_false (by omega)
      clear HL HRR hR2 hRe he' hd hl6 hr6 hkr hln
      go_wp2_with fail
      refine (front_right.calls kr A6 c6 acc (b : Int) _ _ HR6.out HL6.out HKR.out).mono ?_
      rintro e w5 ⟨rfl, n5, rfl⟩
      obtain ⟨w5, hw5⟩ : ∃ W, W = wr.drewN n5 := ⟨_, rfl⟩
      have HC5 : Aside0 (Cur lo w5 g l (a4 : Int) e4) := ⟨by rw [hw5]; exact HC.out.below (pw_below_drewN (Below.refl _ _) _)⟩
      have HK5 : Aside0 (KeepBut w w5 g none) := ⟨by rw [hw5]; exact keep_drewN HK.out _⟩
      have HB5 : Aside0 (Below lo w w5) := ⟨by rw [hw5]; exact HB.out.trans ((pw_below_drewN (Below.refl _ wr) n5).mono (Nat.le_trans HG.out.1 (Nat.le_trans (Nat.le_of_lt HG.out.2) HK.out.1)))⟩
      have HR5 : Aside0 (Kd.C Kd.string w5 A6 acc.length acc) := ⟨by rw [hw5]; exact Kd.C_below HR6.out (pw_below_drewN (Below.refl _ _) _)⟩
      have HS5 : Aside0 (Kd.R Kd.string 9 w5 w.heap.size (fun _ => True) (.slice A6 acc.length c6) acc) := ⟨by rw [hw5]; exact Kd.R_drewN HS.out _⟩
      rw [← hw5]
      clear hw5 HC HK HB HR6 HS HZ
      cases hrt : rightL acc (b : Int) with
      | false =>
        rw [hrt] at HE'
        go_wp2_with fail
        refine (Cur.fail HC5.out (i' := (a4 : Int)) (e' := e') (by rw [HE'.out]; unfold cursor_Cursor_Fail.f; by_cases h : e4 = 0 <;> simp [h])).mono ?_
        rintro e w6 ⟨rfl, hc6, hk6, hb6⟩
        have HC6 := Aside0.mk hc6
        have HK6 := Aside0.mk (HK5.out.trans hk6 (.inl rfl))
        have HB6 := Aside0.mk (HB5.out.trans hb6)
        have hne : (e' == 0) = false := by
          have h9 := HE'.out
          rw [beq_eq_false_iff_ne]
          rw [if_neg (by simp)] at h9
          by_cases h : e4 = 0
          · rw [if_pos h] at h9; omega
          · rw [if_neg h] at h9; omega
        have HNE := Aside0.mk hne
        obtain rfl : d = [] := by rw [HD.out, if_neg (by have := beq_eq_false_iff_ne.1 hne; exact this)]
        clear hc6 hk6 hb6 HC5 HK5 HB5 hne
        go_wp2_with fail
        refine (Cur.good HC6.out (r := false) (i' := (a4 : Int)) (e' := e') (by unfold cursor_Cursor_Good.f; rw [HNE.out])).mono ?_
        rintro e w7 ⟨rfl, hc7, hk7, hb7⟩
        have HCX := Aside0.mk hc7
        have HKX := Aside0.mk (HK6.out.trans hk7 (.inl rfl))
        have HBX := Aside0.mk (HB6.out.trans hb7)
        clear hc7 hk7 hb7 HC6 HK6 HB6
        go_wp2_with fail
        go_ret
        exact ⟨_, rfl, HKX.out.1, ⟨none, 0, blk_new _ _, Nat.le_refl _, Kd.C_of_reads (h1 := fun _ => rfl) (d := ByteArray.empty) ⟨rfl, by simp, fun h => by simp at h⟩, HKX.out.1, fun h => by simp at h⟩, HCX.out.below (below_alloc (Below.refl _ _) _), keep_alloc HKX.out _, below_alloc_lo HBX.out (Nat.le_trans HG.out.1 (Nat.le_trans (Nat.le_of_lt HG.out.2) HKX.out.1))⟩
      | true =>
        rw [hrt] at HE'
        have he4 : e' = e4 := by have h9 := HE'.out; rwa [if_pos rfl] at h9
        subst he4
        go_wp2_with fail
        refine (Cur.good HC5.out (r := (e' == 0)) (i' := (a4 : Int)) (e' := e') rfl).mono ?_
        rintro e w7 ⟨rfl, hc7, hk7, hb7⟩
        have HCX := Aside0.mk hc7
        have HKX := Aside0.mk (HK5.out.trans hk7 (.inl rfl))
        have HBX := Aside0.mk (HB5.out.trans hb7)
        have HS7 := Aside0.mk (R_but HS5.out hk7 HG.out.2)
        clear hc7 hk7 hb7 HC5 HK5 HB5 HR5 HS5
        cases hz : (e' == 0) with
        | false =>
          obtain rfl : d = [] := by rw [HD.out, if_neg (beq_eq_false_iff_ne.1 hz)]
          go_wp2_with fail
          go_ret
          exact ⟨_, rfl, HKX.out.1, ⟨none, 0, blk_new _ _, Nat.le_refl _, Kd.C_of_reads (h1 := fun _ => rfl) (d := ByteArray.empty) ⟨rfl, by simp, fun h => by simp at h⟩, HKX.out.1, fun h => by simp at h⟩, HCX.out.below (below_alloc (Below.refl _ _) _), keep_alloc HKX.out _, below_alloc_lo HBX.out (Nat.le_trans HG.out.1 (Nat.le_trans (Nat.le_of_lt HG.out.2) HKX.out.1))⟩
        | true =>
          obtain rfl : d = acc := by rw [HD.out, if_pos (eq_of_beq hz)]
          go_wp2_with fail
          go_ret
          obtain ⟨_, hlx, hrx⟩ := Kd.R_reads' HS7.out
          exact ⟨_, rfl, HKX.out.1, ⟨A6, c6, blk_new _ _, HL6.out, Kd.C_below hrx (below_alloc (Below.refl _ _) _), HKX.out.1, fun _ ad e => Kd.R_base HS7.out ad.block (by rw [e]; rfl)⟩, HCX.out.below (below_alloc (Below.refl _ _) _), keep_alloc HKX.out _, below_alloc_lo HBX.out (Nat.le_trans HG.out.1 (Nat.le_trans (Nat.le_of_lt HG.out.2) HKX.out.1))⟩
    | succ k1 =>
      have hi : i < M := by have := HI.out; omega
      have hlt : i < sz.length := by rw [HMS.out]; exact hi
      have hl9 : LoopR l n b (sz[i] :: sz.drop (i + 1)) i acc a5 e5 R a4 e4 := by have h9 := HL.out; rwa [List.drop_eq_getElem_cons hlt] at h9
      obtain ⟨r, a1', e1', hev, ha1, hrl, hrest⟩ := hl9
      obtain ⟨kt, hkt⟩ := hev.rounds
      obtain ⟨s, hse⟩ : ∃ s, s = sz[i] := ⟨_, rfl⟩
      rw [← hse] at hkt
      have HKT := Aside0.mk hkt
      have HRL := Aside0.mk hrl
      have HRE := Aside0.mk hrest
      have hin := HIN.out i hi
      obtain ⟨gz, cz, ez, hgz, _⟩ := Kd.R_form HZ.out (by omega)
      injection ez with ez1 ez2 ez3
      subst ez1 ez3
      have hx := (Kd.R_celln (0 : Int) HZ.out (i : Int) (by omega) (by omega)).1
      rw [Int.toNat_natCast, show rdOf (0 : Int) sz (i : Int) = s by rw [hse]; simp [rdOf, List.getD_eq_getElem?_getD, hlt]] at hx
      have p3 : (0 : Int) ≤ (i : Int) := by omega
      have q3 : (i : Int) < (M : Int) := by omega
      have q3n : (i < M) = True := eq_true hi
      have ti : decide ((i : Int) < (M : Int)) = true := decide_eq_true q3
      have ti2 : decide (i < M) = true := decide_eq_true hi
      have hnb := HNB.out
      have hm4 := HM4.out
      have HW := Aside0.mk (And.intro (wmul i b (by omega) (by omega)) (show wrap64 ((n : Int) - ((i * b : Nat) : Int)) = ((n - i * b : Nat) : Int) ∧ wrap64 ((n : Int) - (i : Int) * (b : Int)) = ((n - i * b : Nat) : Int) from ⟨by rw [show (n : Int) - ((i * b : Nat) : Int) = ((n - i * b : Nat) : Int) by omega]; exact wb _ (by omega), by rw [← Int.natCast_mul, show (n : Int) - ((i * b : Nat) : Int) = ((n - i * b : Nat) : Int) by omega]; exact wb _ (by omega)⟩))
      have HW4 : Aside0 (wrap64 ((i : Int) + 1) = ((i + 1 : Nat) : Int)) := ⟨wr1 i (by omega)⟩
      clear hnb hm4
      have HMN : Aside0 ((if (b : Int) ≤ ((n - i * b : Nat) : Int) then (b : Int) else ((n - i * b : Nat) : Int)) = ((min b (n - i * b) : Nat) : Int)) := ⟨by split <;> omega⟩
      replace p3 := eq_true p3
      replace q3 := eq_true q3
      clear hkt hrl hrest hev hin ez2 hse HL hi hlt
      obtain ⟨hw1, hw2, hw3⟩ := HW.out
      go_wp2_with fail
      all_goals clear hw1 hw2 hw3
      all_goals first
        | (have hmn : min b (n - i * b) = n - i * b := by omega
           have HKT2 : Aside0 (front_taken.f kt l (a5 : Int) e5 ((n - i * b : Nat) : Int) s = some (r, (a1' : Int), e1')) := ⟨by have h9 := HKT.out; rwa [hmn] at h9⟩
           refine (Cur.taken kt HC.out HKT2.out).mono ?_
           clear hmn HKT2)
        | (have hmn : min b (n - i * b) = b := by omega
           have HKT2 : Aside0 (front_taken.f kt l (a5 : Int) e5 (b : Int) s = some (r, (a1' : Int), e1')) := ⟨by have h9 := HKT.out; rwa [hmn] at h9⟩
           refine (Cur.taken kt HC.out HKT2.out).mono ?_
           clear hmn HKT2)
      all_goals (
        rintro e w7 ⟨v49, rfl, ho7, hc7, hk7, hb7⟩
        obtain ⟨A7, c7, rfl, hl7, hr7⟩ := Kd.R_reads ho7
        have HR7 := Aside0.mk hr7
        have HS7 := Aside0.mk (R_but HS.out hk7 HG.out.2)
        have HZ7 := Aside0.mk (R_but HZ.out hk7 HG.out.2)
        have HC7 := Aside0.mk hc7
        have HK7 := Aside0.mk (HK.out.trans hk7 (.inl rfl))
        have HB7 := Aside0.mk (HB.out.trans hb7)
        clear ho7 hc7 hk7 hb7 hl7 hr7 HS HZ HC HK HB HKT hx
        go_wp2_with (first | ((with_reducible refine gate_builtin (b := .append) (xs := #[.tmp 39, .tmp 49]) rfl ?_); at_builtin; refine Kd.R_append_rows Kd.string (w0 := w7) w.heap.size rfl (.tmp 39) (.tmp 49) 22 9 (.string ⟨#[]⟩) 16 rfl Try.underlying22 infoS rfl (by decide) (by omega) _ acc r _ _ _ (fun _ => True) (fun _ => False) rfl rfl ?aO ?aR (fun _ _ h => h) (fun _ h => h.elim) ?aF (Below.refl _ _) ?aS ?aL ?_; (case aR => exact HR7.out); (case aF => exact (fun _ _ => trivial)); (case aO => exact HS7.out); (case aS => exact HK7.out.1); (case aL => have h8 := HAL.out; have h9 := HRL.out; have h10 := HI.out; have h11 := HM4.out; omega); intro v50 w8 ho hb hg hat; have HO8 := Aside0.mk ho; have HB8 := Aside0.mk hb; have HG8 := Aside0.mk hg; clear ho hb hg hat))
        have HZ8 := Aside0.mk (R_apart HZ7.out HS7.out (by decide) HG8.out)
        have HC8 := Aside0.mk (HC7.out.moved (fun k _ h2 => HB8.out.block k (by have := HG.out.2; omega)))
        have HK8 := Aside0.mk (keep_below HK7.out HB8.out)
        have HBB8 := Aside0.mk (HB7.out.trans (HB8.out.mono (Nat.le_trans HG.out.1 (Nat.le_of_lt HG.out.2))))
        refine (Cur.good HC8.out (r := (e1' == 0)) (i' := (a1' : Int)) (e' := e1') rfl).mono ?_
        rintro e w9 ⟨rfl, hc9, hk9, hb9⟩
        have HCX := Aside0.mk hc9
        have HKX := Aside0.mk (HK8.out.trans hk9 (.inl rfl))
        have HBX := Aside0.mk (HBB8.out.trans hb9)
        have HS9 := Aside0.mk (R_but HO8.out hk9 HG.out.2)
        have HZ9 := Aside0.mk (R_but HZ8.out hk9 HG.out.2)
        clear hc9 hk9 hb9 HC8 HK8 HBB8 HZ8 HO8 HG8 HB8 HC7 HK7 HB7 HZ7 HS7 HR7
        cases hz : (e1' == 0) with
        | false =>
          have hne := beq_eq_false_iff_ne.1 hz
          obtain ⟨hRe, hae, hee⟩ : R = none ∧ a4 = a1' ∧ e4 = e1' := by
            rcases HRE.out with ⟨h, _⟩ | ⟨_, h1, h2, h3⟩
            · exact absurd h hne
            · exact ⟨h1, h2, h3⟩
          obtain ⟨hd, he'⟩ : d = [] ∧ e' = e4 := by
            rcases HRR.out with ⟨_, h1, h2⟩ | ⟨_, h, _⟩
            · exact ⟨h1, h2⟩
            · rw [hRe] at h; cases h
          subst hae hee hd he'
          go_wp2_with fail
          go_ret
          exact ⟨_, rfl, HKX.out.1, ⟨none, 0, blk_new _ _, Nat.le_refl _, Kd.C_of_reads (h1 := fun _ => rfl) (d := ByteArray.empty) ⟨rfl, by simp, fun h => by simp at h⟩, HKX.out.1, fun h => by simp at h⟩, HCX.out.below (below_alloc (Below.refl _ _) _), keep_alloc HKX.out _, below_alloc_lo HBX.out (Nat.le_trans HG.out.1 (Nat.le_trans (Nat.le_of_lt HG.out.2) HKX.out.1))⟩
        | true =>
          have hl10 : LoopR l n b (sz.drop (i + 1)) (i + 1) (acc ++ r) a1' e1' R a4 e4 := by
            rcases HRE.out with ⟨h, h2⟩ | ⟨h, _⟩
            · rw [h]; exact h2
            · exact absurd (eq_of_beq hz) h
          have HL10 := Aside0.mk hl10
          clear hl10 HRE
          go_wp2_with fail
          go_roundg k1
          case measure => omega
          case rel => exact ⟨i + 1, acc ++ r, a1', e1', by first | rfl | (rw [HW4.out]), ⟨by have := HI.out; omega⟩, HL10, ⟨by rw [List.length_append]; have := HAL.out; have := HRL.out; omega⟩, HS9, HZ9, HCX, HKX, HBX⟩)
/-- Open answers what the relation says. -/
theorem Open_ {lo g a : Nat} {l : List Int} (w : World) (hc : Cur lo w g l (a : Int) 0) (d : List ByteArray) (a' : Nat) (e' : Int) (h : OpenR l a d a' e') :
    Calls Try.prog 15 #[.pointer (some ⟨g, 0, none⟩)] w fun en w' => ∃ q : Nat, en = .returned (.pointer (some ⟨q, 0, none⟩)) ∧ w.heap.size ≤ q ∧ DictP w.heap.size w' q d ∧ Cur lo w' g l (a' : Int) e' ∧ KeepBut w w' g none ∧ Below lo w w' := by
  obtain ⟨n, b, a1, a2, e1, e2, sz, a3, e3, h1, h2, h3, hn, hb2, ha3, hx⟩ := h
  obtain ⟨k3, h3⟩ := h3.rounds
  rcases hx with ⟨hx, rfl, rfl, he⟩ | ⟨hx, R, a4, e4, hl, ha4, hR⟩
  · by_cases hz : b = 0
    · exact Open_zero w hc n b a1 a2 e1 e2 sz a' e3 k3 h1 h2 h3 hn hb2 e' he hz
    · exact Open_odd w hc n b a1 a2 e1 e2 sz a' e3 k3 h1 h2 h3 hn hb2 e' he hz (hx.resolve_left hz)
  · have hz : b ≠ 0 := fun h => hx (.inl h)
    have hs : sz.length = (n + b - 1) / b := Decidable.byContradiction (fun h => hx (.inr h))
    rcases hR with ⟨r1, r2, rfl, r4⟩ | ⟨acc, r1, rfl, r3, r4⟩
    · exact Open_run w hc n b a1 a2 e1 e2 sz a3 e3 k3 h1 h2 h3 hn hb2 e' d R a' e4 hz hs hl (.inl ⟨r1, r2, r4⟩)
    · exact Open_run w hc n b a1 a2 e1 e2 sz a3 e3 k3 h1 h2 h3 hn hb2 e' d R a' e4 hz hs hl (.inr ⟨acc, r1, r3, r4⟩)
end Go.Proofs.Ytljhlpkoilapiaa.HW
end
