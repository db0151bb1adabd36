import Derived.Test.YtljhlpkoilapiaaZWWords
import Derived.Test.YtljhlpkoilapiaaZWMore
import Derived.Test.YtljhlpkoilapiaaZPx14
import Derived.Laws.BitsLemmas
import Derived.Test.YtljhlpkoilapiaaZPx2
import Derived.Test.YtljhlpkoilapiaaZPx13
import Derived.Test.YtljhlpkoilapiaaZPx5
import Derived.Test.YtljhlpkoilapiaaZPx8
import Derived.Test.YtljhlpkoilapiaaZPx15
import Derived.Test.YtljhlpkoilapiaaZPx16
import Derived.Test.YtljhlpkoilapiaaZPx4
import Derived.Test.YtljhlpkoilapiaaZPx6
import Derived.Test.YtljhlpkoilapiaaZPx7
import Derived.Test.YtljhlpkoilapiaaZPx9
import Derived.Test.YtljhlpkoilapiaaZPx11
/- Texts laid together by merge.py: HP HPower HBits HPackB HPut HPackN HPackM HPackR HPackG HPackW HPackL HCurP HPackE HCurZ HCurS HPackRd HCurB. -/
section
/- Plain lemmas on numbers, lists and rounds, without any program. -/
set_option linter.unusedVariables false
set_option linter.unusedSimpArgs false
namespace Go.Proofs.Ytljhlpkoilapiaa.HP
open Go.RowKit Go.Proofs.YtljhlpkoilapiaaW.PrintWords Go.Proofs.YtljhlpkoilapiaaW.PrintMore

theorem wr1 (i : Nat) (h : i < 140737488351232) : wrap64 ((i : Int) + 1) = ((i + 1 : Nat) : Int) := by unfold wrap64; omega
theorem wm1 {i : Int} (h0 : 0 ≤ i) (h : i < 140737488351232) : wrap64 (i - 1) = i - 1 := by unfold wrap64; omega

theorem drop_nil {α : Type} {l : List α} {i : Nat} (h : l.drop i = []) : l.length ≤ i := List.drop_eq_nil_iff.mp h
theorem drop_lt {α : Type} {l : List α} {i : Nat} {a : α} {t : List α} (h : l.drop i = a :: t) : i < l.length := by
  apply Decidable.byContradiction
  intro hc
  rw [List.drop_eq_nil_of_le (by omega)] at h
  cases h
theorem drop_tl {α : Type} {l : List α} {i : Nat} {a : α} {t : List α} (h : l.drop i = a :: t) : l.drop (i + 1) = t := by
  rw [← List.drop_drop, h]
  rfl
theorem drop_rd {l : List Int} {i : Nat} {a : Int} {t : List Int} (h : l.drop i = a :: t) : rd l (i : Int) = a := by
  have hl := drop_lt h
  have : l[i]? = some a := by rw [← List.head?_drop, h]; rfl
  simp [rd, List.getD_eq_getElem?_getD, this]
theorem drop_rdOf {α : Type} (d : α) {l : List α} {i : Nat} {a : α} {t : List α} (h : l.drop i = a :: t) : rdOf d l (i : Int) = a := by
  have : l[i]? = some a := by rw [← List.head?_drop, h]; rfl
  simp [rdOf, List.getD_eq_getElem?_getD, this]
theorem rd_nat (l : List Int) (i : Nat) (h : i < l.length) : rd l (i : Int) = l[i] := by simp [rd, List.getD_eq_getElem?_getD, h]
end Go.Proofs.Ytljhlpkoilapiaa.HP
end
section
/- The reference's Power is 2 to the n. -/
set_option linter.unusedVariables false
set_option linter.unusedSimpArgs false
namespace Go.Proofs.Ytljhlpkoilapiaa.HP
open Go.RowKit Go.Proofs.Ytljhlpkoilapiaa.P Go.Proofs.YtljhlpkoilapiaaW.PrintWords Go.Proofs.YtljhlpkoilapiaaW.PrintLast Go.Proofs.YtljhlpkoilapiaaW.PrintMore
theorem pow40 {q : Nat} (h : q ≤ 40) : 2 ^ q ≤ 1099511627776 := by
  have := Nat.pow_le_pow_right (n := 2) (by omega) h
  simpa using this
theorem power_l (q : Nat) (hq : q ≤ 40) : ∀ (d i : Nat), i + d = q → Ev (fun k => hopperref03_Power.l0 k (q : Int) ((2 ^ i : Nat) : Int) (i : Int)) ((2 ^ q : Nat) : Int) := by
  intro d
  induction d with
  | zero =>
    intro i h
    refine Ev.step (fun k => by rw [hopperref03_Power.l0]) ?_
    simp only [if_neg (show ¬ (i : Int) < (q : Int) by omega)]
    rw [show i = q by omega]
    exact Ev.now _
  | succ d ih =>
    intro i h
    refine Ev.step (fun k => by rw [hopperref03_Power.l0]) ?_
    have h1 := pow40 (show i + 1 ≤ 40 by omega)
    have e : wrap64 (2 * ((2 ^ i : Nat) : Int)) = ((2 ^ (i + 1) : Nat) : Int) := by
      rw [Nat.pow_succ] at h1 ⊢
      generalize 2 ^ i = z at *
      unfold wrap64
      omega
    simp only [if_pos (show (i : Int) < (q : Int) by omega), e, wr1 i (by omega)]
    exact ih (i + 1) (by omega)
theorem power_f (q : Nat) (hq : q ≤ 40) : Ev (fun k => hopperref03_Power.f k (q : Int)) ((2 ^ q : Nat) : Int) := power_l q hq q 0 (by omega)
end Go.Proofs.Ytljhlpkoilapiaa.HP
end
section
/- Bits and varints, in plain numbers. -/
set_option linter.unusedVariables false
set_option linter.unusedSimpArgs false
namespace Go.Proofs.Ytljhlpkoilapiaa.HP
open Go.RowKit Go.Proofs.YtljhlpkoilapiaaW.PrintWords Go.Proofs.YtljhlpkoilapiaaW.PrintMore

/-- The number that a row of bits is, the least bit first. -/
def num : List Bool → Nat
  | [] => 0
  | b :: t => (if b = true then 1 else 0) + 2 * num t
theorem num_lt (l : List Bool) : num l < 2 ^ l.length := by
  induction l with
  | nil => simp [num]
  | cons b t ih => simp only [num, List.length_cons, Nat.pow_succ]; split <;> omega
theorem num_snoc (l : List Bool) (b : Bool) : num (l ++ [b]) = num l + (if b = true then 2 ^ l.length else 0) := by
  induction l with
  | nil => cases b <;> simp [num]
  | cons x t ih =>
    simp only [List.cons_append, num, ih, List.length_cons, Nat.pow_succ]
    cases b <;> simp <;> omega
theorem or_new : ∀ q : Fin 8, ∀ a : Fin 128, a.val < 2 ^ q.val → Go.bits .or .u8 (a.val : Int) (shl .u8 1 (q.val : Int)) = (a.val : Int) + (2 : Int) ^ q.val := by decide +kernel
theorem or_bit {a : Nat} {q : Nat} (hq : q < 8) (ha : a < 2 ^ q) : Go.bits .or .u8 (a : Int) (shl .u8 1 (q : Int)) = ((a + 2 ^ q : Nat) : Int) := by
  have h128 : 2 ^ q ≤ 128 := by
    have := Nat.pow_le_pow_right (n := 2) (by omega) (show q ≤ 7 by omega)
    simpa using this
  have := or_new ⟨q, hq⟩ ⟨a, by omega⟩ ha
  rw [this]
  push_cast
  rfl
theorem or128_all : ∀ a : Fin 256, Go.bits .or .u8 (a.val : Int) 128 = ((a.val % 128 + 128 : Nat) : Int) := by decide +kernel
theorem or128 (n : Nat) : Go.bits .or .u8 ((n : Int) % 256) 128 = ((n % 128 + 128 : Nat) : Int) := by
  have := or128_all ⟨n % 256, by omega⟩
  simp only at this
  rw [show ((n : Int) % 256) = ((n % 256 : Nat) : Int) by omega, this]
  congr 2
  omega

/-- A number's varint. -/
def vint (n : Nat) : List Int := if n < 128 then [(n : Int)] else ((n % 128 + 128 : Nat) : Int) :: vint (n / 128)
termination_by n
decreasing_by omega
theorem vint_small {n : Nat} (h : n < 128) : vint n = [(n : Int)] := by rw [vint, if_pos h]
theorem vint_big {n : Nat} (h : ¬ n < 128) : vint n = ((n % 128 + 128 : Nat) : Int) :: vint (n / 128) := by rw [vint, if_neg h]
theorem vint_len_pow : ∀ (k n : Nat), n < 128 ^ (k + 1) → (vint n).length ≤ k + 1 := by
  intro k
  induction k with
  | zero => intro n h; rw [vint_small (by simpa using h)]; simp
  | succ k ih =>
    intro n h
    by_cases hn : n < 128
    · rw [vint_small hn]; simp
    · rw [vint_big hn]
      have : n / 128 < 128 ^ (k + 1) := by
        rw [Nat.div_lt_iff_lt_mul (by omega)]
        rw [Nat.pow_succ] at h
        exact h
      have := ih _ this
      simp
      omega
theorem vint_len (n : Nat) (h : n < 9223372036854775808) : (vint n).length ≤ 9 := vint_len_pow 8 n (by simpa using h)
theorem vint_pos (n : Nat) : 0 < (vint n).length := by
  by_cases hn : n < 128
  · rw [vint_small hn]; simp
  · rw [vint_big hn]; simp
end Go.Proofs.Ytljhlpkoilapiaa.HP
end
section
/- Bits packed, eight a byte, in plain lists. -/
set_option linter.unusedVariables false
set_option linter.unusedSimpArgs false
namespace Go.Proofs.Ytljhlpkoilapiaa.HP
open Go.RowKit Go.Proofs.Ytljhlpkoilapiaa.P Go.Proofs.YtljhlpkoilapiaaW.PrintWords Go.Proofs.YtljhlpkoilapiaaW.PrintLast Go.Proofs.YtljhlpkoilapiaaW.PrintMore
theorem rd_set (l : List Int) (i j : Nat) (v : Int) (hi : i < l.length) : rd (l.set i v) (j : Int) = if i = j then v else rd l (j : Int) := by
  simp only [rd, Int.toNat_natCast, List.getD_eq_getElem?_getD, List.getElem?_set]
  by_cases h : i = j
  · subst h; simp [hi]
  · simp [h]
theorem rd_app (l : List Int) (v : Int) (j : Nat) : rd (l ++ [v]) (j : Int) = if j = l.length then v else rd l (j : Int) := by
  simp only [rd, Int.toNat_natCast, List.getD_eq_getElem?_getD, List.getElem?_append]
  by_cases h : j < l.length
  · simp [h, show ¬ j = l.length by omega]
  · by_cases e : j = l.length
    · simp [e]
    · simp only [if_neg h, if_neg e]
      rw [List.getElem?_eq_none (by simp; omega), List.getElem?_eq_none (by omega)]
def bval (b : List Bool) (i j : Nat) : Nat := num (((b.take i).drop (8 * j)).take 8)
def size8 (n : Nat) : Nat := (n + 7) / 8
def pack (b : List Bool) : List Int := (List.range (size8 b.length)).map (fun j => (num ((b.drop (8 * j)).take 8) : Int))
theorem bval_lt (b : List Bool) (i : Nat) (hi : i ≤ b.length) : bval b i (i / 8) < 2 ^ (i % 8) := by
  unfold bval
  refine Nat.lt_of_lt_of_le (num_lt _) (Nat.pow_le_pow_right (by omega) ?_)
  simp
  omega
theorem bval_zero (b : List Bool) (i j : Nat) (h : i ≤ 8 * j) : bval b i j = 0 := by
  unfold bval
  rw [List.drop_eq_nil_of_le (by simp; omega)]
  rfl
theorem bval_succ (b : List Bool) (i j : Nat) (hi : i < b.length) : bval b (i + 1) j = bval b i j + (if i / 8 = j ∧ b[i] = true then 2 ^ (i % 8) else 0) := by
  have hl : (b.take i).length = i := by simp; omega
  by_cases h1 : i / 8 = j
  · subst h1
    unfold bval
    rw [List.take_succ_eq_append_getElem hi, List.drop_append_of_le_length (by omega)]
    have hL : ((b.take i).drop (8 * (i / 8))).length = i % 8 := by simp; omega
    rw [List.take_of_length_le (l := (b.take i).drop (8 * (i / 8)) ++ [b[i]]) (by simp; omega), num_snoc, List.take_of_length_le (l := (b.take i).drop (8 * (i / 8))) (by omega), hL]
    simp
  · simp only [h1, false_and, if_false, Nat.add_zero]
    by_cases h2 : j < i / 8
    · unfold bval
      rw [List.take_succ_eq_append_getElem hi, List.drop_append_of_le_length (by omega), List.take_append_of_le_length (by simp; omega)]
    · rw [bval_zero b i j (by omega), bval_zero b (i + 1) j (by omega)]
theorem pack_of (b : List Bool) (x : List Int) (hl : x.length = size8 b.length) (hx : ∀ j, j < x.length → rd x (j : Int) = (bval b b.length j : Int)) : x = pack b := by
  apply List.ext_getElem
  · simp [pack, hl]
  · intro j h1 h2
    have := hx j h1
    rw [rd_nat x j h1] at this
    rw [this]
    simp [pack, bval]
theorem mod8 (i : Nat) : Int.tmod (i : Int) 8 = ((i % 8 : Nat) : Int) := by
  rw [Int.tmod_eq_emod_of_nonneg (by omega)]; omega
theorem or_bit2 {a b q : Nat} (hq : q < 8) (ha : a < 2 ^ q) (hb : b < 2) : Go.bits .or .u8 (a : Int) (shl .u8 ((b : Nat) : Int) (q : Int)) = ((a + b * 2 ^ q : Nat) : Int) := by
  have h128 : 2 ^ q ≤ 128 := by
    have := Nat.pow_le_pow_right (n := 2) (by omega) (show q ≤ 7 by omega)
    simpa using this
  rcases (by omega : b = 0 ∨ b = 1) with rfl | rfl
  · have e : shl .u8 ((0 : Nat) : Int) (q : Int) = ((0 : Nat) : Int) := by simp [shl, IntKind.wrap_u8]
    rw [e, (bits_nat .u8 8 (by decide) wraps_u8 a 0 (by omega) (by omega)).2]
    simp
  · have := or_bit hq ha
    rw [Nat.one_mul]
    exact this
theorem wraps_i64b (n : Int) (h₀ : 0 ≤ n) (h₁ : n < 2 ^ 62) : IntKind.i64.wrap n = n := by rw [IntKind.wrap_i64]; omega
theorem or64_bit {a b q : Nat} (hq : q ≤ 60) (ha : a < 2 ^ q) (hb : b < 2) : Go.bits .or .i64 (a : Int) (shl .i64 ((b : Nat) : Int) (q : Int)) = ((a + b * 2 ^ q : Nat) : Int) := by
  have h60 : 2 ^ q ≤ 2 ^ 60 := Nat.pow_le_pow_right (by omega) hq
  have hpos := Nat.two_pow_pos q
  have hbq : b * 2 ^ q < 2 ^ 62 := by
    rcases (by omega : b = 0 ∨ b = 1) with rfl | rfl <;> omega
  have e : shl .i64 ((b : Nat) : Int) (q : Int) = ((b * 2 ^ q : Nat) : Int) := by
    unfold shl
    rw [show min (q : Int).toNat IntKind.i64.bits = q by simp [IntKind.bits]; omega]
    rw [show ((b : Nat) : Int) * 2 ^ q = ((b * 2 ^ q : Nat) : Int) by push_cast; rfl]
    exact wraps_i64b _ (by omega) (by omega)
  rw [e, (bits_nat .i64 62 (by decide) wraps_i64b a (b * 2 ^ q) (by omega) hbq).2, Nat.or_comm, Nat.mul_comm b, ← Nat.two_pow_add_eq_or_of_lt ha, Nat.add_comm]
theorem and64_1 (a : Nat) (ha : a < 2 ^ 62) : Go.bits .and .i64 (a : Int) 1 = ((a % 2 : Nat) : Int) := by
  have := bits_mask .i64 62 (by decide) wraps_i64b 1 (by decide) (a : Int) (by omega) (by exact_mod_cast ha)
  rw [show ((2 : Int) ^ 1 - 1) = 1 from rfl] at this
  rw [this]
  omega
theorem and8_1 (a : Nat) (ha : a < 256) : Go.bits .and .u8 (a : Int) 1 = ((a % 2 : Nat) : Int) := by
  have := bits_mask .u8 8 (by decide) wraps_u8 1 (by decide) (a : Int) (by omega) (by omega)
  rw [show ((2 : Int) ^ 1 - 1) = 1 from rfl] at this
  rw [this]
  omega
theorem shr_nat (k : IntKind) (a q : Nat) (hq : q ≤ k.bits) : shr k (a : Int) (q : Int) = ((a / 2 ^ q : Nat) : Int) := by
  unfold shr
  rw [show min (q : Int).toNat k.bits = q by simp; omega]
  push_cast
  rfl
theorem bit_num (x : Nat) (k : Nat) : x / 2 ^ k % 2 = (if x.testBit k = true then 1 else 0) := by
  rw [Nat.testBit_eq_decide_div_mod_eq]
  rcases Nat.mod_two_eq_zero_or_one (x / 2 ^ k) with h | h <;> simp [h]
/-- A byte that some bits were put into: bval at i, its bit more. -/
theorem bval_step (b : List Bool) (i j : Nat) (hi : i < b.length) : bval b (i + 1) j = bval b i j + (if i / 8 = j then (if b[i] = true then 1 else 0) * 2 ^ (i % 8) else 0) := by
  rw [bval_succ b i j hi]
  by_cases h : i / 8 = j <;> cases b[i] <;> simp [h]
end Go.Proofs.Ytljhlpkoilapiaa.HP
end
section
/- cursor.Put and the reference's Put are a number's varint. -/
set_option linter.unusedVariables false
set_option linter.unusedSimpArgs false
namespace Go.Proofs.Ytljhlpkoilapiaa.HP
open Go.RowKit Go.Proofs.Ytljhlpkoilapiaa.P Go.Proofs.YtljhlpkoilapiaaW.PrintWords Go.Proofs.YtljhlpkoilapiaaW.PrintLast Go.Proofs.YtljhlpkoilapiaaW.PrintMore

theorem cput_l : ∀ (m n : Nat) (acc : List Int), n ≤ m → n < 9223372036854775808 → acc.length + (vint n).length ≤ 1000 → Ev (fun k => cursor_Put.l0 k (n : Int) acc) (acc ++ vint n) := by
  intro m
  induction m with
  | zero =>
    intro n acc h hn hl
    obtain rfl : n = 0 := by omega
    refine Ev.step (fun k => by rw [cursor_Put.l0]) ?_
    rw [vint_small (by omega)] at hl ⊢
    simp only [if_neg (show ¬ ((0 : Nat) : Int) ≥ 128 by omega), if_pos (show acc.length < 140737488355328 by omega), show ((0 : Nat) : Int) % 256 = ((0 : Nat) : Int) by omega]
    exact Ev.now _
  | succ m ih =>
    intro n acc h hn hl
    refine Ev.step (fun k => by rw [cursor_Put.l0]) ?_
    by_cases hb : n < 128
    · rw [vint_small hb] at hl ⊢
      simp only [if_neg (show ¬ (n : Int) ≥ 128 by omega), if_pos (show acc.length < 140737488355328 by omega), show (n : Int) % 256 = (n : Int) by omega]
      exact Ev.now _
    · rw [vint_big hb] at hl ⊢
      simp only [if_pos (show (n : Int) ≥ 128 by omega), if_pos (show acc.length < 140737488355328 by omega), or128 n, show (n : Int) / 128 = ((n / 128 : Nat) : Int) by omega]
      have := ih (n / 128) (acc ++ [((n % 128 + 128 : Nat) : Int)]) (by omega) (by omega) (by simp at hl ⊢; omega)
      simpa using this
theorem cput_f (n : Nat) (hn : n < 9223372036854775808) : Ev (fun k => cursor_Put.f k (n : Int)) (vint n) := by
  have h := cput_l n n [] (Nat.le_refl _) hn (by have := vint_len n hn; simp; omega)
  unfold cursor_Put.f
  simp only [if_neg (show ¬ (n : Int) < 0 by omega)]
  simpa using h
theorem rput_f : ∀ (m n : Nat), n ≤ m → n < 9223372036854775808 → Ev (fun k => hopperref01_Put.f k (n : Int)) (vint n) := by
  intro m
  induction m with
  | zero =>
    intro n h hn
    obtain rfl : n = 0 := by omega
    refine Ev.step (fun k => by rw [hopperref01_Put.f]) ?_
    rw [vint_small (by omega)]
    simp only [if_neg (show ¬ ((0 : Nat) : Int) < 0 by omega), if_pos (show ((0 : Nat) : Int) < 128 by omega), show ((0 : Nat) : Int) % 256 = ((0 : Nat) : Int) by omega]
    exact Ev.now _
  | succ m ih =>
    intro n h hn
    refine Ev.step (fun k => by rw [hopperref01_Put.f]) ?_
    by_cases hb : n < 128
    · rw [vint_small hb]
      simp only [if_neg (show ¬ (n : Int) < 0 by omega), if_pos (show (n : Int) < 128 by omega), show (n : Int) % 256 = (n : Int) by omega]
      exact Ev.now _
    · rw [vint_big hb]
      have e1 : wrap64 ((Int.tmod (n : Int) 128) + 128) % 256 = ((n % 128 + 128 : Nat) : Int) := by
        rw [Int.tmod_eq_emod_of_nonneg (by omega)]; unfold wrap64; omega
      have e2 : wrap64 (Int.tdiv (n : Int) 128) = ((n / 128 : Nat) : Int) := by
        rw [Int.tdiv_eq_ediv_of_nonneg (by omega)]; unfold wrap64; omega
      simp only [if_neg (show ¬ (n : Int) < 0 by omega), if_neg (show ¬ (n : Int) < 128 by omega), e1, e2]
      refine Ev.bind (g := fun _ => some _) (Ev.now _) ?_
      refine (ih (n / 128) (by omega) (by omega)).bind ?_
      have := vint_len (n / 128) (by omega)
      simp only [if_pos (show [((n % 128 + 128 : Nat) : Int)].length + (vint (n / 128)).length < 140737488355328 by simp; omega)]
      exact Ev.now _
theorem rput (n : Nat) (hn : n < 9223372036854775808) : Ev (fun k => hopperref01_Put.f k (n : Int)) (vint n) := rput_f n n (Nat.le_refl _) hn
end Go.Proofs.Ytljhlpkoilapiaa.HP
end
section
/- What pack's functions and the reference's answer: the same bytes, the same numbers. -/
set_option linter.unusedVariables false
set_option linter.unusedSimpArgs false
namespace Go.Proofs.Ytljhlpkoilapiaa.HP
open Go.RowKit Go.Proofs.Ytljhlpkoilapiaa.P Go.Proofs.YtljhlpkoilapiaaW.PrintWords Go.Proofs.YtljhlpkoilapiaaW.PrintLast Go.Proofs.YtljhlpkoilapiaaW.PrintMore
theorem ev_some {α : Type} {x : Option α} {r : α} (h : x = some r) : Ev (fun _ => x) r := by rw [h]; exact Ev.now r
/-- All bits of packed numbers. -/
def bitsL (w : Nat) (l : List Int) : List Bool := (List.range (l.length * w)).map (fun n => (l.getD (n / w) 0).toNat.testBit (n % w))
theorem bitsL_len (w : Nat) (l : List Int) : (bitsL w l).length = l.length * w := by simp [bitsL]
theorem bitsL_at (w : Nat) (l : List Int) (i k : Nat) (hi : i < l.length) (hk : k < w) (h : i * w + k < (bitsL w l).length) : (bitsL w l)[i * w + k] = (l[i].toNat).testBit k := by
  have e1 : (i * w + k) / w = i := by
    rw [Nat.mul_comm, Nat.mul_add_div (by omega), Nat.div_eq_of_lt hk, Nat.add_zero]
  have e2 : (i * w + k) % w = k := by
    rw [Nat.mul_comm, Nat.mul_add_mod, Nat.mod_eq_of_lt hk]
  simp only [bitsL, List.getElem_map, List.getElem_range, e1, e2]
  simp [List.getD_eq_getElem?_getD, hi]
def goodN (w : Nat) (a : Int) : Bool := decide (0 ≤ a) && decide (a < ((2 ^ w : Nat) : Int))
def packed (w : Nat) (l : List Int) : List Int × Int := (pack (bitsL w l), 0)
def badP : List Int × Int := ([], 1)
theorem mulw (i w : Nat) (hi : i ≤ 70000) (hw : w ≤ 33) : wrap64 ((i : Int) * (w : Int)) = ((i * w : Nat) : Int) := by
  have h : i * w ≤ 70000 * 33 := Nat.mul_le_mul hi hw
  rw [show (i : Int) * (w : Int) = ((i * w : Nat) : Int) by push_cast; rfl]
  unfold wrap64
  omega
theorem addw (a k : Nat) (ha : a ≤ 3000000) (hk : k ≤ 100) : wrap64 ((a : Int) + (k : Int)) = ((a + k : Nat) : Int) := by unfold wrap64; omega
theorem div8b (i : Nat) (h : i ≤ 4000000) : wrap64 (Int.tdiv (i : Int) 8) = ((i / 8 : Nat) : Int) := by
  rw [Int.tdiv_eq_ediv_of_nonneg (by omega)]; unfold wrap64; omega
theorem iw_lt {i n w k : Nat} (hi : i < n) (hk : k < w) : i * w + k < n * w := by
  have : (i + 1) * w ≤ n * w := Nat.mul_le_mul_right w hi
  rw [Nat.add_mul, Nat.one_mul] at this
  omega
theorem nw_le {n w : Nat} (hn : n ≤ 10000) (hw : w ≤ 32) : n * w ≤ 320000 := by
  have := Nat.mul_le_mul hn hw
  omega
/-- One number's bits. -/
theorem pput_1 (w : Nat) (hw : w ≤ 32) (l : List Int) (hl : l.length ≤ 10000) (i : Nat) (hi : i < l.length) (hx : 0 ≤ l[i]) (hx2 : l[i] < ((2 ^ w : Nat) : Int)) (R : List Int × Int)
    (hR : ∀ x : List Int, x.length = size8 (l.length * w) → (∀ j, j < x.length → rd x (j : Int) = (bval (bitsL w l) ((i + 1) * w) j : Int)) → Ev (fun k => pack_Put.l0 k (w : Int) x l (l.length : Int) ((i + 1 : Nat) : Int)) R) :
    ∀ (d k : Nat) (x : List Int), k + d = w → x.length = size8 (l.length * w) → (∀ j, j < x.length → rd x (j : Int) = (bval (bitsL w l) (i * w + k) j : Int)) →
    Ev (fun q => pack_Put.l1 q (w : Int) x (i : Int) (rd l (i : Int)) l (l.length : Int) (i : Int) (w : Int) (k : Int)) R := by
  intro d
  induction d with
  | zero =>
    intro k x h hxl hxv
    refine Ev.step (fun q => by rw [pack_Put.l1]) ?_
    simp only [if_neg (show ¬ (k : Int) < (w : Int) by omega), wr1 i (by omega)]
    refine hR x hxl (fun j hj => ?_)
    rw [hxv j hj, Nat.add_mul, Nat.one_mul, show k = w by omega]
  | succ d ih =>
    intro k x h hxl hxv
    have hn := iw_lt hi (show k < w by omega)
    have hnw := nw_le hl hw
    have hb : i * w + k < (bitsL w l).length := by rw [bitsL_len]; exact hn
    have h8 : (i * w + k) / 8 < x.length := by rw [hxl]; unfold size8; omega
    have hxn : l[i].toNat < 2 ^ 62 := by
      have := Nat.pow_le_pow_right (n := 2) (by omega) hw
      have e : (2 : Nat) ^ 32 = 4294967296 := by decide
      omega
    refine Ev.step (fun q => by rw [pack_Put.l1]) ?_
    have e1 : rd l (i : Int) = ((l[i].toNat : Nat) : Int) := by rw [rd_nat l i hi]; omega
    have e2 : Go.bits .and .i64 (shr .i64 (rd l (i : Int)) (k : Int)) 1 % 256 = ((l[i].toNat / 2 ^ k % 2 : Nat) : Int) := by
      rw [e1, shr_nat .i64 _ k (by simp [IntKind.bits]; omega), and64_1 _ (Nat.lt_of_le_of_lt (Nat.div_le_self _ _) hxn)]
      omega
    have hlt := bval_lt (bitsL w l) (i * w + k) (by omega)
    have e3 : Go.bits .or .u8 (rd x (((i * w + k) / 8 : Nat) : Int)) (shl .u8 (Go.bits .and .i64 (shr .i64 (rd l (i : Int)) (k : Int)) 1 % 256) (((i * w + k) % 8 : Nat) : Int)) = ((bval (bitsL w l) (i * w + k) ((i * w + k) / 8) + (l[i].toNat / 2 ^ k % 2) * 2 ^ ((i * w + k) % 8) : Nat) : Int) := by
      rw [e2, hxv _ h8, or_bit2 (by omega) hlt (by omega)]
    simp only [if_pos (show (k : Int) < (w : Int) by omega), mulw i w (by omega) (by omega), addw (i * w) k (by omega) (by omega), div8b (i * w + k) (by omega), mod8 (i * w + k), if_pos (show 0 ≤ (((i * w + k) / 8 : Nat) : Int) by omega), if_pos (show (((i * w + k) / 8 : Nat) : Int) < (x.length : Int) by omega), if_pos (show 0 ≤ (k : Int) by omega), if_pos (show 0 ≤ (((i * w + k) % 8 : Nat) : Int) by omega), Int.toNat_natCast, e3, wr1 k (by omega)]
    refine ih (k + 1) _ (by omega) (by simpa using hxl) (fun j hj => ?_)
    rw [rd_set _ _ _ _ h8, show i * w + (k + 1) = i * w + k + 1 by omega, bval_step _ _ _ hb, bitsL_at w l i k hi (by omega) hb, ← bit_num]
    by_cases e : (i * w + k) / 8 = j
    · subst e; simp
    · rw [if_neg e, hxv j (by simpa using hj), if_neg e, Nat.add_zero]
theorem pput_l (w : Nat) (hw : w ≤ 32) (l : List Int) (hl : l.length ≤ 10000) : ∀ (t : List Int) (i : Nat) (x : List Int), l.drop i = t → i ≤ l.length → x.length = size8 (l.length * w) → (∀ j, j < x.length → rd x (j : Int) = (bval (bitsL w l) (i * w) j : Int)) →
    Ev (fun k => pack_Put.l0 k (w : Int) x l (l.length : Int) (i : Int)) (if t.all (goodN w) = true then packed w l else badP) := by
  intro t
  induction t with
  | nil =>
    intro i x h hi hxl hxv
    have := drop_nil h
    obtain rfl : i = l.length := by omega
    refine Ev.step (fun k => by rw [pack_Put.l0]) ?_
    simp only [if_neg (show ¬ (l.length : Int) < (l.length : Int) by omega), List.all_nil, if_true]
    rw [show packed w l = (x, 0) by unfold packed; rw [pack_of (bitsL w l) x (by rw [bitsL_len]; exact hxl) (by rw [bitsL_len]; exact hxv)]]
    exact Ev.now _
  | cons a t ih =>
    intro i x h hi hxl hxv
    have hlt := drop_lt h
    have ha : l[i] = a := by rw [← rd_nat l i hlt, drop_rd h]
    have hra := drop_rd h
    refine Ev.step (fun k => by rw [pack_Put.l0]) ?_
    have hbad : Ev (fun k => pack_Put.j2 k (w : Int) x (i : Int) (rd l (i : Int)) l (l.length : Int) (i : Int) true) badP := by
      refine Ev.step (fun k => by rw [pack_Put.j2]) ?_
      simp only [if_true]
      exact Ev.now _
    simp only [if_pos (show (i : Int) < (l.length : Int) by omega), if_pos (show 0 ≤ (i : Int) by omega), if_pos (show 0 ≤ (w : Int) by omega)]
    by_cases h0 : a < 0
    · rw [hra] at hbad ⊢
      simp only [if_pos h0]
      rw [List.all_cons, show goodN w a = false by unfold goodN; rw [decide_eq_false (by omega)]; rfl, Bool.false_and]
      simp only [Bool.false_eq_true, if_false]
      exact hbad
    · have hs : shr .i64 a (w : Int) = ((a.toNat / 2 ^ w : Nat) : Int) := by
        have := shr_nat .i64 a.toNat w (by simp [IntKind.bits]; omega)
        rwa [show ((a.toNat : Nat) : Int) = a by omega] at this
      have hpos := Nat.two_pow_pos w
      by_cases h1 : a < ((2 ^ w : Nat) : Int)
      · have hz : ¬ shr .i64 a (w : Int) > 0 := by
          rw [hs, Nat.div_eq_of_lt (by omega)]
          omega
        rw [hra] at ⊢
        simp only [if_neg h0, decide_eq_false hz]
        refine Ev.step (fun k => by rw [pack_Put.j2]) ?_
        simp only [Bool.false_eq_true, if_false]
        rw [List.all_cons, show goodN w a = true by unfold goodN; rw [decide_eq_true (by omega), decide_eq_true h1]; rfl, Bool.true_and]
        have := pput_1 w hw l hl i hlt (by omega) (by omega) _ (fun x hx hxv => ih (i + 1) x (drop_tl h) (by omega) hx hxv) w 0 x (by omega) hxl (by simpa using hxv)
        rw [hra] at this
        exact this
      · have hz : shr .i64 a (w : Int) > 0 := by
          rw [hs]
          have := Nat.div_pos (show 2 ^ w ≤ a.toNat by omega) hpos
          omega
        rw [hra] at hbad ⊢
        simp only [if_neg h0, decide_eq_true hz]
        rw [List.all_cons, show goodN w a = false by unfold goodN; rw [decide_eq_false h1]; simp, Bool.false_and]
        simp only [Bool.false_eq_true, if_false]
        exact hbad
theorem pput_f (w : Nat) (hw : w ≤ 32) (l : List Int) (hl : l.length ≤ 10000) : Ev (fun k => pack_Put.f k l (w : Int)) (if l.all (goodN w) = true then packed w l else badP) := by
  unfold pack_Put.f
  simp only [if_neg (show ¬ (w : Int) < 0 by omega), decide_eq_false (show ¬ (w : Int) > 32 by omega)]
  refine Ev.step (fun k => by rw [pack_Put.j0]) ?_
  simp only [Bool.false_eq_true, if_false]
  have hnw := nw_le hl hw
  have e : pack_size.f (l.length : Int) (w : Int) = some ((size8 (l.length * w) : Nat) : Int) := by
    unfold pack_size.f
    congr 1
    rw [mulw _ _ (by omega) (by omega)]
    have e1 : wrap64 (wrap64 (((l.length * w : Nat) : Int) + 8) - 1) = ((l.length * w + 7 : Nat) : Int) := by unfold wrap64; omega
    rw [e1, div8b _ (by omega)]
    rfl
  have hs : size8 (l.length * w) ≤ 100000 := by unfold size8; omega
  refine Ev.bind (g := fun _ => pack_size.f _ _) (ev_some e) ?_
  simp only [if_pos (show 0 ≤ ((size8 (l.length * w) : Nat) : Int) by omega), Int.toNat_natCast, if_pos (show size8 (l.length * w) ≤ 281474976710656 by omega)]
  refine pput_l w hw l hl l 0 _ rfl (by omega) (by simp) (fun j hj => ?_)
  rw [bval_zero _ _ j (by omega), rd_nat _ j hj]
  simp
end Go.Proofs.Ytljhlpkoilapiaa.HP
end
section
/- Little facts of quotients. -/
set_option linter.unusedVariables false
set_option linter.unusedSimpArgs false
namespace Go.Proofs.Ytljhlpkoilapiaa.HP
open Go.RowKit Go.Proofs.Ytljhlpkoilapiaa.P Go.Proofs.YtljhlpkoilapiaaW.PrintWords Go.Proofs.YtljhlpkoilapiaaW.PrintLast Go.Proofs.YtljhlpkoilapiaaW.PrintMore
theorem wr_nat (a : Nat) (ha : a < 2 ^ 62) : wrap64 (a : Int) = (a : Int) := by unfold wrap64; omega
theorem tdiv_nat (a p : Nat) (ha : a < 2 ^ 62) : wrap64 (Int.tdiv (a : Int) (p : Int)) = ((a / p : Nat) : Int) := by
  rw [Int.tdiv_eq_ediv_of_nonneg (by omega), ← Int.natCast_ediv]
  exact wr_nat _ (Nat.lt_of_le_of_lt (Nat.div_le_self _ _) ha)
theorem tmod2 (q : Nat) : Int.tmod (q : Int) 2 = ((q % 2 : Nat) : Int) := by
  rw [Int.tmod_eq_emod_of_nonneg (by omega)]
  omega
theorem add256 (a b : Nat) (h : a + b < 256) : ((a : Int) + (b : Int) % 256) % 256 = ((a + b : Nat) : Int) := by omega
end Go.Proofs.Ytljhlpkoilapiaa.HP
end
section
/- The reference's Put packs the same bytes. -/
set_option linter.unusedVariables false
set_option linter.unusedSimpArgs false
namespace Go.Proofs.Ytljhlpkoilapiaa.HP
open Go.RowKit Go.Proofs.Ytljhlpkoilapiaa.P Go.Proofs.YtljhlpkoilapiaaW.PrintWords Go.Proofs.YtljhlpkoilapiaaW.PrintLast Go.Proofs.YtljhlpkoilapiaaW.PrintMore
theorem rput_1 (w : Nat) (hw : w ≤ 32) (l : List Int) (hl : l.length ≤ 10000) (i : Nat) (hi : i < l.length) (hx : 0 ≤ l[i]) (hx2 : l[i] < ((2 ^ w : Nat) : Int)) (R : List Int × Int)
    (hR : ∀ x : List Int, x.length = size8 ((i + 1) * w) → (∀ j, j < x.length → rd x (j : Int) = (bval (bitsL w l) ((i + 1) * w) j : Int)) → Ev (fun k => hopperref03_Put.l0 k l (w : Int) x (((i + 1) * w : Nat) : Int) ((i + 1 : Nat) : Int)) R) :
    ∀ (d k : Nat) (x : List Int), k + d = w → x.length = size8 (i * w + k) → (∀ j, j < x.length → rd x (j : Int) = (bval (bitsL w l) (i * w + k) j : Int)) →
    Ev (fun q => hopperref03_Put.l1 q l (w : Int) x ((i * w + k : Nat) : Int) (i : Int) (k : Int)) R := by
  intro d
  induction d with
  | zero =>
    intro k x h hxl hxv
    refine Ev.step (fun q => by rw [hopperref03_Put.l1]) ?_
    simp only [if_neg (show ¬ (k : Int) < (w : Int) by omega), wr1 i (by omega)]
    have e : i * w + k = (i + 1) * w := by rw [Nat.add_mul, Nat.one_mul]; omega
    rw [e] at hxl hxv ⊢
    exact hR x hxl hxv
  | succ d ih =>
    intro k x h hxl hxv
    have hn := iw_lt hi (show k < w by omega)
    have hnw := nw_le hl hw
    have hb : i * w + k < (bitsL w l).length := by rw [bitsL_len]; exact hn
    have hs8 : size8 (i * w + k) ≤ 100000 := by unfold size8; omega
    have hxn : l[i].toNat < 2 ^ 62 := by
      have := Nat.pow_le_pow_right (n := 2) (by omega) hw
      have e : (2 : Nat) ^ 32 = 4294967296 := by decide
      omega
    -- behind the new byte
    have key : ∀ y : List Int, y.length = size8 (i * w + k + 1) → (∀ j, j < y.length → rd y (j : Int) = (bval (bitsL w l) (i * w + k) j : Int)) → Ev (fun q => hopperref03_Put.j4 q l (w : Int) y ((i * w + k : Nat) : Int) (i : Int) (k : Int)) R := by
      intro y hyl hyv
      have h8 : (i * w + k) / 8 < y.length := by rw [hyl]; unfold size8; omega
      refine Ev.step (fun q => by rw [hopperref03_Put.j4]) ?_
      simp only [if_pos (show 0 ≤ (i : Int) by omega), if_pos (show (i : Int) < (l.length : Int) by omega)]
      refine (power_f k (by omega)).bind ?_
      have hpos := Nat.two_pow_pos k
      have e1 : rd l (i : Int) = ((l[i].toNat : Nat) : Int) := by rw [rd_nat l i hi]; omega
      have hdl := Nat.div_le_self l[i].toNat (2 ^ k)
      have e2 : Int.tmod (wrap64 (Int.tdiv (rd l (i : Int)) ((2 ^ k : Nat) : Int))) 2 = ((l[i].toNat / 2 ^ k % 2 : Nat) : Int) := by
        rw [e1, tdiv_nat _ _ hxn, tmod2]
      have hlt := bval_lt (bitsL w l) (i * w + k) (by omega)
      have hp8 : 2 ^ ((i * w + k) % 8) ≤ 128 := by
        have := Nat.pow_le_pow_right (n := 2) (by omega) (show (i * w + k) % 8 ≤ 7 by omega)
        simpa using this
      simp only [if_neg (show ¬ ((2 ^ k : Nat) : Int) = 0 by omega), e2, div8b (i * w + k) (by omega), mod8 (i * w + k), if_pos (show 0 ≤ (((i * w + k) / 8 : Nat) : Int) by omega), if_pos (show (((i * w + k) / 8 : Nat) : Int) < (y.length : Int) by omega), Int.toNat_natCast, wr1 (i * w + k) (by omega), wr1 k (by omega)]
      by_cases hbit : ((l[i].toNat / 2 ^ k % 2 : Nat) : Int) = 1
      · simp only [if_pos hbit]
        refine (power_f ((i * w + k) % 8) (by omega)).bind ?_
        have e3 : (rd y (((i * w + k) / 8 : Nat) : Int) + ((2 ^ ((i * w + k) % 8) : Nat) : Int) % 256) % 256 = ((bval (bitsL w l) (i * w + k) ((i * w + k) / 8) + 2 ^ ((i * w + k) % 8) : Nat) : Int) := by
          rw [hyv _ h8]
          exact add256 _ _ (by generalize 2 ^ ((i * w + k) % 8) = p at *; omega)
        simp only [e3]
        refine ih (k + 1) _ (by omega) (by rw [List.length_set, hyl, Nat.add_assoc]) (fun j hj => ?_)
        rw [rd_set _ _ _ _ h8, show i * w + (k + 1) = i * w + k + 1 by omega, bval_step _ _ _ hb, bitsL_at w l i k hi (by omega) hb, ← bit_num]
        have e5 : l[i].toNat / 2 ^ k % 2 = 1 := by omega
        rw [e5]
        by_cases e : (i * w + k) / 8 = j
        · subst e; simp
        · rw [if_neg e, hyv j (by simpa using hj), if_neg e, Nat.add_zero]
      · simp only [if_neg hbit]
        refine ih (k + 1) _ (by omega) (by rw [hyl, Nat.add_assoc]) (fun j hj => ?_)
        rw [show i * w + (k + 1) = i * w + k + 1 by omega, bval_step _ _ _ hb, bitsL_at w l i k hi (by omega) hb, ← bit_num]
        have e5 : l[i].toNat / 2 ^ k % 2 = 0 := by omega
        rw [e5, hyv j hj]
        simp
    refine Ev.step (fun q => by rw [hopperref03_Put.l1]) ?_
    simp only [if_pos (show (k : Int) < (w : Int) by omega), mod8 (i * w + k), if_pos (show x.length < 140737488355328 by omega)]
    by_cases hm : (((i * w + k) % 8 : Nat) : Int) = 0
    · simp only [if_pos hm]
      exact key (x ++ [0]) (by simp [hxl]; unfold size8; omega) (fun j hj => by
        rw [rd_app]
        by_cases e : j = x.length
        · rw [if_pos e, bval_zero _ _ j (by rw [e, hxl]; unfold size8; omega)]; rfl
        · rw [if_neg e]
          exact hxv j (by simp at hj; omega))
    · simp only [if_neg hm]
      exact key x (by rw [hxl]; unfold size8; omega) hxv
theorem rput_l (w : Nat) (hw : w ≤ 32) (l : List Int) (hl : l.length ≤ 10000) : ∀ (t : List Int) (i : Nat) (x : List Int), l.drop i = t → i ≤ l.length → x.length = size8 (i * w) → (∀ j, j < x.length → rd x (j : Int) = (bval (bitsL w l) (i * w) j : Int)) →
    Ev (fun k => hopperref03_Put.l0 k l (w : Int) x ((i * w : Nat) : Int) (i : Int)) (if t.all (goodN w) = true then packed w l else badP) := by
  intro t
  induction t with
  | nil =>
    intro i x h hi hxl hxv
    have := drop_nil h
    obtain rfl : i = l.length := by omega
    refine Ev.step (fun k => by rw [hopperref03_Put.l0]) ?_
    simp only [if_neg (show ¬ (l.length : Int) < (l.length : Int) by omega), List.all_nil, if_true]
    rw [show packed w l = (x, 0) by unfold packed; rw [pack_of (bitsL w l) x (by rw [bitsL_len]; exact hxl) (by rw [bitsL_len]; exact hxv)]]
    exact Ev.now _
  | cons a t ih =>
    intro i x h hi hxl hxv
    have hlt := drop_lt h
    have ha : l[i] = a := by rw [← rd_nat l i hlt, drop_rd h]
    have hra := drop_rd h
    refine Ev.step (fun k => by rw [hopperref03_Put.l0]) ?_
    have hbad : Ev (fun k => hopperref03_Put.j2 k l (w : Int) x ((i * w : Nat) : Int) (i : Int) true) badP := by
      refine Ev.step (fun k => by rw [hopperref03_Put.j2]) ?_
      simp only [if_true]
      exact Ev.now _
    simp only [if_pos (show (i : Int) < (l.length : Int) by omega), if_pos (show 0 ≤ (i : Int) by omega), hra]
    by_cases h0 : a < 0
    · simp only [if_pos h0]
      rw [List.all_cons, show goodN w a = false by unfold goodN; rw [decide_eq_false (by omega)]; rfl, Bool.false_and]
      simp only [Bool.false_eq_true, if_false]
      exact hbad
    · simp only [if_neg h0]
      refine (power_f w (by omega)).bind ?_
      by_cases h1 : a ≥ ((2 ^ w : Nat) : Int)
      · simp only [decide_eq_true h1]
        rw [List.all_cons, show goodN w a = false by unfold goodN; rw [decide_eq_false (show ¬ a < ((2 ^ w : Nat) : Int) by omega)]; simp, Bool.false_and]
        simp only [Bool.false_eq_true, if_false]
        exact hbad
      · simp only [decide_eq_false h1]
        refine Ev.step (fun k => by rw [hopperref03_Put.j2]) ?_
        simp only [Bool.false_eq_true, if_false]
        rw [List.all_cons, show goodN w a = true by unfold goodN; rw [decide_eq_true (by omega), decide_eq_true (show a < ((2 ^ w : Nat) : Int) by omega)]; rfl, Bool.true_and]
        have := rput_1 w hw l hl i hlt (by omega) (by omega) _ (fun x hx hxv => ih (i + 1) x (drop_tl h) (by omega) hx hxv) w 0 x (by omega) (by simpa using hxl) (by simpa using hxv)
        simpa using this
theorem rput3_f (w : Nat) (hw : w ≤ 32) (l : List Int) (hl : l.length ≤ 10000) : Ev (fun k => hopperref03_Put.f k l (w : Int)) (if l.all (goodN w) = true then packed w l else badP) := by
  unfold hopperref03_Put.f
  simp only [if_neg (show ¬ (w : Int) < 0 by omega), decide_eq_false (show ¬ (w : Int) > 32 by omega)]
  refine Ev.step (fun k => by rw [hopperref03_Put.j0]) ?_
  simp only [Bool.false_eq_true, if_false]
  have := rput_l w hw l hl l 0 [] rfl (by omega) (by simp [size8]) (fun j hj => by simp at hj)
  simpa using this
end Go.Proofs.Ytljhlpkoilapiaa.HP
end
section
/- Both Gets tell the same number. -/
set_option linter.unusedVariables false
set_option linter.unusedSimpArgs false
namespace Go.Proofs.Ytljhlpkoilapiaa.HP
open Go.RowKit Go.Proofs.Ytljhlpkoilapiaa.P Go.Proofs.YtljhlpkoilapiaaW.PrintWords Go.Proofs.YtljhlpkoilapiaaW.PrintLast Go.Proofs.YtljhlpkoilapiaaW.PrintMore
def isB (l : List Int) : Prop := ∀ x ∈ l, 0 ≤ x ∧ x < 256
/-- A bit of bytes; behind their end there is none. -/
def bitB (b : List Int) (n : Nat) : Bool := decide (n / 8 < b.length) && (b.getD (n / 8) 0).toNat.testBit (n % 8)
/-- A number's bits. -/
def getL (b : List Int) (w i : Nat) : List Bool := (List.range w).map (fun k => bitB b (i * w + k))
theorem getL_len (b : List Int) (w i : Nat) : (getL b w i).length = w := by simp [getL]
theorem getL_at (b : List Int) (w i k : Nat) (h : k < (getL b w i).length) : (getL b w i)[k] = bitB b (i * w + k) := by simp [getL]
def getN (b : List Int) (w i : Nat) : Nat := num (getL b w i)
theorem num_take (l : List Bool) (k : Nat) (hk : k < l.length) : num (l.take (k + 1)) = num (l.take k) + (if l[k] = true then 1 else 0) * 2 ^ k := by
  rw [List.take_succ_eq_append_getElem hk, num_snoc]
  have : (l.take k).length = k := by simp; omega
  rw [this]
  cases l[k] <;> simp
theorem byte_bit (b : List Int) (hb : isB b) (n : Nat) (h : n / 8 < b.length) : rd b ((n / 8 : Nat) : Int) = (((b.getD (n / 8) 0).toNat : Nat) : Int) ∧ (b.getD (n / 8) 0).toNat < 256 := by
  have e : b.getD (n / 8) 0 = b[n / 8] := by simp [List.getD_eq_getElem?_getD, h]
  have := hb b[n / 8] (List.getElem_mem _)
  rw [rd_nat b _ h, e]
  omega
theorem pget_l (b : List Int) (hb : isB b) (hbl : b.length ≤ 100000) (w : Nat) (hw : w ≤ 32) (i : Nat) (hi : i ≤ 65535) : ∀ (d k : Nat), k + d = w →
    Ev (fun q => pack_Get.l0 q b (w : Int) (i : Int) ((num ((getL b w i).take k) : Nat) : Int) (w : Int) (k : Int)) ((getN b w i : Nat) : Int) := by
  have hiw : i * w ≤ 65535 * 32 := Nat.mul_le_mul hi hw
  intro d
  induction d with
  | zero =>
    intro k h
    refine Ev.step (fun q => by rw [pack_Get.l0]) ?_
    simp only [if_neg (show ¬ (k : Int) < (w : Int) by omega)]
    rw [List.take_of_length_le (by rw [getL_len]; omega)]
    exact Ev.now _
  | succ d ih =>
    intro k h
    have hk : k < (getL b w i).length := by rw [getL_len]; omega
    have hnum := num_take (getL b w i) k hk
    rw [getL_at] at hnum
    have hlt : num ((getL b w i).take k) < 2 ^ k := by
      have := num_lt ((getL b w i).take k)
      rwa [show ((getL b w i).take k).length = k by simp; omega] at this
    refine Ev.step (fun q => by rw [pack_Get.l0]) ?_
    simp only [if_pos (show (k : Int) < (w : Int) by omega), mulw i w (by omega) (by omega), addw (i * w) k (by omega) (by omega), div8b (i * w + k) (by omega), mod8 (i * w + k), wr1 k (by omega)]
    by_cases hin : (i * w + k) / 8 < b.length
    · obtain ⟨e1, e2⟩ := byte_bit b hb (i * w + k) hin
      have e3 : wrap64 (Go.bits .and .u8 (shr .u8 (rd b (((i * w + k) / 8 : Nat) : Int)) (((i * w + k) % 8 : Nat) : Int)) 1) = (((b.getD ((i * w + k) / 8) 0).toNat / 2 ^ ((i * w + k) % 8) % 2 : Nat) : Int) := by
        rw [e1, shr_nat .u8 _ _ (by simp [IntKind.bits]; omega), and8_1 _ (Nat.lt_of_le_of_lt (Nat.div_le_self _ _) e2)]
        exact wr_nat _ (by omega)
      have hbit : bitB b (i * w + k) = (b.getD ((i * w + k) / 8) 0).toNat.testBit ((i * w + k) % 8) := by unfold bitB; rw [decide_eq_true hin, Bool.true_and]
      simp only [if_pos (show (((i * w + k) / 8 : Nat) : Int) < (b.length : Int) by omega), if_pos (show 0 ≤ (((i * w + k) / 8 : Nat) : Int) by omega), if_pos (show 0 ≤ (((i * w + k) % 8 : Nat) : Int) by omega), if_pos (show 0 ≤ (k : Int) by omega), e3, or64_bit (show k ≤ 60 by omega) hlt (show (b.getD ((i * w + k) / 8) 0).toNat / 2 ^ ((i * w + k) % 8) % 2 < 2 by omega)]
      rw [bit_num, ← hbit, ← hnum]
      exact ih (k + 1) (by omega)
    · have hbit : bitB b (i * w + k) = false := by unfold bitB; rw [decide_eq_false hin, Bool.false_and]
      simp only [if_neg (show ¬ (((i * w + k) / 8 : Nat) : Int) < (b.length : Int) by omega)]
      rw [hbit] at hnum
      simp only [Bool.false_eq_true, if_false, Nat.zero_mul, Nat.add_zero] at hnum
      rw [← hnum]
      exact ih (k + 1) (by omega)
theorem pget_f (b : List Int) (hb : isB b) (hbl : b.length ≤ 100000) (w : Nat) (hw : w ≤ 32) (i : Nat) (hi : i ≤ 65535) : Ev (fun q => pack_Get.f q b (w : Int) (i : Int)) ((getN b w i : Nat) : Int) :=
  pget_l b hb hbl w hw i hi w 0 (by omega)
end Go.Proofs.Ytljhlpkoilapiaa.HP
end
section
/- How wide numbers are: pack's Width and the reference's. -/
set_option linter.unusedVariables false
set_option linter.unusedSimpArgs false
namespace Go.Proofs.Ytljhlpkoilapiaa.HP
open Go.RowKit Go.Proofs.Ytljhlpkoilapiaa.P Go.Proofs.YtljhlpkoilapiaaW.PrintWords Go.Proofs.YtljhlpkoilapiaaW.PrintLast Go.Proofs.YtljhlpkoilapiaaW.PrintMore
def bl (n : Nat) : Nat := if n = 0 then 0 else n.log2 + 1
theorem bl_le (n w : Nat) : bl n ≤ w ↔ n < 2 ^ w := by
  unfold bl
  by_cases h : n = 0
  · simp [h, Nat.two_pow_pos]
  · rw [if_neg h, ← Nat.log2_lt h]
    omega
theorem aux_bl : ∀ (f x : Nat), x < 2 ^ f → Go.Lib.bitLenAux f x = bl x := by
  intro f
  induction f with
  | zero =>
    intro x h
    obtain rfl : x = 0 := by simpa using h
    rfl
  | succ f ih =>
    intro x h
    by_cases hx : x = 0
    · subst hx; rfl
    · have e : Go.Lib.bitLenAux (f + 1) x = 1 + Go.Lib.bitLenAux f (x / 2) := by
        cases x with
        | zero => exact absurd rfl hx
        | succ x => simp [Go.Lib.bitLenAux, Nat.add_comm]
      rw [e, ih (x / 2) (by rw [Nat.pow_succ] at h; omega)]
      unfold bl
      rw [if_neg hx, Nat.log2_def x]
      by_cases h2 : x / 2 = 0
      · simp [h2, show ¬ 2 ≤ x by omega]
      · simp [h2, show 2 ≤ x by omega, Nat.add_comm]
theorem lib_bl (x : Nat) (h : x < 2 ^ 64) : Go.Lib.bitLen x = bl x := aux_bl 64 x h
def mayL (l : List Int) : Bool := l.all (fun a => decide (0 ≤ a) && decide (a ≤ 4294967295))
theorem may_mem {l : List Int} (h : mayL l = true) : ∀ a ∈ l, 0 ≤ a ∧ a ≤ 4294967295 := by
  intro a ha
  have := List.all_eq_true.mp h a ha
  simpa using this
def wideL (l : List Int) (w : Nat) : Nat := l.foldl (fun w a => max w (bl a.toNat)) w
theorem wide_le (l : List Int) : ∀ w v : Nat, wideL l w ≤ v ↔ w ≤ v ∧ ∀ a ∈ l, a.toNat < 2 ^ v := by
  induction l with
  | nil => intro w v; simp [wideL]
  | cons a t ih =>
    intro w v
    show wideL t (max w (bl a.toNat)) ≤ v ↔ _
    rw [ih, Nat.max_le, bl_le]
    simp [and_assoc]
theorem bl_32 {a : Int} (h : a ≤ 4294967295) : bl a.toNat ≤ 32 := by
  rw [bl_le]
  have e : (2 : Nat) ^ 32 = 4294967296 := by decide
  omega
theorem wide_32 {l : List Int} (h : mayL l = true) : wideL l 0 ≤ 32 := by
  rw [wide_le]
  refine ⟨by omega, fun a ha => ?_⟩
  have := (may_mem h a ha).2
  rw [← bl_le]
  exact bl_32 this
theorem rwidth_1 (l : List Int) (hl : l.length ≤ 10000) (i : Nat) (hi : i < l.length) (h0 : 0 ≤ l[i]) (h1 : l[i] ≤ 4294967295) (R : Int) : ∀ (d w : Nat), w + d = max w (bl l[i].toNat) → w ≤ 32 →
    Ev (fun k => hopperref03_Width.l0 k l ((max w (bl l[i].toNat) : Nat) : Int) ((i + 1 : Nat) : Int)) R → Ev (fun k => hopperref03_Width.l1 k l (w : Int) (i : Int)) R := by
  have h32 := bl_32 h1
  intro d
  induction d with
  | zero =>
    intro w h hw hR
    have hb : bl l[i].toNat ≤ w := by omega
    have hp := (bl_le _ _).mp hb
    refine Ev.step (fun k => by rw [hopperref03_Width.l1]) ?_
    simp only [if_pos (show 0 ≤ (i : Int) by omega), if_pos (show (i : Int) < (l.length : Int) by omega)]
    refine (power_f w (by omega)).bind ?_
    simp only [rd_nat l i hi, if_neg (show ¬ l[i] ≥ ((2 ^ w : Nat) : Int) by omega), wr1 i (by omega)]
    rw [show w = max w (bl l[i].toNat) by omega]
    exact hR
  | succ d ih =>
    intro w h hw hR
    have hb : ¬ bl l[i].toNat ≤ w := by omega
    have hp : ¬ l[i].toNat < 2 ^ w := fun q => hb ((bl_le _ _).mpr q)
    refine Ev.step (fun k => by rw [hopperref03_Width.l1]) ?_
    simp only [if_pos (show 0 ≤ (i : Int) by omega), if_pos (show (i : Int) < (l.length : Int) by omega)]
    refine (power_f w (by omega)).bind ?_
    simp only [rd_nat l i hi, if_pos (show l[i] ≥ ((2 ^ w : Nat) : Int) by omega), wr1 w (by omega)]
    refine ih (w + 1) (by omega) (by omega) ?_
    rw [show max (w + 1) (bl l[i].toNat) = max w (bl l[i].toNat) by omega]
    exact hR
theorem rwidth_l (l : List Int) (hl : l.length ≤ 10000) (hm : mayL l = true) : ∀ (t : List Int) (i w : Nat), l.drop i = t → i ≤ l.length → w ≤ 32 → Ev (fun k => hopperref03_Width.l0 k l (w : Int) (i : Int)) ((wideL t w : Nat) : Int) := by
  intro t
  induction t with
  | nil =>
    intro i w h hi hw
    have := drop_nil h
    refine Ev.step (fun k => by rw [hopperref03_Width.l0]) ?_
    simp only [if_neg (show ¬ (i : Int) < (l.length : Int) by omega)]
    exact Ev.now _
  | cons a t ih =>
    intro i w h hi hw
    have hlt := drop_lt h
    have ha : l[i] = a := by rw [← rd_nat l i hlt, drop_rd h]
    have hma := may_mem hm l[i] (List.getElem_mem _)
    have h32 := bl_32 hma.2
    refine Ev.step (fun k => by rw [hopperref03_Width.l0]) ?_
    simp only [if_pos (show (i : Int) < (l.length : Int) by omega)]
    refine rwidth_1 l hl i hlt hma.1 hma.2 _ (max w (bl l[i].toNat) - w) w (by omega) hw ?_
    show Ev _ ((wideL t (max w (bl a.toNat)) : Nat) : Int)
    rw [← ha]
    exact ih (i + 1) _ (drop_tl h) (by omega) (by omega)
theorem rwidth_f (l : List Int) (hl : l.length ≤ 10000) (hm : mayL l = true) : Ev (fun k => hopperref03_Width.f k l) ((wideL l 0 : Nat) : Int) := by
  have := rwidth_l l hl hm l 0 0 rfl (by omega) (by omega)
  exact this
theorem mx_fold (t : List Int) : ∀ a : Int, (t.foldl mx a = a ∨ t.foldl mx a ∈ t) ∧ a ≤ t.foldl mx a ∧ ∀ x ∈ t, x ≤ t.foldl mx a := by
  induction t with
  | nil => intro a; simp
  | cons b t ih =>
    intro a
    rw [List.foldl_cons]
    obtain ⟨h1, h2, h3⟩ := ih (mx a b)
    have hm : (mx a b = a ∨ mx a b = b) ∧ a ≤ mx a b ∧ b ≤ mx a b := by unfold mx; split <;> omega
    refine ⟨?_, by omega, ?_⟩
    · rcases h1 with h1 | h1
      · rcases hm.1 with e | e
        · left; omega
        · right; rw [h1, e]; exact List.mem_cons_self
      · right; exact List.mem_cons_of_mem _ h1
    · intro x hx
      rcases List.mem_cons.mp hx with rfl | hx
      · omega
      · exact h3 x hx
theorem pwidth_f (l : List Int) (hl : l.length ≤ 10000) (hm : mayL l = true) : pack_Width.f l = some ((wideL l 0 : Nat) : Int) := by
  unfold pack_Width.f
  cases l with
  | nil => rfl
  | cons a t =>
    have e1 : slices_Max_int_int.f (a :: t) = some (t.foldl mx a) := by
      unfold slices_Max_int_int.f slices_Max_int_int.m
      simp [rd]
    obtain ⟨h1, h2, h3⟩ := mx_fold t a
    have hin : t.foldl mx a ∈ a :: t := by
      rcases h1 with e | e
      · rw [e]; exact List.mem_cons_self
      · exact List.mem_cons_of_mem _ e
    have hr := may_mem hm _ hin
    generalize hM : t.foldl mx a = M at *
    have hlen : ¬ (((a :: t).length : Nat) : Int) = 0 := by simp; omega
    rw [if_neg hlen, e1]
    simp only [Option.bind_some]
    have e2 : M % 4294967296 = ((M.toNat : Nat) : Int) := by omega
    rw [e2]
    unfold bits_Len32.f
    rw [if_pos (by omega)]
    simp only [Option.bind_some]
    congr 1
    have e3 := lib_bl M.toNat (by have e : (2 : Nat) ^ 64 = 18446744073709551616 := by decide
                                  omega)
    simp only [Int.toNat_natCast]
    rw [e3]
    congr 1
    apply Nat.le_antisymm
    · rw [bl_le]
      exact ((wide_le (a :: t) 0 (wideL (a :: t) 0)).mp (Nat.le_refl _)).2 M hin
    · rw [wide_le]
      refine ⟨by omega, fun x hx => ?_⟩
      have hx2 : x ≤ M := by
        rcases List.mem_cons.mp hx with rfl | hx
        · exact h2
        · exact h3 x hx
      have := (bl_le M.toNat (bl M.toNat)).mp (Nat.le_refl _)
      omega
theorem wide_good {l : List Int} (hm : mayL l = true) : l.all (goodN (wideL l 0)) = true := by
  rw [List.all_eq_true]
  intro a ha
  have h1 := may_mem hm a ha
  have h2 := ((wide_le l 0 (wideL l 0)).mp (Nat.le_refl _)).2 a ha
  unfold goodN
  simp only [Bool.and_eq_true, decide_eq_true_eq]
  omega
end Go.Proofs.Ytljhlpkoilapiaa.HP
end
section
/- What pack's laws share. -/
set_option linter.unusedVariables false
set_option linter.unusedSimpArgs false
namespace Go.Proofs.Ytljhlpkoilapiaa.HP
open Go.RowKit Go.Proofs.Ytljhlpkoilapiaa.P Go.Proofs.YtljhlpkoilapiaaW.PrintWords Go.Proofs.YtljhlpkoilapiaaW.PrintLast Go.Proofs.YtljhlpkoilapiaaW.PrintMore
def writeL (l : List Int) : List Int := vint l.length ++ [((wideL l 0 : Nat) : Int)] ++ pack (bitsL (wideL l 0) l)
theorem any_may (l : List Int) : l.any slices_ContainsFunc_int_int.p = !mayL l := by
  unfold mayL
  induction l with
  | nil => rfl
  | cons a t ih =>
    rw [List.any_cons, List.all_cons, ih]
    unfold slices_ContainsFunc_int_int.p
    by_cases h0 : a < 0
    · simp [h0, show ¬ 0 ≤ a by omega]
    · by_cases h1 : 4294967295 < a
      · simp [h1, show ¬ a ≤ 4294967295 by omega]
      · simp [h0, h1, show 0 ≤ a by omega, show a ≤ 4294967295 by omega]
theorem packB_len (l : List Int) (hl : l.length ≤ 10000) (w : Nat) (hw : w ≤ 32) : (pack (bitsL w l)).length ≤ 100000 := by
  have h1 := nw_le hl hw
  have : (pack (bitsL w l)).length = size8 (l.length * w) := by simp [pack, bitsL_len]
  rw [this]
  unfold size8
  omega
theorem pwrite_f (l : List Int) (hl : l.length ≤ 10000) (h : mayL l = true) : Ev (fun k => pack_Write.f k l) (writeL l, 0) := by
  have hw := wide_32 h
  have hp := packB_len l hl _ hw
  have hv := vint_len l.length (by omega)
  unfold pack_Write.f
  refine Ev.bind (g := fun _ => slices_ContainsFunc_int_int.f _ _) (ev_some (by unfold slices_ContainsFunc_int_int.f; rw [if_pos rfl])) ?_
  rw [any_may, h]
  simp only [Bool.not_true, Bool.false_eq_true, if_false]
  refine Ev.bind (g := fun _ => pack_Width.f _) (ev_some (pwidth_f l hl h)) ?_
  refine (pput_f _ hw l hl).bind ?_
  rw [if_pos (wide_good h)]
  refine (cput_f l.length (by omega)).bind ?_
  rw [show ((wideL l 0 : Nat) : Int) % 256 = ((wideL l 0 : Nat) : Int) by omega]
  have e : ([vint l.length, [((wideL l 0 : Nat) : Int)], pack (bitsL (wideL l 0) l)] : List (List Int)).flatten = writeL l := by unfold writeL; simp
  have hc : slices_Concat_byte_byte.f [vint l.length, [((wideL l 0 : Nat) : Int)], (packed (wideL l 0) l).1] = some (writeL l) := by
    rw [show (packed (wideL l 0) l).1 = pack (bitsL (wideL l 0) l) from rfl]
    unfold slices_Concat_byte_byte.f
    rw [e, if_pos (by unfold writeL; simp; omega)]
  exact Ev.bind (g := fun _ => slices_Concat_byte_byte.f _) (ev_some hc) (Ev.now _)
theorem rwrite_f (l : List Int) (hl : l.length ≤ 10000) (h : mayL l = true) : Ev (fun k => hopperref03_Write.f k l) (writeL l) := by
  have hw := wide_32 h
  have hp := packB_len l hl _ hw
  have hv := vint_len l.length (by omega)
  unfold hopperref03_Write.f
  refine (rwidth_f l hl h).bind ?_
  refine (rput3_f _ hw l hl).bind ?_
  rw [if_pos (wide_good h)]
  refine (rput l.length (by omega)).bind ?_
  refine (rwidth_f l hl h).bind ?_
  rw [show ((wideL l 0 : Nat) : Int) % 256 = ((wideL l 0 : Nat) : Int) by omega]
  simp only [if_pos (show (vint l.length).length < 140737488355328 by omega)]
  refine Ev.bind (g := fun _ => some _) (Ev.now _) ?_
  rw [show (packed (wideL l 0) l).1 = pack (bitsL (wideL l 0) l) from rfl]
  simp only [if_pos (show (vint l.length ++ [((wideL l 0 : Nat) : Int)]).length + (pack (bitsL (wideL l 0) l)).length < 140737488355328 by simp; omega)]
  exact Ev.now _
end Go.Proofs.Ytljhlpkoilapiaa.HP
end
section
/- Put and PutText, of whatever number and text. -/
set_option linter.unusedVariables false
set_option linter.unusedSimpArgs false
namespace Go.Proofs.Ytljhlpkoilapiaa.HP
open Go.RowKit Go.Proofs.Ytljhlpkoilapiaa.P Go.Proofs.YtljhlpkoilapiaaW.PrintWords Go.Proofs.YtljhlpkoilapiaaW.PrintLast Go.Proofs.YtljhlpkoilapiaaW.PrintMore
def textL (s : ByteArray) : List Int := vint s.size ++ bytesOf s
theorem ctext_f (s : ByteArray) (h : s.size ≤ 100000) : Ev (fun k => cursor_PutText.f k s) (textL s) := by
  have hv := vint_len s.size (by omega)
  unfold cursor_PutText.f
  refine (cput_f s.size (by omega)).bind ?_
  simp only [if_pos (show (vint s.size).length + s.size < 140737488355328 by omega)]
  exact Ev.now _
theorem rtext_f (s : ByteArray) (h : s.size ≤ 100000) : Ev (fun k => hopperref01_Text.f k s) (textL s) := by
  have hv := vint_len s.size (by omega)
  unfold hopperref01_Text.f
  refine (rput s.size (by omega)).bind ?_
  simp only [if_pos (show (vint s.size).length + s.size < 140737488355328 by omega)]
  exact Ev.now _
end Go.Proofs.Ytljhlpkoilapiaa.HP
end
section
/- What is packed is got as it was. -/
set_option linter.unusedVariables false
set_option linter.unusedSimpArgs false
namespace Go.Proofs.Ytljhlpkoilapiaa.HP
open Go.RowKit Go.Proofs.Ytljhlpkoilapiaa.P Go.Proofs.YtljhlpkoilapiaaW.PrintWords Go.Proofs.YtljhlpkoilapiaaW.PrintLast Go.Proofs.YtljhlpkoilapiaaW.PrintMore
theorem num_testBit : ∀ (b : List Bool) (k : Nat), (num b).testBit k = b.getD k false := by
  intro b
  induction b with
  | nil => intro k; simp [num]
  | cons a t ih =>
    intro k
    have e : num (a :: t) = (if a = true then 1 else 0) + 2 * num t := rfl
    rw [e]
    cases k with
    | zero =>
      rw [Nat.testBit_zero]
      cases a <;> simp <;> omega
    | succ k =>
      rw [Nat.testBit_succ, show ((if a = true then 1 else 0) + 2 * num t) / 2 = num t by cases a <;> simp <;> omega, ih k]
      simp
theorem num_bits (x w : Nat) (h : x < 2 ^ w) : num ((List.range w).map (fun k => x.testBit k)) = x := by
  apply Nat.eq_of_testBit_eq
  intro k
  rw [num_testBit]
  by_cases hk : k < w
  · simp [List.getD_eq_getElem?_getD, hk]
  · rw [List.getD_eq_getElem?_getD, List.getElem?_eq_none (by simp; omega)]
    have : x < 2 ^ k := Nat.lt_of_lt_of_le h (Nat.pow_le_pow_right (by omega) (by omega))
    rw [Nat.testBit_lt_two_pow this]
    rfl
theorem pack_length (b : List Bool) : (pack b).length = size8 b.length := by simp [pack]
theorem bitB_pack (b : List Bool) (n : Nat) (h : n < b.length) : bitB (pack b) n = b[n] := by
  have h8 : n / 8 < (pack b).length := by rw [pack_length]; unfold size8; omega
  unfold bitB
  rw [decide_eq_true h8, Bool.true_and]
  have e : (pack b).getD (n / 8) 0 = ((num ((b.drop (8 * (n / 8))).take 8) : Nat) : Int) := by
    have : n / 8 < size8 b.length := by rw [← pack_length]; exact h8
    simp [pack, List.getD_eq_getElem?_getD, this]
  rw [e, Int.toNat_natCast, num_testBit, List.getD_eq_getElem?_getD, List.getElem?_take, if_pos (by omega), List.getElem?_drop, show 8 * (n / 8) + n % 8 = n by omega]
  simp [h]
theorem getN_pack (w : Nat) (l : List Int) (h : l.all (goodN w) = true) (i : Nat) (hi : i < l.length) : ((getN (pack (bitsL w l)) w i : Nat) : Int) = l[i] := by
  have hg := List.all_eq_true.mp h l[i] (List.getElem_mem _)
  unfold goodN at hg
  simp only [Bool.and_eq_true, decide_eq_true_eq] at hg
  have e : getL (pack (bitsL w l)) w i = (List.range w).map (fun k => (l[i].toNat).testBit k) := by
    unfold getL
    apply List.map_congr_left
    intro k hk
    have hkw : k < w := by simpa using hk
    have hn := iw_lt hi hkw
    have hb : i * w + k < (bitsL w l).length := by rw [bitsL_len]; exact hn
    rw [bitB_pack _ _ hb, bitsL_at w l i k hi hkw hb]
  unfold getN
  rw [e, num_bits _ _ (by omega)]
  omega
theorem isB_pack (b : List Bool) : isB (pack b) := by
  intro x hx
  simp only [pack, List.mem_map] at hx
  obtain ⟨j, _, rfl⟩ := hx
  have h1 := num_lt ((b.drop (8 * j)).take 8)
  have h2 : 2 ^ ((b.drop (8 * j)).take 8).length ≤ 2 ^ 8 := Nat.pow_le_pow_right (by omega) (by simp; omega)
  have h3 : (2 : Nat) ^ 8 = 256 := by decide
  omega
end Go.Proofs.Ytljhlpkoilapiaa.HP
end
section
/- What Number reads: varints, and nothing else. -/
set_option linter.unusedVariables false
set_option linter.unusedSimpArgs false
namespace Go.Proofs.Ytljhlpkoilapiaa.HP
open Go.RowKit Go.Proofs.Ytljhlpkoilapiaa.P Go.Proofs.YtljhlpkoilapiaaW.PrintWords Go.Proofs.YtljhlpkoilapiaaW.PrintLast Go.Proofs.YtljhlpkoilapiaaW.PrintMore
def isBy (l : List Int) : Prop := ∀ x ∈ l, 0 ≤ x ∧ x < 256
theorem and127 (b : Nat) (hb : b < 256) : Go.bits .and .u8 (b : Int) 127 = ((b % 128 : Nat) : Int) := by
  have := bits_mask .u8 8 (by decide) wraps_u8 7 (by decide) (b : Int) (by omega) (by omega)
  rw [show ((2 : Int) ^ 7 - 1) = 127 from rfl] at this
  rw [this]
  omega
theorem wraps_i64c (n : Int) (h₀ : 0 ≤ n) (h₁ : n < 2 ^ 63) : IntKind.i64.wrap n = n := by rw [IntKind.wrap_i64]; omega
theorem m_nat (i x b : Nat) (hi : i ≤ 8) (hx : x < 2 ^ (7 * i)) (hb : b < 256) : cursor_Cursor_Number.m i (x : Int) (b : Int) = ((x + b % 128 * 2 ^ (7 * i) : Nat) : Int) := by
  have h56 : 2 ^ (7 * i) ≤ 2 ^ 56 := Nat.pow_le_pow_right (by omega) (by omega)
  have hp := Nat.two_pow_pos (7 * i)
  have hlt : b % 128 * 2 ^ (7 * i) < 2 ^ 63 := by
    have h1 : b % 128 * 2 ^ (7 * i) ≤ 127 * 2 ^ (7 * i) := Nat.mul_le_mul_right _ (by omega)
    omega
  unfold cursor_Cursor_Number.m
  rw [and127 b hb]
  have e1 : wrap64 ((b % 128 : Nat) : Int) = ((b % 128 : Nat) : Int) := by unfold wrap64; omega
  have e2 : wrap64 (((b % 128 : Nat) : Int) * 2 ^ (7 * i)) = ((b % 128 * 2 ^ (7 * i) : Nat) : Int) := by
    rw [show ((b % 128 : Nat) : Int) * 2 ^ (7 * i) = ((b % 128 * 2 ^ (7 * i) : Nat) : Int) by push_cast; rfl]
    generalize b % 128 * 2 ^ (7 * i) = z at *
    unfold wrap64
    omega
  rw [e1, e2, (bits_nat .i64 63 (by decide) wraps_i64c x (b % 128 * 2 ^ (7 * i)) (by omega) hlt).2, Nat.or_comm, Nat.mul_comm (b % 128), ← Nat.two_pow_add_eq_or_of_lt hx, Nat.add_comm]
theorem p7 (i : Nat) : 2 ^ (7 * (i + 1)) = 128 * 2 ^ (7 * i) := by rw [Nat.mul_add, Nat.pow_add, Nat.mul_comm]
/-- A varint is read as its number. -/
theorem z_vint : ∀ (n i x : Nat) (t : List Int), i + (vint n).length ≤ 9 → x < 2 ^ (7 * i) → (i = 0 ∨ 0 < n) →
    cursor_Cursor_Number.z (vint n ++ t) i (x : Int) = (((x + n * 2 ^ (7 * i) : Nat) : Int), ((i + (vint n).length : Nat) : Int), 0) := by
  intro n
  induction n using Nat.strongRecOn with
  | ind n ih =>
    intro i x t hl hx h0
    by_cases hn : n < 128
    · rw [vint_small hn] at hl ⊢
      simp only [List.length_singleton] at hl
      have hc : ¬ ((n : Int) = 0 ∧ 0 < i) := by omega
      simp only [List.singleton_append, cursor_Cursor_Number.z, if_neg (show ¬ i = 9 by omega), if_pos (show (n : Int) < 128 by omega), if_neg hc, m_nat i x n (by omega) hx (by omega), Nat.mod_eq_of_lt hn, List.length_singleton]
      push_cast
      rfl
    · rw [vint_big hn] at hl ⊢
      simp only [List.length_cons] at hl
      have hm := m_nat i x (n % 128 + 128) (by have := vint_pos (n / 128); omega) hx (by omega)
      rw [show (n % 128 + 128) % 128 = n % 128 by omega] at hm
      simp only [List.cons_append, cursor_Cursor_Number.z, if_neg (show ¬ i = 9 by have := vint_pos (n / 128); omega), if_neg (show ¬ ((n % 128 + 128 : Nat) : Int) < 128 by omega), hm, List.length_cons]
      have hx2 : x + n % 128 * 2 ^ (7 * i) < 2 ^ (7 * (i + 1)) := by
        rw [p7]
        have : n % 128 * 2 ^ (7 * i) ≤ 127 * 2 ^ (7 * i) := Nat.mul_le_mul_right _ (by omega)
        omega
      rw [ih (n / 128) (by omega) (i + 1) _ t (by omega) hx2 (by right; omega)]
      have e : x + n % 128 * 2 ^ (7 * i) + n / 128 * 2 ^ (7 * (i + 1)) = x + n * 2 ^ (7 * i) := by
        rw [p7, Nat.mul_left_comm, ← Nat.mul_assoc, Nat.add_assoc, ← Nat.add_mul]
        congr 2
        omega
      rw [e]
      simp only [Prod.mk.injEq, true_and, and_true]
      omega
theorem z_put (n : Nat) (hn : n < 9223372036854775808) (t : List Int) : cursor_Cursor_Number.z (vint n ++ t) 0 0 = ((n : Int), ((vint n).length : Int), 0) := by
  have := z_vint n 0 0 t (by have := vint_len n hn; omega) (by simp) (by left; rfl)
  simpa using this
/-- What is read was a varint. -/
theorem z_back : ∀ (l : List Int) (i x : Nat), isBy l → i ≤ 9 → x < 2 ^ (7 * i) → 
    (∃ n : Nat, ∃ t : List Int, l = vint n ++ t ∧ (i = 0 ∨ 0 < n) ∧ i + (vint n).length ≤ 9 ∧ cursor_Cursor_Number.z l i (x : Int) = (((x + n * 2 ^ (7 * i) : Nat) : Int), ((i + (vint n).length : Nat) : Int), 0)) ∨ cursor_Cursor_Number.z l i (x : Int) = (0, 0, 2) ∨ cursor_Cursor_Number.z l i (x : Int) = (0, 0, 3) := by
  intro l
  induction l with
  | nil => intro i x _ _ _; right; left; rfl
  | cons b t ih =>
    intro i x hb hi hx
    have hb0 := hb b List.mem_cons_self
    obtain ⟨c, rfl⟩ : ∃ c : Nat, b = (c : Int) := ⟨b.toNat, by omega⟩
    by_cases c9 : i = 9
    · right; right
      simp only [cursor_Cursor_Number.z, if_pos c9]
    · have hm := m_nat i x c (by omega) hx (by omega)
      by_cases hc : (c : Int) < 128
      · by_cases hz : (c : Int) = 0 ∧ 0 < i
        · right; right
          simp only [cursor_Cursor_Number.z, if_neg c9, if_pos hc, if_pos hz]
        · left
          refine ⟨c, t, ?_, by omega, ?_, ?_⟩
          · rw [vint_small (by omega)]; rfl
          · rw [vint_small (by omega)]; simp; omega
          · rw [vint_small (by omega)]
            simp only [cursor_Cursor_Number.z, if_neg c9, if_pos hc, if_neg hz, hm, Nat.mod_eq_of_lt (show c < 128 by omega), List.length_singleton]
            push_cast
            rfl
      · have hx2 : x + c % 128 * 2 ^ (7 * i) < 2 ^ (7 * (i + 1)) := by
          rw [p7]
          have : c % 128 * 2 ^ (7 * i) ≤ 127 * 2 ^ (7 * i) := Nat.mul_le_mul_right _ (by omega)
          omega
        have hr : cursor_Cursor_Number.z ((c : Int) :: t) i (x : Int) = cursor_Cursor_Number.z t (i + 1) ((x + c % 128 * 2 ^ (7 * i) : Nat) : Int) := by
          simp only [cursor_Cursor_Number.z, if_neg c9, if_neg hc, hm]
        rcases ih (i + 1) _ (fun y hy => hb y (List.mem_cons_of_mem _ hy)) (by omega) hx2 with ⟨n, t2, e1, h2, h3, e4⟩ | e | e
        · left
          have hn : 0 < n := by omega
          have hbig : ¬ (c % 128 + 128 * n) < 128 := by omega
          have ev : vint (c % 128 + 128 * n) = ((c : Nat) : Int) :: vint n := by
            rw [vint_big hbig, show (c % 128 + 128 * n) % 128 + 128 = c by omega, show (c % 128 + 128 * n) / 128 = n by omega]
          refine ⟨c % 128 + 128 * n, t2, ?_, by omega, ?_, ?_⟩
          · rw [ev, e1]; rfl
          · rw [ev]; simp; omega
          · rw [hr, e4, ev]
            have e : x + c % 128 * 2 ^ (7 * i) + n * 2 ^ (7 * (i + 1)) = x + (c % 128 + 128 * n) * 2 ^ (7 * i) := by
              rw [p7, Nat.add_mul, Nat.mul_left_comm, ← Nat.mul_assoc, Nat.add_assoc]
            rw [e]
            simp only [Prod.mk.injEq, true_and, and_true, List.length_cons]
            omega
        · right; left; rw [hr]; exact e
        · right; right; rw [hr]; exact e
theorem vint_small9 {n : Nat} (h : (vint n).length ≤ 9) : n < 9223372036854775808 := by
  have key : ∀ (k n : Nat), (vint n).length ≤ k → n < 2 ^ (7 * k) := by
    intro k
    induction k with
    | zero => intro n h; have := vint_pos n; omega
    | succ k ih =>
      intro n h
      by_cases hn : n < 128
      · rw [p7]; have := Nat.two_pow_pos (7 * k); omega
      · rw [vint_big hn] at h
        have := ih (n / 128) (by simpa using h)
        rw [p7]
        omega
  have := key 9 n h
  simpa using this
theorem z_any (l : List Int) (hl : isBy l) : (∃ n : Nat, n < 9223372036854775808 ∧ ∃ t : List Int, l = vint n ++ t ∧ cursor_Cursor_Number.z l 0 0 = ((n : Int), ((vint n).length : Int), 0)) ∨ cursor_Cursor_Number.z l 0 0 = (0, 0, 2) ∨ cursor_Cursor_Number.z l 0 0 = (0, 0, 3) := by
  rcases z_back l 0 0 hl (by omega) (by simp) with ⟨n, t, e1, _, h3, e4⟩ | e | e
  · left
    exact ⟨n, vint_small9 (by omega), t, e1, by simpa using e4⟩
  · right; left; exact e
  · right; right; exact e
end Go.Proofs.Ytljhlpkoilapiaa.HP
end
section
/- What a cursor's methods tell of a varint, a text, and their ends. -/
set_option linter.unusedVariables false
set_option linter.unusedSimpArgs false
namespace Go.Proofs.Ytljhlpkoilapiaa.HP
open Go.RowKit Go.Proofs.Ytljhlpkoilapiaa.P Go.Proofs.YtljhlpkoilapiaaW.PrintWords Go.Proofs.YtljhlpkoilapiaaW.PrintLast Go.Proofs.YtljhlpkoilapiaaW.PrintMore
theorem str_bytes (s : ByteArray) : strOfNums (bytesOf s) = s := by
  unfold strOfNums bytesOf
  rw [List.map_map]
  have e : (fun n : Int => UInt8.ofNat n.toNat) ∘ (fun b : UInt8 => (b.toNat : Int)) = id := by
    funext b
    simp
  rw [e, List.map_id]
theorem wr_at (a : Nat) (ha : a ≤ 2000000) : wrap64 (a : Int) = (a : Int) := by unfold wrap64; omega
theorem number_at (l : List Int) (a n : Nat) (t : List Int) (hn : n < 9223372036854775808) (hl : l.length ≤ 1000000) (h : l.drop a = vint n ++ t) : cursor_Cursor_Number.f l (a : Int) 0 = some ((n : Int), ((a + (vint n).length : Nat) : Int), 0) := by
  have hv := vint_len n hn
  have hp := vint_pos n
  have ha : a ≤ l.length := by
    rcases Nat.lt_or_ge l.length a with h1 | h1
    · rw [List.drop_eq_nil_of_le (by omega)] at h
      have := congrArg List.length h
      simp at this
      omega
    · exact h1
  unfold cursor_Cursor_Number.f
  rw [if_pos rfl, if_pos (by omega), Int.toNat_natCast, h, z_put n hn]
  simp only
  have e : wrap64 ((a : Int) + ((vint n).length : Int)) = ((a + (vint n).length : Nat) : Int) := by
    have := wr_at (a + (vint n).length) (by omega)
    rw [← this]
    push_cast
    rfl
  rw [e]
theorem bytes_at (l : List Int) (a n : Nat) (hl : l.length ≤ 1000000) (h : a + n ≤ l.length) : cursor_Cursor_Bytes.f l (a : Int) 0 (n : Int) = some ((l.drop a).take n, ((a + n : Nat) : Int), 0) := by
  unfold cursor_Cursor_Bytes.f
  rw [if_pos rfl, if_neg (by omega), if_pos (by omega), if_neg (by omega), if_pos (by omega)]
  simp
theorem text_at (l : List Int) (a : Nat) (s : ByteArray) (t : List Int) (hs : s.size ≤ 4096) (hl : l.length ≤ 1000000) (h : l.drop a = textL s ++ t) : cursor_Cursor_Text.f l (a : Int) 0 = some (s, ((a + (textL s).length : Nat) : Int), 0) := by
  have hn := number_at l a s.size (bytesOf s ++ t) (by omega) hl (by rw [h]; unfold textL; simp)
  have hlen := congrArg List.length h
  have hb := bytesOf_length s
  simp only [List.length_drop, List.length_append, textL] at hlen
  have hp := vint_pos s.size
  have hd : (l.drop (a + (vint s.size).length)).take s.size = bytesOf s := by
    rw [← List.drop_drop, h]
    unfold textL
    rw [List.append_assoc, List.drop_left, ← hb, List.take_left]
  unfold cursor_Cursor_Text.f cursor_Cursor_Most.f
  rw [hn]
  simp only [Option.bind_some, if_neg (show ¬ (s.size : Int) > 4096 by omega)]
  rw [bytes_at l _ s.size hl (by omega), hd]
  simp only [Option.bind_some, if_true, str_bytes]
  unfold textL
  rw [List.length_append, hb, Nat.add_assoc]
theorem left_at (l : List Int) (a : Nat) (e : Int) (hl : l.length ≤ 1000000) (ha : a ≤ l.length) : cursor_Cursor_Left.f l (a : Int) e = some (((l.length - a : Nat) : Int), (a : Int), e) := by
  unfold cursor_Cursor_Left.f
  have e1 : wrap64 ((l.length : Int) - (a : Int)) = ((l.length - a : Nat) : Int) := by
    rw [← wr_at (l.length - a) (by omega)]
    congr 1
    omega
  rw [e1]
theorem number_any (l : List Int) (hb : isBy l) (hl : l.length ≤ 1000000) (a : Nat) (ha : a ≤ l.length) : (∃ n : Nat, n < 9223372036854775808 ∧ ∃ t : List Int, l.drop a = vint n ++ t ∧ cursor_Cursor_Number.f l (a : Int) 0 = some ((n : Int), ((a + (vint n).length : Nat) : Int), 0)) ∨ cursor_Cursor_Number.f l (a : Int) 0 = some (0, (a : Int), 2) ∨ cursor_Cursor_Number.f l (a : Int) 0 = some (0, (a : Int), 3) := by
  have hbd : isBy (l.drop a) := fun x hx => hb x (List.mem_of_mem_drop hx)
  have bad : ∀ e : Int, cursor_Cursor_Number.z (l.drop a) 0 0 = (0, 0, e) → cursor_Cursor_Number.f l (a : Int) 0 = some (0, (a : Int), e) := by
    intro e h
    unfold cursor_Cursor_Number.f
    rw [if_pos rfl, if_pos (by omega), Int.toNat_natCast, h]
    simp only [Int.add_zero]
    rw [wr_at a (by omega)]
  rcases z_any (l.drop a) hbd with ⟨n, hn, t, e1, e2⟩ | e | e
  · left
    exact ⟨n, hn, t, e1, number_at l a n t hn hl e1⟩
  · right; left; exact bad 2 e
  · right; right; exact bad 3 e
end Go.Proofs.Ytljhlpkoilapiaa.HP
end
section
/- What is written is read as it was. -/
set_option linter.unusedVariables false
set_option linter.unusedSimpArgs false
namespace Go.Proofs.Ytljhlpkoilapiaa.HP
open Go.RowKit Go.Proofs.Ytljhlpkoilapiaa.P Go.Proofs.YtljhlpkoilapiaaW.PrintWords Go.Proofs.YtljhlpkoilapiaaW.PrintLast Go.Proofs.YtljhlpkoilapiaaW.PrintMore
theorem psize_f (n w : Nat) (hn : n ≤ 10000) (hw : w ≤ 32) : pack_size.f (n : Int) (w : Int) = some ((size8 (n * w) : Nat) : Int) := by
  have hnw := nw_le hn hw
  unfold pack_size.f
  congr 1
  rw [mulw _ _ (by omega) (by omega)]
  have e1 : wrap64 (wrap64 (((n * w : Nat) : Int) + 8) - 1) = ((n * w + 7 : Nat) : Int) := by unfold wrap64; omega
  rw [e1, div8b _ (by omega)]
  rfl
theorem byte_at (l : List Int) (a : Nat) (hl : l.length ≤ 1000000) (h : a < l.length) (h0 : 0 ≤ l[a]) (h1 : l[a] < 256) : cursor_Cursor_Byte.f l (a : Int) 0 = some (l[a], ((a + 1 : Nat) : Int), 0) := by
  unfold cursor_Cursor_Byte.f
  have hb := bytes_at l a 1 hl (by omega)
  rw [show ((1 : Nat) : Int) = 1 from rfl] at hb
  have e : (l.drop a).take 1 = [l[a]] := by rw [List.drop_eq_getElem_cons h]; rfl
  rw [hb, e]
  have hw : wrap64 l[a] = l[a] := by unfold wrap64; omega
  simp [rd, hw]
theorem most_at (l : List Int) (a n m : Nat) (t : List Int) (hn : n < 9223372036854775808) (hm : n ≤ m) (hl : l.length ≤ 1000000) (h : l.drop a = vint n ++ t) : cursor_Cursor_Most.f l (a : Int) 0 (m : Int) = some ((n : Int), ((a + (vint n).length : Nat) : Int), 0) := by
  unfold cursor_Cursor_Most.f
  rw [number_at l a n t hn hl h]
  simp only [Option.bind_some, if_neg (show ¬ (n : Int) > (m : Int) by omega)]
end Go.Proofs.Ytljhlpkoilapiaa.HP
end
section
/- The cursor's other methods, over a cursor that was made. -/
set_option linter.unusedVariables false
set_option linter.unusedSimpArgs false
namespace Go.Proofs.Ytljhlpkoilapiaa.P
open Go.RowKit Go.Proofs.YtljhlpkoilapiaaW.PrintWords Go.Proofs.YtljhlpkoilapiaaW.PrintLast Go.Proofs.YtljhlpkoilapiaaW.PrintMore
section
variable {lo : Nat} {w w' : World} {g : Nat} {l : List Int} {i e : Int}
theorem Cur.number {r : Int} {i' e' : Int} (h : Cur lo w g l i e) (hf : cursor_Cursor_Number.f l i e = some (r, i', e')) :
    Calls Try.prog 51 #[.pointer (some ⟨g, 0, none⟩)] w fun en w' => en = .returned (.int .i64 r) ∧ Cur lo w' g l i' e' ∧ KeepBut w w' g none ∧ Below lo w w' := by
  refine (cursor_Cursor_Number.calls g l i e r i' e' (trw w g lo) w h.isS h.trb hf).mono ?_
  rintro en w' ⟨rfl, hi, hb, hk⟩
  exact ⟨rfl, h.back hk hi, hk, ⟨hb.os, hb.tape, hb.output, hk.1, fun k hk2 => hk.2 k (by have := h.lt; have := h.ge; omega) (by have := h.ge; omega) (by simp)⟩⟩
theorem Cur.left {r : Int} {i' e' : Int} (h : Cur lo w g l i e) (hf : cursor_Cursor_Left.f l i e = some (r, i', e')) :
    Calls Try.prog 20 #[.pointer (some ⟨g, 0, none⟩)] w fun en w' => en = .returned (.int .i64 r) ∧ Cur lo w' g l i' e' ∧ KeepBut w w' g none ∧ Below lo w w' := by
  refine (cursor_Cursor_Left.calls g l i e r i' e' (trw w g lo) w h.isS h.trb hf).mono ?_
  rintro en w' ⟨rfl, hi, hb, hk⟩
  exact ⟨rfl, h.back hk hi, hk, ⟨hb.os, hb.tape, hb.output, hk.1, fun k hk2 => hk.2 k (by have := h.lt; have := h.ge; omega) (by have := h.ge; omega) (by simp)⟩⟩
theorem Cur.end_ {r : Int} {i' e' : Int} (h : Cur lo w g l i e) (hf : cursor_Cursor_End.f l i e = some (r, i', e')) :
    Calls Try.prog 19 #[.pointer (some ⟨g, 0, none⟩)] w fun en w' => en = .returned (.int .i64 r) ∧ Cur lo w' g l i' e' ∧ KeepBut w w' g none ∧ Below lo w w' := by
  refine (cursor_Cursor_End.calls g l i e r i' e' (trw w g lo) w h.isS h.trb hf).mono ?_
  rintro en w' ⟨rfl, hi, hb, hk⟩
  exact ⟨rfl, h.back hk hi, hk, ⟨hb.os, hb.tape, hb.output, hk.1, fun k hk2 => hk.2 k (by have := h.lt; have := h.ge; omega) (by have := h.ge; omega) (by simp)⟩⟩
theorem Cur.text {r : ByteArray} {i' e' : Int} (h : Cur lo w g l i e) (hf : cursor_Cursor_Text.f l i e = some (r, i', e')) :
    Calls Try.prog 57 #[.pointer (some ⟨g, 0, none⟩)] w fun en w' => en = .returned (.string r) ∧ Cur lo w' g l i' e' ∧ KeepBut w w' g none ∧ Below lo w w' := by
  refine (cursor_Cursor_Text.calls g l i e r i' e' (trw w g lo) w h.isS h.trb hf).mono ?_
  rintro en w' ⟨rfl, hi, hb, hk⟩
  exact ⟨rfl, h.back hk hi, hk, ⟨hb.os, hb.tape, hb.output, hk.1, fun k hk2 => hk.2 k (by have := h.lt; have := h.ge; omega) (by have := h.ge; omega) (by simp)⟩⟩
end
theorem Cur.wide {B : Nat} {w W w' : World} (h : Below B w W) (k : Below W.heap.size W w') (hB : B ≤ W.heap.size) : Below B w w' := h.trans (k.mono hB)
section
variable {lo : Nat} {w w' : World} {g : Nat} {l : List Int} {i e : Int}
theorem Cur.most {n : Int} {r : Int} {i' e' : Int} (h : Cur lo w g l i e) (hf : cursor_Cursor_Most.f l i e n = some (r, i', e')) :
    Calls Try.prog 36 #[.pointer (some ⟨g, 0, none⟩), .int .i64 n] w fun en w' => en = .returned (.int .i64 r) ∧ Cur lo w' g l i' e' ∧ KeepBut w w' g none ∧ Below lo w w' := by
  refine (cursor_Cursor_Most.calls g l i e n r i' e' (trw w g lo) w h.isS h.trb hf).mono ?_
  rintro en w' ⟨rfl, hi, hb, hk⟩
  exact ⟨rfl, h.back hk hi, hk, ⟨hb.os, hb.tape, hb.output, hk.1, fun k hk2 => hk.2 k (by have := h.lt; have := h.ge; omega) (by have := h.ge; omega) (by simp)⟩⟩
theorem Cur.good {r : Bool} {i' e' : Int} (h : Cur lo w g l i e) (hf : cursor_Cursor_Good.f l i e = some (r, i', e')) :
    Calls Try.prog 16 #[.pointer (some ⟨g, 0, none⟩)] w fun en w' => en = .returned (.bool r) ∧ Cur lo w' g l i' e' ∧ KeepBut w w' g none ∧ Below lo w w' := by
  refine (cursor_Cursor_Good.calls g l i e r i' e' (trw w g lo) w h.isS h.trb hf).mono ?_
  rintro en w' ⟨rfl, hi, hb, hk⟩
  exact ⟨rfl, h.back hk hi, hk, ⟨hb.os, hb.tape, hb.output, hk.1, fun k hk2 => hk.2 k (by have := h.lt; have := h.ge; omega) (by have := h.ge; omega) (by simp)⟩⟩
theorem Cur.byte {r : Int} {i' e' : Int} (h : Cur lo w g l i e) (hf : cursor_Cursor_Byte.f l i e = some (r, i', e')) :
    Calls Try.prog 52 #[.pointer (some ⟨g, 0, none⟩)] w fun en w' => en = .returned (.int .i64 r) ∧ Cur lo w' g l i' e' ∧ KeepBut w w' g none ∧ Below lo w w' := by
  refine (cursor_Cursor_Byte.calls g l i e r i' e' (trw w g lo) w h.isS h.trb hf).mono ?_
  rintro en w' ⟨rfl, hi, hb, hk⟩
  exact ⟨rfl, h.back hk hi, hk, ⟨hb.os, hb.tape, hb.output, hk.1, fun k hk2 => hk.2 k (by have := h.lt; have := h.ge; omega) (by have := h.ge; omega) (by simp)⟩⟩
theorem Cur.fail {n : Int} {i' e' : Int} (h : Cur lo w g l i e) (hf : cursor_Cursor_Fail.f l i e n = some (i', e')) :
    Calls Try.prog 38 #[.pointer (some ⟨g, 0, none⟩), .int .i64 n] w fun en w' => en = .returned (.tuple #[]) ∧ Cur lo w' g l i' e' ∧ KeepBut w w' g none ∧ Below lo w w' := by
  refine (cursor_Cursor_Fail.calls g l i e n i' e' (trw w g lo) w h.isS h.trb hf).mono ?_
  rintro en w' ⟨rfl, hi, hb, hk⟩
  exact ⟨rfl, h.back hk hi, hk, ⟨hb.os, hb.tape, hb.output, hk.1, fun k hk2 => hk.2 k (by have := h.lt; have := h.ge; omega) (by have := h.ge; omega) (by simp)⟩⟩
theorem Cur.bytes {n : Int} {r : List Int} {i' e' : Int} (h : Cur lo w g l i e) (hf : cursor_Cursor_Bytes.f l i e n = some (r, i', e')) :
    Calls Try.prog 53 #[.pointer (some ⟨g, 0, none⟩), .int .i64 n] w fun en w' => ∃ v : Value, en = .returned v ∧ Kd.R (Kd.int .u8) 5 w' w.heap.size (fun _ => True) v r ∧ Cur lo w' g l i' e' ∧ KeepBut w w' g none ∧ Below lo w w' := by
  refine (cursor_Cursor_Bytes.calls g l i e n r i' e' (trw w g lo) w h.isS h.trb hf).mono ?_
  rintro en w' ⟨v, rfl, ho, hi, hb, hk⟩
  exact ⟨v, rfl, ho, h.back hk hi, hk, ⟨hb.os, hb.tape, hb.output, hk.1, fun k hk2 => hk.2 k (by have := h.lt; have := h.ge; omega) (by have := h.ge; omega) (by simp)⟩⟩
end
end Go.Proofs.Ytljhlpkoilapiaa.P
end
