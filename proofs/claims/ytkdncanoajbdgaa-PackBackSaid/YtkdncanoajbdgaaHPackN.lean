/- What pack's functions and the reference's answer: the same bytes, the same numbers. -/
import Derived.Test.YtkdncanoajbdgaaHPackB
import Derived.Test.YtkdncanoajbdgaaHPut
import Derived.Test.YtkdncanoajbdgaaPx4
import Derived.Test.YtkdncanoajbdgaaPx5
import Derived.Test.YtkdncanoajbdgaaPx7
import Derived.Test.YtkdncanoajbdgaaPx9
set_option linter.unusedVariables false
set_option linter.unusedSimpArgs false
namespace Go.Proofs.Ytkdncanoajbdgaa.HP
open Go.RowKit Go.Proofs.Ytkdncanoajbdgaa.P Go.Proofs.YtkdncanoajbdgaaW.PrintWords Go.Proofs.YtkdncanoajbdgaaW.PrintLast Go.Proofs.YtkdncanoajbdgaaW.PrintMore
theorem ev_some {α : Type} {x : Option α} {r : α} (h : x = some r) : Ev (fun _ => x) r := by rw [h]; exact Ev.now r
/-- All bits of packed numbers. -/
def bitsL (w : Nat) (l : List Int) : List Bool := (List.range (l.length * w)).map (fun n => (l.getD (n / w) 0).toNat.testBit (n % w))
theorem bitsL_len (w : Nat) (l : List Int) : (bitsL w l).length = l.length * w := by simp [bitsL]
theorem bitsL_at (w : Nat) (l : List Int) (i k : Nat) (hi : i < l.length) (hk : k < w) (h : i * w + k < (bitsL w l).length) : (bitsL w l)[i * w + k] = (l[i].toNat).testBit k := by
  have e1 : (i * w + k) / w = i := by
    rw [Nat.mul_comm, Nat.mul_add_div (by omega), Nat.div_eq_of_lt hk, Nat.add_zero]
  have e2 : (i * w + k) % w = k := by
    rw [Nat.mul_comm, Nat.mul_add_mod, Nat.mod_eq_of_lt hk]
  simp only [bitsL, List.getElem_map, List.getElem_range, e1, e2]
  simp [List.getD_eq_getElem?_getD, hi]
def goodN (w : Nat) (a : Int) : Bool := decide (0 ≤ a) && decide (a < ((2 ^ w : Nat) : Int))
def packed (w : Nat) (l : List Int) : List Int × Int := (pack (bitsL w l), 0)
def badP : List Int × Int := ([], 1)
theorem mulw (i w : Nat) (hi : i ≤ 70000) (hw : w ≤ 33) : wrap64 ((i : Int) * (w : Int)) = ((i * w : Nat) : Int) := by
  have h : i * w ≤ 70000 * 33 := Nat.mul_le_mul hi hw
  rw [show (i : Int) * (w : Int) = ((i * w : Nat) : Int) by push_cast; rfl]
  unfold wrap64
  omega
theorem addw (a k : Nat) (ha : a ≤ 3000000) (hk : k ≤ 100) : wrap64 ((a : Int) + (k : Int)) = ((a + k : Nat) : Int) := by unfold wrap64; omega
theorem div8b (i : Nat) (h : i ≤ 4000000) : wrap64 (Int.tdiv (i : Int) 8) = ((i / 8 : Nat) : Int) := by
  rw [Int.tdiv_eq_ediv_of_nonneg (by omega)]; unfold wrap64; omega
theorem iw_lt {i n w k : Nat} (hi : i < n) (hk : k < w) : i * w + k < n * w := by
  have : (i + 1) * w ≤ n * w := Nat.mul_le_mul_right w hi
  rw [Nat.add_mul, Nat.one_mul] at this
  omega
theorem iw_le {i n w : Nat} (hi : i < n) : i * w + w ≤ n * w := by
  have : (i + 1) * w ≤ n * w := Nat.mul_le_mul_right w hi
  rw [Nat.add_mul, Nat.one_mul] at this
  exact this
theorem nw_le {n w : Nat} (hn : n ≤ 10000) (hw : w ≤ 32) : n * w ≤ 320000 := by
  have := Nat.mul_le_mul hn hw
  omega
/-- One number's bits. -/
theorem pput_1 (w : Nat) (hw : w ≤ 32) (l : List Int) (hl : l.length ≤ 10000) (i : Nat) (hi : i < l.length) (hx : 0 ≤ l[i]) (hx2 : l[i] < ((2 ^ w : Nat) : Int)) (R : List Int × Int)
    (hR : ∀ x : List Int, x.length = size8 (l.length * w) → (∀ j, j < x.length → rd x (j : Int) = (bval (bitsL w l) ((i + 1) * w) j : Int)) → Ev (fun k => pack_Put.l0 k (w : Int) x l (l.length : Int) ((i + 1 : Nat) : Int)) R) :
    ∀ (d k : Nat) (x : List Int), k + d = w → x.length = size8 (l.length * w) → (∀ j, j < x.length → rd x (j : Int) = (bval (bitsL w l) (i * w + k) j : Int)) →
    Ev (fun q => pack_Put.l1 q (w : Int) x (i : Int) (rd l (i : Int)) l (l.length : Int) (i : Int) (w : Int) (k : Int)) R := by
  intro d
  induction d with
  | zero =>
    intro k x h hxl hxv
    refine Ev.step (fun q => by rw [pack_Put.l1]) ?_
    simp only [if_neg (show ¬ (k : Int) < (w : Int) by omega), wr1 i (by omega)]
    refine hR x hxl (fun j hj => ?_)
    rw [hxv j hj, Nat.add_mul, Nat.one_mul, show k = w by omega]
  | succ d ih =>
    intro k x h hxl hxv
    have hn := iw_lt hi (show k < w by omega)
    have hnw := nw_le hl hw
    have hb : i * w + k < (bitsL w l).length := by rw [bitsL_len]; exact hn
    have h8 : (i * w + k) / 8 < x.length := by rw [hxl]; unfold size8; omega
    have hxn : l[i].toNat < 2 ^ 62 := by
      have := Nat.pow_le_pow_right (n := 2) (by omega) hw
      have e : (2 : Nat) ^ 32 = 4294967296 := by decide
      omega
    refine Ev.step (fun q => by rw [pack_Put.l1]) ?_
    have e1 : rd l (i : Int) = ((l[i].toNat : Nat) : Int) := by rw [rd_nat l i hi]; omega
    have e2 : Go.bits .and .i64 (shr .i64 (rd l (i : Int)) (k : Int)) 1 % 256 = ((l[i].toNat / 2 ^ k % 2 : Nat) : Int) := by
      rw [e1, shr_nat .i64 _ k (by simp [IntKind.bits]; omega), and64_1 _ (Nat.lt_of_le_of_lt (Nat.div_le_self _ _) hxn)]
      omega
    have hlt := bval_lt (bitsL w l) (i * w + k) (by omega)
    have e3 : Go.bits .or .u8 (rd x (((i * w + k) / 8 : Nat) : Int)) (shl .u8 (Go.bits .and .i64 (shr .i64 (rd l (i : Int)) (k : Int)) 1 % 256) (((i * w + k) % 8 : Nat) : Int)) = ((bval (bitsL w l) (i * w + k) ((i * w + k) / 8) + (l[i].toNat / 2 ^ k % 2) * 2 ^ ((i * w + k) % 8) : Nat) : Int) := by
      rw [e2, hxv _ h8, or_bit2 (by omega) hlt (by omega)]
    simp only [if_pos (show (k : Int) < (w : Int) by omega), mulw i w (by omega) (by omega), addw (i * w) k (by omega) (by omega), div8b (i * w + k) (by omega), mod8 (i * w + k), if_pos (show 0 ≤ (((i * w + k) / 8 : Nat) : Int) by omega), if_pos (show (((i * w + k) / 8 : Nat) : Int) < (x.length : Int) by omega), if_pos (show 0 ≤ (k : Int) by omega), if_pos (show 0 ≤ (((i * w + k) % 8 : Nat) : Int) by omega), Int.toNat_natCast, e3, wr1 k (by omega)]
    refine ih (k + 1) _ (by omega) (by simpa using hxl) (fun j hj => ?_)
    rw [rd_set _ _ _ _ h8, show i * w + (k + 1) = i * w + k + 1 by omega, bval_step _ _ _ hb, bitsL_at w l i k hi (by omega) hb, ← bit_num]
    by_cases e : (i * w + k) / 8 = j
    · subst e; simp
    · rw [if_neg e, hxv j (by simpa using hj), if_neg e, Nat.add_zero]
theorem pput_l (w : Nat) (hw : w ≤ 32) (l : List Int) (hl : l.length ≤ 10000) : ∀ (t : List Int) (i : Nat) (x : List Int), l.drop i = t → i ≤ l.length → x.length = size8 (l.length * w) → (∀ j, j < x.length → rd x (j : Int) = (bval (bitsL w l) (i * w) j : Int)) →
    Ev (fun k => pack_Put.l0 k (w : Int) x l (l.length : Int) (i : Int)) (if t.all (goodN w) = true then packed w l else badP) := by
  intro t
  induction t with
  | nil =>
    intro i x h hi hxl hxv
    have := drop_nil h
    obtain rfl : i = l.length := by omega
    refine Ev.step (fun k => by rw [pack_Put.l0]) ?_
    simp only [if_neg (show ¬ (l.length : Int) < (l.length : Int) by omega), List.all_nil, if_true]
    rw [show packed w l = (x, 0) by unfold packed; rw [pack_of (bitsL w l) x (by rw [bitsL_len]; exact hxl) (by rw [bitsL_len]; exact hxv)]]
    exact Ev.now _
  | cons a t ih =>
    intro i x h hi hxl hxv
    have hlt := drop_lt h
    have ha : l[i] = a := by rw [← rd_nat l i hlt, drop_rd h]
    have hra := drop_rd h
    refine Ev.step (fun k => by rw [pack_Put.l0]) ?_
    have hbad : Ev (fun k => pack_Put.j2 k (w : Int) x (i : Int) (rd l (i : Int)) l (l.length : Int) (i : Int) true) badP := by
      refine Ev.step (fun k => by rw [pack_Put.j2]) ?_
      simp only [if_true]
      exact Ev.now _
    simp only [if_pos (show (i : Int) < (l.length : Int) by omega), if_pos (show 0 ≤ (i : Int) by omega), if_pos (show 0 ≤ (w : Int) by omega)]
    by_cases h0 : a < 0
    · rw [hra] at hbad ⊢
      simp only [if_pos h0]
      rw [List.all_cons, show goodN w a = false by unfold goodN; rw [decide_eq_false (by omega)]; rfl, Bool.false_and]
      simp only [Bool.false_eq_true, if_false]
      exact hbad
    · have hs : shr .i64 a (w : Int) = ((a.toNat / 2 ^ w : Nat) : Int) := by
        have := shr_nat .i64 a.toNat w (by simp [IntKind.bits]; omega)
        rwa [show ((a.toNat : Nat) : Int) = a by omega] at this
      have hpos := Nat.two_pow_pos w
      by_cases h1 : a < ((2 ^ w : Nat) : Int)
      · have hz : ¬ shr .i64 a (w : Int) > 0 := by
          rw [hs, Nat.div_eq_of_lt (by omega)]
          omega
        rw [hra] at ⊢
        simp only [if_neg h0, decide_eq_false hz]
        refine Ev.step (fun k => by rw [pack_Put.j2]) ?_
        simp only [Bool.false_eq_true, if_false]
        rw [List.all_cons, show goodN w a = true by unfold goodN; rw [decide_eq_true (by omega), decide_eq_true h1]; rfl, Bool.true_and]
        have := pput_1 w hw l hl i hlt (by omega) (by omega) _ (fun x hx hxv => ih (i + 1) x (drop_tl h) (by omega) hx hxv) w 0 x (by omega) hxl (by simpa using hxv)
        rw [hra] at this
        exact this
      · have hz : shr .i64 a (w : Int) > 0 := by
          rw [hs]
          have := Nat.div_pos (show 2 ^ w ≤ a.toNat by omega) hpos
          omega
        rw [hra] at hbad ⊢
        simp only [if_neg h0, decide_eq_true hz]
        rw [List.all_cons, show goodN w a = false by unfold goodN; rw [decide_eq_false h1]; simp, Bool.false_and]
        simp only [Bool.false_eq_true, if_false]
        exact hbad
theorem pput_f (w : Nat) (hw : w ≤ 32) (l : List Int) (hl : l.length ≤ 10000) : Ev (fun k => pack_Put.f k l (w : Int)) (if l.all (goodN w) = true then packed w l else badP) := by
  unfold pack_Put.f
  simp only [if_neg (show ¬ (w : Int) < 0 by omega), decide_eq_false (show ¬ (w : Int) > 32 by omega)]
  refine Ev.step (fun k => by rw [pack_Put.j0]) ?_
  simp only [Bool.false_eq_true, if_false]
  have hnw := nw_le hl hw
  have e : pack_size.f (l.length : Int) (w : Int) = some ((size8 (l.length * w) : Nat) : Int) := by
    unfold pack_size.f
    congr 1
    rw [mulw _ _ (by omega) (by omega)]
    have e1 : wrap64 (wrap64 (((l.length * w : Nat) : Int) + 8) - 1) = ((l.length * w + 7 : Nat) : Int) := by unfold wrap64; omega
    rw [e1, div8b _ (by omega)]
    rfl
  have hs : size8 (l.length * w) ≤ 100000 := by unfold size8; omega
  refine Ev.bind (g := fun _ => pack_size.f _ _) (ev_some e) ?_
  simp only [if_pos (show 0 ≤ ((size8 (l.length * w) : Nat) : Int) by omega), Int.toNat_natCast, if_pos (show size8 (l.length * w) ≤ 281474976710656 by omega)]
  refine pput_l w hw l hl l 0 _ rfl (by omega) (by simp) (fun j hj => ?_)
  rw [bval_zero _ _ j (by omega), rd_nat _ j hj]
  simp
theorem pput_bad (w : Int) (l : List Int) (h : w < 0 ∨ w > 32) : Ev (fun k => pack_Put.f k l w) badP := by
  have hb : Ev (fun k => pack_Put.j0 k l w true) badP := by
    refine Ev.step (fun k => by rw [pack_Put.j0]) ?_
    simp only [if_true]
    exact Ev.now _
  unfold pack_Put.f
  by_cases h0 : w < 0
  · simp only [if_pos h0]; exact hb
  · simp only [if_neg h0, decide_eq_true (show w > 32 by omega)]; exact hb
end Go.Proofs.Ytkdncanoajbdgaa.HP
