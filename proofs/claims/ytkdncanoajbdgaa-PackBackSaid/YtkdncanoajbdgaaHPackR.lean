/- The reference's Put packs the same bytes. -/
import Derived.Test.YtkdncanoajbdgaaHPackM
set_option linter.unusedVariables false
set_option linter.unusedSimpArgs false
namespace Go.Proofs.Ytkdncanoajbdgaa.HP
open Go.RowKit Go.Proofs.Ytkdncanoajbdgaa.P Go.Proofs.YtkdncanoajbdgaaW.PrintWords Go.Proofs.YtkdncanoajbdgaaW.PrintLast Go.Proofs.YtkdncanoajbdgaaW.PrintMore
theorem rput_1 (w : Nat) (hw : w ≤ 32) (l : List Int) (hl : l.length ≤ 10000) (i : Nat) (hi : i < l.length) (hx : 0 ≤ l[i]) (hx2 : l[i] < ((2 ^ w : Nat) : Int)) (R : List Int × Int)
    (hR : ∀ x : List Int, x.length = size8 ((i + 1) * w) → (∀ j, j < x.length → rd x (j : Int) = (bval (bitsL w l) ((i + 1) * w) j : Int)) → Ev (fun k => hopperref03_Put.l0 k l (w : Int) x (((i + 1) * w : Nat) : Int) ((i + 1 : Nat) : Int)) R) :
    ∀ (d k : Nat) (x : List Int), k + d = w → x.length = size8 (i * w + k) → (∀ j, j < x.length → rd x (j : Int) = (bval (bitsL w l) (i * w + k) j : Int)) →
    Ev (fun q => hopperref03_Put.l1 q l (w : Int) x ((i * w + k : Nat) : Int) (i : Int) (k : Int)) R := by
  intro d
  induction d with
  | zero =>
    intro k x h hxl hxv
    refine Ev.step (fun q => by rw [hopperref03_Put.l1]) ?_
    simp only [if_neg (show ¬ (k : Int) < (w : Int) by omega), wr1 i (by omega)]
    have e : i * w + k = (i + 1) * w := by rw [Nat.add_mul, Nat.one_mul]; omega
    rw [e] at hxl hxv ⊢
    exact hR x hxl hxv
  | succ d ih =>
    intro k x h hxl hxv
    have hn := iw_lt hi (show k < w by omega)
    have hnw := nw_le hl hw
    have hb : i * w + k < (bitsL w l).length := by rw [bitsL_len]; exact hn
    have hs8 : size8 (i * w + k) ≤ 100000 := by unfold size8; omega
    have hxn : l[i].toNat < 2 ^ 62 := by
      have := Nat.pow_le_pow_right (n := 2) (by omega) hw
      have e : (2 : Nat) ^ 32 = 4294967296 := by decide
      omega
    -- behind the new byte
    have key : ∀ y : List Int, y.length = size8 (i * w + k + 1) → (∀ j, j < y.length → rd y (j : Int) = (bval (bitsL w l) (i * w + k) j : Int)) → Ev (fun q => hopperref03_Put.j4 q l (w : Int) y ((i * w + k : Nat) : Int) (i : Int) (k : Int)) R := by
      intro y hyl hyv
      have h8 : (i * w + k) / 8 < y.length := by rw [hyl]; unfold size8; omega
      refine Ev.step (fun q => by rw [hopperref03_Put.j4]) ?_
      simp only [if_pos (show 0 ≤ (i : Int) by omega), if_pos (show (i : Int) < (l.length : Int) by omega)]
      refine (power_f k (by omega)).bind ?_
      have hpos := Nat.two_pow_pos k
      have e1 : rd l (i : Int) = ((l[i].toNat : Nat) : Int) := by rw [rd_nat l i hi]; omega
      have hdl := Nat.div_le_self l[i].toNat (2 ^ k)
      have e2 : Int.tmod (wrap64 (Int.tdiv (rd l (i : Int)) ((2 ^ k : Nat) : Int))) 2 = ((l[i].toNat / 2 ^ k % 2 : Nat) : Int) := by
        rw [e1, tdiv_nat _ _ hxn, tmod2]
      have hlt := bval_lt (bitsL w l) (i * w + k) (by omega)
      have hp8 : 2 ^ ((i * w + k) % 8) ≤ 128 := by
        have := Nat.pow_le_pow_right (n := 2) (by omega) (show (i * w + k) % 8 ≤ 7 by omega)
        simpa using this
      simp only [if_neg (show ¬ ((2 ^ k : Nat) : Int) = 0 by omega), e2, div8b (i * w + k) (by omega), mod8 (i * w + k), if_pos (show 0 ≤ (((i * w + k) / 8 : Nat) : Int) by omega), if_pos (show (((i * w + k) / 8 : Nat) : Int) < (y.length : Int) by omega), Int.toNat_natCast, wr1 (i * w + k) (by omega), wr1 k (by omega)]
      by_cases hbit : ((l[i].toNat / 2 ^ k % 2 : Nat) : Int) = 1
      · simp only [if_pos hbit]
        refine (power_f ((i * w + k) % 8) (by omega)).bind ?_
        have e3 : (rd y (((i * w + k) / 8 : Nat) : Int) + ((2 ^ ((i * w + k) % 8) : Nat) : Int) % 256) % 256 = ((bval (bitsL w l) (i * w + k) ((i * w + k) / 8) + 2 ^ ((i * w + k) % 8) : Nat) : Int) := by
          rw [hyv _ h8]
          exact add256 _ _ (by generalize 2 ^ ((i * w + k) % 8) = p at *; omega)
        simp only [e3]
        refine ih (k + 1) _ (by omega) (by rw [List.length_set, hyl, Nat.add_assoc]) (fun j hj => ?_)
        rw [rd_set _ _ _ _ h8, show i * w + (k + 1) = i * w + k + 1 by omega, bval_step _ _ _ hb, bitsL_at w l i k hi (by omega) hb, ← bit_num]
        have e5 : l[i].toNat / 2 ^ k % 2 = 1 := by omega
        rw [e5]
        by_cases e : (i * w + k) / 8 = j
        · subst e; simp
        · rw [if_neg e, hyv j (by simpa using hj), if_neg e, Nat.add_zero]
      · simp only [if_neg hbit]
        refine ih (k + 1) _ (by omega) (by rw [hyl, Nat.add_assoc]) (fun j hj => ?_)
        rw [show i * w + (k + 1) = i * w + k + 1 by omega, bval_step _ _ _ hb, bitsL_at w l i k hi (by omega) hb, ← bit_num]
        have e5 : l[i].toNat / 2 ^ k % 2 = 0 := by omega
        rw [e5, hyv j hj]
        simp
    refine Ev.step (fun q => by rw [hopperref03_Put.l1]) ?_
    simp only [if_pos (show (k : Int) < (w : Int) by omega), mod8 (i * w + k), if_pos (show x.length < 140737488355328 by omega)]
    by_cases hm : (((i * w + k) % 8 : Nat) : Int) = 0
    · simp only [if_pos hm]
      exact key (x ++ [0]) (by simp [hxl]; unfold size8; omega) (fun j hj => by
        rw [rd_app]
        by_cases e : j = x.length
        · rw [if_pos e, bval_zero _ _ j (by rw [e, hxl]; unfold size8; omega)]; rfl
        · rw [if_neg e]
          exact hxv j (by simp at hj; omega))
    · simp only [if_neg hm]
      exact key x (by rw [hxl]; unfold size8; omega) hxv
theorem rput_l (w : Nat) (hw : w ≤ 32) (l : List Int) (hl : l.length ≤ 10000) : ∀ (t : List Int) (i : Nat) (x : List Int), l.drop i = t → i ≤ l.length → x.length = size8 (i * w) → (∀ j, j < x.length → rd x (j : Int) = (bval (bitsL w l) (i * w) j : Int)) →
    Ev (fun k => hopperref03_Put.l0 k l (w : Int) x ((i * w : Nat) : Int) (i : Int)) (if t.all (goodN w) = true then packed w l else badP) := by
  intro t
  induction t with
  | nil =>
    intro i x h hi hxl hxv
    have := drop_nil h
    obtain rfl : i = l.length := by omega
    refine Ev.step (fun k => by rw [hopperref03_Put.l0]) ?_
    simp only [if_neg (show ¬ (l.length : Int) < (l.length : Int) by omega), List.all_nil, if_true]
    rw [show packed w l = (x, 0) by unfold packed; rw [pack_of (bitsL w l) x (by rw [bitsL_len]; exact hxl) (by rw [bitsL_len]; exact hxv)]]
    exact Ev.now _
  | cons a t ih =>
    intro i x h hi hxl hxv
    have hlt := drop_lt h
    have ha : l[i] = a := by rw [← rd_nat l i hlt, drop_rd h]
    have hra := drop_rd h
    refine Ev.step (fun k => by rw [hopperref03_Put.l0]) ?_
    have hbad : Ev (fun k => hopperref03_Put.j2 k l (w : Int) x ((i * w : Nat) : Int) (i : Int) true) badP := by
      refine Ev.step (fun k => by rw [hopperref03_Put.j2]) ?_
      simp only [if_true]
      exact Ev.now _
    simp only [if_pos (show (i : Int) < (l.length : Int) by omega), if_pos (show 0 ≤ (i : Int) by omega), hra]
    by_cases h0 : a < 0
    · simp only [if_pos h0]
      rw [List.all_cons, show goodN w a = false by unfold goodN; rw [decide_eq_false (by omega)]; rfl, Bool.false_and]
      simp only [Bool.false_eq_true, if_false]
      exact hbad
    · simp only [if_neg h0]
      refine (power_f w (by omega)).bind ?_
      by_cases h1 : a ≥ ((2 ^ w : Nat) : Int)
      · simp only [decide_eq_true h1]
        rw [List.all_cons, show goodN w a = false by unfold goodN; rw [decide_eq_false (show ¬ a < ((2 ^ w : Nat) : Int) by omega)]; simp, Bool.false_and]
        simp only [Bool.false_eq_true, if_false]
        exact hbad
      · simp only [decide_eq_false h1]
        refine Ev.step (fun k => by rw [hopperref03_Put.j2]) ?_
        simp only [Bool.false_eq_true, if_false]
        rw [List.all_cons, show goodN w a = true by unfold goodN; rw [decide_eq_true (by omega), decide_eq_true (show a < ((2 ^ w : Nat) : Int) by omega)]; rfl, Bool.true_and]
        have := rput_1 w hw l hl i hlt (by omega) (by omega) _ (fun x hx hxv => ih (i + 1) x (drop_tl h) (by omega) hx hxv) w 0 x (by omega) (by simpa using hxl) (by simpa using hxv)
        simpa using this
theorem rput3_f (w : Nat) (hw : w ≤ 32) (l : List Int) (hl : l.length ≤ 10000) : Ev (fun k => hopperref03_Put.f k l (w : Int)) (if l.all (goodN w) = true then packed w l else badP) := by
  unfold hopperref03_Put.f
  simp only [if_neg (show ¬ (w : Int) < 0 by omega), decide_eq_false (show ¬ (w : Int) > 32 by omega)]
  refine Ev.step (fun k => by rw [hopperref03_Put.j0]) ?_
  simp only [Bool.false_eq_true, if_false]
  have := rput_l w hw l hl l 0 [] rfl (by omega) (by simp [size8]) (fun j hj => by simp at hj)
  simpa using this
theorem rput3_bad (w : Int) (l : List Int) (h : w < 0 ∨ w > 32) : Ev (fun k => hopperref03_Put.f k l w) badP := by
  have hb : Ev (fun k => hopperref03_Put.j0 k l w true) badP := by
    refine Ev.step (fun k => by rw [hopperref03_Put.j0]) ?_
    simp only [if_true]
    exact Ev.now _
  unfold hopperref03_Put.f
  by_cases h0 : w < 0
  · simp only [if_pos h0]; exact hb
  · simp only [if_neg h0, decide_eq_true (show w > 32 by omega)]; exact hb
end Go.Proofs.Ytkdncanoajbdgaa.HP
