/- Bits packed, eight a byte: both programs' ways. -/
import Derived.Test.YtdohphiicmdilaaHPower
import Derived.Test.YtdohphiicmdilaaHBits
import Derived.Test.YtdohphiicmdilaaPx9
import Derived.Test.YtdohphiicmdilaaPx12
set_option linter.unusedVariables false
set_option linter.unusedSimpArgs false
namespace Go.Proofs.Ytdohphiicmdilaa.HP
open Go.RowKit Go.Proofs.Ytdohphiicmdilaa.P Go.Proofs.YtdohphiicmdilaaW.PrintWords Go.Proofs.YtdohphiicmdilaaW.PrintLast Go.Proofs.YtdohphiicmdilaaW.PrintMore
theorem rd_set (l : List Int) (i j : Nat) (v : Int) (hi : i < l.length) : rd (l.set i v) (j : Int) = if i = j then v else rd l (j : Int) := by
  simp only [rd, Int.toNat_natCast, List.getD_eq_getElem?_getD, List.getElem?_set]
  by_cases h : i = j
  · subst h; simp [hi]
  · simp [h]
theorem rd_app (l : List Int) (v : Int) (j : Nat) : rd (l ++ [v]) (j : Int) = if j = l.length then v else rd l (j : Int) := by
  simp only [rd, Int.toNat_natCast, List.getD_eq_getElem?_getD, List.getElem?_append]
  by_cases h : j < l.length
  · simp [h, show ¬ j = l.length by omega]
  · by_cases e : j = l.length
    · simp [e]
    · simp only [if_neg h, if_neg e]
      rw [List.getElem?_eq_none (by simp; omega), List.getElem?_eq_none (by omega)]
def bval (b : List Bool) (i j : Nat) : Nat := num (((b.take i).drop (8 * j)).take 8)
def size8 (n : Nat) : Nat := (n + 7) / 8
def pack (b : List Bool) : List Int := (List.range (size8 b.length)).map (fun j => (num ((b.drop (8 * j)).take 8) : Int))
theorem pack_len (b : List Bool) : (pack b).length ≤ b.length := by simp [pack, size8]; omega
theorem bval_lt (b : List Bool) (i : Nat) (hi : i ≤ b.length) : bval b i (i / 8) < 2 ^ (i % 8) := by
  unfold bval
  refine Nat.lt_of_lt_of_le (num_lt _) (Nat.pow_le_pow_right (by omega) ?_)
  simp
  omega
theorem bval_zero (b : List Bool) (i j : Nat) (h : i ≤ 8 * j) : bval b i j = 0 := by
  unfold bval
  rw [List.drop_eq_nil_of_le (by simp; omega)]
  rfl
theorem bval_succ (b : List Bool) (i j : Nat) (hi : i < b.length) : bval b (i + 1) j = bval b i j + (if i / 8 = j ∧ b[i] = true then 2 ^ (i % 8) else 0) := by
  have hl : (b.take i).length = i := by simp; omega
  by_cases h1 : i / 8 = j
  · subst h1
    unfold bval
    rw [List.take_succ_eq_append_getElem hi, List.drop_append_of_le_length (by omega)]
    have hL : ((b.take i).drop (8 * (i / 8))).length = i % 8 := by simp; omega
    rw [List.take_of_length_le (l := (b.take i).drop (8 * (i / 8)) ++ [b[i]]) (by simp; omega), num_snoc, List.take_of_length_le (l := (b.take i).drop (8 * (i / 8))) (by omega), hL]
    simp
  · simp only [h1, false_and, if_false, Nat.add_zero]
    by_cases h2 : j < i / 8
    · unfold bval
      rw [List.take_succ_eq_append_getElem hi, List.drop_append_of_le_length (by omega), List.take_append_of_le_length (by simp; omega)]
    · rw [bval_zero b i j (by omega), bval_zero b (i + 1) j (by omega)]
theorem pack_of (b : List Bool) (x : List Int) (hl : x.length = size8 b.length) (hx : ∀ j, j < x.length → rd x (j : Int) = (bval b b.length j : Int)) : x = pack b := by
  apply List.ext_getElem
  · simp [pack, hl]
  · intro j h1 h2
    have := hx j h1
    rw [rd_nat x j h1] at this
    rw [this]
    simp [pack, bval]
theorem div8 (i : Nat) (h : i ≤ 1000000) : wrap64 (Int.tdiv (i : Int) 8) = ((i / 8 : Nat) : Int) := by
  rw [Int.tdiv_eq_ediv_of_nonneg (by omega)]; unfold wrap64; omega
theorem mod8 (i : Nat) : Int.tmod (i : Int) 8 = ((i % 8 : Nat) : Int) := by
  rw [Int.tmod_eq_emod_of_nonneg (by omega)]; omega
theorem bput_l (b : List Bool) (hb : b.length ≤ 100000) : ∀ (t : List Bool) (i : Nat) (x : List Int), b.drop i = t → i ≤ b.length → x.length = size8 b.length → (∀ j, j < x.length → rd x (j : Int) = (bval b i j : Int)) →
    Ev (fun k => bitmap_Put.l0 k x b (b.length : Int) (i : Int)) (pack b) := by
  intro t
  induction t with
  | nil =>
    intro i x h hi hl hx
    have := drop_nil h
    obtain rfl : i = b.length := by omega
    refine Ev.step (fun k => by rw [bitmap_Put.l0]) ?_
    simp only [if_neg (show ¬ (b.length : Int) < (b.length : Int) by omega)]
    rw [pack_of b x hl hx]
    exact Ev.now _
  | cons c t ih =>
    intro i x h hi hl hx
    have hlt := drop_lt h
    have hc : b[i] = c := by rw [← rdOf_nat false b i hlt, drop_rdOf false h]
    refine Ev.step (fun k => by rw [bitmap_Put.l0]) ?_
    have h8 : i / 8 < x.length := by rw [hl]; unfold size8; omega
    simp only [if_pos (show (i : Int) < (b.length : Int) by omega), if_pos (show 0 ≤ (i : Int) by omega), drop_rdOf false h, wr1 i (by omega), div8 i (by omega), mod8 i, if_pos (show 0 ≤ ((i / 8 : Nat) : Int) by omega), if_pos (show ((i / 8 : Nat) : Int) < (x.length : Int) by omega), if_pos (show 0 ≤ ((i % 8 : Nat) : Int) by omega), Int.toNat_natCast, hx (i / 8) h8, or_bit (show i % 8 < 8 by omega) (bval_lt b i hi)]
    cases c with
    | true =>
      simp only [if_true]
      refine ih (i + 1) _ (drop_tl h) (by omega) (by simpa using hl) (fun j hj => ?_)
      rw [rd_set _ _ _ _ h8, bval_succ b i j hlt, hc]
      by_cases e : i / 8 = j
      · subst e; simp
      · rw [if_neg e, hx j (by simpa using hj)]; simp [e]
    | false =>
      simp only [Bool.false_eq_true, if_false]
      refine ih (i + 1) x (drop_tl h) (by omega) hl (fun j hj => ?_)
      rw [bval_succ b i j hlt, hc, hx j hj]
      simp
theorem bput_f (b : List Bool) (hb : b.length ≤ 100000) : Ev (fun k => bitmap_Put.f k b) (pack b) := by
  have e : bitmap_size.f (b.length : Int) = some ((size8 b.length : Nat) : Int) := by
    unfold bitmap_size.f
    congr 1
    have e1 : wrap64 (wrap64 ((b.length : Int) + 8) - 1) = ((b.length + 7 : Nat) : Int) := by unfold wrap64; omega
    rw [e1, div8 _ (by omega)]
    rfl
  have hs : size8 b.length ≤ 100000 := by unfold size8; omega
  unfold bitmap_Put.f
  rw [e]
  simp only [Option.bind_some, if_pos (show 0 ≤ ((size8 b.length : Nat) : Int) by omega), Int.toNat_natCast, if_pos (show size8 b.length ≤ 281474976710656 by omega)]
  refine bput_l b hb b 0 _ rfl (by omega) (by simp) (fun j hj => ?_)
  rw [bval_zero b 0 j (by omega)]
  rw [rd_nat _ j hj]
  simp
theorem rput4_l (b : List Bool) (hb : b.length ≤ 100000) : ∀ (t : List Bool) (i : Nat) (x : List Int), b.drop i = t → i ≤ b.length → x.length = size8 i → (∀ j, j < x.length → rd x (j : Int) = (bval b i j : Int)) →
    Ev (fun k => hopperref04_Put.l0 k b x (i : Int)) (pack b) := by
  intro t
  induction t with
  | nil =>
    intro i x h hi hl hx
    have := drop_nil h
    obtain rfl : i = b.length := by omega
    refine Ev.step (fun k => by rw [hopperref04_Put.l0]) ?_
    simp only [if_neg (show ¬ (b.length : Int) < (b.length : Int) by omega)]
    rw [pack_of b x hl hx]
    exact Ev.now _
  | cons c t ih =>
    intro i x h hi hl hx
    have hlt := drop_lt h
    have hc : b[i] = c := by rw [← rdOf_nat false b i hlt, drop_rdOf false h]
    have hs : size8 i ≤ 100000 := by unfold size8; omega
    refine Ev.step (fun k => by rw [hopperref04_Put.l0]) ?_
    simp only [if_pos (show (i : Int) < (b.length : Int) by omega), if_pos (show 0 ≤ (i : Int) by omega), drop_rdOf false h, wr1 i (by omega), div8 i (by omega), mod8 i, if_pos (show 0 ≤ ((i / 8 : Nat) : Int) by omega), if_pos (show x.length < 140737488355328 by omega), Int.toNat_natCast]
    have hlt2 := bval_lt b i hi
    have hp : 2 ^ (i % 8) ≤ 128 := by
      have := Nat.pow_le_pow_right (n := 2) (by omega) (show i % 8 ≤ 7 by omega)
      simpa using this
    -- one round on a row that has its byte
    have key : ∀ y : List Int, y.length = size8 (i + 1) → (∀ j, j < y.length → rd y (j : Int) = (bval b i j : Int)) →
        Ev (fun k => if c = true then (if ((i / 8 : Nat) : Int) < (y.length : Int) then (hopperref03_Power.f k ((i % 8 : Nat) : Int)).bind fun t => hopperref04_Put.l0 k b (y.set (i / 8) ((rd y ((i / 8 : Nat) : Int) + t % 256) % 256)) ((i + 1 : Nat) : Int) else none) else hopperref04_Put.l0 k b y ((i + 1 : Nat) : Int)) (pack b) := by
      intro y hy hyx
      have h8 : i / 8 < y.length := by rw [hy]; unfold size8; omega
      cases c with
      | true =>
        simp only [if_true, if_pos (show ((i / 8 : Nat) : Int) < (y.length : Int) by omega)]
        refine (power_f (i % 8) (by omega)).bind ?_
        have e : (rd y ((i / 8 : Nat) : Int) + ((2 ^ (i % 8) : Nat) : Int) % 256) % 256 = ((bval b i (i / 8) + 2 ^ (i % 8) : Nat) : Int) := by
          rw [hyx _ h8]; omega
        simp only [e]
        refine ih (i + 1) _ (drop_tl h) (by omega) (by simpa using hy) (fun j hj => ?_)
        rw [rd_set _ _ _ _ h8, bval_succ b i j hlt, hc]
        by_cases e : i / 8 = j
        · subst e; simp
        · rw [if_neg e, hyx j (by simpa using hj)]; simp [e]
      | false =>
        simp only [Bool.false_eq_true, if_false]
        refine ih (i + 1) y (drop_tl h) (by omega) hy (fun j hj => ?_)
        rw [bval_succ b i j hlt, hc, hyx j hj]
        simp
    by_cases hm : ((i % 8 : Nat) : Int) = 0
    · simp only [if_pos hm]
      refine Ev.bind (g := fun _ => some _) (Ev.now _) ?_
      exact key (x ++ [0]) (by simp [hl]; unfold size8; omega) (fun j hj => by
        rw [rd_app]
        by_cases e : j = x.length
        · rw [if_pos e, bval_zero b i j (by rw [e, hl]; unfold size8; omega)]; rfl
        · rw [if_neg e]
          exact hx j (by simp at hj; omega))
    · simp only [if_neg hm]
      exact key x (by rw [hl]; unfold size8; omega) hx
theorem rput4_f (b : List Bool) (hb : b.length ≤ 100000) : Ev (fun k => hopperref04_Put.f k b) (pack b) :=
  rput4_l b hb b 0 [] rfl (by omega) rfl (fun j hj => by simp at hj)
end Go.Proofs.Ytdohphiicmdilaa.HP
