/- Reading a bitmap: what is written is read as it was; of whatever bytes what is read is written as it stood. -/
import Derived.Test.YtdohphiicmdilaaHCurR
import Derived.Test.YtdohphiicmdilaaHPut
import Derived.Test.YtdohphiicmdilaaHBitmap
import Derived.Test.YtdohphiicmdilaaPx13
import Derived.Test.YtdohphiicmdilaaPx9
set_option linter.unusedVariables false
set_option linter.unusedSimpArgs false
namespace Go.Proofs.Ytdohphiicmdilaa.HP
open Go.RowKit Go.Proofs.Ytdohphiicmdilaa.P Go.Proofs.YtdohphiicmdilaaW.PrintWords Go.Proofs.YtdohphiicmdilaaW.PrintLast Go.Proofs.YtdohphiicmdilaaW.PrintMore
theorem bit_all : ∀ a : Fin 256, ∀ q : Fin 8, (Go.bits .and .u8 (shr .u8 (a.val : Int) (q.val : Int)) 1 == 1) = a.val.testBit q.val := by decide +kernel
/-- A bit of bytes. -/
def bitB (b : List Int) (n : Nat) : Bool := (rd b ((n / 8 : Nat) : Int)).toNat.testBit (n % 8)
def bitsB (b : List Int) (n : Nat) : List Bool := (List.range n).map (bitB b)
theorem bitsB_len (b : List Int) (n : Nat) : (bitsB b n).length = n := by simp [bitsB]
theorem bit_go (b : List Int) (hb : isBy b) (i : Nat) (h : i / 8 < b.length) : (Go.bits .and .u8 (shr .u8 (rd b ((i / 8 : Nat) : Int)) ((i % 8 : Nat) : Int)) 1 == 1) = bitB b i := by
  have hx := hb _ (List.getElem_mem h)
  unfold bitB
  rw [rd_nat b _ h]
  have := bit_all ⟨b[i / 8].toNat, by omega⟩ ⟨i % 8, by omega⟩
  rw [show (((⟨b[i / 8].toNat, by omega⟩ : Fin 256).val : Nat) : Int) = b[i / 8] by simp; omega] at this
  exact this
theorem bread_l (b : List Int) (hb : isBy b) (n : Nat) (hn : n ≤ 1000) (hbl : b.length = size8 n) (l : List Int) (a e : Int) : ∀ (d i : Nat) (out : List Bool), i + d = n → out.length = n → (∀ j, j < i → out.getD j false = bitB b j) →
    Ev (fun k => bitmap_Read.l0 k b out (n : Int) (i : Int) l a e) (if pack (bitsB b n) = b then (bitsB b n, a, e) else ([], a, if e = 0 then 3 else e)) := by
  intro d
  induction d with
  | zero =>
    intro i out h ho hj
    obtain rfl : i = n := by omega
    have eo : out = bitsB b i := by
      apply List.ext_getElem
      · rw [ho, bitsB_len]
      · intro j h1 h2
        have := hj j (by omega)
        rw [List.getD_eq_getElem?_getD, List.getElem?_eq_getElem h1] at this
        simpa [bitsB] using this
    refine Ev.step (fun k => by rw [bitmap_Read.l0]) ?_
    simp only [if_neg (show ¬ (i : Int) < (i : Int) by omega)]
    subst eo
    refine (bput_f _ (by omega)).bind ?_
    refine (equal_f _ _ (by have := pack_len (bitsB b i); omega)).bind ?_
    by_cases hp : pack (bitsB b i) = b
    · simp only [hp, decide_true, if_true]
      exact Ev.now _
    · simp only [decide_eq_false hp, Bool.false_eq_true, if_false, if_neg hp]
      unfold cursor_Cursor_Fail.f
      by_cases he : e = 0
      · simp only [he, if_true, Option.bind_some]
        exact Ev.now _
      · simp only [if_neg he, Option.bind_some]
        exact Ev.now _
  | succ d ih =>
    intro i out h ho hj
    have h8 : i / 8 < b.length := by rw [hbl]; unfold size8; omega
    refine Ev.step (fun k => by rw [bitmap_Read.l0]) ?_
    simp only [if_pos (show (i : Int) < (n : Int) by omega), if_pos (show 0 ≤ (i : Int) by omega), wr1 i (by omega), div8 i (by omega), mod8 i, if_pos (show 0 ≤ ((i / 8 : Nat) : Int) by omega), if_pos (show ((i / 8 : Nat) : Int) < (b.length : Int) by omega), if_pos (show 0 ≤ ((i % 8 : Nat) : Int) by omega), if_pos (show (i : Int) < (out.length : Int) by omega), Int.toNat_natCast, bit_go b hb i h8]
    refine ih (i + 1) _ (by omega) (by simpa using ho) (fun j hlt => ?_)
    rw [List.getD_eq_getElem?_getD, List.getElem?_set]
    by_cases ej : i = j
    · subst ej
      simp [show i < out.length by omega]
    · rw [if_neg ej, ← List.getD_eq_getElem?_getD]
      exact hj j (by omega)
theorem bsize_f (n : Nat) (hn : n ≤ 100000) : bitmap_size.f (n : Int) = some ((size8 n : Nat) : Int) := by
  unfold bitmap_size.f
  congr 1
  have e1 : wrap64 (wrap64 ((n : Int) + 8) - 1) = ((n + 7 : Nat) : Int) := by unfold wrap64; omega
  rw [e1, div8 _ (by omega)]
  rfl
/-- Behind the count. -/
theorem bread_n (l b : List Int) (n : Nat) (hn : n ≤ 1000) (hb : isBy b) (hbl : b.length = size8 n) (i a : Int) (e ei : Int) (m : Int) (h1 : cursor_Cursor_Most.f l 0 0 m = some ((n : Int), i, ei)) (h2 : cursor_Cursor_Bytes.f l i ei ((size8 n : Nat) : Int) = some (b, a, e)) :
    Ev (fun k => bitmap_Read.f k l 0 0 m) (if pack (bitsB b n) = b then (bitsB b n, a, e) else ([], a, if e = 0 then 3 else e)) := by
  have hs := bsize_f n (by omega)
  unfold bitmap_Read.f
  refine Ev.bind (g := fun _ => cursor_Cursor_Most.f _ _ _ _) (ev_some h1) ?_
  refine Ev.bind (g := fun _ => bitmap_size.f _) (ev_some hs) ?_
  refine Ev.bind (g := fun _ => cursor_Cursor_Bytes.f _ _ _ _) (ev_some h2) ?_
  refine Ev.bind (g := fun _ => bitmap_size.f _) (ev_some hs) ?_
  simp only [hbl, if_neg (show ¬ ((size8 n : Nat) : Int) < ((size8 n : Nat) : Int) by omega), if_pos (show 0 ≤ (n : Int) by omega), Int.toNat_natCast, if_pos (show n ≤ 281474976710656 by omega)]
  refine Ev.bind (g := fun _ => some _) (Ev.now _) ?_
  have := bread_l b hb n hn hbl l a e n 0 (List.replicate n false) (by omega) (by simp) (fun j hj => by omega)
  simpa using this
/-- What is read of whatever bytes. -/
theorem bread_any (l : List Int) (hb : isBy l) (hl : l.length ≤ 2000) (m : Nat) (hm : m ≤ 1000) : ∃ (r : List Bool) (i : Nat) (e : Int), Ev (fun k => bitmap_Read.f k l 0 0 (m : Int)) (r, (i : Int), e) ∧ i ≤ l.length ∧ r.length ≤ m ∧ ((r = [] ∧ e ≠ 0) ∨ (r = [] ∧ e = 0 ∧ i = 1 ∧ ∃ t, l = 0 :: t) ∨ (0 < r.length ∧ e = 0 ∧ vint r.length ++ pack r = l.take i)) := by
  -- an error ahead: nothing is read
  have bad : ∀ e : Int, e ≠ 0 → cursor_Cursor_Most.f l 0 0 (m : Int) = some (0, 0, e) → Ev (fun k => bitmap_Read.f k l 0 0 (m : Int)) ([], ((0 : Nat) : Int), e) := by
    intro e he h
    have h2 : cursor_Cursor_Bytes.f l 0 e ((size8 0 : Nat) : Int) = some ([], 0, e) := by unfold cursor_Cursor_Bytes.f; rw [if_neg he]
    have := bread_n l [] 0 (by omega) (fun x hx => by cases hx) rfl 0 0 e e m h h2
    have e2 : pack (bitsB [] 0) = [] := rfl
    rw [if_pos e2] at this
    exact this
  rcases number_any l hb (by omega) 0 (by omega) with ⟨n, hn, t, ht, hnum⟩ | hnum | hnum
  · rw [List.drop_zero] at ht
    have hv := vint_len n hn
    by_cases hnm : (n : Int) > (m : Int)
    · refine ⟨[], 0, 3, bad 3 (by omega) ?_, by omega, by simp, Or.inl ⟨rfl, by omega⟩⟩
      unfold cursor_Cursor_Most.f
      have hnum0 : cursor_Cursor_Number.f l 0 0 = some ((n : Int), ((0 + (vint n).length : Nat) : Int), 0) := hnum
      rw [hnum0]
      simp only [Option.bind_some, if_pos hnm]
      unfold cursor_Cursor_Fail.f
      simp
    · have hmost : cursor_Cursor_Most.f l 0 0 (m : Int) = some ((n : Int), (((vint n).length : Nat) : Int), 0) := by
        unfold cursor_Cursor_Most.f
        have hnum0 : cursor_Cursor_Number.f l 0 0 = some ((n : Int), ((0 + (vint n).length : Nat) : Int), 0) := hnum
        rw [Nat.zero_add] at hnum0
        rw [hnum0]
        simp only [Option.bind_some, if_neg hnm]
      have hll : l.length = (vint n).length + t.length := by rw [ht]; simp
      by_cases hfit : size8 n ≤ t.length
      · have hbytes := bytes_at l (vint n).length (size8 n) (by omega) (by omega)
        have hd : l.drop (vint n).length = t := by rw [ht, List.drop_left]
        rw [hd] at hbytes
        have hbt : isBy (t.take (size8 n)) := fun x hx => hb x (by rw [ht]; exact List.mem_append_right _ (List.mem_of_mem_take hx))
        have key := bread_n l (t.take (size8 n)) n (by omega) hbt (by simp; omega) _ _ _ _ m hmost hbytes
        by_cases hp : pack (bitsB (t.take (size8 n)) n) = t.take (size8 n)
        · rw [if_pos hp] at key
          refine ⟨_, _, _, key, by omega, by rw [bitsB_len]; omega, ?_⟩
          by_cases h0 : n = 0
          · subst h0
            right; left
            refine ⟨rfl, rfl, ?_, t, ?_⟩
            · rw [vint_small (by omega)]; rfl
            · rw [ht, vint_small (by omega)]; rfl
          · right; right
            refine ⟨by rw [bitsB_len]; omega, rfl, ?_⟩
            rw [bitsB_len, hp, ht, List.take_append, List.take_of_length_le (l := vint n) (by omega)]
            rw [show (vint n).length + size8 n - (vint n).length = size8 n by omega]
        · rw [if_neg hp] at key
          exact ⟨_, _, _, key, by omega, by simp, Or.inl ⟨rfl, by simp⟩⟩
      · -- too few bytes
        refine ⟨[], (vint n).length, 2, ?_, by omega, by simp, Or.inl ⟨rfl, by omega⟩⟩
        have hs := bsize_f n (by omega)
        have hby : cursor_Cursor_Bytes.f l (((vint n).length : Nat) : Int) 0 ((size8 n : Nat) : Int) = some ([], (((vint n).length : Nat) : Int), 2) := by
          unfold cursor_Cursor_Bytes.f
          rw [if_pos rfl, if_neg (by omega), if_pos (by omega), if_pos (by omega)]
        unfold bitmap_Read.f
        refine Ev.bind (g := fun _ => cursor_Cursor_Most.f _ _ _ _) (ev_some hmost) ?_
        refine Ev.bind (g := fun _ => bitmap_size.f _) (ev_some hs) ?_
        refine Ev.bind (g := fun _ => cursor_Cursor_Bytes.f _ _ _ _) (ev_some hby) ?_
        refine Ev.bind (g := fun _ => bitmap_size.f _) (ev_some hs) ?_
        simp only [List.length_nil, if_pos (show ((0 : Nat) : Int) < ((size8 n : Nat) : Int) by omega)]
        exact Ev.now _
  · refine ⟨[], 0, 2, bad 2 (by omega) ?_, by omega, by simp, Or.inl ⟨rfl, by omega⟩⟩
    unfold cursor_Cursor_Most.f
    have hnum0 : cursor_Cursor_Number.f l 0 0 = some (0, 0, 2) := hnum
    rw [hnum0]
    simp only [Option.bind_some, if_neg (show ¬ (0 : Int) > (m : Int) by omega)]
  · refine ⟨[], 0, 3, bad 3 (by omega) ?_, by omega, by simp, Or.inl ⟨rfl, by omega⟩⟩
    unfold cursor_Cursor_Most.f
    have hnum0 : cursor_Cursor_Number.f l 0 0 = some (0, 0, 3) := hnum
    rw [hnum0]
    simp only [Option.bind_some, if_neg (show ¬ (0 : Int) > (m : Int) by omega)]
theorem bitsB_pack (l : List Bool) : bitsB (pack l) l.length = l := by
  apply List.ext_getElem
  · rw [bitsB_len]
  · intro n h1 h2
    have h8 : n / 8 < (pack l).length := by rw [pack_length]; unfold size8; omega
    have e : rd (pack l) ((n / 8 : Nat) : Int) = ((num ((l.drop (8 * (n / 8))).take 8) : Nat) : Int) := by
      rw [rd_nat _ _ h8]
      simp [pack]
    simp only [bitsB, List.getElem_map, List.getElem_range]
    unfold bitB
    rw [e, Int.toNat_natCast, num_testBit, List.getD_eq_getElem?_getD, List.getElem?_take, if_pos (by omega), List.getElem?_drop, show 8 * (n / 8) + n % 8 = n by omega]
    simp [h2]
theorem isBy_pack (b : List Bool) : isBy (pack b) := by
  intro x hx
  simp only [pack, List.mem_map] at hx
  obtain ⟨j, _, rfl⟩ := hx
  have h1 := num_lt ((b.drop (8 * j)).take 8)
  have h2 : 2 ^ ((b.drop (8 * j)).take 8).length ≤ 2 ^ 8 := Nat.pow_le_pow_right (by omega) (by simp; omega)
  have h3 : (2 : Nat) ^ 8 = 256 := by decide
  omega
def bwrL (l : List Bool) : List Int := vint l.length ++ pack l
theorem bwrL_len (l : List Bool) (hl : l.length ≤ 1000) : (bwrL l).length ≤ 1200 := by
  have hv := vint_len l.length (by omega)
  have hp := pack_len l
  unfold bwrL
  simp
  omega
theorem bwrite_f (l : List Bool) (hl : l.length ≤ 1000) : Ev (fun k => bitmap_Write.f k l) (bwrL l) := by
  have hv := vint_len l.length (by omega)
  have hp := pack_len l
  unfold bitmap_Write.f bwrL
  refine (cput_f l.length (by omega)).bind ?_
  refine (bput_f l (by omega)).bind ?_
  simp only [if_pos (show (vint l.length).length + (pack l).length < 140737488355328 by omega)]
  exact Ev.now _
theorem rwrite4_f (l : List Bool) (hl : l.length ≤ 1000) : Ev (fun k => hopperref04_Write.f k l) (bwrL l) := by
  have hv := vint_len l.length (by omega)
  have hp := pack_len l
  unfold hopperref04_Write.f bwrL
  refine (rput l.length (by omega)).bind ?_
  refine (rput4_f l (by omega)).bind ?_
  simp only [if_pos (show (vint l.length).length + (pack l).length < 140737488355328 by omega)]
  exact Ev.now _
theorem bread_back (l : List Bool) (hl : l.length ≤ 1000) : Ev (fun k => bitmap_Read.f k (bwrL l) 0 0 1000) (l, (((bwrL l).length : Nat) : Int), 0) := by
  have hv := vint_len l.length (by omega)
  have hlen := bwrL_len l hl
  have hmost : cursor_Cursor_Most.f (bwrL l) 0 0 1000 = some ((l.length : Int), (((vint l.length).length : Nat) : Int), 0) := by
    have h := number_at (bwrL l) 0 l.length (pack l) (by omega) (by omega) (by rw [List.drop_zero]; rfl)
    rw [Nat.zero_add] at h
    unfold cursor_Cursor_Most.f
    have h0 : cursor_Cursor_Number.f (bwrL l) 0 0 = some ((l.length : Int), (((vint l.length).length : Nat) : Int), 0) := h
    rw [h0]
    simp only [Option.bind_some, if_neg (show ¬ (l.length : Int) > 1000 by omega)]
  have hll : (bwrL l).length = (vint l.length).length + size8 l.length := by unfold bwrL; rw [List.length_append, pack_length]
  have hbytes := bytes_at (bwrL l) (vint l.length).length (size8 l.length) (by omega) (by omega)
  have hd : ((bwrL l).drop (vint l.length).length).take (size8 l.length) = pack l := by unfold bwrL; rw [List.drop_left, ← pack_length, List.take_length]
  rw [hd] at hbytes
  have key := bread_n (bwrL l) (pack l) l.length hl (isBy_pack l) (pack_length l) _ _ _ _ 1000 hmost hbytes
  rw [bitsB_pack, if_pos rfl, ← hll] at key
  exact key
end Go.Proofs.Ytdohphiicmdilaa.HP
