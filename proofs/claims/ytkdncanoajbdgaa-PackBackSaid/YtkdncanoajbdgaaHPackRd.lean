/- What is written is read as it was. -/
import Derived.Test.YtkdncanoajbdgaaHPackE
import Derived.Test.YtkdncanoajbdgaaHCurS
import Derived.Test.YtkdncanoajbdgaaPx13
set_option linter.unusedVariables false
set_option linter.unusedSimpArgs false
namespace Go.Proofs.Ytkdncanoajbdgaa.HP
open Go.RowKit Go.Proofs.Ytkdncanoajbdgaa.P Go.Proofs.YtkdncanoajbdgaaW.PrintWords Go.Proofs.YtkdncanoajbdgaaW.PrintLast Go.Proofs.YtkdncanoajbdgaaW.PrintMore
theorem equal_l (l : List Int) (hl : l.length ≤ 1000000) : ∀ (d i : Nat), i + d = l.length → Ev (fun k => slices_Equal_byte_byte.l0 k l l (l.length : Int) (i : Int)) true := by
  intro d
  induction d with
  | zero =>
    intro i h
    refine Ev.step (fun k => by rw [slices_Equal_byte_byte.l0]) ?_
    simp only [if_neg (show ¬ (i : Int) < (l.length : Int) by omega)]
    exact Ev.now _
  | succ d ih =>
    intro i h
    refine Ev.step (fun k => by rw [slices_Equal_byte_byte.l0]) ?_
    simp only [if_pos (show (i : Int) < (l.length : Int) by omega), if_pos (show 0 ≤ (i : Int) by omega), if_true, wr1 i (by omega)]
    exact ih (i + 1) (by omega)
theorem equal_self (l : List Int) (hl : l.length ≤ 1000000) : Ev (fun k => slices_Equal_byte_byte.f k l l) true := by
  unfold slices_Equal_byte_byte.f
  simp only [if_true]
  exact equal_l l hl l.length 0 (by omega)
theorem psize_f (n w : Nat) (hn : n ≤ 10000) (hw : w ≤ 32) : pack_size.f (n : Int) (w : Int) = some ((size8 (n * w) : Nat) : Int) := by
  have hnw := nw_le hn hw
  unfold pack_size.f
  congr 1
  rw [mulw _ _ (by omega) (by omega)]
  have e1 : wrap64 (wrap64 (((n * w : Nat) : Int) + 8) - 1) = ((n * w + 7 : Nat) : Int) := by unfold wrap64; omega
  rw [e1, div8b _ (by omega)]
  rfl
theorem byte_at (l : List Int) (a : Nat) (hl : l.length ≤ 100000) (h : a < l.length) (h0 : 0 ≤ l[a]) (h1 : l[a] < 256) : cursor_Cursor_Byte.f l (a : Int) 0 = some (l[a], ((a + 1 : Nat) : Int), 0) := by
  unfold cursor_Cursor_Byte.f
  have hb := bytes_at l a 1 hl (by omega)
  rw [show ((1 : Nat) : Int) = 1 from rfl] at hb
  have e : (l.drop a).take 1 = [l[a]] := by rw [List.drop_eq_getElem_cons h]; rfl
  rw [hb, e]
  have hw : wrap64 l[a] = l[a] := by unfold wrap64; omega
  simp [rd, hw]
theorem most_at (l : List Int) (a n m : Nat) (t : List Int) (hn : n < 9223372036854775808) (hm : n ≤ m) (hl : l.length ≤ 100000) (h : l.drop a = vint n ++ t) : cursor_Cursor_Most.f l (a : Int) 0 (m : Int) = some ((n : Int), ((a + (vint n).length : Nat) : Int), 0) := by
  unfold cursor_Cursor_Most.f
  rw [number_at l a n t hn hl h]
  simp only [Option.bind_some, if_neg (show ¬ (n : Int) > (m : Int) by omega)]
theorem pread_l (m : List Int) (hl : m.length ≤ 300) (hm : mayL m = true) (L : List Int) (at_ : Int) : ∀ (t : List Int) (i : Nat), m.drop i = t → i ≤ m.length →
    Ev (fun k => pack_Read.l0 k ((wideL m 0 : Nat) : Int) (pack (bitsL (wideL m 0) m)) (m.take i) (m.length : Int) (i : Int) L at_ 0) (m, at_, 0) := by
  have hw := wide_32 hm
  have hp := packB_len m (by omega) _ hw
  intro t
  induction t with
  | nil =>
    intro i h hi
    have := drop_nil h
    obtain rfl : i = m.length := by omega
    refine Ev.step (fun k => by rw [pack_Read.l0]) ?_
    simp only [if_neg (show ¬ (m.length : Int) < (m.length : Int) by omega), List.take_length]
    refine (pput_f _ hw m (by omega)).bind ?_
    rw [if_pos (wide_good hm)]
    refine Ev.bind (g := fun _ => pack_Width.f _) (ev_some (pwidth_f m (by omega) hm)) ?_
    simp only [if_true]
    rw [show (packed (wideL m 0) m).1 = pack (bitsL (wideL m 0) m) from rfl]
    refine (equal_self _ (by omega)).bind ?_
    simp only [if_true]
    exact Ev.now _
  | cons a t ih =>
    intro i h hi
    have hlt := drop_lt h
    refine Ev.step (fun k => by rw [pack_Read.l0]) ?_
    simp only [if_pos (show (i : Int) < (m.length : Int) by omega)]
    refine (pget_pack _ hw m (by omega) (wide_good hm) i hlt).bind ?_
    simp only [if_pos (show (m.take i).length < 17592186044416 by simp; omega), wr1 i (by omega)]
    have := ih (i + 1) (drop_tl h) (by omega)
    rw [List.take_succ_eq_append_getElem hlt] at this
    exact this
theorem pread_f (m : List Int) (hl : m.length ≤ 300) (hm : mayL m = true) : Ev (fun k => pack_Read.f k (writeL m) 0 0 300) (m, ((writeL m).length : Int), 0) := by
  have hw := wide_32 hm
  have hp := packB_len m (by omega) _ hw
  have hv := vint_len m.length (by omega)
  have hL : writeL m = vint m.length ++ ([((wideL m 0 : Nat) : Int)] ++ pack (bitsL (wideL m 0) m)) := by unfold writeL; rw [List.append_assoc]
  have hpl : (pack (bitsL (wideL m 0) m)).length = size8 (m.length * wideL m 0) := by rw [pack_length, bitsL_len]
  have hLl : (writeL m).length = (vint m.length).length + 1 + size8 (m.length * wideL m 0) := by rw [hL]; simp [hpl]; omega
  have hnw : m.length * wideL m 0 ≤ 300 * 32 := Nat.mul_le_mul hl hw
  have hs8 : size8 (m.length * wideL m 0) ≤ 1201 := by unfold size8; omega
  have hmost := most_at (writeL m) 0 m.length 300 _ (by omega) hl (by omega) (by rw [List.drop_zero]; exact hL)
  rw [Nat.zero_add] at hmost
  have hlt : (vint m.length).length < (writeL m).length := by omega
  have hget : (writeL m)[(vint m.length).length] = ((wideL m 0 : Nat) : Int) := by
    simp only [hL]
    rw [List.getElem_append_right (by omega)]
    simp
  have hbyte := byte_at (writeL m) (vint m.length).length (by omega) hlt (by rw [hget]; omega) (by rw [hget]; omega)
  rw [hget] at hbyte
  have hbytes := bytes_at (writeL m) ((vint m.length).length + 1) (size8 (m.length * wideL m 0)) (by omega) (by omega)
  have hd : ((writeL m).drop ((vint m.length).length + 1)).take (size8 (m.length * wideL m 0)) = pack (bitsL (wideL m 0) m) := by
    rw [hL, ← List.drop_drop, List.drop_left]
    simp only [List.singleton_append, List.drop_succ_cons, List.drop_zero]
    rw [← hpl, List.take_length]
  rw [hd] at hbytes
  have hs := psize_f m.length (wideL m 0) (by omega) hw
  unfold pack_Read.f
  refine Ev.bind (g := fun _ => cursor_Cursor_Most.f _ _ _ _) (ev_some hmost) ?_
  refine Ev.bind (g := fun _ => cursor_Cursor_Byte.f _ _ _) (ev_some hbyte) ?_
  simp only [if_neg (show ¬ ((wideL m 0 : Nat) : Int) > 32 by omega)]
  refine Ev.bind (g := fun _ => pack_size.f _ _) (ev_some hs) ?_
  refine Ev.bind (g := fun _ => cursor_Cursor_Bytes.f _ _ _ _) (ev_some hbytes) ?_
  refine Ev.bind (g := fun _ => pack_size.f _ _) (ev_some hs) ?_
  simp only [hpl, if_neg (show ¬ ((size8 (m.length * wideL m 0) : Nat) : Int) < ((size8 (m.length * wideL m 0) : Nat) : Int) by omega)]
  have := pread_l m hl hm (writeL m) (((vint m.length).length + 1 + size8 (m.length * wideL m 0) : Nat) : Int) m 0 rfl (by omega)
  rw [← hLl] at this ⊢
  simpa using this
end Go.Proofs.Ytkdncanoajbdgaa.HP
