/- What a cursor's methods tell of a varint, a text, and their ends. -/
import Derived.Test.YtkdncanoajbdgaaHCurZ
import Derived.Test.YtkdncanoajbdgaaHCurP
import Derived.Test.YtkdncanoajbdgaaPx2
set_option linter.unusedVariables false
set_option linter.unusedSimpArgs false
namespace Go.Proofs.Ytkdncanoajbdgaa.HP
open Go.RowKit Go.Proofs.Ytkdncanoajbdgaa.P Go.Proofs.YtkdncanoajbdgaaW.PrintWords Go.Proofs.YtkdncanoajbdgaaW.PrintLast Go.Proofs.YtkdncanoajbdgaaW.PrintMore
theorem str_bytes (s : ByteArray) : strOfNums (bytesOf s) = s := by
  unfold strOfNums bytesOf
  rw [List.map_map]
  have e : (fun n : Int => UInt8.ofNat n.toNat) ∘ (fun b : UInt8 => (b.toNat : Int)) = id := by
    funext b
    simp
  rw [e, List.map_id]
theorem wr_at (a : Nat) (ha : a ≤ 1000000) : wrap64 (a : Int) = (a : Int) := by unfold wrap64; omega
theorem number_at (l : List Int) (a n : Nat) (t : List Int) (hn : n < 9223372036854775808) (hl : l.length ≤ 100000) (h : l.drop a = vint n ++ t) : cursor_Cursor_Number.f l (a : Int) 0 = some ((n : Int), ((a + (vint n).length : Nat) : Int), 0) := by
  have hv := vint_len n hn
  have hp := vint_pos n
  have ha : a ≤ l.length := by
    rcases Nat.lt_or_ge l.length a with h1 | h1
    · rw [List.drop_eq_nil_of_le (by omega)] at h
      have := congrArg List.length h
      simp at this
      omega
    · exact h1
  unfold cursor_Cursor_Number.f
  rw [if_pos rfl, if_pos (by omega), Int.toNat_natCast, h, z_put n hn]
  simp only
  have e : wrap64 ((a : Int) + ((vint n).length : Int)) = ((a + (vint n).length : Nat) : Int) := by
    have := wr_at (a + (vint n).length) (by omega)
    rw [← this]
    push_cast
    rfl
  rw [e]
theorem bytes_at (l : List Int) (a n : Nat) (hl : l.length ≤ 100000) (h : a + n ≤ l.length) : cursor_Cursor_Bytes.f l (a : Int) 0 (n : Int) = some ((l.drop a).take n, ((a + n : Nat) : Int), 0) := by
  unfold cursor_Cursor_Bytes.f
  rw [if_pos rfl, if_neg (by omega), if_pos (by omega), if_neg (by omega), if_pos (by omega)]
  simp
theorem text_at (l : List Int) (a : Nat) (s : ByteArray) (t : List Int) (hs : s.size ≤ 4096) (hl : l.length ≤ 100000) (h : l.drop a = textL s ++ t) : cursor_Cursor_Text.f l (a : Int) 0 = some (s, ((a + (textL s).length : Nat) : Int), 0) := by
  have hn := number_at l a s.size (bytesOf s ++ t) (by omega) hl (by rw [h]; unfold textL; simp)
  have hlen := congrArg List.length h
  have hb := bytesOf_length s
  simp only [List.length_drop, List.length_append, textL] at hlen
  have hp := vint_pos s.size
  have hd : (l.drop (a + (vint s.size).length)).take s.size = bytesOf s := by
    rw [← List.drop_drop, h]
    unfold textL
    rw [List.append_assoc, List.drop_left, ← hb, List.take_left]
  unfold cursor_Cursor_Text.f cursor_Cursor_Most.f
  rw [hn]
  simp only [Option.bind_some, if_neg (show ¬ (s.size : Int) > 4096 by omega)]
  rw [bytes_at l _ s.size hl (by omega), hd]
  simp only [Option.bind_some, if_true, str_bytes]
  unfold textL
  rw [List.length_append, hb, Nat.add_assoc]
theorem end_at (l : List Int) (a : Nat) (hl : l.length ≤ 100000) (ha : a ≤ l.length) : cursor_Cursor_End.f l (a : Int) 0 = some ((if a < l.length then 2 else 0), (a : Int), 0) := by
  unfold cursor_Cursor_End.f cursor_Cursor_Left.f
  have e : wrap64 ((l.length : Int) - (a : Int)) = ((l.length - a : Nat) : Int) := by
    rw [← wr_at (l.length - a) (by omega)]
    congr 1
    omega
  rw [if_pos rfl, e]
  simp only [Option.bind_some]
  by_cases h : a < l.length
  · rw [if_pos (by omega), if_pos h]
  · rw [if_neg (by omega), if_neg h]
theorem end_bad (l : List Int) (a e : Int) (he : e ≠ 0) : cursor_Cursor_End.f l a e = some (e, a, e) := by
  unfold cursor_Cursor_End.f
  rw [if_neg he]
theorem left_at (l : List Int) (a : Nat) (e : Int) (hl : l.length ≤ 100000) (ha : a ≤ l.length) : cursor_Cursor_Left.f l (a : Int) e = some (((l.length - a : Nat) : Int), (a : Int), e) := by
  unfold cursor_Cursor_Left.f
  have e1 : wrap64 ((l.length : Int) - (a : Int)) = ((l.length - a : Nat) : Int) := by
    rw [← wr_at (l.length - a) (by omega)]
    congr 1
    omega
  rw [e1]
theorem number_any (l : List Int) (hb : isBy l) (hl : l.length ≤ 100000) (a : Nat) (ha : a ≤ l.length) : (∃ n : Nat, n < 9223372036854775808 ∧ ∃ t : List Int, l.drop a = vint n ++ t ∧ cursor_Cursor_Number.f l (a : Int) 0 = some ((n : Int), ((a + (vint n).length : Nat) : Int), 0)) ∨ cursor_Cursor_Number.f l (a : Int) 0 = some (0, (a : Int), 2) ∨ cursor_Cursor_Number.f l (a : Int) 0 = some (0, (a : Int), 3) := by
  have hbd : isBy (l.drop a) := fun x hx => hb x (List.mem_of_mem_drop hx)
  have bad : ∀ e : Int, cursor_Cursor_Number.z (l.drop a) 0 0 = (0, 0, e) → cursor_Cursor_Number.f l (a : Int) 0 = some (0, (a : Int), e) := by
    intro e h
    unfold cursor_Cursor_Number.f
    rw [if_pos rfl, if_pos (by omega), Int.toNat_natCast, h]
    simp only [Int.add_zero]
    rw [wr_at a (by omega)]
  rcases z_any (l.drop a) hbd with ⟨n, hn, t, e1, e2⟩ | e | e
  · left
    exact ⟨n, hn, t, e1, number_at l a n t hn hl e1⟩
  · right; left; exact bad 2 e
  · right; right; exact bad 3 e
theorem isBy_wf {l : List Int} (h : ∀ x ∈ l, (Lit.int .u8 x).wf = true) : isBy l := by
  intro x hx
  have := h x hx
  simp [Lit.wf, IntKind.min, IntKind.max, IntKind.signed, IntKind.bits] at this
  omega
end Go.Proofs.Ytkdncanoajbdgaa.HP
