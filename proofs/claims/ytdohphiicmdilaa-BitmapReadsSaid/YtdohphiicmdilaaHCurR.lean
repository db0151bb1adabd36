/- The cursor, for seats without law 01: what its methods tell, and wrappers over a cursor that was made. -/
import Derived.Test.YtdohphiicmdilaaHCurZ
import Derived.Test.YtdohphiicmdilaaHPack8
import Derived.Test.YtdohphiicmdilaaPx17
import Derived.Test.YtdohphiicmdilaaPx19
import Derived.Test.YtdohphiicmdilaaPx18
set_option linter.unusedVariables false
set_option linter.unusedSimpArgs false
namespace Go.Proofs.Ytdohphiicmdilaa.HP
open Go.RowKit Go.Proofs.Ytdohphiicmdilaa.P Go.Proofs.YtdohphiicmdilaaW.PrintWords Go.Proofs.YtdohphiicmdilaaW.PrintLast Go.Proofs.YtdohphiicmdilaaW.PrintMore
theorem wr_at (a : Nat) (ha : a ≤ 1000000) : wrap64 (a : Int) = (a : Int) := by unfold wrap64; omega
theorem number_at (l : List Int) (a n : Nat) (t : List Int) (hn : n < 9223372036854775808) (hl : l.length ≤ 100000) (h : l.drop a = vint n ++ t) : cursor_Cursor_Number.f l (a : Int) 0 = some ((n : Int), ((a + (vint n).length : Nat) : Int), 0) := by
  have hv := vint_len n hn
  have hp := vint_pos n
  have ha : a ≤ l.length := by
    rcases Nat.lt_or_ge l.length a with h1 | h1
    · rw [List.drop_eq_nil_of_le (by omega)] at h
      have := congrArg List.length h
      simp at this
      omega
    · exact h1
  unfold cursor_Cursor_Number.f
  rw [if_pos rfl, if_pos (by omega), Int.toNat_natCast, h, z_put n hn]
  simp only
  have e : wrap64 ((a : Int) + ((vint n).length : Int)) = ((a + (vint n).length : Nat) : Int) := by
    have := wr_at (a + (vint n).length) (by omega)
    rw [← this]
    push_cast
    rfl
  rw [e]
theorem bytes_at (l : List Int) (a n : Nat) (hl : l.length ≤ 100000) (h : a + n ≤ l.length) : cursor_Cursor_Bytes.f l (a : Int) 0 (n : Int) = some ((l.drop a).take n, ((a + n : Nat) : Int), 0) := by
  unfold cursor_Cursor_Bytes.f
  rw [if_pos rfl, if_neg (by omega), if_pos (by omega), if_neg (by omega), if_pos (by omega)]
  simp
theorem end_at (l : List Int) (a : Nat) (hl : l.length ≤ 100000) (ha : a ≤ l.length) : cursor_Cursor_End.f l (a : Int) 0 = some ((if a < l.length then 2 else 0), (a : Int), 0) := by
  unfold cursor_Cursor_End.f cursor_Cursor_Left.f
  have e : wrap64 ((l.length : Int) - (a : Int)) = ((l.length - a : Nat) : Int) := by
    rw [← wr_at (l.length - a) (by omega)]
    congr 1
    omega
  rw [if_pos rfl, e]
  simp only [Option.bind_some]
  by_cases h : a < l.length
  · rw [if_pos (by omega), if_pos h]
  · rw [if_neg (by omega), if_neg h]
theorem end_bad (l : List Int) (a e : Int) (he : e ≠ 0) : cursor_Cursor_End.f l a e = some (e, a, e) := by
  unfold cursor_Cursor_End.f
  rw [if_neg he]
theorem left_at (l : List Int) (a : Nat) (e : Int) (hl : l.length ≤ 100000) (ha : a ≤ l.length) : cursor_Cursor_Left.f l (a : Int) e = some (((l.length - a : Nat) : Int), (a : Int), e) := by
  unfold cursor_Cursor_Left.f
  have e1 : wrap64 ((l.length : Int) - (a : Int)) = ((l.length - a : Nat) : Int) := by
    rw [← wr_at (l.length - a) (by omega)]
    congr 1
    omega
  rw [e1]
theorem number_any (l : List Int) (hb : isBy l) (hl : l.length ≤ 100000) (a : Nat) (ha : a ≤ l.length) : (∃ n : Nat, n < 9223372036854775808 ∧ ∃ t : List Int, l.drop a = vint n ++ t ∧ cursor_Cursor_Number.f l (a : Int) 0 = some ((n : Int), ((a + (vint n).length : Nat) : Int), 0)) ∨ cursor_Cursor_Number.f l (a : Int) 0 = some (0, (a : Int), 2) ∨ cursor_Cursor_Number.f l (a : Int) 0 = some (0, (a : Int), 3) := by
  have hbd : isBy (l.drop a) := fun x hx => hb x (List.mem_of_mem_drop hx)
  have bad : ∀ e : Int, cursor_Cursor_Number.z (l.drop a) 0 0 = (0, 0, e) → cursor_Cursor_Number.f l (a : Int) 0 = some (0, (a : Int), e) := by
    intro e h
    unfold cursor_Cursor_Number.f
    rw [if_pos rfl, if_pos (by omega), Int.toNat_natCast, h]
    simp only [Int.add_zero]
    rw [wr_at a (by omega)]
  rcases z_any (l.drop a) hbd with ⟨n, hn, t, e1, e2⟩ | e | e
  · left
    exact ⟨n, hn, t, e1, number_at l a n t hn hl e1⟩
  · right; left; exact bad 2 e
  · right; right; exact bad 3 e
theorem isBy_wf {l : List Int} (h : ∀ x ∈ l, (Lit.int .u8 x).wf = true) : isBy l := by
  intro x hx
  have := h x hx
  simp [Lit.wf, IntKind.min, IntKind.max, IntKind.signed, IntKind.bits] at this
  omega
theorem equal_l (a b : List Int) (hl : a.length ≤ 100000) (hab : a.length = b.length) : ∀ (s t : List Int) (i : Nat), a.drop i = s → b.drop i = t → Ev (fun k => slices_Equal_byte_byte.l0 k a b (a.length : Int) (i : Int)) (decide (s = t)) := by
  intro s
  induction s with
  | nil =>
    intro t i ha hb
    have := drop_nil ha
    obtain rfl : t = [] := by rw [← hb]; exact List.drop_eq_nil_of_le (by omega)
    refine Ev.step (fun k => by rw [slices_Equal_byte_byte.l0]) ?_
    simp only [if_neg (show ¬ (i : Int) < (a.length : Int) by omega), decide_true]
    exact Ev.now _
  | cons x s ih =>
    intro t i ha hb
    have hlt := drop_lt ha
    cases t with
    | nil => have := drop_nil hb; omega
    | cons y t =>
      refine Ev.step (fun k => by rw [slices_Equal_byte_byte.l0]) ?_
      simp only [if_pos (show (i : Int) < (a.length : Int) by omega), if_pos (show 0 ≤ (i : Int) by omega), if_pos (show (i : Int) < (b.length : Int) by omega), drop_rd ha, drop_rd hb, wr1 i (by omega)]
      by_cases e : x = y
      · subst e
        simp only [if_true]
        have := ih t (i + 1) (drop_tl ha) (drop_tl hb)
        simpa using this
      · simp only [if_neg e]
        rw [decide_eq_false (show ¬ x :: s = y :: t by simp [e])]
        exact Ev.now _
theorem equal_f (a b : List Int) (hl : a.length ≤ 100000) : Ev (fun k => slices_Equal_byte_byte.f k a b) (decide (a = b)) := by
  unfold slices_Equal_byte_byte.f
  by_cases h : a.length = b.length
  · simp only [if_pos (show (a.length : Int) = (b.length : Int) by omega)]
    exact equal_l a b hl h a b 0 rfl rfl
  · simp only [if_neg (show ¬ (a.length : Int) = (b.length : Int) by omega)]
    rw [decide_eq_false (fun e => h (by rw [e]))]
    exact Ev.now _
theorem num_testBit : ∀ (b : List Bool) (k : Nat), (num b).testBit k = b.getD k false := by
  intro b
  induction b with
  | nil => intro k; simp [num]
  | cons a t ih =>
    intro k
    have e : num (a :: t) = (if a = true then 1 else 0) + 2 * num t := rfl
    rw [e]
    cases k with
    | zero =>
      rw [Nat.testBit_zero]
      cases a <;> simp <;> omega
    | succ k =>
      rw [Nat.testBit_succ, show ((if a = true then 1 else 0) + 2 * num t) / 2 = num t by cases a <;> simp <;> omega, ih k]
      simp
theorem pack_length (b : List Bool) : (pack b).length = size8 b.length := by simp [pack]
end Go.Proofs.Ytdohphiicmdilaa.HP
namespace Go.Proofs.Ytdohphiicmdilaa.P
open Go.RowKit Go.Proofs.YtdohphiicmdilaaW.PrintWords Go.Proofs.YtdohphiicmdilaaW.PrintLast Go.Proofs.YtdohphiicmdilaaW.PrintMore
section
variable {lo : Nat} {w w' : World} {g : Nat} {l : List Int} {i e : Int}
theorem Cur.left {r : Int} {i' e' : Int} (h : Cur lo w g l i e) (hf : cursor_Cursor_Left.f l i e = some (r, i', e')) :
    Calls Try.prog 39 #[.pointer (some ⟨g, 0, none⟩)] w fun en w' => en = .returned (.int .i64 r) ∧ Cur lo w' g l i' e' ∧ KeepBut w w' g none ∧ Below lo w w' := by
  refine (cursor_Cursor_Left.calls g l i e r i' e' (trw w g lo) w h.isS h.trb hf).mono ?_
  rintro en w' ⟨rfl, hi, hb, hk⟩
  exact ⟨rfl, h.back hk hi, hk, ⟨hb.os, hb.tape, hb.output, hk.1, fun k hk2 => hk.2 k (by have := h.lt; have := h.ge; omega) (by have := h.ge; omega) (by simp)⟩⟩
theorem Cur.end_ {r : Int} {i' e' : Int} (h : Cur lo w g l i e) (hf : cursor_Cursor_End.f l i e = some (r, i', e')) :
    Calls Try.prog 38 #[.pointer (some ⟨g, 0, none⟩)] w fun en w' => en = .returned (.int .i64 r) ∧ Cur lo w' g l i' e' ∧ KeepBut w w' g none ∧ Below lo w w' := by
  refine (cursor_Cursor_End.calls g l i e r i' e' (trw w g lo) w h.isS h.trb hf).mono ?_
  rintro en w' ⟨rfl, hi, hb, hk⟩
  exact ⟨rfl, h.back hk hi, hk, ⟨hb.os, hb.tape, hb.output, hk.1, fun k hk2 => hk.2 k (by have := h.lt; have := h.ge; omega) (by have := h.ge; omega) (by simp)⟩⟩
theorem Cur.bread {n : Int} {r : List Bool} {i' e' : Int} (k : Nat) (h : Cur lo w g l i e) (hf : bitmap_Read.f k l i e n = some (r, i', e')) :
    Calls Try.prog 37 #[.pointer (some ⟨g, 0, none⟩), .int .i64 n] w fun en w' => ∃ v : Value, en = .returned v ∧ Kd.R Kd.bool 4 w' w.heap.size (fun _ => True) v r ∧ Cur lo w' g l i' e' ∧ KeepBut w w' g none ∧ Below lo w w' := by
  refine (bitmap_Read.calls k g l i e n r i' e' (trw w g lo) w h.isS h.trb hf).mono ?_
  rintro en w' ⟨v, rfl, ho, hi, hb, hk⟩
  exact ⟨v, rfl, ho, h.back hk hi, hk, ⟨hb.os, hb.tape, hb.output, hk.1, fun k hk2 => hk.2 k (by have := h.lt; have := h.ge; omega) (by have := h.ge; omega) (by simp)⟩⟩
end
theorem Cur.lit (w : World) (l : List Int) (hl : l.length ≤ 9223372036854775807) (fr : Nat × Nat) : Kd.C (Kd.int .u8) (w.alloc (.cells (l.map (Value.int .u8)).toArray 5 fr)) (some ⟨w.heap.size, 0, none⟩) l.length l := by
  refine Kd.C_of_reads (d := (0 : Int)) (h1 := fun _ => rfl) ⟨rfl, hl, fun _ => ⟨_, rfl, fun j hj => ?_⟩⟩
  rw [add_plain, World.cell?_alloc_mark]
  simp [List.getD_eq_getElem?_getD, hj]
theorem Cur.wide {B : Nat} {w W w' : World} (h : Below B w W) (k : Below W.heap.size W w') (hB : B ≤ W.heap.size) : Below B w w' := h.trans (k.mono hB)
theorem Cur.wide2 {B lo : Nat} {w W w' : World} (h : Below B w W) (k : Below lo W w') (hB : B ≤ lo) : Below B w w' := h.trans (k.mono hB)
end Go.Proofs.Ytdohphiicmdilaa.P
