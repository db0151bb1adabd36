/- The cursor's other methods, over a cursor that was made. -/
import Derived.Test.YtkdncanoajbdgaaPx3
import Derived.Test.YtkdncanoajbdgaaPx2
import Derived.Test.YtkdncanoajbdgaaPx13
import Derived.Test.YtkdncanoajbdgaaPx1
set_option linter.unusedVariables false
set_option linter.unusedSimpArgs false
namespace Go.Proofs.Ytkdncanoajbdgaa.P
open Go.RowKit Go.Proofs.YtkdncanoajbdgaaW.PrintWords Go.Proofs.YtkdncanoajbdgaaW.PrintLast Go.Proofs.YtkdncanoajbdgaaW.PrintMore
section
variable {lo : Nat} {w w' : World} {g : Nat} {l : List Int} {i e : Int}
theorem Cur.most {n : Int} {r : Int} {i' e' : Int} (h : Cur lo w g l i e) (hf : cursor_Cursor_Most.f l i e n = some (r, i', e')) :
    Calls Try.prog 26 #[.pointer (some ⟨g, 0, none⟩), .int .i64 n] w fun en w' => en = .returned (.int .i64 r) ∧ Cur lo w' g l i' e' ∧ KeepBut w w' g none ∧ Below lo w w' := by
  refine (cursor_Cursor_Most.calls g l i e n r i' e' (trw w g lo) w h.isS h.trb hf).mono ?_
  rintro en w' ⟨rfl, hi, hb, hk⟩
  exact ⟨rfl, h.back hk hi, hk, ⟨hb.os, hb.tape, hb.output, hk.1, fun k hk2 => hk.2 k (by have := h.lt; have := h.ge; omega) (by have := h.ge; omega) (by simp)⟩⟩
theorem Cur.good {r : Bool} {i' e' : Int} (h : Cur lo w g l i e) (hf : cursor_Cursor_Good.f l i e = some (r, i', e')) :
    Calls Try.prog 28 #[.pointer (some ⟨g, 0, none⟩)] w fun en w' => en = .returned (.bool r) ∧ Cur lo w' g l i' e' ∧ KeepBut w w' g none ∧ Below lo w w' := by
  refine (cursor_Cursor_Good.calls g l i e r i' e' (trw w g lo) w h.isS h.trb hf).mono ?_
  rintro en w' ⟨rfl, hi, hb, hk⟩
  exact ⟨rfl, h.back hk hi, hk, ⟨hb.os, hb.tape, hb.output, hk.1, fun k hk2 => hk.2 k (by have := h.lt; have := h.ge; omega) (by have := h.ge; omega) (by simp)⟩⟩
theorem Cur.byte {r : Int} {i' e' : Int} (h : Cur lo w g l i e) (hf : cursor_Cursor_Byte.f l i e = some (r, i', e')) :
    Calls Try.prog 25 #[.pointer (some ⟨g, 0, none⟩)] w fun en w' => en = .returned (.int .i64 r) ∧ Cur lo w' g l i' e' ∧ KeepBut w w' g none ∧ Below lo w w' := by
  refine (cursor_Cursor_Byte.calls g l i e r i' e' (trw w g lo) w h.isS h.trb hf).mono ?_
  rintro en w' ⟨rfl, hi, hb, hk⟩
  exact ⟨rfl, h.back hk hi, hk, ⟨hb.os, hb.tape, hb.output, hk.1, fun k hk2 => hk.2 k (by have := h.lt; have := h.ge; omega) (by have := h.ge; omega) (by simp)⟩⟩
theorem Cur.fail {n : Int} {i' e' : Int} (h : Cur lo w g l i e) (hf : cursor_Cursor_Fail.f l i e n = some (i', e')) :
    Calls Try.prog 27 #[.pointer (some ⟨g, 0, none⟩), .int .i64 n] w fun en w' => en = .returned (.tuple #[]) ∧ Cur lo w' g l i' e' ∧ KeepBut w w' g none ∧ Below lo w w' := by
  refine (cursor_Cursor_Fail.calls g l i e n i' e' (trw w g lo) w h.isS h.trb hf).mono ?_
  rintro en w' ⟨rfl, hi, hb, hk⟩
  exact ⟨rfl, h.back hk hi, hk, ⟨hb.os, hb.tape, hb.output, hk.1, fun k hk2 => hk.2 k (by have := h.lt; have := h.ge; omega) (by have := h.ge; omega) (by simp)⟩⟩
theorem Cur.bytes {n : Int} {r : List Int} {i' e' : Int} (h : Cur lo w g l i e) (hf : cursor_Cursor_Bytes.f l i e n = some (r, i', e')) :
    Calls Try.prog 23 #[.pointer (some ⟨g, 0, none⟩), .int .i64 n] w fun en w' => ∃ v : Value, en = .returned v ∧ Kd.R (Kd.int .u8) 5 w' w.heap.size (fun _ => True) v r ∧ Cur lo w' g l i' e' ∧ KeepBut w w' g none ∧ Below lo w w' := by
  refine (cursor_Cursor_Bytes.calls g l i e n r i' e' (trw w g lo) w h.isS h.trb hf).mono ?_
  rintro en w' ⟨v, rfl, ho, hi, hb, hk⟩
  exact ⟨v, rfl, ho, h.back hk hi, hk, ⟨hb.os, hb.tape, hb.output, hk.1, fun k hk2 => hk.2 k (by have := h.lt; have := h.ge; omega) (by have := h.ge; omega) (by simp)⟩⟩
end
end Go.Proofs.Ytkdncanoajbdgaa.P
