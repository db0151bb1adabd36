/- What the walk of PackBack needs: pack.Read over a cursor that was made; the same numbers; how long what is written is. -/
import Derived.Test.YtkdncanoajbdgaaHCurB
import Derived.Test.YtkdncanoajbdgaaHPackRd
import Derived.Test.YtkdncanoajbdgaaPx10
import Derived.Test.YtkdncanoajbdgaaPx13
set_option linter.unusedVariables false
set_option linter.unusedSimpArgs false
namespace Go.Proofs.Ytkdncanoajbdgaa.HP
open Go.RowKit Go.Proofs.Ytkdncanoajbdgaa.P Go.Proofs.YtkdncanoajbdgaaW.PrintWords Go.Proofs.YtkdncanoajbdgaaW.PrintLast Go.Proofs.YtkdncanoajbdgaaW.PrintMore
theorem ints_l (l : List Int) (hl : l.length ≤ 10000) : ∀ (d i : Nat), i + d = l.length → Ev (fun k => hopperref03_Ints.l0 k l l (i : Int)) true := by
  intro d
  induction d with
  | zero =>
    intro i h
    refine Ev.step (fun k => by rw [hopperref03_Ints.l0]) ?_
    simp only [if_neg (show ¬ (i : Int) < (l.length : Int) by omega)]
    exact Ev.now _
  | succ d ih =>
    intro i h
    refine Ev.step (fun k => by rw [hopperref03_Ints.l0]) ?_
    simp only [if_pos (show (i : Int) < (l.length : Int) by omega), if_pos (show 0 ≤ (i : Int) by omega), if_true, wr1 i (by omega)]
    exact ih (i + 1) (by omega)
theorem ints_self (l : List Int) (hl : l.length ≤ 10000) : Ev (fun k => hopperref03_Ints.f k l l) true := by
  unfold hopperref03_Ints.f
  simp only [if_true]
  exact ints_l l hl l.length 0 (by omega)
theorem writeL_len (m : List Int) (hl : m.length ≤ 300) (hm : mayL m = true) : (writeL m).length ≤ 2000 := by
  have hw := wide_32 hm
  have hv := vint_len m.length (by omega)
  have hL : writeL m = vint m.length ++ ([((wideL m 0 : Nat) : Int)] ++ pack (bitsL (wideL m 0) m)) := by unfold writeL; rw [List.append_assoc]
  have hpl : (pack (bitsL (wideL m 0) m)).length = size8 (m.length * wideL m 0) := by rw [pack_length, bitsL_len]
  have hnw : m.length * wideL m 0 ≤ 300 * 32 := Nat.mul_le_mul hl hw
  have hs8 : size8 (m.length * wideL m 0) ≤ 1201 := by unfold size8; omega
  rw [hL]
  simp [hpl]
  omega
end Go.Proofs.Ytkdncanoajbdgaa.HP
namespace Go.Proofs.Ytkdncanoajbdgaa.P
open Go.RowKit Go.Proofs.YtkdncanoajbdgaaW.PrintWords Go.Proofs.YtkdncanoajbdgaaW.PrintLast Go.Proofs.YtkdncanoajbdgaaW.PrintMore
theorem Cur.read {lo : Nat} {w : World} {g : Nat} {l : List Int} {i e : Int} {n : Int} {r : List Int} {i' e' : Int} (k : Nat) (h : Cur lo w g l i e) (hf : pack_Read.f k l i e n = some (r, i', e')) :
    Calls Try.prog 40 #[.pointer (some ⟨g, 0, none⟩), .int .i64 n] w fun en w' => ∃ v : Value, en = .returned v ∧ Kd.R (Kd.int .i64) 3 w' w.heap.size (fun _ => True) v r ∧ Cur lo w' g l i' e' ∧ KeepBut w w' g none ∧ Below lo w w' := by
  refine (pack_Read.calls k g l i e n r i' e' (trw w g lo) w h.isS h.trb hf).mono ?_
  rintro en w' ⟨v, rfl, ho, hi, hb, hk⟩
  exact ⟨v, rfl, ho, h.back hk hi, hk, ⟨hb.os, hb.tape, hb.output, hk.1, fun k hk2 => hk.2 k (by have := h.lt; have := h.ge; omega) (by have := h.ge; omega) (by simp)⟩⟩
end Go.Proofs.Ytkdncanoajbdgaa.P
