/- Put and PutText, of whatever number and text. -/
import Derived.Test.YtkdncanoajbdgaaHPut
import Derived.Test.YtkdncanoajbdgaaPx1
import Derived.Test.YtkdncanoajbdgaaPx3
set_option linter.unusedVariables false
set_option linter.unusedSimpArgs false
namespace Go.Proofs.Ytkdncanoajbdgaa.HP
open Go.RowKit Go.Proofs.Ytkdncanoajbdgaa.P Go.Proofs.YtkdncanoajbdgaaW.PrintWords Go.Proofs.YtkdncanoajbdgaaW.PrintLast Go.Proofs.YtkdncanoajbdgaaW.PrintMore
def putL (a : Int) : List Int := if a < 0 then [] else vint a.toNat
def textL (s : ByteArray) : List Int := vint s.size ++ bytesOf s
theorem putL_nat (n : Nat) : putL (n : Int) = vint n := by unfold putL; rw [if_neg (by omega)]; rfl
theorem cput_any (a : Int) (h : a < 9223372036854775808) : Ev (fun k => cursor_Put.f k a) (putL a) := by
  by_cases h0 : a < 0
  · unfold putL cursor_Put.f
    simp only [if_pos h0]
    exact Ev.now _
  · have e : a = ((a.toNat : Nat) : Int) := by omega
    rw [e, putL_nat]
    exact cput_f _ (by omega)
theorem rput_any (a : Int) (h : a < 9223372036854775808) : Ev (fun k => hopperref01_Put.f k a) (putL a) := by
  by_cases h0 : a < 0
  · unfold putL
    refine Ev.step (fun k => by rw [hopperref01_Put.f]) ?_
    simp only [if_pos h0]
    exact Ev.now _
  · have e : a = ((a.toNat : Nat) : Int) := by omega
    rw [e, putL_nat]
    exact rput _ (by omega)
theorem ctext_f (s : ByteArray) (h : s.size ≤ 100000) : Ev (fun k => cursor_PutText.f k s) (textL s) := by
  have hv := vint_len s.size (by omega)
  unfold cursor_PutText.f
  refine (cput_f s.size (by omega)).bind ?_
  simp only [if_pos (show (vint s.size).length + s.size < 140737488355328 by omega)]
  exact Ev.now _
theorem rtext_f (s : ByteArray) (h : s.size ≤ 100000) : Ev (fun k => hopperref01_Text.f k s) (textL s) := by
  have hv := vint_len s.size (by omega)
  unfold hopperref01_Text.f
  refine (rput s.size (by omega)).bind ?_
  simp only [if_pos (show (vint s.size).length + s.size < 140737488355328 by omega)]
  exact Ev.now _
end Go.Proofs.Ytkdncanoajbdgaa.HP
