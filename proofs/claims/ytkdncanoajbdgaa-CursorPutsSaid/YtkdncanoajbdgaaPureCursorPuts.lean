/- CursorPuts, the plain law. -/
import Derived.Test.YtkdncanoajbdgaaHCurP
import Derived.Test.YtkdncanoajbdgaaPx3
set_option linter.unusedVariables false
set_option linter.unusedSimpArgs false
namespace Go.Proofs.Ytkdncanoajbdgaa.Pure
open Go.RowKit Go.Proofs.Ytkdncanoajbdgaa.P Go.Proofs.Ytkdncanoajbdgaa.HP Go.Proofs.YtkdncanoajbdgaaW.PrintWords Go.Proofs.YtkdncanoajbdgaaW.PrintLast Go.Proofs.YtkdncanoajbdgaaW.PrintMore
theorem awake1 : Ev (fun _ => hopperlaw01_awake.f) true := Ev.now _
theorem same_l (a : List Int) : Ev (fun _ => hopperref01_Same.f a a) true := by
  rw [show hopperref01_Same.f a a = some true by unfold hopperref01_Same.f; simp]
  exact Ev.now _
theorem CursorPuts (a0 : Int) (a1 : ByteArray) (w0 : (Lit.int .i64 a0).wf = true) (_ : a1.size ≤ 140737488351232) : ∃ k, hopperlaw01_CursorPuts.f k a0 a1 = some true := by
  apply Ev.rounds
  have ha : a0 < 9223372036854775808 := by
    simp [Lit.wf, IntKind.min, IntKind.max, IntKind.signed, IntKind.bits] at w0
    omega
  unfold hopperlaw01_CursorPuts.f
  refine awake1.bind ?_
  simp only [if_true]
  by_cases h5 : (a1.size : Int) > 5000
  · simp only [decide_eq_true h5]
    refine Ev.step (fun k => by rw [hopperlaw01_CursorPuts.j0]) ?_
    simp only [if_true]
    exact awake1.bind (Ev.now _)
  simp only [decide_eq_false h5]
  refine Ev.step (fun k => by rw [hopperlaw01_CursorPuts.j0]) ?_
  simp only [Bool.false_eq_true, if_false]
  refine (cput_any a0 ha).bind ?_
  refine (rput_any a0 ha).bind ?_
  refine (same_l _).bind ?_
  simp only [if_true]
  refine (ctext_f a1 (by omega)).bind ?_
  refine (rtext_f a1 (by omega)).bind ?_
  exact (same_l _).bind (Ev.now _)
end Go.Proofs.Ytkdncanoajbdgaa.Pure
