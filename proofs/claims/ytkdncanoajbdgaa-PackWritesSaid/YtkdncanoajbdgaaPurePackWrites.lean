/- PackWrites, the plain law. -/
import Derived.Test.YtkdncanoajbdgaaHPackL
import Derived.Test.YtkdncanoajbdgaaPx9
set_option linter.unusedVariables false
set_option linter.unusedSimpArgs false
namespace Go.Proofs.Ytkdncanoajbdgaa.Pure
open Go.RowKit Go.Proofs.Ytkdncanoajbdgaa.P Go.Proofs.Ytkdncanoajbdgaa.HP Go.Proofs.YtkdncanoajbdgaaW.PrintWords Go.Proofs.YtkdncanoajbdgaaW.PrintLast Go.Proofs.YtkdncanoajbdgaaW.PrintMore
theorem PackWrites (l0 : List Int) (_ : l0.length * 8 ≤ 140737488351232) (_ : (∀ x ∈ l0, (Lit.int .i64 x).wf = true)) : ∃ k, hopperlaw03_PackWrites.f k l0 = some true := by
  apply Ev.rounds
  unfold hopperlaw03_PackWrites.f
  refine awake3.bind ?_
  simp only [if_true]
  by_cases h5 : (l0.length : Int) > 300
  · simp only [decide_eq_true h5]
    refine Ev.step (fun k => by rw [hopperlaw03_PackWrites.j0]) ?_
    simp only [if_true]
    exact awake3.bind (Ev.now _)
  simp only [decide_eq_false h5]
  refine Ev.step (fun k => by rw [hopperlaw03_PackWrites.j0]) ?_
  simp only [Bool.false_eq_true, if_false]
  by_cases hm : mayL l0 = true
  · refine (pwrite_f l0 (by omega) hm).bind ?_
    refine (may_f l0 (by omega)).bind ?_
    simp only [hm, if_true]
    refine (rwrite_f l0 (by omega) hm).bind ?_
    exact Ev.bind (g := fun _ => hopperref01_Same.f _ _) (ev_some (same_self _)) (Ev.now _)
  · have hf : mayL l0 = false := by simpa using hm
    refine (pwrite_no l0 hf).bind ?_
    refine (may_f l0 (by omega)).bind ?_
    simp only [hf, Bool.false_eq_true, if_false, badP, if_true]
    exact Ev.now _
end Go.Proofs.Ytkdncanoajbdgaa.Pure
