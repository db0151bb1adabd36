/- CrcSums, the plain law. -/
import Derived.Test.YtmedgpchmkmifaaHCrcL
import Derived.Test.YtmedgpchmkmifaaPx4
set_option linter.unusedVariables false
set_option linter.unusedSimpArgs false
namespace Go.Proofs.Ytmedgpchmkmifaa.Pure
open Go.RowKit Go.Proofs.Ytmedgpchmkmifaa.P Go.Proofs.Ytmedgpchmkmifaa.HP Go.Proofs.YtmedgpchmkmifaaW.PrintWords Go.Proofs.YtmedgpchmkmifaaW.PrintLast Go.Proofs.YtmedgpchmkmifaaW.PrintMore
theorem awake2 : Ev (fun _ => hopperlaw02_awake.f) true := ev_some rfl
theorem CrcSums (l0 : List Int) (l1 : List Int) (l2 : List Int) (_ : l0.length * 1 ≤ 140737488351232) (w0 : (∀ x ∈ l0, (Lit.int .u8 x).wf = true)) (_ : l1.length * 1 ≤ 140737488351232) (w1 : (∀ x ∈ l1, (Lit.int .u8 x).wf = true)) (_ : l2.length * 1 ≤ 140737488351232) (w2 : (∀ x ∈ l2, (Lit.int .u8 x).wf = true)) : ∃ k, hopperlaw02_CrcSums.f k l0 l1 l2 = some true := by
  have hend : Ev (fun k => hopperlaw02_CrcSums.j0 k l0 l1 l2 true) true := by
    refine Ev.step (fun k => by rw [hopperlaw02_CrcSums.j0]) ?_
    simp only [if_true]
    exact awake2.bind (Ev.now _)
  apply Ev.rounds
  unfold hopperlaw02_CrcSums.f
  refine awake2.bind ?_
  simp only [if_true]
  by_cases h5 : (l0.length : Int) > 1000
  · simp only [if_pos h5]; exact hend
  simp only [if_neg h5]
  by_cases h6 : (l1.length : Int) > 1000
  · simp only [if_pos h6]; exact hend
  simp only [if_neg h6]
  by_cases h7 : (l2.length : Int) > 1000
  · simp only [decide_eq_true h7]; exact hend
  simp only [decide_eq_false h7]
  refine Ev.step (fun k => by rw [hopperlaw02_CrcSums.j0]) ?_
  simp only [Bool.false_eq_true, if_false]
  refine Ev.bind (g := fun _ => some _) (Ev.now _) ?_
  simp only [List.length_nil, if_pos (show 0 + l0.length < 140737488355328 by omega), List.nil_append]
  refine Ev.bind (g := fun _ => some _) (Ev.now _) ?_
  simp only [if_pos (show l0.length + l1.length < 140737488355328 by omega)]
  refine Ev.bind (g := fun _ => some _) (Ev.now _) ?_
  simp only [List.length_append, if_pos (show l0.length + l1.length + l2.length < 140737488355328 by omega)]
  refine Ev.bind (g := fun _ => some _) (Ev.now _) ?_
  have hb : isB (l0 ++ l1 ++ l2) := isB_app (isB_app (isB_wf w0) (isB_wf w1)) (isB_wf w2)
  have hf : [l0, l1, l2].flatten = l0 ++ l1 ++ l2 := by simp
  refine Ev.bind (g := fun _ => crc_Of.f _) (ev_some (of_f [l0, l1, l2] (by rw [hf]; exact hb))) ?_
  rw [hf]
  refine (rof_f _ (by simp; omega) hb).bind ?_
  simp only [if_true]
  have hf1 : [l0 ++ l1 ++ l2].flatten = l0 ++ l1 ++ l2 := by simp
  refine Ev.bind (g := fun _ => crc_Of.f _) (ev_some (of_f [l0 ++ l1 ++ l2] (by rw [hf1]; exact hb))) ?_
  rw [hf1]
  refine (rof_f _ (by simp; omega) hb).bind ?_
  simp only [beq_self_eq_true]
  exact Ev.now _
end Go.Proofs.Ytmedgpchmkmifaa.Pure
