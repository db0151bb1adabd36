/- CrcSeals, the plain law. -/
import Derived.Test.YtmedgpchmkmifaaHCrcL
import Derived.Test.YtmedgpchmkmifaaPx4
import Derived.Test.YtmedgpchmkmifaaPx5
set_option linter.unusedVariables false
set_option linter.unusedSimpArgs false
namespace Go.Proofs.Ytmedgpchmkmifaa.Pure
open Go.RowKit Go.Proofs.Ytmedgpchmkmifaa.P Go.Proofs.Ytmedgpchmkmifaa.HP Go.Proofs.YtmedgpchmkmifaaW.PrintWords Go.Proofs.YtmedgpchmkmifaaW.PrintLast Go.Proofs.YtmedgpchmkmifaaW.PrintMore
theorem awake2 : Ev (fun _ => hopperlaw02_awake.f) true := ev_some rfl
theorem CrcSeals (l0 : List Int) (_ : l0.length * 1 ≤ 140737488351232) (w0 : (∀ x ∈ l0, (Lit.int .u8 x).wf = true)) : ∃ k, hopperlaw02_CrcSeals.f k l0 = some true := by
  apply Ev.rounds
  unfold hopperlaw02_CrcSeals.f
  refine awake2.bind ?_
  simp only [if_true]
  by_cases h5 : (l0.length : Int) > 2000
  · simp only [decide_eq_true h5]
    refine Ev.step (fun k => by rw [hopperlaw02_CrcSeals.j0]) ?_
    simp only [if_true]
    exact awake2.bind (Ev.now _)
  simp only [decide_eq_false h5]
  refine Ev.step (fun k => by rw [hopperlaw02_CrcSeals.j0]) ?_
  simp only [Bool.false_eq_true, if_false]
  have hb := isB_wf w0
  refine Ev.bind (g := fun _ => crc_Seal.f _) (ev_some (seal_f l0 (by omega) hb)) ?_
  refine (rseal_f l0 (by omega) hb).bind ?_
  refine Ev.bind (g := fun _ => hopperref01_Same.f _ _) (ev_some (same_self _)) ?_
  simp only [if_true]
  refine (open_f l0 (by omega) hb).bind ?_
  have e0 : wrap64 ((l0.length : Int) - 4) = (l0.length : Int) - 4 := by unfold wrap64; omega
  simp only [e0]
  by_cases h : l0.length < 4
  · simp only [if_pos (show (l0.length : Int) - 4 < 0 by omega)]
    rw [show openL l0 = ([], false) by unfold openL; rw [if_neg (by omega)]]
    simp only [Bool.false_eq_true, if_false, List.length_nil, Int.ofNat_zero, beq_self_eq_true]
    exact Ev.now _
  have e1 : ((l0.length : Int) - 4).toNat = l0.length - 4 := by omega
  simp only [if_neg (show ¬ (l0.length : Int) - 4 < 0 by omega), if_pos (show 0 ≤ (l0.length : Int) - 4 by omega), if_pos (show (l0.length : Int) - 4 ≤ (l0.length : Int) by omega), e1]
  have hbt := isB_take hb (l0.length - 4)
  refine (rseal_f _ (by simp; omega) hbt).bind ?_
  refine Ev.bind (g := fun _ => hopperref01_Same.f _ _) (ev_some (same_f (sealL_b hbt) hb)) ?_
  by_cases hk : okL l0
  · have hs : sealL (l0.take (l0.length - 4)) = l0 := by
      unfold sealL
      rw [← (show l0.drop (l0.length - 4) = _ from hk), List.take_append_drop]
    rw [show openL l0 = (l0.take (l0.length - 4), true) by unfold openL; rw [if_pos ⟨by omega, hk⟩]]
    simp only [decide_eq_true hs, beq_self_eq_true, if_true]
    refine Ev.bind (g := fun _ => hopperref01_Same.f _ _) (ev_some (same_self _)) ?_
    simp only [if_true]
    exact Ev.now _
  · have hs : ¬ sealL (l0.take (l0.length - 4)) = l0 := by
      intro e
      apply hk
      have h2 : (sealL (l0.take (l0.length - 4))).drop (l0.length - 4) = l0.drop (l0.length - 4) := by rw [e]
      unfold okL
      rw [← h2]
      unfold sealL
      rw [List.drop_left' (by simp)]
    rw [show openL l0 = ([], false) by unfold openL; rw [if_neg (fun h => hk h.2)]]
    simp only [decide_eq_false hs, beq_self_eq_true, if_true, Bool.false_eq_true, if_false, List.length_nil, Int.ofNat_zero]
    exact Ev.now _
end Go.Proofs.Ytmedgpchmkmifaa.Pure
