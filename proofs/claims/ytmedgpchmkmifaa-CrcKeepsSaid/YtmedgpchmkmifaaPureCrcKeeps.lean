/- CrcKeeps, the plain law. -/
import Derived.Test.YtmedgpchmkmifaaHCrcL
import Derived.Test.YtmedgpchmkmifaaPx4
import Derived.Test.YtmedgpchmkmifaaPx7
set_option linter.unusedVariables false
set_option linter.unusedSimpArgs false
namespace Go.Proofs.Ytmedgpchmkmifaa.Pure
open Go.RowKit Go.Proofs.Ytmedgpchmkmifaa.P Go.Proofs.Ytmedgpchmkmifaa.HP Go.Proofs.YtmedgpchmkmifaaW.PrintWords Go.Proofs.YtmedgpchmkmifaaW.PrintLast Go.Proofs.YtmedgpchmkmifaaW.PrintMore
theorem awake2 : Ev (fun _ => hopperlaw02_awake.f) true := ev_some rfl
theorem keeps_l (l s : List Int) (hs : s.length ≤ 100000) (hsb : isB s) (ho : openL s = (l, true)) : ∀ (d i : Nat) (x : List Int), i + d = x.length → x.length ≤ 100000 → Ev (fun k => hopperlaw02_CrcKeeps.l0 k l l s x true (i : Int)) true := by
  intro d
  induction d with
  | zero =>
    intro i x h hx
    refine Ev.step (fun k => by rw [hopperlaw02_CrcKeeps.l0]) ?_
    simp only [if_neg (show ¬ (i : Int) < (x.length : Int) by omega)]
    refine (open_f s hs hsb).bind ?_
    rw [ho]
    simp only [if_true]
    refine Ev.bind (g := fun _ => hopperref01_Same.f _ _) (ev_some (same_self _)) ?_
    simp only [if_true]
    exact Ev.bind (g := fun _ => hopperref01_Same.f _ _) (ev_some (same_self _)) (Ev.now _)
  | succ d ih =>
    intro i x h hx
    refine Ev.step (fun k => by rw [hopperlaw02_CrcKeeps.l0]) ?_
    simp only [if_pos (show (i : Int) < (x.length : Int) by omega), if_pos (show 0 ≤ (i : Int) by omega), wr1 i (by omega)]
    exact ih (i + 1) _ (by simp; omega) (by simpa using hx)
theorem CrcKeeps (l0 : List Int) (_ : l0.length * 1 ≤ 140737488351232) (w0 : (∀ x ∈ l0, (Lit.int .u8 x).wf = true)) : ∃ k, hopperlaw02_CrcKeeps.f k l0 = some true := by
  apply Ev.rounds
  unfold hopperlaw02_CrcKeeps.f
  refine awake2.bind ?_
  simp only [if_true]
  by_cases h5 : (l0.length : Int) > 1000
  · simp only [decide_eq_true h5]
    refine Ev.step (fun k => by rw [hopperlaw02_CrcKeeps.j0]) ?_
    simp only [if_true]
    exact awake2.bind (Ev.now _)
  simp only [decide_eq_false h5]
  refine Ev.step (fun k => by rw [hopperlaw02_CrcKeeps.j0]) ?_
  simp only [Bool.false_eq_true, if_false]
  have hb := isB_wf w0
  have hsb := sealL_b hb
  have hsl := sealL_len l0
  refine Ev.bind (g := fun _ => some _) (Ev.now _) ?_
  simp only [List.length_nil, if_pos (show 0 + l0.length < 140737488355328 by omega), List.nil_append]
  refine Ev.bind (g := fun _ => crc_Seal.f _) (ev_some (seal_f l0 (by omega) hb)) ?_
  refine (open_f (sealL l0) (by omega) hsb).bind ?_
  rw [open_seal]
  exact keeps_l l0 (sealL l0) (by omega) hsb (open_seal l0) l0.length 0 l0 (by omega) (by omega)
end Go.Proofs.Ytmedgpchmkmifaa.Pure
