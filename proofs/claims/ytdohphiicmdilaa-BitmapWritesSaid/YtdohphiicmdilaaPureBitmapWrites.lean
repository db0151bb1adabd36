/- BitmapWrites, the plain law: both ways of packing tell the same bytes. -/
import Derived.Test.YtdohphiicmdilaaHPut
import Derived.Test.YtdohphiicmdilaaHPower
import Derived.Test.YtdohphiicmdilaaHBitmap
import Derived.Test.YtdohphiicmdilaaHPack8
import Derived.Test.YtdohphiicmdilaaPx13
set_option linter.unusedVariables false
set_option linter.unusedSimpArgs false
namespace Go.Proofs.Ytdohphiicmdilaa.Pure
open Go.RowKit Go.Proofs.Ytdohphiicmdilaa.P Go.Proofs.Ytdohphiicmdilaa.HP Go.Proofs.YtdohphiicmdilaaW.PrintWords Go.Proofs.YtdohphiicmdilaaW.PrintLast Go.Proofs.YtdohphiicmdilaaW.PrintMore
theorem same1 (l : List Int) : hopperref01_Same.f l l = some true := by unfold hopperref01_Same.f; simp
theorem BitmapWrites (l0 : List Bool) (_ : l0.length ≤ 140737488351232) : ∃ k, hopperlaw04_BitmapWrites.f k l0 = some true := by
  apply Ev.rounds
  unfold hopperlaw04_BitmapWrites.f
  refine awake4.bind ?_
  simp only [if_true]
  by_cases h5 : (l0.length : Int) > 1000
  · simp only [decide_eq_true h5]
    refine Ev.step (fun k => by rw [hopperlaw04_BitmapWrites.j0]) ?_
    simp only [if_true]
    exact awake4.bind (Ev.now _)
  simp only [decide_eq_false h5]
  refine Ev.step (fun k => by rw [hopperlaw04_BitmapWrites.j0]) ?_
  simp only [Bool.false_eq_true, if_false]
  have hl : l0.length ≤ 1000 := by omega
  have hv := vint_len l0.length (by omega)
  have hp := pack_len l0
  refine (bput_f l0 (by omega)).bind ?_
  refine (rput4_f l0 (by omega)).bind ?_
  refine Ev.bind (g := fun _ => hopperref01_Same.f _ _) (ev_some (same1 _)) ?_
  simp only [if_true]
  have hw : Ev (fun k => bitmap_Write.f k l0) (vint l0.length ++ pack l0) := by
    unfold bitmap_Write.f
    refine (cput_f l0.length (by omega)).bind ?_
    refine (bput_f l0 (by omega)).bind ?_
    simp only [if_pos (show (vint l0.length).length + (pack l0).length < 140737488355328 by omega)]
    exact Ev.now _
  have hr : Ev (fun k => hopperref04_Write.f k l0) (vint l0.length ++ pack l0) := by
    unfold hopperref04_Write.f
    refine (rput l0.length (by omega)).bind ?_
    refine (rput4_f l0 (by omega)).bind ?_
    simp only [if_pos (show (vint l0.length).length + (pack l0).length < 140737488355328 by omega)]
    exact Ev.now _
  refine hw.bind ?_
  refine hr.bind ?_
  exact Ev.bind (g := fun _ => hopperref01_Same.f _ _) (ev_some (same1 _)) (Ev.now _)
end Go.Proofs.Ytdohphiicmdilaa.Pure
