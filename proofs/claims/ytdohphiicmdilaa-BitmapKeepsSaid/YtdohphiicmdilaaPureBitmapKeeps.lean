/- BitmapKeeps, the plain law. -/
import Derived.Test.YtdohphiicmdilaaHBitmap
import Derived.Test.YtdohphiicmdilaaPx15
set_option linter.unusedVariables false
set_option linter.unusedSimpArgs false
namespace Go.Proofs.Ytdohphiicmdilaa.Pure
open Go.RowKit Go.Proofs.Ytdohphiicmdilaa.P Go.Proofs.Ytdohphiicmdilaa.HP Go.Proofs.YtdohphiicmdilaaW.PrintWords Go.Proofs.YtdohphiicmdilaaW.PrintLast Go.Proofs.YtdohphiicmdilaaW.PrintMore
theorem keeps_l (l : List Bool) (hl : l.length ≤ 300) : ∀ (d i : Nat) (x y : List Bool), i + d = l.length → x.length = l.length → y.length = l.length → Ev (fun k => hopperlaw04_BitmapKeeps.l0 k l l x y (i : Int)) true := by
  intro d
  induction d with
  | zero =>
    intro i x y h hx hy
    refine Ev.step (fun k => by rw [hopperlaw04_BitmapKeeps.l0]) ?_
    simp only [if_neg (show ¬ (i : Int) < (l.length : Int) by omega)]
    refine (same4 l (by omega)).bind ?_
    simp only [if_true]
    refine Ev.bind (g := fun _ => bitmap_And.f l l) (ev_some (by rw [and_f l l (by omega), if_pos rfl, and_self_l])) ?_
    exact (same4 l (by omega)).bind (Ev.now _)
  | succ d ih =>
    intro i x y h hx hy
    refine Ev.step (fun k => by rw [hopperlaw04_BitmapKeeps.l0]) ?_
    simp only [if_pos (show (i : Int) < (l.length : Int) by omega), if_pos (show 0 ≤ (i : Int) by omega), if_pos (show (i : Int) < (x.length : Int) by omega), if_pos (show (i : Int) < (y.length : Int) by omega), wr1 i (by omega)]
    exact ih (i + 1) _ _ (by omega) (by simpa using hx) (by simpa using hy)
theorem BitmapKeeps (l0 : List Bool) (_ : l0.length ≤ 140737488351232) : ∃ k, hopperlaw04_BitmapKeeps.f k l0 = some true := by
  apply Ev.rounds
  unfold hopperlaw04_BitmapKeeps.f
  refine awake4.bind ?_
  simp only [if_true]
  by_cases h5 : (l0.length : Int) > 300
  · simp only [decide_eq_true h5]
    refine Ev.step (fun k => by rw [hopperlaw04_BitmapKeeps.j0]) ?_
    simp only [if_true]
    exact awake4.bind (Ev.now _)
  simp only [decide_eq_false h5]
  refine Ev.step (fun k => by rw [hopperlaw04_BitmapKeeps.j0]) ?_
  simp only [Bool.false_eq_true, if_false]
  refine Ev.bind (g := fun _ => some _) (Ev.now _) ?_
  simp only [List.length_nil, if_pos (show 0 + l0.length < 140737488355328 by omega)]
  refine Ev.bind (g := fun _ => bitmap_And.f l0 l0) (ev_some (by rw [and_f l0 l0 (by omega), if_pos rfl, and_self_l])) ?_
  refine Ev.bind (g := fun _ => bitmap_Not.f l0) (ev_some (not_f l0 (by omega))) ?_
  rw [List.nil_append]
  exact keeps_l l0 (by omega) l0.length 0 _ _ (by omega) rfl (by simp)
end Go.Proofs.Ytdohphiicmdilaa.Pure
