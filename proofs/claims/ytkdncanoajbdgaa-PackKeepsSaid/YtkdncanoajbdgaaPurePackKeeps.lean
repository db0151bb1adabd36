/- PackKeeps, the plain law. -/
import Derived.Test.YtkdncanoajbdgaaHPackL
import Derived.Test.YtkdncanoajbdgaaPx10
set_option linter.unusedVariables false
set_option linter.unusedSimpArgs false
namespace Go.Proofs.Ytkdncanoajbdgaa.Pure
open Go.RowKit Go.Proofs.Ytkdncanoajbdgaa.P Go.Proofs.Ytkdncanoajbdgaa.HP Go.Proofs.YtkdncanoajbdgaaW.PrintWords Go.Proofs.YtkdncanoajbdgaaW.PrintLast Go.Proofs.YtkdncanoajbdgaaW.PrintMore
theorem ints_l (l : List Int) (hl : l.length ≤ 10000) : ∀ (d i : Nat), i + d = l.length → Ev (fun k => hopperref03_Ints.l0 k l l (i : Int)) true := by
  intro d
  induction d with
  | zero =>
    intro i h
    refine Ev.step (fun k => by rw [hopperref03_Ints.l0]) ?_
    simp only [if_neg (show ¬ (i : Int) < (l.length : Int) by omega)]
    exact Ev.now _
  | succ d ih =>
    intro i h
    refine Ev.step (fun k => by rw [hopperref03_Ints.l0]) ?_
    simp only [if_pos (show (i : Int) < (l.length : Int) by omega), if_pos (show 0 ≤ (i : Int) by omega), if_true, wr1 i (by omega)]
    exact ih (i + 1) (by omega)
theorem ints_self (l : List Int) (hl : l.length ≤ 10000) : Ev (fun k => hopperref03_Ints.f k l l) true := by
  unfold hopperref03_Ints.f
  simp only [if_true]
  exact ints_l l hl l.length 0 (by omega)
theorem keeps_l (l : List Int) (hl : l.length ≤ 10000) (hm : mayL l = true) : ∀ (d i : Nat) (x : List Int), i + d = x.length → x.length ≤ 200000 → Ev (fun k => hopperlaw03_PackKeeps.l0 k l l x (i : Int)) true := by
  intro d
  induction d with
  | zero =>
    intro i x h hx
    refine Ev.step (fun k => by rw [hopperlaw03_PackKeeps.l0]) ?_
    simp only [if_neg (show ¬ (i : Int) < (x.length : Int) by omega)]
    refine (pwrite_f l hl hm).bind ?_
    simp only [if_true]
    refine (ints_self l hl).bind ?_
    simp only [if_true]
    refine (rwrite_f l hl hm).bind ?_
    exact Ev.bind (g := fun _ => hopperref01_Same.f _ _) (ev_some (same_self _)) (Ev.now _)
  | succ d ih =>
    intro i x h hx
    refine Ev.step (fun k => by rw [hopperlaw03_PackKeeps.l0]) ?_
    simp only [if_pos (show (i : Int) < (x.length : Int) by omega), if_pos (show 0 ≤ (i : Int) by omega), wr1 i (by omega)]
    exact ih (i + 1) _ (by simp; omega) (by simpa using hx)
theorem PackKeeps (l0 : List Int) (_ : l0.length * 8 ≤ 140737488351232) (_ : (∀ x ∈ l0, (Lit.int .i64 x).wf = true)) : ∃ k, hopperlaw03_PackKeeps.f k l0 = some true := by
  apply Ev.rounds
  unfold hopperlaw03_PackKeeps.f
  have out : Ev (fun k => hopperlaw03_PackKeeps.j0 k l0 true) true := by
    refine Ev.step (fun k => by rw [hopperlaw03_PackKeeps.j0]) ?_
    simp only [if_true]
    exact awake3.bind (Ev.now _)
  refine awake3.bind ?_
  simp only [if_true]
  by_cases h5 : (l0.length : Int) > 300
  · simp only [if_pos h5]
    exact out
  simp only [if_neg h5]
  refine (may_f l0 (by omega)).bind ?_
  by_cases hm : mayL l0 = true
  · simp only [hm, Bool.not_true]
    refine Ev.step (fun k => by rw [hopperlaw03_PackKeeps.j0]) ?_
    simp only [Bool.false_eq_true, if_false]
    refine Ev.bind (g := fun _ => some _) (Ev.now _) ?_
    simp only [List.length_nil, if_pos (show 0 + l0.length < 17592186044416 by omega), List.nil_append]
    refine (pwrite_f l0 (by omega) hm).bind ?_
    have hp := packB_len l0 (by omega) _ (wide_32 hm)
    have hv := vint_len l0.length (by omega)
    exact keeps_l l0 (by omega) hm _ 0 (writeL l0) (Nat.zero_add _) (by unfold writeL; simp; omega)
  · have hf : mayL l0 = false := by simpa using hm
    simp only [hf, Bool.not_false]
    exact out
end Go.Proofs.Ytkdncanoajbdgaa.Pure
