/- PackPuts, the plain law. -/
import Derived.Test.YtkdncanoajbdgaaHPackL
import Derived.Test.YtkdncanoajbdgaaPx8
set_option linter.unusedVariables false
set_option linter.unusedSimpArgs false
namespace Go.Proofs.Ytkdncanoajbdgaa.Pure
open Go.RowKit Go.Proofs.Ytkdncanoajbdgaa.P Go.Proofs.Ytkdncanoajbdgaa.HP Go.Proofs.YtkdncanoajbdgaaW.PrintWords Go.Proofs.YtkdncanoajbdgaaW.PrintLast Go.Proofs.YtkdncanoajbdgaaW.PrintMore
theorem both_put (l : List Int) (hl : l.length ≤ 10000) (a : Int) : ∃ r, Ev (fun k => pack_Put.f k l a) r ∧ Ev (fun k => hopperref03_Put.f k l a) r := by
  by_cases h : a < 0 ∨ a > 32
  · exact ⟨badP, pput_bad a l h, rput3_bad a l h⟩
  · have e : a = ((a.toNat : Nat) : Int) := by omega
    rw [e]
    exact ⟨_, pput_f _ (by omega) l hl, rput3_f _ (by omega) l hl⟩
theorem PackPuts (l0 : List Int) (a1 : Int) (_ : l0.length * 8 ≤ 140737488351232) (_ : (∀ x ∈ l0, (Lit.int .i64 x).wf = true)) (_ : (Lit.int .i64 a1).wf = true) : ∃ k, hopperlaw03_PackPuts.f k l0 a1 = some true := by
  apply Ev.rounds
  unfold hopperlaw03_PackPuts.f
  refine awake3.bind ?_
  simp only [if_true]
  by_cases h5 : (l0.length : Int) > 300
  · simp only [decide_eq_true h5]
    refine Ev.step (fun k => by rw [hopperlaw03_PackPuts.j0]) ?_
    simp only [if_true]
    exact awake3.bind (Ev.now _)
  simp only [decide_eq_false h5]
  refine Ev.step (fun k => by rw [hopperlaw03_PackPuts.j0]) ?_
  simp only [Bool.false_eq_true, if_false]
  obtain ⟨r, h1, h2⟩ := both_put l0 (by omega) a1
  refine h1.bind ?_
  refine h2.bind ?_
  simp only [if_true]
  refine Ev.bind (g := fun _ => hopperref01_Same.f _ _) (ev_some (same_self _)) ?_
  simp only [if_true]
  refine (may_f l0 (by omega)).bind ?_
  by_cases hm : mayL l0 = true
  · simp only [if_pos hm]
    refine Ev.bind (g := fun _ => pack_Width.f _) (ev_some (pwidth_f l0 (by omega) hm)) ?_
    refine (rwidth_f l0 (by omega) hm).bind ?_
    simp only [beq_self_eq_true]
    exact Ev.now _
  · simp only [if_neg hm]
    exact Ev.now _
end Go.Proofs.Ytkdncanoajbdgaa.Pure
