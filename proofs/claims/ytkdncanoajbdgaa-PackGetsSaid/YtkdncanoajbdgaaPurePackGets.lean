/- PackGets, the plain law. -/
import Derived.Test.YtkdncanoajbdgaaHPackL
import Derived.Test.YtkdncanoajbdgaaPx8
set_option linter.unusedVariables false
set_option linter.unusedSimpArgs false
namespace Go.Proofs.Ytkdncanoajbdgaa.Pure
open Go.RowKit Go.Proofs.Ytkdncanoajbdgaa.P Go.Proofs.Ytkdncanoajbdgaa.HP Go.Proofs.YtkdncanoajbdgaaW.PrintWords Go.Proofs.YtkdncanoajbdgaaW.PrintLast Go.Proofs.YtkdncanoajbdgaaW.PrintMore
theorem PackGets (l0 : List Int) (a1 : Int) (a2 : Int) (_ : l0.length * 1 ≤ 140737488351232) (w0 : (∀ x ∈ l0, (Lit.int .u8 x).wf = true)) (w1 : (Lit.int .u8 a1).wf = true) (w2 : (Lit.int .u16 a2).wf = true) : ∃ k, hopperlaw03_PackGets.f k l0 a1 a2 = some true := by
  apply Ev.rounds
  have hb := isB_wf w0
  have ha1 : 0 ≤ a1 ∧ a1 < 256 := by
    simp [Lit.wf, IntKind.min, IntKind.max, IntKind.signed, IntKind.bits] at w1
    omega
  have ha2 : 0 ≤ a2 ∧ a2 < 65536 := by
    simp [Lit.wf, IntKind.min, IntKind.max, IntKind.signed, IntKind.bits] at w2
    omega
  obtain ⟨w, hw, ew⟩ : ∃ w : Nat, w ≤ 32 ∧ wrap64 (Int.tmod a1 33) = (w : Int) := by
    refine ⟨(a1 % 33).toNat, by omega, ?_⟩
    rw [Int.tmod_eq_emod_of_nonneg (by omega)]
    unfold wrap64
    omega
  obtain ⟨i, hi, ei⟩ : ∃ i : Nat, i ≤ 65535 ∧ wrap64 a2 = (i : Int) := ⟨a2.toNat, by omega, by unfold wrap64; omega⟩
  unfold hopperlaw03_PackGets.f
  refine awake3.bind ?_
  simp only [if_true, ew]
  by_cases h5 : (l0.length : Int) > 1000
  · simp only [decide_eq_true h5]
    refine Ev.step (fun k => by rw [hopperlaw03_PackGets.j0]) ?_
    simp only [if_true]
    exact awake3.bind (Ev.now _)
  simp only [decide_eq_false h5]
  refine Ev.step (fun k => by rw [hopperlaw03_PackGets.j0]) ?_
  simp only [Bool.false_eq_true, if_false, ei]
  refine (pget_f l0 hb (by omega) w hw i hi).bind ?_
  refine (rget_f l0 hb (by omega) w hw i hi).bind ?_
  simp only [beq_self_eq_true]
  exact Ev.now _
end Go.Proofs.Ytkdncanoajbdgaa.Pure
