/- CrcParts, the plain law. -/
import Derived.Test.YtmedgpchmkmifaaHCrcL
import Derived.Test.YtmedgpchmkmifaaPx4
import Derived.Test.YtmedgpchmkmifaaPx6
set_option linter.unusedVariables false
set_option linter.unusedSimpArgs false
namespace Go.Proofs.Ytmedgpchmkmifaa.Pure
open Go.RowKit Go.Proofs.Ytmedgpchmkmifaa.P Go.Proofs.Ytmedgpchmkmifaa.HP Go.Proofs.YtmedgpchmkmifaaW.PrintWords Go.Proofs.YtmedgpchmkmifaaW.PrintLast Go.Proofs.YtmedgpchmkmifaaW.PrintMore
theorem awake2 : Ev (fun _ => hopperlaw02_awake.f) true := ev_some rfl
theorem set_split (l : List Int) (k : Nat) (h : k < l.length) (v : Int) : l = l.take k ++ l[k] :: l.drop (k + 1) ∧ l.set k v = l.take k ++ v :: l.drop (k + 1) := by
  refine ⟨?_, ?_⟩
  · rw [← List.drop_eq_getElem_cons h, List.take_append_drop]
  · rw [List.set_eq_take_append_cons_drop, if_pos h]
theorem xor_turn (x t : Int) (hx : 0 ≤ x ∧ x < 256) (ht : 0 ≤ t ∧ t < 256) : 0 ≤ Go.bits .xor .u8 x t ∧ Go.bits .xor .u8 x t < 256 ∧ (Go.bits .xor .u8 x t = x ↔ t = 0) := by
  obtain ⟨a, rfl⟩ : ∃ a : Nat, x = a := ⟨x.toNat, by omega⟩
  obtain ⟨b, rfl⟩ : ∃ b : Nat, t = b := ⟨t.toNat, by omega⟩
  have h1 : a ^^^ b < 2 ^ 8 := Nat.xor_lt_two_pow (by omega) (by omega)
  rw [xor8 (by omega) (by omega)]
  refine ⟨by omega, by omega, fun h => ?_, fun h => ?_⟩
  · have e : a ^^^ b = a ^^^ 0 := by rw [Nat.xor_zero]; omega
    rw [Nat.xor_comm a b, Nat.xor_comm a 0] at e
    have := xor_inj e
    omega
  · have : b = 0 := by omega
    subst this
    rw [Nat.xor_zero]
theorem CrcParts (l0 : List Int) (a1 : Int) (a2 : Int) (_ : l0.length * 1 ≤ 140737488351232) (w0 : (∀ x ∈ l0, (Lit.int .u8 x).wf = true)) (w1 : (Lit.int .u16 a1).wf = true) (w2 : (Lit.int .u8 a2).wf = true) : ∃ k, hopperlaw02_CrcParts.f k l0 a1 a2 = some true := by
  have b1 : 0 ≤ a1 ∧ a1 < 65536 := by simp [Lit.wf, IntKind.min, IntKind.max, IntKind.signed, IntKind.bits] at w1; omega
  have b2 : 0 ≤ a2 ∧ a2 < 256 := by simp [Lit.wf, IntKind.min, IntKind.max, IntKind.signed, IntKind.bits] at w2; omega
  apply Ev.rounds
  unfold hopperlaw02_CrcParts.f
  refine awake2.bind ?_
  simp only [if_true]
  by_cases h5 : (l0.length : Int) > 2000
  · simp only [decide_eq_true h5]
    refine Ev.step (fun k => by rw [hopperlaw02_CrcParts.j0]) ?_
    simp only [if_true]
    exact awake2.bind (Ev.now _)
  simp only [decide_eq_false h5]
  refine Ev.step (fun k => by rw [hopperlaw02_CrcParts.j0]) ?_
  simp only [Bool.false_eq_true, if_false]
  have hb := isB_wf w0
  have hsb := sealL_b hb
  have hsl := sealL_len l0
  refine Ev.bind (g := fun _ => crc_Seal.f _) (ev_some (seal_f l0 (by omega) hb)) ?_
  refine (open_f (sealL l0) (by omega) hsb).bind ?_
  rw [open_seal]
  simp only [if_true]
  refine Ev.bind (g := fun _ => hopperref01_Same.f _ _) (ev_some (same_self _)) ?_
  have e0 : wrap64 a1 = a1 := by unfold wrap64; omega
  obtain ⟨m, hm, hml⟩ : ∃ m : Nat, Int.tmod a1 ((sealL l0).length : Int) = m ∧ m < (sealL l0).length := by
    refine ⟨(Int.tmod a1 ((sealL l0).length : Int)).toNat, ?_, ?_⟩
    · rw [Int.tmod_eq_emod_of_nonneg (by omega)]
      have := Int.emod_nonneg a1 (show ((sealL l0).length : Int) ≠ 0 by omega)
      omega
    · rw [Int.tmod_eq_emod_of_nonneg (by omega)]
      have := Int.emod_nonneg a1 (show ((sealL l0).length : Int) ≠ 0 by omega)
      have := Int.emod_lt_of_pos a1 (show 0 < ((sealL l0).length : Int) by omega)
      omega
  simp only [if_true, e0, hm, if_neg (show ¬ ((sealL l0).length : Int) = 0 by omega), if_pos (show 0 ≤ (m : Int) by omega), if_pos (show (m : Int) < ((sealL l0).length : Int) by omega), Int.toNat_natCast, rd_nat _ m hml]
  have hx := hsb (sealL l0)[m] (List.getElem_mem _)
  obtain ⟨x0, x1, x2⟩ := xor_turn (sealL l0)[m] a2 hx b2
  generalize Go.bits .xor .u8 (sealL l0)[m] a2 = v at *
  obtain ⟨s1, s2⟩ := set_split (sealL l0) m hml v
  have hvb : isB ((sealL l0).set m v) := by
    intro y hy
    rcases List.mem_or_eq_of_mem_set hy with h | h
    · exact hsb y h
    · omega
  refine (open_f _ (by simp; omega) hvb).bind ?_
  have key : (openL ((sealL l0).set m v)).2 = (a2 == 0) := by
    by_cases hz : a2 = 0
    · have hv := x2.2 hz
      rw [hv, List.set_getElem_self, open_seal]
      simp [hz]
    · have hv : ¬ v = (sealL l0)[m] := fun h => hz (x2.1 h)
      rw [show (a2 == 0) = false by simpa using hz]
      have hno : ¬ okL ((sealL l0).set m v) := by
        intro hok
        unfold okL at hok
        rw [List.length_set, hsl, Nat.add_sub_cancel] at hok
        by_cases hlt : m < l0.length
        · have h1 : ((sealL l0).set m v).take l0.length = l0.set m v := by
            rw [List.take_set]; unfold sealL; rw [List.take_left]
          have h2 : ((sealL l0).set m v).drop l0.length = le4 (crcN l0) := by
            rw [List.drop_set_of_lt hlt]; unfold sealL; rw [List.drop_left]
          rw [h1, h2] at hok
          have hb2 : isB (l0.set m v) := by
            intro y hy
            rcases List.mem_or_eq_of_mem_set hy with h | h
            · exact hb y h
            · omega
          have hc := le4_inj (crcN_lt hb) (crcN_lt hb2) hok
          obtain ⟨p1, p2⟩ := set_split l0 m hlt v
          rw [p2] at hc hb2
          have hc2 : crcN (l0.take m ++ l0[m] :: l0.drop (m + 1)) = crcN (l0.take m ++ v :: l0.drop (m + 1)) := by rw [← p1]; exact hc
          have := crc_ne (by rw [← p1]; exact hb) hb2 hc2
          apply hv
          rw [← this]
          simp [sealL, List.getElem_append_left hlt]
        · have h1 : ((sealL l0).set m v).take l0.length = l0 := by
            rw [List.take_set_of_le (by omega)]; unfold sealL; rw [List.take_left]
          rw [h1] at hok
          have h3 : ((sealL l0).set m v)[m]? = (sealL l0)[m]? := by
            have e1 : ((sealL l0).set m v).drop l0.length = (sealL l0).drop l0.length := by
              rw [hok]; unfold sealL; rw [List.drop_left]
            have e2 := congrArg (fun z => z[m - l0.length]?) e1
            simp only [List.getElem?_drop] at e2
            rwa [show l0.length + (m - l0.length) = m by omega] at e2
          rw [List.getElem?_set_self hml, List.getElem?_eq_getElem hml] at h3
          exact hv (Option.some.inj h3)
      unfold openL
      rw [if_neg (fun h => hno h.2)]
  simp only [key, beq_self_eq_true]
  exact Ev.now _
end Go.Proofs.Ytmedgpchmkmifaa.Pure
