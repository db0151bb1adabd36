import Derived.Test.YtcbjkejboegmlaaZJnW
/- JoinRights: the law, walked. -/
set_option linter.unusedVariables false
set_option linter.unusedSimpArgs false
namespace Go.Proofs.Ytcbjkejboegmlaa.HW
open Go.RowKit Go.Proofs.Ytcbjkejboegmlaa.P Go.Proofs.Ytcbjkejboegmlaa.HP Go.Proofs.YtcbjkejboegmlaaW.PrintWords Go.Proofs.YtcbjkejboegmlaaW.PrintLast Go.Proofs.YtcbjkejboegmlaaW.PrintMore
attribute [local go_sem] max2_int min2_int max_two min_two max_three min_three max_four min_four
set_option maxHeartbeats 8000000 in
set_option maxRecDepth 100000 in
theorem JoinRights_a (a0 : Int) (A1 : Option Addr) (c1 : Nat) (l1 : List Int) (A2 : Option Addr) (c2 : Nat) (l2 : List Int) (a3 a4 : Int) (w : World) (hr1 : Kd.C (Kd.int .i64) w A1 l1.length l1) (hc1 : l1.length ≤ c1) (hr2 : Kd.C (Kd.int .i64) w A2 l2.length l2) (hc2 : l2.length ≤ c2) (h : 30 < l1.length) :
    Calls Try.prog 4 #[.int .i64 a0, .slice A1 l1.length c1, .slice A2 l2.length c2, .int .i64 a3, .int .i64 a4] w fun e w' => e = .returned (.bool true) ∧ Below w.heap.size w w' := by
  obtain ⟨N1, hN1⟩ : ∃ N, N = l1.length := ⟨_, rfl⟩
  obtain ⟨N2, hN2⟩ : ∃ N, N = l2.length := ⟨_, rfl⟩
  rw [← hN1] at h ⊢
  rw [← hN2]
  have t1 : decide (30 < (N1 : Int)) = true := decide_eq_true (by omega)
  have t1n : decide (30 < N1) = true := decide_eq_true (by omega)
  clear hr1 hc1 hr2 hc2 h hN1 hN2
  have HB := Aside0.mk (Below.refl w.heap.size w)
  go_enter Try.func4, Try.ntmps4
  go_wp2_with fail
  refine (law23_awake _).mono ?_
  rintro e w1 ⟨rfl, hb⟩
  have HB1 := Aside0.mk (below_step HB.out hb)
  clear HB hb
  go_wp2_with fail
  refine (law23_awake _).mono ?_
  rintro e w3 ⟨rfl, hb⟩
  have HB3 := Aside0.mk (below_step HB1.out hb)
  clear HB1 hb
  go_wp2_with fail
  go_ret
  exact ⟨rfl, HB3.out⟩
set_option maxHeartbeats 8000000 in
set_option maxRecDepth 100000 in
theorem JoinRights_b (a0 : Int) (A1 : Option Addr) (c1 : Nat) (l1 : List Int) (A2 : Option Addr) (c2 : Nat) (l2 : List Int) (a3 a4 : Int) (w : World) (hr1 : Kd.C (Kd.int .i64) w A1 l1.length l1) (hc1 : l1.length ≤ c1) (hr2 : Kd.C (Kd.int .i64) w A2 l2.length l2) (hc2 : l2.length ≤ c2) (h0 : ¬ 30 < l1.length) (h : 30 < l2.length) :
    Calls Try.prog 4 #[.int .i64 a0, .slice A1 l1.length c1, .slice A2 l2.length c2, .int .i64 a3, .int .i64 a4] w fun e w' => e = .returned (.bool true) ∧ Below w.heap.size w w' := by
  obtain ⟨N1, hN1⟩ : ∃ N, N = l1.length := ⟨_, rfl⟩
  obtain ⟨N2, hN2⟩ : ∃ N, N = l2.length := ⟨_, rfl⟩
  rw [← hN1] at h0 ⊢
  rw [← hN2] at h ⊢
  have t1 : decide (30 < (N1 : Int)) = false := decide_eq_false (by omega)
  have t1n : decide (30 < N1) = false := decide_eq_false (by omega)
  have t2 : decide (30 < (N2 : Int)) = true := decide_eq_true (by omega)
  have t2n : decide (30 < N2) = true := decide_eq_true (by omega)
  clear hr1 hc1 hr2 hc2 h h0 hN1 hN2
  have HB := Aside0.mk (Below.refl w.heap.size w)
  go_enter Try.func4, Try.ntmps4
  go_wp2_with fail
  refine (law23_awake _).mono ?_
  rintro e w1 ⟨rfl, hb⟩
  have HB1 := Aside0.mk (below_step HB.out hb)
  clear HB hb
  go_wp2_with fail
  refine (law23_awake _).mono ?_
  rintro e w3 ⟨rfl, hb⟩
  have HB3 := Aside0.mk (below_step HB1.out hb)
  clear HB1 hb
  go_wp2_with fail
  go_ret
  exact ⟨rfl, HB3.out⟩
set_option maxHeartbeats 8000000 in
set_option maxRecDepth 100000 in
theorem JoinRights_c (a0 : Int) (A1 : Option Addr) (c1 : Nat) (l1 : List Int) (A2 : Option Addr) (c2 : Nat) (l2 : List Int) (a3 a4 : Int) (w : World) (hr1 : Kd.C (Kd.int .i64) w A1 l1.length l1) (hc1 : l1.length ≤ c1) (hr2 : Kd.C (Kd.int .i64) w A2 l2.length l2) (hc2 : l2.length ≤ c2) (h0 : ¬ 30 < l1.length) (h : ¬ 30 < l2.length) :
    Calls Try.prog 4 #[.int .i64 a0, .slice A1 l1.length c1, .slice A2 l2.length c2, .int .i64 a3, .int .i64 a4] w fun e w' => e = .returned (.bool true) ∧ Below w.heap.size w w' := by
  obtain ⟨kr, hkr⟩ := (rright_f a0 l1 l2 a3 a4).rounds
  have HRI := Aside0.mk (fun (V : World) (hb : Below w.heap.size w V) => Right_all a0 A1 c1 l1 A2 c2 l2 a3 a4 V (Kd.C_below hr1 hb) (Kd.C_below hr2 hb))
  have HRR := Aside0.mk (fun (V : World) (hb : Below w.heap.size w V) => hopperref23_Right.calls kr a0 A1 c1 l1 A2 c2 l2 a3 a4 (rightB a0 l1 l2 a3 a4) V (Kd.C_below hr1 hb) hc1 (Kd.C_below hr2 hb) hc2 hkr)
  obtain ⟨b, hb⟩ : ∃ b, b = rightB a0 l1 l2 a3 a4 := ⟨_, rfl⟩
  rw [← hb] at HRI HRR
  obtain ⟨N1, hN1⟩ : ∃ N, N = l1.length := ⟨_, rfl⟩
  obtain ⟨N2, hN2⟩ : ∃ N, N = l2.length := ⟨_, rfl⟩
  rw [← hN1] at h0 HRI HRR ⊢
  rw [← hN2] at h HRI HRR ⊢
  have t1 : decide (30 < (N1 : Int)) = false := decide_eq_false (by omega)
  have t1n : decide (30 < N1) = false := decide_eq_false (by omega)
  have t2 : decide (30 < (N2 : Int)) = false := decide_eq_false (by omega)
  have t2n : decide (30 < N2) = false := decide_eq_false (by omega)
  clear hr1 hc1 hr2 hc2 h h0 hN1 hN2 hb hkr
  have HB := Aside0.mk (Below.refl w.heap.size w)
  go_enter Try.func4, Try.ntmps4
  go_wp2_with fail
  refine (law23_awake _).mono ?_
  rintro e w1 ⟨rfl, hb⟩
  have HB1 := Aside0.mk (below_step HB.out hb)
  clear HB hb
  go_wp2_with fail
  refine (HRI.out _ HB1.out).mono ?_
  rintro e w2 ⟨rfl, hb⟩
  have HB2 := Aside0.mk (below_step HB1.out hb)
  clear HB1 hb
  go_wp2_with fail
  refine (HRR.out _ HB2.out).mono ?_
  rintro e w3 ⟨rfl, n3, rfl⟩
  have HB3 := Aside0.mk (pw_below_drewN HB2.out n3)
  clear HB2
  go_wp2_with fail
  go_ret
  exact ⟨by simp, HB3.out⟩
theorem JoinRights (a0 : Int) (A1 : Option Addr) (c1 : Nat) (l1 : List Int) (A2 : Option Addr) (c2 : Nat) (l2 : List Int) (a3 a4 : Int) (w : World) (hr1 : Kd.C (Kd.int .i64) w A1 l1.length l1) (hc1 : l1.length ≤ c1) (hr2 : Kd.C (Kd.int .i64) w A2 l2.length l2) (hc2 : l2.length ≤ c2) (w0 : (Lit.int .i64 a0).wf = true) (hs1 : l1.length * 8 ≤ 140737488351232) (hw1 : ∀ x ∈ l1, (Lit.int .i64 x).wf = true) (hs2 : l2.length * 8 ≤ 140737488351232) (hw2 : ∀ x ∈ l2, (Lit.int .i64 x).wf = true) (w3 : (Lit.int .i64 a3).wf = true) (w4 : (Lit.int .i64 a4).wf = true) :
    Calls Try.prog 4 #[.int .i64 a0, .slice A1 l1.length c1, .slice A2 l2.length c2, .int .i64 a3, .int .i64 a4] w fun e w' => e = .returned (.bool true) ∧ Below w.heap.size w w' := by
  by_cases h0 : 30 < l1.length
  · exact JoinRights_a a0 A1 c1 l1 A2 c2 l2 a3 a4 w hr1 hc1 hr2 hc2 h0
  · by_cases h : 30 < l2.length
    · exact JoinRights_b a0 A1 c1 l1 A2 c2 l2 a3 a4 w hr1 hc1 hr2 hc2 h0 h
    · exact JoinRights_c a0 A1 c1 l1 A2 c2 l2 a3 a4 w hr1 hc1 hr2 hc2 h0 h
end Go.Proofs.Ytcbjkejboegmlaa.HW
