/- HeapOf: the law, walked. -/
import Derived.Test.YtpbplflocdhahaaHeapO
set_option linter.unusedVariables false
set_option linter.unusedSimpArgs false
namespace Go.Proofs.Ytpbplflocdhahaa.HW
open Go.RowKit Go.Proofs.Ytpbplflocdhahaa.P Go.Proofs.Ytpbplflocdhahaa.HP Go.Proofs.YtpbplflocdhahaaW.PrintWords Go.Proofs.YtpbplflocdhahaaW.PrintLast Go.Proofs.YtpbplflocdhahaaW.PrintMore
attribute [local go_sem] max2_int min2_int max_two min_two max_three min_three max_four min_four
/-- The pieces of a list, one behind the other, are the list. -/
theorem chunks_flat {α : Type} (k : Nat) (hk : 1 ≤ k) (l : List α) : (chunks k l).flatten = l := by
  unfold chunks
  have h : ∀ n : Nat, ((List.range n).map fun j => (l.drop (j * k)).take k).flatten = l.take (n * k) := fun n => by
    induction n with
    | zero => simp
    | succ n ih =>
      rw [List.range_succ, List.map_append, List.flatten_append, ih, Nat.succ_mul, List.take_add]
      simp
  rw [h]
  refine List.take_of_length_le ?_
  have h1 := Nat.div_add_mod (l.length + k - 1) k
  have h2 := Nat.mod_lt (l.length + k - 1) (show k > 0 by omega)
  rw [Nat.mul_comm] at h1
  omega
theorem chunks_len {α : Type} (k : Nat) (hk : 1 ≤ k) (l : List α) : (chunks k l).length ≤ l.length := by
  unfold chunks
  rw [List.length_map, List.length_range]
  have h3 : l.length ≤ k * l.length := Nat.le_mul_of_pos_left _ hk
  have h4 : (l.length + k - 1) / k < l.length + 1 := Nat.div_lt_of_lt_mul (by rw [Nat.mul_add]; omega)
  omega
theorem chunks_mem {k : Nat} {l : List Int} (hb : isB l) (b : List Int) (h : b ∈ chunks k l) : isB b ∧ b.length ≤ k := by
  unfold chunks at h
  obtain ⟨j, _, rfl⟩ := List.mem_map.1 h
  exact ⟨fun x hx => hb x (List.mem_of_mem_drop (List.mem_of_mem_take hx)), by rw [List.length_take]; omega⟩
theorem wf_i64 {x : Int} (h : (Lit.int .i64 x).wf = true) : -9223372036854775808 ≤ x ∧ x ≤ 9223372036854775807 := by
  simp [Lit.wf, IntKind.min, IntKind.max, IntKind.signed, IntKind.bits] at h
  omega
theorem isB_wf {l : List Int} (h : ∀ x ∈ l, (Lit.int .u8 x).wf = true) : isB l := fun x hx => by
  have := h x hx
  simp [Lit.wf, IntKind.min, IntKind.max, IntKind.signed, IntKind.bits] at this
  omega
set_option maxHeartbeats 8000000 in
set_option maxRecDepth 100000 in
theorem HeapOf_a (A0 : Option Addr) (c0 : Nat) (l0 : List Int) (a1 : Int) (a2 : ByteArray) (w : World) (hc0 : l0.length ≤ c0) (hr0 : Kd.C (Kd.int .u8) w A0 l0.length l0) (hB : isB l0) (hwf : -9223372036854775808 ≤ a1 ∧ a1 ≤ 9223372036854775807) (h : 3000 < l0.length) :
    Calls Try.prog 6 #[.slice A0 l0.length c0, .int .i64 a1, .string a2] w fun e w' => e = .returned (.bool true) ∧ Below w.heap.size w w' := by
  obtain ⟨N, hN⟩ : ∃ N, N = l0.length := ⟨_, rfl⟩
  have HNE := Aside0.mk hN
  rw [← hN] at hr0 hc0 h ⊢
  clear hN
  have t1a : decide (3000 < (N : Int)) = true := decide_eq_true (by omega)
  have t1b : decide (3000 < N) = true := decide_eq_true (by omega)
  clear hr0 hc0 hB hwf h
  have HB := Aside0.mk (Below.refl w.heap.size w)
  go_enter Try.func6, Try.ntmps6
  go_wp2_with fail
  refine (law7_awake _).mono ?_
  rintro e w1 ⟨rfl, hb⟩
  have HB1 := Aside0.mk (below_step HB.out hb)
  clear HB hb
  go_wp2_with fail
  refine (law7_awake _).mono ?_
  rintro e w2 ⟨rfl, hb⟩
  have HB2 := Aside0.mk (below_step HB1.out hb)
  clear HB1 hb
  go_wp2_with fail
  go_ret
  exact ⟨rfl, HB2.out⟩
set_option maxHeartbeats 8000000 in
set_option maxRecDepth 100000 in
theorem HeapOf_b (A0 : Option Addr) (c0 : Nat) (l0 : List Int) (a1 : Int) (a2 : ByteArray) (w : World) (hc0 : l0.length ≤ c0) (hr0 : Kd.C (Kd.int .u8) w A0 l0.length l0) (hB : isB l0) (hwf : -9223372036854775808 ≤ a1 ∧ a1 ≤ 9223372036854775807) (h : ¬ 3000 < l0.length) (h1 : a1 < 0) :
    Calls Try.prog 6 #[.slice A0 l0.length c0, .int .i64 a1, .string a2] w fun e w' => e = .returned (.bool true) ∧ Below w.heap.size w w' := by
  obtain ⟨N, hN⟩ : ∃ N, N = l0.length := ⟨_, rfl⟩
  have HNE := Aside0.mk hN
  rw [← hN] at hr0 hc0 h ⊢
  clear hN
  have t1a : decide (3000 < (N : Int)) = false := decide_eq_false (by omega)
  have t1b : decide (3000 < N) = false := decide_eq_false (by omega)
  have t2 : decide (a1 < 0) = true := decide_eq_true (by omega)
  clear hr0 hc0 hB hwf h h1
  have HB := Aside0.mk (Below.refl w.heap.size w)
  go_enter Try.func6, Try.ntmps6
  go_wp2_with fail
  refine (law7_awake _).mono ?_
  rintro e w1 ⟨rfl, hb⟩
  have HB1 := Aside0.mk (below_step HB.out hb)
  clear HB hb
  go_wp2_with fail
  refine (law7_awake _).mono ?_
  rintro e w2 ⟨rfl, hb⟩
  have HB2 := Aside0.mk (below_step HB1.out hb)
  clear HB1 hb
  go_wp2_with fail
  go_ret
  exact ⟨rfl, HB2.out⟩
set_option maxHeartbeats 8000000 in
set_option maxRecDepth 100000 in
theorem HeapOf_c (A0 : Option Addr) (c0 : Nat) (l0 : List Int) (a1 : Int) (a2 : ByteArray) (w : World) (hc0 : l0.length ≤ c0) (hr0 : Kd.C (Kd.int .u8) w A0 l0.length l0) (hB : isB l0) (hwf : -9223372036854775808 ≤ a1 ∧ a1 ≤ 9223372036854775807) (h : ¬ 3000 < l0.length) (h1 : ¬ a1 < 0) (h2 : 4096 < a2.size) :
    Calls Try.prog 6 #[.slice A0 l0.length c0, .int .i64 a1, .string a2] w fun e w' => e = .returned (.bool true) ∧ Below w.heap.size w w' := by
  obtain ⟨N, hN⟩ : ∃ N, N = l0.length := ⟨_, rfl⟩
  have HNE := Aside0.mk hN
  rw [← hN] at hr0 hc0 h ⊢
  clear hN
  have t1a : decide (3000 < (N : Int)) = false := decide_eq_false (by omega)
  have t1b : decide (3000 < N) = false := decide_eq_false (by omega)
  have t2 : decide (a1 < 0) = false := decide_eq_false (by omega)
  have t3a : decide (4096 < (a2.size : Int)) = true := decide_eq_true (by omega)
  have t3b : decide (4096 < a2.size) = true := decide_eq_true (by omega)
  clear hr0 hc0 hB hwf h h1 h2
  have HB := Aside0.mk (Below.refl w.heap.size w)
  go_enter Try.func6, Try.ntmps6
  go_wp2_with fail
  refine (law7_awake _).mono ?_
  rintro e w1 ⟨rfl, hb⟩
  have HB1 := Aside0.mk (below_step HB.out hb)
  clear HB hb
  go_wp2_with fail
  refine (law7_awake _).mono ?_
  rintro e w2 ⟨rfl, hb⟩
  have HB2 := Aside0.mk (below_step HB1.out hb)
  clear HB1 hb
  go_wp2_with fail
  go_ret
  exact ⟨rfl, HB2.out⟩
set_option maxHeartbeats 8000000 in
set_option maxRecDepth 100000 in
theorem HeapOf_short (A0 : Option Addr) (c0 : Nat) (l0 : List Int) (a1 : Int) (a2 : ByteArray) (w : World) (hc0 : l0.length ≤ c0) (hr0 : Kd.C (Kd.int .u8) w A0 l0.length l0) (hB : isB l0) (hwf : -9223372036854775808 ≤ a1 ∧ a1 ≤ 9223372036854775807) (h : ¬ 3000 < l0.length) (h1 : ¬ a1 < 0) (h3 : ¬ 4096 < a2.size) (h4 : a2.size ≤ 12) :
    Calls Try.prog 6 #[.slice A0 l0.length c0, .int .i64 a1, .string a2] w fun e w' => e = .returned (.bool true) ∧ Below w.heap.size w w' := by
  have hkk : ∃ k : Nat, (k : Int) = if a1 < 1 ∨ 65536 < a1 then 65536 else a1 := by
    by_cases h : a1 < 1 ∨ 65536 < a1
    · exact ⟨65536, by rw [if_pos h]; rfl⟩
    · exact ⟨a1.toNat, by rw [if_neg h]; omega⟩
  obtain ⟨k, hk⟩ := hkk
  have hk1 : 1 ≤ k ∧ k ≤ 65536 := by
    by_cases h : a1 < 1 ∨ 65536 < a1
    · rw [if_pos h] at hk; omega
    · rw [if_neg h] at hk; omega
  have HOF := Aside0.mk (fun W hW => Of_ A0 c0 l0 a1 W hc0 (Kd.C_below hr0 hW) (by omega) k hk)
  have hfl := chunks_flat k hk1.1 l0
  have hcl := chunks_len k hk1.1 l0
  have hcm := fun b hb => chunks_mem (k := k) hB b hb
  obtain ⟨Bs, hBs⟩ : ∃ Bs, Bs = chunks k l0 := ⟨_, rfl⟩
  obtain ⟨S0, hS0⟩ : ∃ S0, S0 = strOfNums l0 := ⟨_, rfl⟩
  have HCV : Aside0 (∀ W : World, Below w.heap.size w W → (convert 36 9 (.slice A0 l0.length c0)).run Try.prog W = .ok (.string S0) W) := ⟨fun W hW => by rw [hS0]; exact Kd.C_string (P := Try.prog) (c := c0) Try.underlying36 Try.underlying5 Try.underlying9 (Kd.C_below hr0 hW)⟩
  have HS0 := Aside0.mk hS0
  obtain ⟨N, hN⟩ : ∃ N, N = l0.length := ⟨_, rfl⟩
  have HNE := Aside0.mk hN
  rw [← hBs] at HOF hfl hcl hcm
  have HSZ := Aside0.mk (fun (lo g : Nat) (W : World) (hW : HM lo W g Bs (N : Int) (N : Int)) => HM.size W hW)
  have HBY := Aside0.mk (fun (lo g : Nat) (W : World) (hW : HM lo W g Bs (N : Int) (N : Int)) => HM.bytes W hW (by omega) (fun b hb => (hcm b hb).1) (fun b hb => by have := (hcm b hb).2; omega) (by rw [hfl]; omega))
  rw [hfl] at HBY
  rw [← hN] at HOF HCV HBY h ⊢
  have HNL : Aside0 (N ≤ 3000) := ⟨by omega⟩
  clear hk hk1 hfl hcl hcm hBs hS0 hN hr0 hc0 hB hwf
  have t1a : decide (3000 < (N : Int)) = false := decide_eq_false (by omega)
  have t1b : decide (3000 < N) = false := decide_eq_false (by omega)
  have t2 : decide (a1 < 0) = false := decide_eq_false (by omega)
  have t3a : decide (4096 < (a2.size : Int)) = false := decide_eq_false (by omega)
  have t3b : decide (4096 < a2.size) = false := decide_eq_false (by omega)
  have t4a : decide ((a2.size : Int) ≤ 12) = true := decide_eq_true (by omega)
  have t4b : decide (a2.size ≤ 12) = true := decide_eq_true (by omega)
  have hz := zero16
  obtain ⟨Z, hZ⟩ : ∃ Z, Z = cel z16 := ⟨_, rfl⟩
  rw [← hZ] at hz
  have HZE := Aside0.mk hZ
  have HSZZ : Aside0 (Z.size = 16) := ⟨by rw [hZ]; rfl⟩
  obtain ⟨C, hC⟩ : ∃ C, C = cel (mkS a2) := ⟨_, rfl⟩
  have HCE := Aside0.mk hC
  have HSC : Aside0 (C.size = 16) := ⟨by rw [hC]; rw [cel_size]; exact mkS_len a2 h4⟩
  have H1C : Aside0 (C.all (·.oneCell') = true) := ⟨by rw [hC]; exact cel_one _⟩
  have H12 := Aside0.mk h4
  have H40 := Aside0.mk h3
  clear hZ hC h h1 h3 h4
  have HB := Aside0.mk (Below.refl w.heap.size w)
  go_enter Try.func6, Try.ntmps6
  go_wp2_with fail
  refine (law7_awake _).mono ?_
  rintro e w1 ⟨rfl, hb⟩
  have HB1 := Aside0.mk (below_step HB.out hb)
  clear HB hb
  go_wp2_with fail
  refine (HOF.out _ HB1.out).mono ?_
  rintro e w3 ⟨g, rfl, hh, hb⟩
  obtain ⟨lo, hlo⟩ : ∃ lo, lo = w1.heap.size := ⟨_, rfl⟩
  rw [← hlo] at hh
  have HHX := Aside0.mk (show ∀ W : World, Below w3.heap.size w3 W → HM lo W g Bs (N : Int) (N : Int) from fun W hW => hh.below hW)
  have HBW := Aside0.mk (show ∀ W : World, Below w3.heap.size w3 W → Below w.heap.size w W from fun W hW => Below.trans (below_step HB1.out hb) (hW.mono (below_size (below_step HB1.out hb))))
  have HB3w := Aside0.mk (Below.refl w3.heap.size w3)
  have HSZ := Aside0.mk (fun W hW => HSZ.out lo g W hW)
  have HBY := Aside0.mk (fun W hW => HBY.out lo g W hW)
  clear hh hb hlo HOF
  go_wp2_with fail
  refine start_ (n := 17) (S := fun w' => (convert 36 9 (.slice A0 N c0)).run Try.prog w' = .ok (.string S0) w') (ds := []) #[false, false, false, false, false, false, false, false, false, false, false, false, false, false, false, false, false] (by kernel_rfl) rfl rfl ((HCV.out _ (HBW.out _ (below_drew1 HB3w.out)))) (fun hHeld => ?_)
  refine pure_ (i := 0) (N := some 30) (v := ?_) (a' := ?_) #[true, false, false, false, false, false, false, false, false, false, false, false, false, false, false, false, false] rfl rfl (by kernel_rfl) (fun _ _ _ h => h) (Or.inl ⟨by rfl, ?_⟩) ?_ ?_
  rotate_left
  · intro w'
    go_simp
    with_reducible rfl
  rotate_left
  · simp only [Act.put, List.setIfInBounds_toArray, List.set_cons_zero, List.set_cons_succ, i64_w, i32_w]
    rfl
  refine pure_ (i := 1) (N := some 31) (v := ?_) (a' := ?_) #[true, true, false, false, false, false, false, false, false, false, false, false, false, false, false, false, false] rfl rfl (by kernel_rfl) (fun _ _ _ h => h) (Or.inl ⟨by rfl, ?_⟩) ?_ ?_
  rotate_left
  · intro w'
    go_simp
    with_reducible rfl
  rotate_left
  · simp only [Act.put, List.setIfInBounds_toArray, List.set_cons_zero, List.set_cons_succ, i64_w, i32_w]
    rfl
  refine pure_ (i := 2) (N := some 32) (v := ?_) (a' := ?_) #[true, true, true, false, false, false, false, false, false, false, false, false, false, false, false, false, false] rfl rfl (by kernel_rfl) (fun _ _ _ h => h) (Or.inl ⟨by rfl, ?_⟩) ?_ ?_
  rotate_left
  · intro w'
    go_simp
    with_reducible rfl
  rotate_left
  · simp only [Act.put, List.setIfInBounds_toArray, List.set_cons_zero, List.set_cons_succ, i64_w, i32_w]
    rfl
  refine pure_ (i := 3) (N := some 33) (v := ?_) (a' := ?_) #[true, true, true, true, false, false, false, false, false, false, false, false, false, false, false, false, false] rfl rfl (by kernel_rfl) (fun _ _ _ h => h) (Or.inl ⟨by rfl, ?_⟩) ?_ ?_
  rotate_left
  · intro w'
    go_simp
    with_reducible rfl
  rotate_left
  · simp only [Act.put, List.setIfInBounds_toArray, List.set_cons_zero, List.set_cons_succ, i64_w, i32_w]
    rfl
  refine pure_ (i := 5) (N := some 35) (v := ?_) (a' := ?_) #[true, true, true, true, false, true, false, false, false, false, false, false, false, false, false, false, false] rfl rfl (by kernel_rfl) (fun _ _ _ h => h) (Or.inl ⟨by rfl, ?_⟩) ?_ ?_
  rotate_left
  · intro w'
    go_simp
    with_reducible rfl
  rotate_left
  · simp only [Act.put, List.setIfInBounds_toArray, List.set_cons_zero, List.set_cons_succ, i64_w, i32_w]
    rfl
  refine pure_ (i := 6) (N := some 36) (v := ?_) (a' := ?_) #[true, true, true, true, false, true, true, false, false, false, false, false, false, false, false, false, false] rfl rfl (by kernel_rfl) (fun _ _ _ h => h) (Or.inl ⟨by rfl, ?_⟩) ?_ ?_
  rotate_left
  · intro w'
    go_simp
    with_reducible rfl
  rotate_left
  · simp only [Act.put, List.setIfInBounds_toArray, List.set_cons_zero, List.set_cons_succ, i64_w, i32_w]
    rfl
  refine one_ (i := 4) (N := some 34) #[true, true, true, true, true, true, true, false, false, false, false, false, false, false, false, false, false] rfl rfl (by kernel_rfl) (by decide) (fun K hK => ?_)
  refine goes_ Try.func14 (by kernel_rfl) rfl #[.pointer (some ⟨g, 0, none⟩)] (by rfl) rfl rfl (by simp only [List.map_toArray, List.map_cons, List.map_nil]; rfl) ?_
  with_reducible refine (HSZ.out _ (HHX.out _ (below_drew1 HB3w.out))).mono ?_
  rintro e w4 ⟨rfl, hb4⟩
  refine ⟨_, rfl, ?_⟩
  have HB4 := Aside0.mk (below_step (below_drew1 HB3w.out) hb4)
  clear hb4
  refine hK.out _ _ ((HCV.out _ (HBW.out _ HB4.out))) (fun hHeld => ?_)
  clear hK K
  refine norm_ (a' := ?_) ?_ ?_
  rotate_left
  · show Act.put _ (some 34) _ = _
    simp only [Act.put, List.setIfInBounds_toArray, List.set_cons_zero, List.set_cons_succ, i64_w, i32_w]
    rfl
  refine pure_ (i := 7) (N := some 37) (v := ?_) (a' := ?_) #[true, true, true, true, true, true, true, true, false, false, false, false, false, false, false, false, false] rfl rfl (by kernel_rfl) (fun _ _ _ h => h) (Or.inl ⟨by rfl, ?_⟩) ?_ ?_
  rotate_left
  · intro w'
    go_simp
    with_reducible rfl
  rotate_left
  · simp only [Act.put, List.setIfInBounds_toArray, List.set_cons_zero, List.set_cons_succ, i64_w, i32_w]
    rfl
  refine pure_ (i := 8) (N := some 38) (v := ?_) (a' := ?_) #[true, true, true, true, true, true, true, true, true, false, false, false, false, false, false, false, false] rfl rfl (by kernel_rfl) (fun _ _ _ h => h) (Or.inl ⟨by rfl, ?_⟩) ?_ ?_
  rotate_left
  · intro w'
    go_simp
    with_reducible rfl
  rotate_left
  · simp only [Act.put, List.setIfInBounds_toArray, List.set_cons_zero, List.set_cons_succ, i64_w, i32_w]
    rfl
  refine pure_ (i := 9) (N := some 39) (v := ?_) (a' := ?_) #[true, true, true, true, true, true, true, true, true, true, false, false, false, false, false, false, false] rfl rfl (by kernel_rfl) (fun _ _ _ h => h) (Or.inl ⟨by rfl, ?_⟩) ?_ ?_
  rotate_left
  · intro w'
    go_simp
    with_reducible rfl
  rotate_left
  · simp only [Act.put, List.setIfInBounds_toArray, List.set_cons_zero, List.set_cons_succ, i64_w, i32_w]
    rfl
  refine pure_ (i := 10) (N := some 40) (v := ?_) (a' := ?_) #[true, true, true, true, true, true, true, true, true, true, true, false, false, false, false, false, false] rfl rfl (by kernel_rfl) (fun _ _ _ h => h) (Or.inl ⟨by rfl, ?_⟩) ?_ ?_
  rotate_left
  · intro w'
    go_simp
    with_reducible rfl
  rotate_left
  · simp only [Act.put, List.setIfInBounds_toArray, List.set_cons_zero, List.set_cons_succ, i64_w, i32_w]
    rfl
  refine pure_ (i := 13) (N := some 43) (v := ?_) (a' := ?_) #[true, true, true, true, true, true, true, true, true, true, true, false, false, true, false, false, false] rfl rfl (by kernel_rfl) (fun _ _ _ h => h) (Or.inl ⟨by rfl, ?_⟩) ?_ ?_
  rotate_left
  · intro w'
    go_simp
    with_reducible rfl
  rotate_left
  · simp only [Act.put, List.setIfInBounds_toArray, List.set_cons_zero, List.set_cons_succ, i64_w, i32_w]
    rfl
  refine take_ (i := 14) (N := some 44) (v := ?_) (a' := ?_) #[true, true, true, true, true, true, true, true, true, true, true, false, false, true, true, false, false] rfl rfl (by kernel_rfl) (fun _ _ _ h => h) (Or.inl ⟨by rfl, ?_⟩) hHeld ?_ ?_
  rotate_left
  · intro w' s0
    go_simp
    with_reducible rfl
  rotate_left
  · simp only [Act.put, List.setIfInBounds_toArray, List.set_cons_zero, List.set_cons_succ, i64_w, i32_w]
    rfl
  refine one_ (i := 11) (N := some 41) #[true, true, true, true, true, true, true, true, true, true, true, true, false, true, true, false, false] rfl rfl (by kernel_rfl) (by decide) (fun K hK => ?_)
  refine goes_ Try.func15 (by kernel_rfl) rfl #[.pointer (some ⟨g, 0, none⟩)] (by rfl) rfl rfl (by simp only [List.map_toArray, List.map_cons, List.map_nil]; rfl) ?_
  with_reducible refine (HBY.out _ (HHX.out _ HB4.out)).mono ?_
  rintro e w5 ⟨A9, c9, rfl, hl9, hr9, hb5⟩
  refine ⟨_, rfl, ?_⟩
  have HB5 := Aside0.mk (below_step HB4.out hb5)
  have hcv9 : (convert 36 9 (.slice A9 N c9)).run Try.prog w5 = .ok (.string S0) w5 := by
    have h9 := Kd.C_string (P := Try.prog) (c := c9) Try.underlying36 Try.underlying5 Try.underlying9 hr9
    rw [HS0.out]
    exact h9
  clear hb5 hl9 hr9
  refine hK.out _ _ ((HCV.out _ (HBW.out _ HB5.out))) (fun hHeld => ?_)
  clear hK K
  refine norm_ (a' := ?_) ?_ ?_
  rotate_left
  · show Act.put _ (some 41) _ = _
    simp only [Act.put, List.setIfInBounds_toArray, List.set_cons_zero, List.set_cons_succ, i64_w, i32_w]
    rfl
  refine one_ (i := 12) (N := some 42) #[true, true, true, true, true, true, true, true, true, true, true, true, true, true, true, false, false] rfl rfl (by kernel_rfl) (by decide) (fun K hK => ?_)
  refine value_ (w1 := ?_) (v := ?_) (by rfl) rfl ?_ ?_
  rotate_left 2
  · go_simp
    constructor
    · rfl
    · rfl
  refine hK.out _ _ ((HCV.out _ (HBW.out _ HB5.out))) (fun hHeld => ?_)
  clear hK K
  refine norm_ (a' := ?_) ?_ ?_
  rotate_left
  · show Act.put _ (some 42) _ = _
    simp only [Act.put, List.setIfInBounds_toArray, List.set_cons_zero, List.set_cons_succ, i64_w, i32_w]
    rfl
  refine pure_ (i := 15) (N := some 45) (v := ?_) (a' := ?_) #[true, true, true, true, true, true, true, true, true, true, true, true, true, true, true, true, false] rfl rfl (by kernel_rfl) (fun _ _ _ h => h) (Or.inl ⟨by rfl, ?_⟩) ?_ ?_
  rotate_left
  · intro w'
    go_simp
    with_reducible rfl
  rotate_left
  · simp only [Act.put, List.setIfInBounds_toArray, List.set_cons_zero, List.set_cons_succ, i64_w, i32_w]
    rfl
  refine pure_ (i := 16) (N := some 46) (v := ?_) (a' := ?_) #[true, true, true, true, true, true, true, true, true, true, true, true, true, true, true, true, true] rfl rfl (by kernel_rfl) (fun _ _ _ h => h) (Or.inl ⟨by rfl, ?_⟩) ?_ ?_
  rotate_left
  · intro w'
    go_simp
    with_reducible rfl
  rotate_left
  · simp only [Act.put, List.setIfInBounds_toArray, List.set_cons_zero, List.set_cons_succ, i64_w, i32_w]
    rfl
  refine done_ (by kernel_rfl) ?_
  go_wp2_with fail
  refine (add_short g a2 _ H12.out).mono ?_
  rintro e w6 ⟨rfl, hb⟩
  have HB6 := Aside0.mk (below_step HB5.out hb)
  have HM6 := Aside0.mk (blk_new w6 (.cells Z 28))
  have HB7 := Aside0.mk (below_row (below_alloc HB6.out (.cells Z 28)) (below_size HB6.out) C)
  rw [← HCE.out]
  clear hb
  go_wp2_with (first | ((with_reducible refine gate_store (t := 28) (p := 8) rfl ?_); refine wpList_store_row rfl 28 _ _ rfl w6.heap.size C (by rfl) (by rfl) 28 Z HM6.out (by rw [info16, HSC.out]) (HSZZ.out.trans HSC.out.symm) H1C.out ?_))
  refine (HSZ.out _ (HHX.out _ HB7.out)).mono ?_
  rintro e w8 ⟨rfl, hb⟩
  have HB8 := Aside0.mk (below_step HB7.out hb)
  clear hb
  go_wp2_with fail
  go_ret
  exact ⟨rfl, HBW.out _ HB8.out⟩
set_option maxHeartbeats 8000000 in
set_option maxRecDepth 100000 in
theorem HeapOf_long (A0 : Option Addr) (c0 : Nat) (l0 : List Int) (a1 : Int) (a2 : ByteArray) (w : World) (hc0 : l0.length ≤ c0) (hr0 : Kd.C (Kd.int .u8) w A0 l0.length l0) (hB : isB l0) (hwf : -9223372036854775808 ≤ a1 ∧ a1 ≤ 9223372036854775807) (h : ¬ 3000 < l0.length) (h1 : ¬ a1 < 0) (h3 : ¬ 4096 < a2.size) (h4 : ¬ a2.size ≤ 12) :
    Calls Try.prog 6 #[.slice A0 l0.length c0, .int .i64 a1, .string a2] w fun e w' => e = .returned (.bool true) ∧ Below w.heap.size w w' := by
  have hkk : ∃ k : Nat, (k : Int) = if a1 < 1 ∨ 65536 < a1 then 65536 else a1 := by
    by_cases h : a1 < 1 ∨ 65536 < a1
    · exact ⟨65536, by rw [if_pos h]; rfl⟩
    · exact ⟨a1.toNat, by rw [if_neg h]; omega⟩
  obtain ⟨k, hk⟩ := hkk
  have hk1 : 1 ≤ k ∧ k ≤ 65536 := by
    by_cases h : a1 < 1 ∨ 65536 < a1
    · rw [if_pos h] at hk; omega
    · rw [if_neg h] at hk; omega
  have HOF := Aside0.mk (fun W hW => Of_ A0 c0 l0 a1 W hc0 (Kd.C_below hr0 hW) (by omega) k hk)
  have hfl := chunks_flat k hk1.1 l0
  have hcl := chunks_len k hk1.1 l0
  have hcm := fun b hb => chunks_mem (k := k) hB b hb
  obtain ⟨Bs, hBs⟩ : ∃ Bs, Bs = chunks k l0 := ⟨_, rfl⟩
  obtain ⟨S0, hS0⟩ : ∃ S0, S0 = strOfNums l0 := ⟨_, rfl⟩
  have HCV : Aside0 (∀ W : World, Below w.heap.size w W → (convert 36 9 (.slice A0 l0.length c0)).run Try.prog W = .ok (.string S0) W) := ⟨fun W hW => by rw [hS0]; exact Kd.C_string (P := Try.prog) (c := c0) Try.underlying36 Try.underlying5 Try.underlying9 (Kd.C_below hr0 hW)⟩
  have HS0 := Aside0.mk hS0
  obtain ⟨N, hN⟩ : ∃ N, N = l0.length := ⟨_, rfl⟩
  have HNE := Aside0.mk hN
  rw [← hBs] at HOF hfl hcl hcm
  have HSZ := Aside0.mk (fun (lo g : Nat) (W : World) (hW : HM lo W g Bs (N : Int) (N : Int)) => HM.size W hW)
  have HBY := Aside0.mk (fun (lo g : Nat) (W : World) (hW : HM lo W g Bs (N : Int) (N : Int)) => HM.bytes W hW (by omega) (fun b hb => (hcm b hb).1) (fun b hb => by have := (hcm b hb).2; omega) (by rw [hfl]; omega))
  rw [hfl] at HBY
  rw [← hN] at HOF HCV HBY h ⊢
  have HNL : Aside0 (N ≤ 3000) := ⟨by omega⟩
  clear hk hk1 hfl hcl hcm hBs hS0 hN hr0 hc0 hB hwf
  have t1a : decide (3000 < (N : Int)) = false := decide_eq_false (by omega)
  have t1b : decide (3000 < N) = false := decide_eq_false (by omega)
  have t2 : decide (a1 < 0) = false := decide_eq_false (by omega)
  have t3a : decide (4096 < (a2.size : Int)) = false := decide_eq_false (by omega)
  have t3b : decide (4096 < a2.size) = false := decide_eq_false (by omega)
  have t4a : decide ((a2.size : Int) ≤ 12) = false := decide_eq_false (by omega)
  have t4b : decide (a2.size ≤ 12) = false := decide_eq_false (by omega)
  have hz := zero16
  obtain ⟨Z, hZ⟩ : ∃ Z, Z = cel z16 := ⟨_, rfl⟩
  rw [← hZ] at hz
  have HZE := Aside0.mk hZ
  have HSZZ : Aside0 (Z.size = 16) := ⟨by rw [hZ]; rfl⟩
  obtain ⟨C, hC⟩ : ∃ C, C = cel (z16) := ⟨_, rfl⟩
  have HCE := Aside0.mk hC
  have HSC : Aside0 (C.size = 16) := ⟨by rw [hC]; rfl⟩
  have H1C : Aside0 (C.all (·.oneCell') = true) := ⟨by rw [hC]; exact cel_one _⟩
  have H12 := Aside0.mk h4
  have H40 := Aside0.mk h3
  clear hZ hC h h1 h3 h4
  have HB := Aside0.mk (Below.refl w.heap.size w)
  go_enter Try.func6, Try.ntmps6
  go_wp2_with fail
  refine (law7_awake _).mono ?_
  rintro e w1 ⟨rfl, hb⟩
  have HB1 := Aside0.mk (below_step HB.out hb)
  clear HB hb
  go_wp2_with fail
  refine (HOF.out _ HB1.out).mono ?_
  rintro e w3 ⟨g, rfl, hh, hb⟩
  obtain ⟨lo, hlo⟩ : ∃ lo, lo = w1.heap.size := ⟨_, rfl⟩
  rw [← hlo] at hh
  have HHX := Aside0.mk (show ∀ W : World, Below w3.heap.size w3 W → HM lo W g Bs (N : Int) (N : Int) from fun W hW => hh.below hW)
  have HBW := Aside0.mk (show ∀ W : World, Below w3.heap.size w3 W → Below w.heap.size w W from fun W hW => Below.trans (below_step HB1.out hb) (hW.mono (below_size (below_step HB1.out hb))))
  have HB3w := Aside0.mk (Below.refl w3.heap.size w3)
  have HSZ := Aside0.mk (fun W hW => HSZ.out lo g W hW)
  have HBY := Aside0.mk (fun W hW => HBY.out lo g W hW)
  clear hh hb hlo HOF
  go_wp2_with fail
  refine start_ (n := 17) (S := fun w' => (convert 36 9 (.slice A0 N c0)).run Try.prog w' = .ok (.string S0) w') (ds := []) #[false, false, false, false, false, false, false, false, false, false, false, false, false, false, false, false, false] (by kernel_rfl) rfl rfl ((HCV.out _ (HBW.out _ (below_drew1 HB3w.out)))) (fun hHeld => ?_)
  refine pure_ (i := 0) (N := some 30) (v := ?_) (a' := ?_) #[true, false, false, false, false, false, false, false, false, false, false, false, false, false, false, false, false] rfl rfl (by kernel_rfl) (fun _ _ _ h => h) (Or.inl ⟨by rfl, ?_⟩) ?_ ?_
  rotate_left
  · intro w'
    go_simp
    with_reducible rfl
  rotate_left
  · simp only [Act.put, List.setIfInBounds_toArray, List.set_cons_zero, List.set_cons_succ, i64_w, i32_w]
    rfl
  refine pure_ (i := 1) (N := some 31) (v := ?_) (a' := ?_) #[true, true, false, false, false, false, false, false, false, false, false, false, false, false, false, false, false] rfl rfl (by kernel_rfl) (fun _ _ _ h => h) (Or.inl ⟨by rfl, ?_⟩) ?_ ?_
  rotate_left
  · intro w'
    go_simp
    with_reducible rfl
  rotate_left
  · simp only [Act.put, List.setIfInBounds_toArray, List.set_cons_zero, List.set_cons_succ, i64_w, i32_w]
    rfl
  refine pure_ (i := 2) (N := some 32) (v := ?_) (a' := ?_) #[true, true, true, false, false, false, false, false, false, false, false, false, false, false, false, false, false] rfl rfl (by kernel_rfl) (fun _ _ _ h => h) (Or.inl ⟨by rfl, ?_⟩) ?_ ?_
  rotate_left
  · intro w'
    go_simp
    with_reducible rfl
  rotate_left
  · simp only [Act.put, List.setIfInBounds_toArray, List.set_cons_zero, List.set_cons_succ, i64_w, i32_w]
    rfl
  refine pure_ (i := 3) (N := some 33) (v := ?_) (a' := ?_) #[true, true, true, true, false, false, false, false, false, false, false, false, false, false, false, false, false] rfl rfl (by kernel_rfl) (fun _ _ _ h => h) (Or.inl ⟨by rfl, ?_⟩) ?_ ?_
  rotate_left
  · intro w'
    go_simp
    with_reducible rfl
  rotate_left
  · simp only [Act.put, List.setIfInBounds_toArray, List.set_cons_zero, List.set_cons_succ, i64_w, i32_w]
    rfl
  refine pure_ (i := 5) (N := some 35) (v := ?_) (a' := ?_) #[true, true, true, true, false, true, false, false, false, false, false, false, false, false, false, false, false] rfl rfl (by kernel_rfl) (fun _ _ _ h => h) (Or.inl ⟨by rfl, ?_⟩) ?_ ?_
  rotate_left
  · intro w'
    go_simp
    with_reducible rfl
  rotate_left
  · simp only [Act.put, List.setIfInBounds_toArray, List.set_cons_zero, List.set_cons_succ, i64_w, i32_w]
    rfl
  refine pure_ (i := 6) (N := some 36) (v := ?_) (a' := ?_) #[true, true, true, true, false, true, true, false, false, false, false, false, false, false, false, false, false] rfl rfl (by kernel_rfl) (fun _ _ _ h => h) (Or.inl ⟨by rfl, ?_⟩) ?_ ?_
  rotate_left
  · intro w'
    go_simp
    with_reducible rfl
  rotate_left
  · simp only [Act.put, List.setIfInBounds_toArray, List.set_cons_zero, List.set_cons_succ, i64_w, i32_w]
    rfl
  refine one_ (i := 4) (N := some 34) #[true, true, true, true, true, true, true, false, false, false, false, false, false, false, false, false, false] rfl rfl (by kernel_rfl) (by decide) (fun K hK => ?_)
  refine goes_ Try.func14 (by kernel_rfl) rfl #[.pointer (some ⟨g, 0, none⟩)] (by rfl) rfl rfl (by simp only [List.map_toArray, List.map_cons, List.map_nil]; rfl) ?_
  with_reducible refine (HSZ.out _ (HHX.out _ (below_drew1 HB3w.out))).mono ?_
  rintro e w4 ⟨rfl, hb4⟩
  refine ⟨_, rfl, ?_⟩
  have HB4 := Aside0.mk (below_step (below_drew1 HB3w.out) hb4)
  clear hb4
  refine hK.out _ _ ((HCV.out _ (HBW.out _ HB4.out))) (fun hHeld => ?_)
  clear hK K
  refine norm_ (a' := ?_) ?_ ?_
  rotate_left
  · show Act.put _ (some 34) _ = _
    simp only [Act.put, List.setIfInBounds_toArray, List.set_cons_zero, List.set_cons_succ, i64_w, i32_w]
    rfl
  refine pure_ (i := 7) (N := some 37) (v := ?_) (a' := ?_) #[true, true, true, true, true, true, true, true, false, false, false, false, false, false, false, false, false] rfl rfl (by kernel_rfl) (fun _ _ _ h => h) (Or.inl ⟨by rfl, ?_⟩) ?_ ?_
  rotate_left
  · intro w'
    go_simp
    with_reducible rfl
  rotate_left
  · simp only [Act.put, List.setIfInBounds_toArray, List.set_cons_zero, List.set_cons_succ, i64_w, i32_w]
    rfl
  refine pure_ (i := 8) (N := some 38) (v := ?_) (a' := ?_) #[true, true, true, true, true, true, true, true, true, false, false, false, false, false, false, false, false] rfl rfl (by kernel_rfl) (fun _ _ _ h => h) (Or.inl ⟨by rfl, ?_⟩) ?_ ?_
  rotate_left
  · intro w'
    go_simp
    with_reducible rfl
  rotate_left
  · simp only [Act.put, List.setIfInBounds_toArray, List.set_cons_zero, List.set_cons_succ, i64_w, i32_w]
    rfl
  refine pure_ (i := 9) (N := some 39) (v := ?_) (a' := ?_) #[true, true, true, true, true, true, true, true, true, true, false, false, false, false, false, false, false] rfl rfl (by kernel_rfl) (fun _ _ _ h => h) (Or.inl ⟨by rfl, ?_⟩) ?_ ?_
  rotate_left
  · intro w'
    go_simp
    with_reducible rfl
  rotate_left
  · simp only [Act.put, List.setIfInBounds_toArray, List.set_cons_zero, List.set_cons_succ, i64_w, i32_w]
    rfl
  refine pure_ (i := 10) (N := some 40) (v := ?_) (a' := ?_) #[true, true, true, true, true, true, true, true, true, true, true, false, false, false, false, false, false] rfl rfl (by kernel_rfl) (fun _ _ _ h => h) (Or.inl ⟨by rfl, ?_⟩) ?_ ?_
  rotate_left
  · intro w'
    go_simp
    with_reducible rfl
  rotate_left
  · simp only [Act.put, List.setIfInBounds_toArray, List.set_cons_zero, List.set_cons_succ, i64_w, i32_w]
    rfl
  refine pure_ (i := 13) (N := some 43) (v := ?_) (a' := ?_) #[true, true, true, true, true, true, true, true, true, true, true, false, false, true, false, false, false] rfl rfl (by kernel_rfl) (fun _ _ _ h => h) (Or.inl ⟨by rfl, ?_⟩) ?_ ?_
  rotate_left
  · intro w'
    go_simp
    with_reducible rfl
  rotate_left
  · simp only [Act.put, List.setIfInBounds_toArray, List.set_cons_zero, List.set_cons_succ, i64_w, i32_w]
    rfl
  refine take_ (i := 14) (N := some 44) (v := ?_) (a' := ?_) #[true, true, true, true, true, true, true, true, true, true, true, false, false, true, true, false, false] rfl rfl (by kernel_rfl) (fun _ _ _ h => h) (Or.inl ⟨by rfl, ?_⟩) hHeld ?_ ?_
  rotate_left
  · intro w' s0
    go_simp
    with_reducible rfl
  rotate_left
  · simp only [Act.put, List.setIfInBounds_toArray, List.set_cons_zero, List.set_cons_succ, i64_w, i32_w]
    rfl
  refine one_ (i := 11) (N := some 41) #[true, true, true, true, true, true, true, true, true, true, true, true, false, true, true, false, false] rfl rfl (by kernel_rfl) (by decide) (fun K hK => ?_)
  refine goes_ Try.func15 (by kernel_rfl) rfl #[.pointer (some ⟨g, 0, none⟩)] (by rfl) rfl rfl (by simp only [List.map_toArray, List.map_cons, List.map_nil]; rfl) ?_
  with_reducible refine (HBY.out _ (HHX.out _ HB4.out)).mono ?_
  rintro e w5 ⟨A9, c9, rfl, hl9, hr9, hb5⟩
  refine ⟨_, rfl, ?_⟩
  have HB5 := Aside0.mk (below_step HB4.out hb5)
  have hcv9 : (convert 36 9 (.slice A9 N c9)).run Try.prog w5 = .ok (.string S0) w5 := by
    have h9 := Kd.C_string (P := Try.prog) (c := c9) Try.underlying36 Try.underlying5 Try.underlying9 hr9
    rw [HS0.out]
    exact h9
  clear hb5 hl9 hr9
  refine hK.out _ _ ((HCV.out _ (HBW.out _ HB5.out))) (fun hHeld => ?_)
  clear hK K
  refine norm_ (a' := ?_) ?_ ?_
  rotate_left
  · show Act.put _ (some 41) _ = _
    simp only [Act.put, List.setIfInBounds_toArray, List.set_cons_zero, List.set_cons_succ, i64_w, i32_w]
    rfl
  refine one_ (i := 12) (N := some 42) #[true, true, true, true, true, true, true, true, true, true, true, true, true, true, true, false, false] rfl rfl (by kernel_rfl) (by decide) (fun K hK => ?_)
  refine value_ (w1 := ?_) (v := ?_) (by rfl) rfl ?_ ?_
  rotate_left 2
  · go_simp
    constructor
    · rfl
    · rfl
  refine hK.out _ _ ((HCV.out _ (HBW.out _ HB5.out))) (fun hHeld => ?_)
  clear hK K
  refine norm_ (a' := ?_) ?_ ?_
  rotate_left
  · show Act.put _ (some 42) _ = _
    simp only [Act.put, List.setIfInBounds_toArray, List.set_cons_zero, List.set_cons_succ, i64_w, i32_w]
    rfl
  refine pure_ (i := 15) (N := some 45) (v := ?_) (a' := ?_) #[true, true, true, true, true, true, true, true, true, true, true, true, true, true, true, true, false] rfl rfl (by kernel_rfl) (fun _ _ _ h => h) (Or.inl ⟨by rfl, ?_⟩) ?_ ?_
  rotate_left
  · intro w'
    go_simp
    with_reducible rfl
  rotate_left
  · simp only [Act.put, List.setIfInBounds_toArray, List.set_cons_zero, List.set_cons_succ, i64_w, i32_w]
    rfl
  refine pure_ (i := 16) (N := some 46) (v := ?_) (a' := ?_) #[true, true, true, true, true, true, true, true, true, true, true, true, true, true, true, true, true] rfl rfl (by kernel_rfl) (fun _ _ _ h => h) (Or.inl ⟨by rfl, ?_⟩) ?_ ?_
  rotate_left
  · intro w'
    go_simp
    with_reducible rfl
  rotate_left
  · simp only [Act.put, List.setIfInBounds_toArray, List.set_cons_zero, List.set_cons_succ, i64_w, i32_w]
    rfl
  refine done_ (by kernel_rfl) ?_
  go_wp2_with fail
  refine (HM.add_full a2 _ (HHX.out _ HB5.out) (by have := H12.out; omega) (by have := H40.out; omega) (by have := HNL.out; omega) (by have := HNL.out; omega) (by have := H12.out; omega)).mono ?_
  rintro e w6 ⟨rfl, hb⟩
  have HB6 := Aside0.mk (below_step HB5.out hb)
  have HM6 := Aside0.mk (blk_new w6 (.cells Z 28))
  have HB7 := Aside0.mk (below_row (below_alloc HB6.out (.cells Z 28)) (below_size HB6.out) C)
  rw [← HCE.out]
  clear hb
  go_wp2_with (first | ((with_reducible refine gate_store (t := 28) (p := 8) rfl ?_); refine wpList_store_row rfl 28 _ _ rfl w6.heap.size C (by rfl) (by rfl) 28 Z HM6.out (by rw [info16, HSC.out]) (HSZZ.out.trans HSC.out.symm) H1C.out ?_))
  refine (HSZ.out _ (HHX.out _ HB7.out)).mono ?_
  rintro e w8 ⟨rfl, hb⟩
  have HB8 := Aside0.mk (below_step HB7.out hb)
  clear hb
  go_wp2_with fail
  go_ret
  exact ⟨rfl, HBW.out _ HB8.out⟩
theorem HeapOf (A0 : Option Addr) (c0 : Nat) (l0 : List Int) (a1 : Int) (a2 : ByteArray) (w : World) (hr0 : Kd.C (Kd.int .u8) w A0 l0.length l0) (hc0 : l0.length ≤ c0) (hs0 : l0.length * 1 ≤ 140737488351232) (hw0 : ∀ x ∈ l0, (Lit.int .u8 x).wf = true) (w1 : (Lit.int .i64 a1).wf = true) (w2 : a2.size ≤ 140737488351232) :
    Calls Try.prog 6 #[.slice A0 l0.length c0, .int .i64 a1, .string a2] w fun e w' => e = .returned (.bool true) ∧ Below w.heap.size w w' := by
  have hB := isB_wf hw0
  have hwf := wf_i64 w1
  by_cases h : 3000 < l0.length
  · exact HeapOf_a A0 c0 l0 a1 a2 w hc0 hr0 hB hwf h
  · by_cases h1 : a1 < 0
    · exact HeapOf_b A0 c0 l0 a1 a2 w hc0 hr0 hB hwf h h1
    · by_cases h3 : 4096 < a2.size
      · exact HeapOf_c A0 c0 l0 a1 a2 w hc0 hr0 hB hwf h h1 h3
      · by_cases h4 : a2.size ≤ 12
        · exact HeapOf_short A0 c0 l0 a1 a2 w hc0 hr0 hB hwf h h1 h3 h4
        · exact HeapOf_long A0 c0 l0 a1 a2 w hc0 hr0 hB hwf h h1 h3 h4
end Go.Proofs.Ytpbplflocdhahaa.HW
