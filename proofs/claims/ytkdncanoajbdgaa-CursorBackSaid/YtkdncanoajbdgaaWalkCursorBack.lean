/- CursorBack: the law, walked. -/
import Derived.Test.YtkdncanoajbdgaaHCurB
import Derived.Test.YtkdncanoajbdgaaHCurS
import Derived.Test.YtkdncanoajbdgaaPx1
set_option linter.unusedVariables false
set_option linter.unusedSimpArgs false
namespace Go.Proofs.Ytkdncanoajbdgaa.HW
open Go.RowKit Go.Proofs.Ytkdncanoajbdgaa.P Go.Proofs.Ytkdncanoajbdgaa.HP Go.Proofs.YtkdncanoajbdgaaW.PrintWords Go.Proofs.YtkdncanoajbdgaaW.PrintLast Go.Proofs.YtkdncanoajbdgaaW.PrintMore
attribute [local go_sem] max2_int min2_int max_two min_two max_three min_three max_four min_four
theorem info8 : (Try.prog.info? 5).map (fun i => (i.zero, i.size, i.bytes)) = some (some (.int .u8 0), 1, 1) := by kernel_rfl
theorem same_self (a : List Int) : hopperref01_Same.f a a = some true := by unfold hopperref01_Same.f; simp
set_option maxHeartbeats 8000000 in
set_option maxRecDepth 100000 in
theorem CursorBack (a0 : Int) (a1 : ByteArray) (A2 : Option Addr) (c2 : Nat) (l2 : List Int) (w : World) (hr2 : Kd.C (Kd.int .u8) w A2 l2.length l2) (hc2 : l2.length ≤ c2) (w0 : (Lit.int .i64 a0).wf = true) (w1 : a1.size ≤ 140737488351232) (hs2 : l2.length * 1 ≤ 140737488351232) (hw2 : ∀ x ∈ l2, (Lit.int .u8 x).wf = true) :
    Calls Try.prog 4 #[.int .i64 a0, .string a1, .slice A2 l2.length c2] w fun e w' => e = .returned (.bool true) ∧ Below w.heap.size w w' := by
  have ha0 : -9223372036854775808 ≤ a0 ∧ a0 < 9223372036854775808 := by
    simp [Lit.wf, IntKind.min, IntKind.max, IntKind.signed, IntKind.bits] at w0
    omega
  have HBY := Aside0.mk (isBy_wf hw2)
  have HR2 := Aside0.mk hr2
  have HC2 := Aside0.mk hc2
  have HB := Aside0.mk (Below.refl w.heap.size w)
  clear hr2 hc2 hw2 w0 hs2
  by_cases h5 : (a1.size : Int) > 4096
  · have t5 : decide (4096 < (a1.size : Int)) = true := decide_eq_true h5
    have t5b : decide (4096 < a1.size) = true := decide_eq_true (by omega)
    clear h5
    go_enter Try.func4, Try.ntmps4
    go_wp2_with fail
    refine (hopperlaw01_awake.calls true _ rfl).mono ?_
    rintro e w1 ⟨rfl, hb⟩
    have HB1 := Aside0.mk (below_step HB.out hb)
    clear HB hb
    go_wp2_with fail
    refine (hopperlaw01_awake.calls true _ rfl).mono ?_
    rintro e w2 ⟨rfl, hb⟩
    have HB2 := Aside0.mk (below_step HB1.out hb)
    clear HB1 hb
    go_wp2_with fail
    go_ret
    exact ⟨rfl, HB2.out⟩
  by_cases h6 : (l2.length : Int) > 2000
  · have t5 : decide (4096 < (a1.size : Int)) = false := decide_eq_false h5
    have t5b : decide (4096 < a1.size) = false := decide_eq_false (by omega)
    have t6 : decide (2000 < (l2.length : Int)) = true := decide_eq_true h6
    have t6b : decide (2000 < l2.length) = true := decide_eq_true (by omega)
    clear h5 h6
    go_enter Try.func4, Try.ntmps4
    go_wp2_with fail
    refine (hopperlaw01_awake.calls true _ rfl).mono ?_
    rintro e w1 ⟨rfl, hb⟩
    have HB1 := Aside0.mk (below_step HB.out hb)
    clear HB hb
    go_wp2_with fail
    refine (hopperlaw01_awake.calls true _ rfl).mono ?_
    rintro e w2 ⟨rfl, hb⟩
    have HB2 := Aside0.mk (below_step HB1.out hb)
    clear HB1 hb
    go_wp2_with fail
    go_ret
    exact ⟨rfl, HB2.out⟩
  have t5 : decide (4096 < (a1.size : Int)) = false := decide_eq_false h5
  have t5b : decide (4096 < a1.size) = false := decide_eq_false (by omega)
  have t6 : decide (2000 < (l2.length : Int)) = false := decide_eq_false h6
  have t6b : decide (2000 < l2.length) = false := decide_eq_false (by omega)
  have HL := Aside0.mk (show l2.length ≤ 2000 ∧ a1.size ≤ 4096 by omega)
  clear h5 h6
  by_cases h0 : a0 < 0
  · obtain ⟨N, rfl⟩ : ∃ N : Nat, a0 = -((N : Int) + 1) := ⟨(-(a0 + 1)).toNat, by omega⟩
    have t0 : decide (-((N : Int) + 1) < 0) = true := decide_eq_true h0
    have HN : Aside0 (N < 9223372036854775808) := ⟨by omega⟩
    go_enter Try.func4, Try.ntmps4
    go_wp2_with fail
    refine (hopperlaw01_awake.calls true _ rfl).mono ?_
    rintro e w1 ⟨rfl, hb⟩
    have HB1 := Aside0.mk (below_step HB.out hb)
    clear HB hb
    go_wp2_with fail
    rw [show (-(-((N : Int) + 1) + 1) : Int) = (N : Int) from by omega]
    clear h0 ha0 t0
    obtain ⟨kp, hkp⟩ := (cput_f N HN.out).rounds
    refine (cursor_Put.calls kp (N : Int) (vint N) _ hkp).mono ?_
    rintro e w2 ⟨v2, rfl, ho, hb⟩
    have HO2 := Aside0.mk (Kd.R_lower ho (below_size HB1.out))
    have HB2 := Aside0.mk (below_step HB1.out hb)
    clear HB1 hb ho hkp
    go_wp2_with fail
    obtain ⟨kt, hkt⟩ := (ctext_f a1 (by have := HL.out.2; omega)).rounds
    refine (cursor_PutText.calls kt a1 (textL a1) _ hkt).mono ?_
    rintro e w3 ⟨v3, rfl, ho, hb⟩
    obtain ⟨A3, c3, rfl, hl3, hr3⟩ := Kd.R_reads ho
    have HR3 := Aside0.mk hr3
    have HO3 := Aside0.mk (Kd.R_below HO2.out hb)
    have HB3 := Aside0.mk (below_step HB2.out hb)
    clear HB2 HO2 hb ho hkt hl3 hr3
    have hv1 := vint_len N HN.out
    have hv2 := vint_len a1.size (by have := HL.out.2; omega)
    have HTL : Aside0 ((textL a1).length ≤ 5000 ∧ (vint N).length ≤ 9) := ⟨by unfold textL; rw [List.length_append, bytesOf_length]; have := HL.out.2; omega⟩
    clear hv1 hv2
    go_wp2_with (first | ((with_reducible refine gate_builtin (b := .append) (xs := #[.tmp 30, .tmp 32]) rfl ?_); at_builtin; refine Kd.R_append_rows (Kd.int .u8) (w0 := w) w.heap.size rfl (.tmp 30) (.tmp 32) 24 5 (.int .u8 0) 1 rfl Try.underlying24 info8 rfl (by decide) (by omega) v2 (vint N) (textL a1) _ _ _ (fun _ => True) (fun _ => False) rfl rfl ?aO ?aR (fun _ _ h => h) (fun _ h => h.elim) ?aF ?aB ?aS ?aL ?_; (case aR => exact HR3.out); (case aB => exact HB3.out); (case aF => exact (fun _ _ => trivial)); (case aO => exact HO3.out); (case aS => exact (below_size HB3.out)); (case aL => have := HTL.out; omega); intro v4 w4 ho hb hg hat; have n1_ := Aside0.mk hb; have n2_ := Aside0.mk ho; clear HB3 HO3 HR3; have HB4 := n1_; have HO4 := n2_; clear n1_ n2_; clear ho hb hg hat))
    obtain ⟨A4, c4, rfl, hl4, hr4⟩ := Kd.R_reads HO4.out
    obtain ⟨L, hLe⟩ : ∃ L : List Int, L = vint N ++ textL a1 := ⟨_, rfl⟩
    have HLe := Aside0.mk hLe
    rw [← hLe] at hl4 hr4 ⊢
    have HLL : Aside0 (L.length = (vint N).length + (textL a1).length) := ⟨by rw [hLe]; simp⟩
    clear hLe
    refine (Cur.make A4 c4 L _ hr4 hl4 (by have := HLL.out; have := HTL.out; omega)).mono ?_
    rintro e w5 ⟨g1, rfl, hc, hb⟩
    obtain ⟨lo1, hlo1⟩ : ∃ lo, Aside0 (lo = w4.heap.size ∧ w.heap.size ≤ lo) := ⟨_, ⟨rfl, below_size HB4.out⟩⟩
    rw [← hlo1.out.1] at hc
    have HB5 := Aside0.mk (below_step HB4.out hb)
    have HC5 := Aside0.mk hc
    clear HB4 HO4 hc hb hl4 hr4
    go_wp2_with fail
    refine (Cur.make A2 c2 l2 _ (Kd.C_below HR2.out HB5.out) HC2.out (by have := HL.out; omega)).mono ?_
    rintro e w6 ⟨g2, rfl, hc, hb⟩
    obtain ⟨lo2, hlo2⟩ : ∃ lo, Aside0 (lo = w5.heap.size ∧ w.heap.size ≤ lo ∧ g1 < lo) := ⟨_, ⟨rfl, below_size HB5.out, HC5.out.lt⟩⟩
    rw [← hlo2.out.1] at hc
    have HB6 := Aside0.mk (below_step HB5.out hb)
    have HD6 := Aside0.mk hc
    have HC6 := Aside0.mk (HC5.out.below hb)
    clear HB5 HC5 hc hb
    go_wp2_with fail
    refine (HC6.out.number (number_at L 0 N (textL a1) HN.out (by have := HLL.out; have := HTL.out; omega) (by rw [List.drop_zero]; exact HLe.out))).mono ?_
    rintro e w7 ⟨rfl, hc, hk, hb⟩
    have HB7 := Aside0.mk (Cur.wide2 HB6.out hb hlo1.out.2)
    have HC7 := Aside0.mk hc
    have HD7 := Aside0.mk (HD6.out.keep hk (.inl hlo2.out.2.2))
    clear HB6 HC6 HD6 hc hb hk
    go_wp2_with fail
    refine (HC7.out.text (text_at L (0 + (vint N).length) a1 [] HL.out.2 (by have := HLL.out; have := HTL.out; omega) (by rw [HLe.out, Nat.zero_add, List.drop_left, List.append_nil]))).mono ?_
    rintro e w8 ⟨rfl, hc, hk, hb⟩
    have HB8 := Aside0.mk (Cur.wide2 HB7.out hb hlo1.out.2)
    have HC8 := Aside0.mk hc
    have HD8 := Aside0.mk (HD7.out.keep hk (.inl hlo2.out.2.2))
    clear HB7 HC7 HD7 hc hb hk
    go_wp2_with fail
    have hend := end_at L (0 + (vint N).length + (textL a1).length) (by have := HLL.out; have := HTL.out; omega) (by have := HLL.out; omega)
    rw [if_neg (by have := HLL.out; omega)] at hend
    refine (HC8.out.end_ hend).mono ?_
    rintro e w9 ⟨rfl, hc, hk, hb⟩
    have HB9 := Aside0.mk (Cur.wide2 HB8.out hb hlo1.out.2)
    have HD9 := Aside0.mk (HD8.out.keep hk (.inl hlo2.out.2.2))
    clear HB8 HC8 HD8 hc hb hk hend
    go_wp2_with fail
    rcases number_any l2 HBY.out (by have := HL.out.1; omega) 0 (by omega) with ⟨x, hx, t, hxt, hnum⟩ | hnum | hnum
    · refine (HD9.out.number hnum).mono ?_
      rintro e w10 ⟨rfl, hc, hk, hb⟩
      have HB10 := Aside0.mk (Cur.wide2 HB9.out hb hlo2.out.2.1)
      have HD10 := Aside0.mk hc
      clear HB9 HD9 hc hb hk hnum
      rw [List.drop_zero] at hxt
      obtain ⟨k, hk⟩ : ∃ k : Nat, k = (vint x).length := ⟨_, rfl⟩
      have HK : Aside0 (0 < k ∧ k ≤ l2.length ∧ l2.take k = vint x ∧ x < 9223372036854775808) := ⟨by rw [hk]; exact ⟨vint_pos x, by rw [hxt]; simp, by rw [hxt, List.take_left], hx⟩⟩
      rw [Nat.zero_add, ← hk] at HD10
      clear hk hxt hx
      go_wp2_with fail
      have hlk : l2.length ≤ 100000 ∧ k ≤ l2.length := ⟨by have := HL.out.1; omega, HK.out.2.1⟩
      have hend := end_at l2 k hlk.1 hlk.2
      by_cases hkl : k < l2.length
      · rw [if_pos hkl] at hend
        refine (HD10.out.end_ hend).mono ?_
        rintro e w11 ⟨rfl, hc, hk, hb⟩
        have HB11 := Aside0.mk (Cur.wide2 HB10.out hb hlo2.out.2.1)
        have HD11 := Aside0.mk hc
        clear HB10 HD10 hc hb hk
        go_wp2_with fail
        refine (HD11.out.end_ hend).mono ?_
        rintro e w12 ⟨rfl, hc, hk, hb⟩
        have HB12 := Aside0.mk (Cur.wide2 HB11.out hb hlo2.out.2.1)
        have HD12 := Aside0.mk hc
        clear HB11 HD11 hc hb hk hend hkl
        go_wp2_with fail
        refine (HD12.out.left (left_at l2 k 0 hlk.1 hlk.2)).mono ?_
        rintro e w13 ⟨rfl, hc, hk, hb⟩
        have HB13 := Aside0.mk (Cur.wide2 HB12.out hb hlo2.out.2.1)
        clear HB12 HD12 hc hb hk
        have hsub : (l2.length : Int) - ((l2.length - k : Nat) : Int) = (k : Int) := by omega
        have hk0 : ((k : Int) == 0) = false := by have := HK.out.1; simp; omega
        have hk1 : ((k : Int) = 0) = False := by have := HK.out.1; simp; omega
        have hk2 : decide ((k : Int) = 0) = false := by have := HK.out.1; simp; omega
        have hk3 : (k = 0) = False := by have := HK.out.1; simp; omega
        have hk4 : (k == 0) = false := by have := HK.out.1; simp; omega
        have hk5 : decide (k = 0) = false := by have := HK.out.1; simp; omega
        go_wp2_with fail
        obtain ⟨i0, hi0, _, hsz, _⟩ := info_parts info8
        have hcut := cut_to (P := Try.prog) 24 5 .i64 Try.underlying24 hi0 A2 l2.length c2 (k : Int) (by omega) (by omega) HC2.out
        rw [Int.toNat_natCast] at hcut
        have HT := Aside0.mk (Kd.C_take (m := k) (Kd.C_below HR2.out HB13.out) hlk.2)
        rw [HK.out.2.2.1] at HT
        obtain ⟨kp, hkp⟩ := (cput_f x HK.out.2.2.2).rounds
        have HKP := Aside0.mk hkp
        clear hkp hi0 hsz hlk hsub
        have hkv : k = (vint x).length := by rw [← HK.out.2.2.1, List.length_take]; have := HK.out.2.1; omega
        have hcut2 : ∀ W : World, (Instr.slice 24 (.slice A2 l2.length c2) none (some (.int .i64 (k : Int))) none).run Try.prog W = .ok (.slice A2 (vint x).length c2) W := by
          intro W
          rw [hcut W, ← hkv]
        have HC9 : Aside0 ((vint x).length ≤ c2) := ⟨by have := HC2.out; have := HK.out.2.1; omega⟩
        clear hcut hkv
        refine start_ (n := 15) (S := fun w' => True) (ds := []) #[false, false, false, false, false, false, false, false, false, false, false, false, false, false, false] (by kernel_rfl) rfl rfl trivial (fun hHeld => ?_)
        refine pure_ (i := 0) (N := some 77) (v := ?_) (a' := ?_) #[true, false, false, false, false, false, false, false, false, false, false, false, false, false, false] rfl rfl (by kernel_rfl) (fun _ _ _ h => h) (Or.inl ⟨by rfl, ?_⟩) ?_ ?_
        rotate_left
        · intro w'
          go_simp
          with_reducible rfl
        rotate_left
        · simp only [Act.put, List.setIfInBounds_toArray, List.set_cons_zero, List.set_cons_succ, i64_w, i32_w]
          rfl
        refine pure_ (i := 1) (N := some 78) (v := ?_) (a' := ?_) #[true, true, false, false, false, false, false, false, false, false, false, false, false, false, false] rfl rfl (by kernel_rfl) (fun _ _ _ h => h) (Or.inl ⟨by rfl, ?_⟩) ?_ ?_
        rotate_left
        · intro w'
          go_simp
          with_reducible rfl
        rotate_left
        · simp only [Act.put, List.setIfInBounds_toArray, List.set_cons_zero, List.set_cons_succ, i64_w, i32_w]
          rfl
        refine pure_ (i := 2) (N := some 79) (v := ?_) (a' := ?_) #[true, true, true, false, false, false, false, false, false, false, false, false, false, false, false] rfl rfl (by kernel_rfl) (fun _ _ _ h => h) (Or.inl ⟨by rfl, ?_⟩) ?_ ?_
        rotate_left
        · intro w'
          go_simp
          with_reducible rfl
        rotate_left
        · simp only [Act.put, List.setIfInBounds_toArray, List.set_cons_zero, List.set_cons_succ, i64_w, i32_w]
          rfl
        refine pure_ (i := 3) (N := some 80) (v := undef) (a' := ?_) #[true, true, true, true, false, false, false, false, false, false, false, false, false, false, false] rfl rfl (by kernel_rfl) (fun _ _ _ h => h) (Or.inr ⟨by rfl, rfl⟩) ?_ ?_
        rotate_left
        · simp only [Act.put, List.setIfInBounds_toArray, List.set_cons_zero, List.set_cons_succ, i64_w, i32_w]
          rfl
        refine pure_ (i := 4) (N := some 81) (v := undef) (a' := ?_) #[true, true, true, true, true, false, false, false, false, false, false, false, false, false, false] rfl rfl (by kernel_rfl) (fun _ _ _ h => h) (Or.inr ⟨by rfl, rfl⟩) ?_ ?_
        rotate_left
        · simp only [Act.put, List.setIfInBounds_toArray, List.set_cons_zero, List.set_cons_succ, i64_w, i32_w]
          rfl
        refine pure_ (i := 5) (N := some 82) (v := ?_) (a' := ?_) #[true, true, true, true, true, true, false, false, false, false, false, false, false, false, false] rfl rfl (by kernel_rfl) (fun _ _ _ h => h) (Or.inl ⟨by rfl, ?_⟩) ?_ ?_
        rotate_left
        · intro w'
          go_simp
          with_reducible rfl
        rotate_left
        · simp only [Act.put, List.setIfInBounds_toArray, List.set_cons_zero, List.set_cons_succ, i64_w, i32_w]
          rfl
        refine pure_ (i := 6) (N := some 83) (v := ?_) (a' := ?_) #[true, true, true, true, true, true, true, false, false, false, false, false, false, false, false] rfl rfl (by kernel_rfl) (fun _ _ _ h => h) (Or.inl ⟨by rfl, ?_⟩) ?_ ?_
        rotate_left
        · intro w'
          go_simp
          with_reducible rfl
        rotate_left
        · simp only [Act.put, List.setIfInBounds_toArray, List.set_cons_zero, List.set_cons_succ, i64_w, i32_w]
          rfl
        refine pure_ (i := 7) (N := some 84) (v := ?_) (a' := ?_) #[true, true, true, true, true, true, true, true, false, false, false, false, false, false, false] rfl rfl (by kernel_rfl) (fun _ _ _ h => h) (Or.inl ⟨by rfl, ?_⟩) ?_ ?_
        rotate_left
        · intro w'
          go_simp
          with_reducible rfl
        rotate_left
        · simp only [Act.put, List.setIfInBounds_toArray, List.set_cons_zero, List.set_cons_succ, i64_w, i32_w]
          rfl
        refine pure_ (i := 9) (N := some 86) (v := ?_) (a' := ?_) #[true, true, true, true, true, true, true, true, false, true, false, false, false, false, false] rfl rfl (by kernel_rfl) (fun _ _ _ h => h) (Or.inl ⟨by rfl, ?_⟩) ?_ ?_
        rotate_left
        · intro w'
          go_simp
          with_reducible rfl
        rotate_left
        · simp only [Act.put, List.setIfInBounds_toArray, List.set_cons_zero, List.set_cons_succ, i64_w, i32_w]
          rfl
        refine pure_ (i := 10) (N := some 87) (v := ?_) (a' := ?_) #[true, true, true, true, true, true, true, true, false, true, true, false, false, false, false] rfl rfl (by kernel_rfl) (fun _ _ _ h => h) (Or.inl ⟨by rfl, ?_⟩) ?_ ?_
        rotate_left
        · intro w'
          go_simp
          with_reducible rfl
        rotate_left
        · simp only [Act.put, List.setIfInBounds_toArray, List.set_cons_zero, List.set_cons_succ, i64_w, i32_w]
          rfl
        refine pure_ (i := 11) (N := some 88) (v := ?_) (a' := ?_) #[true, true, true, true, true, true, true, true, false, true, true, true, false, false, false] rfl rfl (by kernel_rfl) (fun _ _ _ h => h) (Or.inl ⟨by rfl, ?_⟩) ?_ ?_
        rotate_left
        · intro w'
          go_simp
          with_reducible rfl
        rotate_left
        · simp only [Act.put, List.setIfInBounds_toArray, List.set_cons_zero, List.set_cons_succ, i64_w, i32_w]
          rfl
        refine one_ (i := 8) (N := some 85) #[true, true, true, true, true, true, true, true, true, true, true, true, false, false, false] rfl rfl (by kernel_rfl) (by decide) (fun K hK => ?_)
        refine goes_ Try.func14 (by kernel_rfl) rfl #[.int .i64 (x : Int)] (by rfl) rfl rfl (by simp only [List.map_toArray, List.map_cons, List.map_nil]; rfl) ?_
        with_reducible refine (cursor_Put.calls kp (x : Int) (vint x) _ HKP.out).mono ?_
        rintro e w14 ⟨v14, rfl, ho14, hb14⟩
        refine ⟨_, rfl, ?_⟩
        obtain ⟨A14, c14, rfl, hl14, hr14⟩ := Kd.R_reads ho14
        have HT14 := Aside0.mk (Kd.C_below (Kd.C_drew HT.out) hb14)
        have HB14 := Aside0.mk (below_step (below_drew1 HB13.out) hb14)
        have HR14 := Aside0.mk hr14
        have HL14 := Aside0.mk hl14
        clear ho14 hb14 hl14 hr14
        refine hK.out _ _ trivial (fun hHeld => ?_)
        clear hK K
        refine norm_ (a' := ?_) ?_ ?_
        rotate_left
        · show Act.put _ (some 85) _ = _
          simp only [Act.put, List.setIfInBounds_toArray, List.set_cons_zero, List.set_cons_succ, i64_w, i32_w]
          rfl
        refine one_ (i := 12) (N := some 89) #[true, true, true, true, true, true, true, true, true, true, true, true, true, false, false] rfl rfl (by kernel_rfl) (by decide) (fun K hK => ?_)
        refine goes_ Try.func13 (by kernel_rfl) rfl #[.slice A14 (vint x).length c14, .slice A2 (vint x).length c2] (by rfl) rfl rfl (by simp only [List.map_toArray, List.map_cons, List.map_nil]; rfl) ?_
        with_reducible refine (hopperref01_Same.calls A14 c14 (vint x) A2 c2 (vint x) true _ HR14.out HL14.out HT14.out HC9.out (same_self _)).mono ?_
        rintro e w15 ⟨rfl, n15, rfl⟩
        refine ⟨_, rfl, ?_⟩
        refine hK.out _ _ trivial (fun hHeld => ?_)
        clear hK K
        refine norm_ (a' := ?_) ?_ ?_
        rotate_left
        · show Act.put _ (some 89) _ = _
          simp only [Act.put, List.setIfInBounds_toArray, List.set_cons_zero, List.set_cons_succ, i64_w, i32_w]
          rfl
        refine pure_ (i := 13) (N := some 90) (v := ?_) (a' := ?_) #[true, true, true, true, true, true, true, true, true, true, true, true, true, true, false] rfl rfl (by kernel_rfl) (fun _ _ _ h => h) (Or.inl ⟨by rfl, ?_⟩) ?_ ?_
        rotate_left
        · intro w'
          go_simp
          with_reducible rfl
        rotate_left
        · simp only [Act.put, List.setIfInBounds_toArray, List.set_cons_zero, List.set_cons_succ, i64_w, i32_w]
          rfl
        refine pure_ (i := 14) (N := some 6) (v := ?_) (a' := ?_) #[true, true, true, true, true, true, true, true, true, true, true, true, true, true, true] rfl rfl (by kernel_rfl) (fun _ _ _ h => h) (Or.inl ⟨by rfl, ?_⟩) ?_ ?_
        rotate_left
        · intro w'
          go_simp
          with_reducible rfl
        rotate_left
        · simp only [Act.put, List.setIfInBounds_toArray, List.set_cons_zero, List.set_cons_succ, i64_w, i32_w]
          rfl
        refine done_ (by kernel_rfl) ?_
        go_wp2
        go_ret
        exact ⟨rfl, by repeat (first | exact HB14.out | apply below_alloc | apply pw_below_drewN | apply below_drew1)⟩
      · rw [if_neg hkl] at hend
        refine (HD10.out.end_ hend).mono ?_
        rintro e w11 ⟨rfl, hc, hk, hb⟩
        have HB12 := Aside0.mk (Cur.wide2 HB10.out hb hlo2.out.2.1)
        have HD12 := Aside0.mk hc
        clear HB10 HD10 hc hb hk hend hkl
        go_wp2_with fail
        refine (HD12.out.left (left_at l2 k 0 hlk.1 hlk.2)).mono ?_
        rintro e w13 ⟨rfl, hc, hk, hb⟩
        have HB13 := Aside0.mk (Cur.wide2 HB12.out hb hlo2.out.2.1)
        clear HB12 HD12 hc hb hk
        have hsub : (l2.length : Int) - ((l2.length - k : Nat) : Int) = (k : Int) := by omega
        have hk0 : ((k : Int) == 0) = false := by have := HK.out.1; simp; omega
        have hk1 : ((k : Int) = 0) = False := by have := HK.out.1; simp; omega
        have hk2 : decide ((k : Int) = 0) = false := by have := HK.out.1; simp; omega
        have hk3 : (k = 0) = False := by have := HK.out.1; simp; omega
        have hk4 : (k == 0) = false := by have := HK.out.1; simp; omega
        have hk5 : decide (k = 0) = false := by have := HK.out.1; simp; omega
        go_wp2_with fail
        obtain ⟨i0, hi0, _, hsz, _⟩ := info_parts info8
        have hcut := cut_to (P := Try.prog) 24 5 .i64 Try.underlying24 hi0 A2 l2.length c2 (k : Int) (by omega) (by omega) HC2.out
        rw [Int.toNat_natCast] at hcut
        have HT := Aside0.mk (Kd.C_take (m := k) (Kd.C_below HR2.out HB13.out) hlk.2)
        rw [HK.out.2.2.1] at HT
        obtain ⟨kp, hkp⟩ := (cput_f x HK.out.2.2.2).rounds
        have HKP := Aside0.mk hkp
        clear hkp hi0 hsz hlk hsub
        have hkv : k = (vint x).length := by rw [← HK.out.2.2.1, List.length_take]; have := HK.out.2.1; omega
        have hcut2 : ∀ W : World, (Instr.slice 24 (.slice A2 l2.length c2) none (some (.int .i64 (k : Int))) none).run Try.prog W = .ok (.slice A2 (vint x).length c2) W := by
          intro W
          rw [hcut W, ← hkv]
        have HC9 : Aside0 ((vint x).length ≤ c2) := ⟨by have := HC2.out; have := HK.out.2.1; omega⟩
        clear hcut hkv
        refine start_ (n := 15) (S := fun w' => True) (ds := []) #[false, false, false, false, false, false, false, false, false, false, false, false, false, false, false] (by kernel_rfl) rfl rfl trivial (fun hHeld => ?_)
        refine pure_ (i := 0) (N := some 77) (v := ?_) (a' := ?_) #[true, false, false, false, false, false, false, false, false, false, false, false, false, false, false] rfl rfl (by kernel_rfl) (fun _ _ _ h => h) (Or.inl ⟨by rfl, ?_⟩) ?_ ?_
        rotate_left
        · intro w'
          go_simp
          with_reducible rfl
        rotate_left
        · simp only [Act.put, List.setIfInBounds_toArray, List.set_cons_zero, List.set_cons_succ, i64_w, i32_w]
          rfl
        refine pure_ (i := 1) (N := some 78) (v := ?_) (a' := ?_) #[true, true, false, false, false, false, false, false, false, false, false, false, false, false, false] rfl rfl (by kernel_rfl) (fun _ _ _ h => h) (Or.inl ⟨by rfl, ?_⟩) ?_ ?_
        rotate_left
        · intro w'
          go_simp
          with_reducible rfl
        rotate_left
        · simp only [Act.put, List.setIfInBounds_toArray, List.set_cons_zero, List.set_cons_succ, i64_w, i32_w]
          rfl
        refine pure_ (i := 2) (N := some 79) (v := ?_) (a' := ?_) #[true, true, true, false, false, false, false, false, false, false, false, false, false, false, false] rfl rfl (by kernel_rfl) (fun _ _ _ h => h) (Or.inl ⟨by rfl, ?_⟩) ?_ ?_
        rotate_left
        · intro w'
          go_simp
          with_reducible rfl
        rotate_left
        · simp only [Act.put, List.setIfInBounds_toArray, List.set_cons_zero, List.set_cons_succ, i64_w, i32_w]
          rfl
        refine pure_ (i := 3) (N := some 80) (v := undef) (a' := ?_) #[true, true, true, true, false, false, false, false, false, false, false, false, false, false, false] rfl rfl (by kernel_rfl) (fun _ _ _ h => h) (Or.inr ⟨by rfl, rfl⟩) ?_ ?_
        rotate_left
        · simp only [Act.put, List.setIfInBounds_toArray, List.set_cons_zero, List.set_cons_succ, i64_w, i32_w]
          rfl
        refine pure_ (i := 4) (N := some 81) (v := undef) (a' := ?_) #[true, true, true, true, true, false, false, false, false, false, false, false, false, false, false] rfl rfl (by kernel_rfl) (fun _ _ _ h => h) (Or.inr ⟨by rfl, rfl⟩) ?_ ?_
        rotate_left
        · simp only [Act.put, List.setIfInBounds_toArray, List.set_cons_zero, List.set_cons_succ, i64_w, i32_w]
          rfl
        refine pure_ (i := 5) (N := some 82) (v := ?_) (a' := ?_) #[true, true, true, true, true, true, false, false, false, false, false, false, false, false, false] rfl rfl (by kernel_rfl) (fun _ _ _ h => h) (Or.inl ⟨by rfl, ?_⟩) ?_ ?_
        rotate_left
        · intro w'
          go_simp
          with_reducible rfl
        rotate_left
        · simp only [Act.put, List.setIfInBounds_toArray, List.set_cons_zero, List.set_cons_succ, i64_w, i32_w]
          rfl
        refine pure_ (i := 6) (N := some 83) (v := ?_) (a' := ?_) #[true, true, true, true, true, true, true, false, false, false, false, false, false, false, false] rfl rfl (by kernel_rfl) (fun _ _ _ h => h) (Or.inl ⟨by rfl, ?_⟩) ?_ ?_
        rotate_left
        · intro w'
          go_simp
          with_reducible rfl
        rotate_left
        · simp only [Act.put, List.setIfInBounds_toArray, List.set_cons_zero, List.set_cons_succ, i64_w, i32_w]
          rfl
        refine pure_ (i := 7) (N := some 84) (v := ?_) (a' := ?_) #[true, true, true, true, true, true, true, true, false, false, false, false, false, false, false] rfl rfl (by kernel_rfl) (fun _ _ _ h => h) (Or.inl ⟨by rfl, ?_⟩) ?_ ?_
        rotate_left
        · intro w'
          go_simp
          with_reducible rfl
        rotate_left
        · simp only [Act.put, List.setIfInBounds_toArray, List.set_cons_zero, List.set_cons_succ, i64_w, i32_w]
          rfl
        refine pure_ (i := 9) (N := some 86) (v := ?_) (a' := ?_) #[true, true, true, true, true, true, true, true, false, true, false, false, false, false, false] rfl rfl (by kernel_rfl) (fun _ _ _ h => h) (Or.inl ⟨by rfl, ?_⟩) ?_ ?_
        rotate_left
        · intro w'
          go_simp
          with_reducible rfl
        rotate_left
        · simp only [Act.put, List.setIfInBounds_toArray, List.set_cons_zero, List.set_cons_succ, i64_w, i32_w]
          rfl
        refine pure_ (i := 10) (N := some 87) (v := ?_) (a' := ?_) #[true, true, true, true, true, true, true, true, false, true, true, false, false, false, false] rfl rfl (by kernel_rfl) (fun _ _ _ h => h) (Or.inl ⟨by rfl, ?_⟩) ?_ ?_
        rotate_left
        · intro w'
          go_simp
          with_reducible rfl
        rotate_left
        · simp only [Act.put, List.setIfInBounds_toArray, List.set_cons_zero, List.set_cons_succ, i64_w, i32_w]
          rfl
        refine pure_ (i := 11) (N := some 88) (v := ?_) (a' := ?_) #[true, true, true, true, true, true, true, true, false, true, true, true, false, false, false] rfl rfl (by kernel_rfl) (fun _ _ _ h => h) (Or.inl ⟨by rfl, ?_⟩) ?_ ?_
        rotate_left
        · intro w'
          go_simp
          with_reducible rfl
        rotate_left
        · simp only [Act.put, List.setIfInBounds_toArray, List.set_cons_zero, List.set_cons_succ, i64_w, i32_w]
          rfl
        refine one_ (i := 8) (N := some 85) #[true, true, true, true, true, true, true, true, true, true, true, true, false, false, false] rfl rfl (by kernel_rfl) (by decide) (fun K hK => ?_)
        refine goes_ Try.func14 (by kernel_rfl) rfl #[.int .i64 (x : Int)] (by rfl) rfl rfl (by simp only [List.map_toArray, List.map_cons, List.map_nil]; rfl) ?_
        with_reducible refine (cursor_Put.calls kp (x : Int) (vint x) _ HKP.out).mono ?_
        rintro e w14 ⟨v14, rfl, ho14, hb14⟩
        refine ⟨_, rfl, ?_⟩
        obtain ⟨A14, c14, rfl, hl14, hr14⟩ := Kd.R_reads ho14
        have HT14 := Aside0.mk (Kd.C_below (Kd.C_drew HT.out) hb14)
        have HB14 := Aside0.mk (below_step (below_drew1 HB13.out) hb14)
        have HR14 := Aside0.mk hr14
        have HL14 := Aside0.mk hl14
        clear ho14 hb14 hl14 hr14
        refine hK.out _ _ trivial (fun hHeld => ?_)
        clear hK K
        refine norm_ (a' := ?_) ?_ ?_
        rotate_left
        · show Act.put _ (some 85) _ = _
          simp only [Act.put, List.setIfInBounds_toArray, List.set_cons_zero, List.set_cons_succ, i64_w, i32_w]
          rfl
        refine one_ (i := 12) (N := some 89) #[true, true, true, true, true, true, true, true, true, true, true, true, true, false, false] rfl rfl (by kernel_rfl) (by decide) (fun K hK => ?_)
        refine goes_ Try.func13 (by kernel_rfl) rfl #[.slice A14 (vint x).length c14, .slice A2 (vint x).length c2] (by rfl) rfl rfl (by simp only [List.map_toArray, List.map_cons, List.map_nil]; rfl) ?_
        with_reducible refine (hopperref01_Same.calls A14 c14 (vint x) A2 c2 (vint x) true _ HR14.out HL14.out HT14.out HC9.out (same_self _)).mono ?_
        rintro e w15 ⟨rfl, n15, rfl⟩
        refine ⟨_, rfl, ?_⟩
        refine hK.out _ _ trivial (fun hHeld => ?_)
        clear hK K
        refine norm_ (a' := ?_) ?_ ?_
        rotate_left
        · show Act.put _ (some 89) _ = _
          simp only [Act.put, List.setIfInBounds_toArray, List.set_cons_zero, List.set_cons_succ, i64_w, i32_w]
          rfl
        refine pure_ (i := 13) (N := some 90) (v := ?_) (a' := ?_) #[true, true, true, true, true, true, true, true, true, true, true, true, true, true, false] rfl rfl (by kernel_rfl) (fun _ _ _ h => h) (Or.inl ⟨by rfl, ?_⟩) ?_ ?_
        rotate_left
        · intro w'
          go_simp
          with_reducible rfl
        rotate_left
        · simp only [Act.put, List.setIfInBounds_toArray, List.set_cons_zero, List.set_cons_succ, i64_w, i32_w]
          rfl
        refine pure_ (i := 14) (N := some 6) (v := ?_) (a' := ?_) #[true, true, true, true, true, true, true, true, true, true, true, true, true, true, true] rfl rfl (by kernel_rfl) (fun _ _ _ h => h) (Or.inl ⟨by rfl, ?_⟩) ?_ ?_
        rotate_left
        · intro w'
          go_simp
          with_reducible rfl
        rotate_left
        · simp only [Act.put, List.setIfInBounds_toArray, List.set_cons_zero, List.set_cons_succ, i64_w, i32_w]
          rfl
        refine done_ (by kernel_rfl) ?_
        go_wp2
        go_ret
        exact ⟨rfl, by repeat (first | exact HB14.out | apply below_alloc | apply pw_below_drewN | apply below_drew1)⟩
    · refine (HD9.out.number hnum).mono ?_
      rintro e w10 ⟨rfl, hc, hk, hb⟩
      have HB10 := Aside0.mk (Cur.wide2 HB9.out hb hlo2.out.2.1)
      have HD10 := Aside0.mk hc
      clear HB9 HD9 hc hb hk hnum
      go_wp2_with fail
      refine (HD10.out.end_ (end_bad l2 _ 2 (by decide))).mono ?_
      rintro e w11 ⟨rfl, hc, hk, hb⟩
      have HB11 := Aside0.mk (Cur.wide2 HB10.out hb hlo2.out.2.1)
      have HD11 := Aside0.mk hc
      clear HB10 HD10 hc hb hk
      go_wp2_with fail
      refine (HD11.out.end_ (end_bad l2 _ 2 (by decide))).mono ?_
      rintro e w12 ⟨rfl, hc, hk, hb⟩
      have HB12 := Aside0.mk (Cur.wide2 HB11.out hb hlo2.out.2.1)
      have HD12 := Aside0.mk hc
      clear HB11 HD11 hc hb hk
      go_wp2_with fail
      refine (HD12.out.left (left_at l2 0 2 (by have := HL.out.1; omega) (by omega))).mono ?_
      rintro e w13 ⟨rfl, hc, hk, hb⟩
      have HB13 := Aside0.mk (Cur.wide2 HB12.out hb hlo2.out.2.1)
      clear HB12 HD12 hc hb hk
      have hsub : (l2.length : Int) - ((l2.length - 0 : Nat) : Int) = 0 := by omega
      go_wp2_with fail
      repeat (go_quiet (fail); try go_wp2)
      go_ret
      exact ⟨rfl, by repeat (first | exact HB13.out | apply below_alloc | apply pw_below_drewN | apply below_drew1)⟩
    · refine (HD9.out.number hnum).mono ?_
      rintro e w10 ⟨rfl, hc, hk, hb⟩
      have HB10 := Aside0.mk (Cur.wide2 HB9.out hb hlo2.out.2.1)
      have HD10 := Aside0.mk hc
      clear HB9 HD9 hc hb hk hnum
      go_wp2_with fail
      refine (HD10.out.end_ (end_bad l2 _ 3 (by decide))).mono ?_
      rintro e w11 ⟨rfl, hc, hk, hb⟩
      have HB11 := Aside0.mk (Cur.wide2 HB10.out hb hlo2.out.2.1)
      have HD11 := Aside0.mk hc
      clear HB10 HD10 hc hb hk
      go_wp2_with fail
      refine (HD11.out.end_ (end_bad l2 _ 3 (by decide))).mono ?_
      rintro e w12 ⟨rfl, hc, hk, hb⟩
      have HB12 := Aside0.mk (Cur.wide2 HB11.out hb hlo2.out.2.1)
      clear HB11 HD11 hc hb hk
      go_wp2_with fail
      go_ret
      exact ⟨rfl, HB12.out⟩
  · obtain ⟨N, rfl⟩ : ∃ N : Nat, a0 = (N : Int) := ⟨a0.toNat, by omega⟩
    have t0 : decide ((N : Int) < 0) = false := decide_eq_false h0
    have HN : Aside0 (N < 9223372036854775808) := ⟨by omega⟩
    clear h0 ha0
    go_enter Try.func4, Try.ntmps4
    go_wp2_with fail
    refine (hopperlaw01_awake.calls true _ rfl).mono ?_
    rintro e w1 ⟨rfl, hb⟩
    have HB1 := Aside0.mk (below_step HB.out hb)
    clear HB hb
    go_wp2_with fail
    obtain ⟨kp, hkp⟩ := (cput_f N HN.out).rounds
    refine (cursor_Put.calls kp (N : Int) (vint N) _ hkp).mono ?_
    rintro e w2 ⟨v2, rfl, ho, hb⟩
    have HO2 := Aside0.mk (Kd.R_lower ho (below_size HB1.out))
    have HB2 := Aside0.mk (below_step HB1.out hb)
    clear HB1 hb ho hkp
    go_wp2_with fail
    obtain ⟨kt, hkt⟩ := (ctext_f a1 (by have := HL.out.2; omega)).rounds
    refine (cursor_PutText.calls kt a1 (textL a1) _ hkt).mono ?_
    rintro e w3 ⟨v3, rfl, ho, hb⟩
    obtain ⟨A3, c3, rfl, hl3, hr3⟩ := Kd.R_reads ho
    have HR3 := Aside0.mk hr3
    have HO3 := Aside0.mk (Kd.R_below HO2.out hb)
    have HB3 := Aside0.mk (below_step HB2.out hb)
    clear HB2 HO2 hb ho hkt hl3 hr3
    have hv1 := vint_len N HN.out
    have hv2 := vint_len a1.size (by have := HL.out.2; omega)
    have HTL : Aside0 ((textL a1).length ≤ 5000 ∧ (vint N).length ≤ 9) := ⟨by unfold textL; rw [List.length_append, bytesOf_length]; have := HL.out.2; omega⟩
    clear hv1 hv2
    go_wp2_with (first | ((with_reducible refine gate_builtin (b := .append) (xs := #[.tmp 30, .tmp 32]) rfl ?_); at_builtin; refine Kd.R_append_rows (Kd.int .u8) (w0 := w) w.heap.size rfl (.tmp 30) (.tmp 32) 24 5 (.int .u8 0) 1 rfl Try.underlying24 info8 rfl (by decide) (by omega) v2 (vint N) (textL a1) _ _ _ (fun _ => True) (fun _ => False) rfl rfl ?aO ?aR (fun _ _ h => h) (fun _ h => h.elim) ?aF ?aB ?aS ?aL ?_; (case aR => exact HR3.out); (case aB => exact HB3.out); (case aF => exact (fun _ _ => trivial)); (case aO => exact HO3.out); (case aS => exact (below_size HB3.out)); (case aL => have := HTL.out; omega); intro v4 w4 ho hb hg hat; have n1_ := Aside0.mk hb; have n2_ := Aside0.mk ho; clear HB3 HO3 HR3; have HB4 := n1_; have HO4 := n2_; clear n1_ n2_; clear ho hb hg hat))
    obtain ⟨A4, c4, rfl, hl4, hr4⟩ := Kd.R_reads HO4.out
    obtain ⟨L, hLe⟩ : ∃ L : List Int, L = vint N ++ textL a1 := ⟨_, rfl⟩
    have HLe := Aside0.mk hLe
    rw [← hLe] at hl4 hr4 ⊢
    have HLL : Aside0 (L.length = (vint N).length + (textL a1).length) := ⟨by rw [hLe]; simp⟩
    clear hLe
    refine (Cur.make A4 c4 L _ hr4 hl4 (by have := HLL.out; have := HTL.out; omega)).mono ?_
    rintro e w5 ⟨g1, rfl, hc, hb⟩
    obtain ⟨lo1, hlo1⟩ : ∃ lo, Aside0 (lo = w4.heap.size ∧ w.heap.size ≤ lo) := ⟨_, ⟨rfl, below_size HB4.out⟩⟩
    rw [← hlo1.out.1] at hc
    have HB5 := Aside0.mk (below_step HB4.out hb)
    have HC5 := Aside0.mk hc
    clear HB4 HO4 hc hb hl4 hr4
    go_wp2_with fail
    refine (Cur.make A2 c2 l2 _ (Kd.C_below HR2.out HB5.out) HC2.out (by have := HL.out; omega)).mono ?_
    rintro e w6 ⟨g2, rfl, hc, hb⟩
    obtain ⟨lo2, hlo2⟩ : ∃ lo, Aside0 (lo = w5.heap.size ∧ w.heap.size ≤ lo ∧ g1 < lo) := ⟨_, ⟨rfl, below_size HB5.out, HC5.out.lt⟩⟩
    rw [← hlo2.out.1] at hc
    have HB6 := Aside0.mk (below_step HB5.out hb)
    have HD6 := Aside0.mk hc
    have HC6 := Aside0.mk (HC5.out.below hb)
    clear HB5 HC5 hc hb
    go_wp2_with fail
    refine (HC6.out.number (number_at L 0 N (textL a1) HN.out (by have := HLL.out; have := HTL.out; omega) (by rw [List.drop_zero]; exact HLe.out))).mono ?_
    rintro e w7 ⟨rfl, hc, hk, hb⟩
    have HB7 := Aside0.mk (Cur.wide2 HB6.out hb hlo1.out.2)
    have HC7 := Aside0.mk hc
    have HD7 := Aside0.mk (HD6.out.keep hk (.inl hlo2.out.2.2))
    clear HB6 HC6 HD6 hc hb hk
    go_wp2_with fail
    refine (HC7.out.text (text_at L (0 + (vint N).length) a1 [] HL.out.2 (by have := HLL.out; have := HTL.out; omega) (by rw [HLe.out, Nat.zero_add, List.drop_left, List.append_nil]))).mono ?_
    rintro e w8 ⟨rfl, hc, hk, hb⟩
    have HB8 := Aside0.mk (Cur.wide2 HB7.out hb hlo1.out.2)
    have HC8 := Aside0.mk hc
    have HD8 := Aside0.mk (HD7.out.keep hk (.inl hlo2.out.2.2))
    clear HB7 HC7 HD7 hc hb hk
    go_wp2_with fail
    have hend := end_at L (0 + (vint N).length + (textL a1).length) (by have := HLL.out; have := HTL.out; omega) (by have := HLL.out; omega)
    rw [if_neg (by have := HLL.out; omega)] at hend
    refine (HC8.out.end_ hend).mono ?_
    rintro e w9 ⟨rfl, hc, hk, hb⟩
    have HB9 := Aside0.mk (Cur.wide2 HB8.out hb hlo1.out.2)
    have HD9 := Aside0.mk (HD8.out.keep hk (.inl hlo2.out.2.2))
    clear HB8 HC8 HD8 hc hb hk hend
    go_wp2_with fail
    rcases number_any l2 HBY.out (by have := HL.out.1; omega) 0 (by omega) with ⟨x, hx, t, hxt, hnum⟩ | hnum | hnum
    · refine (HD9.out.number hnum).mono ?_
      rintro e w10 ⟨rfl, hc, hk, hb⟩
      have HB10 := Aside0.mk (Cur.wide2 HB9.out hb hlo2.out.2.1)
      have HD10 := Aside0.mk hc
      clear HB9 HD9 hc hb hk hnum
      rw [List.drop_zero] at hxt
      obtain ⟨k, hk⟩ : ∃ k : Nat, k = (vint x).length := ⟨_, rfl⟩
      have HK : Aside0 (0 < k ∧ k ≤ l2.length ∧ l2.take k = vint x ∧ x < 9223372036854775808) := ⟨by rw [hk]; exact ⟨vint_pos x, by rw [hxt]; simp, by rw [hxt, List.take_left], hx⟩⟩
      rw [Nat.zero_add, ← hk] at HD10
      clear hk hxt hx
      go_wp2_with fail
      have hlk : l2.length ≤ 100000 ∧ k ≤ l2.length := ⟨by have := HL.out.1; omega, HK.out.2.1⟩
      have hend := end_at l2 k hlk.1 hlk.2
      by_cases hkl : k < l2.length
      · rw [if_pos hkl] at hend
        refine (HD10.out.end_ hend).mono ?_
        rintro e w11 ⟨rfl, hc, hk, hb⟩
        have HB11 := Aside0.mk (Cur.wide2 HB10.out hb hlo2.out.2.1)
        have HD11 := Aside0.mk hc
        clear HB10 HD10 hc hb hk
        go_wp2_with fail
        refine (HD11.out.end_ hend).mono ?_
        rintro e w12 ⟨rfl, hc, hk, hb⟩
        have HB12 := Aside0.mk (Cur.wide2 HB11.out hb hlo2.out.2.1)
        have HD12 := Aside0.mk hc
        clear HB11 HD11 hc hb hk hend hkl
        go_wp2_with fail
        refine (HD12.out.left (left_at l2 k 0 hlk.1 hlk.2)).mono ?_
        rintro e w13 ⟨rfl, hc, hk, hb⟩
        have HB13 := Aside0.mk (Cur.wide2 HB12.out hb hlo2.out.2.1)
        clear HB12 HD12 hc hb hk
        have hsub : (l2.length : Int) - ((l2.length - k : Nat) : Int) = (k : Int) := by omega
        have hk0 : ((k : Int) == 0) = false := by have := HK.out.1; simp; omega
        have hk1 : ((k : Int) = 0) = False := by have := HK.out.1; simp; omega
        have hk2 : decide ((k : Int) = 0) = false := by have := HK.out.1; simp; omega
        have hk3 : (k = 0) = False := by have := HK.out.1; simp; omega
        have hk4 : (k == 0) = false := by have := HK.out.1; simp; omega
        have hk5 : decide (k = 0) = false := by have := HK.out.1; simp; omega
        go_wp2_with fail
        obtain ⟨i0, hi0, _, hsz, _⟩ := info_parts info8
        have hcut := cut_to (P := Try.prog) 24 5 .i64 Try.underlying24 hi0 A2 l2.length c2 (k : Int) (by omega) (by omega) HC2.out
        rw [Int.toNat_natCast] at hcut
        have HT := Aside0.mk (Kd.C_take (m := k) (Kd.C_below HR2.out HB13.out) hlk.2)
        rw [HK.out.2.2.1] at HT
        obtain ⟨kp, hkp⟩ := (cput_f x HK.out.2.2.2).rounds
        have HKP := Aside0.mk hkp
        clear hkp hi0 hsz hlk hsub
        have hkv : k = (vint x).length := by rw [← HK.out.2.2.1, List.length_take]; have := HK.out.2.1; omega
        have hcut2 : ∀ W : World, (Instr.slice 24 (.slice A2 l2.length c2) none (some (.int .i64 (k : Int))) none).run Try.prog W = .ok (.slice A2 (vint x).length c2) W := by
          intro W
          rw [hcut W, ← hkv]
        have HC9 : Aside0 ((vint x).length ≤ c2) := ⟨by have := HC2.out; have := HK.out.2.1; omega⟩
        clear hcut hkv
        refine start_ (n := 15) (S := fun w' => True) (ds := []) #[false, false, false, false, false, false, false, false, false, false, false, false, false, false, false] (by kernel_rfl) rfl rfl trivial (fun hHeld => ?_)
        refine pure_ (i := 0) (N := some 77) (v := ?_) (a' := ?_) #[true, false, false, false, false, false, false, false, false, false, false, false, false, false, false] rfl rfl (by kernel_rfl) (fun _ _ _ h => h) (Or.inl ⟨by rfl, ?_⟩) ?_ ?_
        rotate_left
        · intro w'
          go_simp
          with_reducible rfl
        rotate_left
        · simp only [Act.put, List.setIfInBounds_toArray, List.set_cons_zero, List.set_cons_succ, i64_w, i32_w]
          rfl
        refine pure_ (i := 1) (N := some 78) (v := ?_) (a' := ?_) #[true, true, false, false, false, false, false, false, false, false, false, false, false, false, false] rfl rfl (by kernel_rfl) (fun _ _ _ h => h) (Or.inl ⟨by rfl, ?_⟩) ?_ ?_
        rotate_left
        · intro w'
          go_simp
          with_reducible rfl
        rotate_left
        · simp only [Act.put, List.setIfInBounds_toArray, List.set_cons_zero, List.set_cons_succ, i64_w, i32_w]
          rfl
        refine pure_ (i := 2) (N := some 79) (v := ?_) (a' := ?_) #[true, true, true, false, false, false, false, false, false, false, false, false, false, false, false] rfl rfl (by kernel_rfl) (fun _ _ _ h => h) (Or.inl ⟨by rfl, ?_⟩) ?_ ?_
        rotate_left
        · intro w'
          go_simp
          with_reducible rfl
        rotate_left
        · simp only [Act.put, List.setIfInBounds_toArray, List.set_cons_zero, List.set_cons_succ, i64_w, i32_w]
          rfl
        refine pure_ (i := 3) (N := some 80) (v := undef) (a' := ?_) #[true, true, true, true, false, false, false, false, false, false, false, false, false, false, false] rfl rfl (by kernel_rfl) (fun _ _ _ h => h) (Or.inr ⟨by rfl, rfl⟩) ?_ ?_
        rotate_left
        · simp only [Act.put, List.setIfInBounds_toArray, List.set_cons_zero, List.set_cons_succ, i64_w, i32_w]
          rfl
        refine pure_ (i := 4) (N := some 81) (v := undef) (a' := ?_) #[true, true, true, true, true, false, false, false, false, false, false, false, false, false, false] rfl rfl (by kernel_rfl) (fun _ _ _ h => h) (Or.inr ⟨by rfl, rfl⟩) ?_ ?_
        rotate_left
        · simp only [Act.put, List.setIfInBounds_toArray, List.set_cons_zero, List.set_cons_succ, i64_w, i32_w]
          rfl
        refine pure_ (i := 5) (N := some 82) (v := ?_) (a' := ?_) #[true, true, true, true, true, true, false, false, false, false, false, false, false, false, false] rfl rfl (by kernel_rfl) (fun _ _ _ h => h) (Or.inl ⟨by rfl, ?_⟩) ?_ ?_
        rotate_left
        · intro w'
          go_simp
          with_reducible rfl
        rotate_left
        · simp only [Act.put, List.setIfInBounds_toArray, List.set_cons_zero, List.set_cons_succ, i64_w, i32_w]
          rfl
        refine pure_ (i := 6) (N := some 83) (v := ?_) (a' := ?_) #[true, true, true, true, true, true, true, false, false, false, false, false, false, false, false] rfl rfl (by kernel_rfl) (fun _ _ _ h => h) (Or.inl ⟨by rfl, ?_⟩) ?_ ?_
        rotate_left
        · intro w'
          go_simp
          with_reducible rfl
        rotate_left
        · simp only [Act.put, List.setIfInBounds_toArray, List.set_cons_zero, List.set_cons_succ, i64_w, i32_w]
          rfl
        refine pure_ (i := 7) (N := some 84) (v := ?_) (a' := ?_) #[true, true, true, true, true, true, true, true, false, false, false, false, false, false, false] rfl rfl (by kernel_rfl) (fun _ _ _ h => h) (Or.inl ⟨by rfl, ?_⟩) ?_ ?_
        rotate_left
        · intro w'
          go_simp
          with_reducible rfl
        rotate_left
        · simp only [Act.put, List.setIfInBounds_toArray, List.set_cons_zero, List.set_cons_succ, i64_w, i32_w]
          rfl
        refine pure_ (i := 9) (N := some 86) (v := ?_) (a' := ?_) #[true, true, true, true, true, true, true, true, false, true, false, false, false, false, false] rfl rfl (by kernel_rfl) (fun _ _ _ h => h) (Or.inl ⟨by rfl, ?_⟩) ?_ ?_
        rotate_left
        · intro w'
          go_simp
          with_reducible rfl
        rotate_left
        · simp only [Act.put, List.setIfInBounds_toArray, List.set_cons_zero, List.set_cons_succ, i64_w, i32_w]
          rfl
        refine pure_ (i := 10) (N := some 87) (v := ?_) (a' := ?_) #[true, true, true, true, true, true, true, true, false, true, true, false, false, false, false] rfl rfl (by kernel_rfl) (fun _ _ _ h => h) (Or.inl ⟨by rfl, ?_⟩) ?_ ?_
        rotate_left
        · intro w'
          go_simp
          with_reducible rfl
        rotate_left
        · simp only [Act.put, List.setIfInBounds_toArray, List.set_cons_zero, List.set_cons_succ, i64_w, i32_w]
          rfl
        refine pure_ (i := 11) (N := some 88) (v := ?_) (a' := ?_) #[true, true, true, true, true, true, true, true, false, true, true, true, false, false, false] rfl rfl (by kernel_rfl) (fun _ _ _ h => h) (Or.inl ⟨by rfl, ?_⟩) ?_ ?_
        rotate_left
        · intro w'
          go_simp
          with_reducible rfl
        rotate_left
        · simp only [Act.put, List.setIfInBounds_toArray, List.set_cons_zero, List.set_cons_succ, i64_w, i32_w]
          rfl
        refine one_ (i := 8) (N := some 85) #[true, true, true, true, true, true, true, true, true, true, true, true, false, false, false] rfl rfl (by kernel_rfl) (by decide) (fun K hK => ?_)
        refine goes_ Try.func14 (by kernel_rfl) rfl #[.int .i64 (x : Int)] (by rfl) rfl rfl (by simp only [List.map_toArray, List.map_cons, List.map_nil]; rfl) ?_
        with_reducible refine (cursor_Put.calls kp (x : Int) (vint x) _ HKP.out).mono ?_
        rintro e w14 ⟨v14, rfl, ho14, hb14⟩
        refine ⟨_, rfl, ?_⟩
        obtain ⟨A14, c14, rfl, hl14, hr14⟩ := Kd.R_reads ho14
        have HT14 := Aside0.mk (Kd.C_below (Kd.C_drew HT.out) hb14)
        have HB14 := Aside0.mk (below_step (below_drew1 HB13.out) hb14)
        have HR14 := Aside0.mk hr14
        have HL14 := Aside0.mk hl14
        clear ho14 hb14 hl14 hr14
        refine hK.out _ _ trivial (fun hHeld => ?_)
        clear hK K
        refine norm_ (a' := ?_) ?_ ?_
        rotate_left
        · show Act.put _ (some 85) _ = _
          simp only [Act.put, List.setIfInBounds_toArray, List.set_cons_zero, List.set_cons_succ, i64_w, i32_w]
          rfl
        refine one_ (i := 12) (N := some 89) #[true, true, true, true, true, true, true, true, true, true, true, true, true, false, false] rfl rfl (by kernel_rfl) (by decide) (fun K hK => ?_)
        refine goes_ Try.func13 (by kernel_rfl) rfl #[.slice A14 (vint x).length c14, .slice A2 (vint x).length c2] (by rfl) rfl rfl (by simp only [List.map_toArray, List.map_cons, List.map_nil]; rfl) ?_
        with_reducible refine (hopperref01_Same.calls A14 c14 (vint x) A2 c2 (vint x) true _ HR14.out HL14.out HT14.out HC9.out (same_self _)).mono ?_
        rintro e w15 ⟨rfl, n15, rfl⟩
        refine ⟨_, rfl, ?_⟩
        refine hK.out _ _ trivial (fun hHeld => ?_)
        clear hK K
        refine norm_ (a' := ?_) ?_ ?_
        rotate_left
        · show Act.put _ (some 89) _ = _
          simp only [Act.put, List.setIfInBounds_toArray, List.set_cons_zero, List.set_cons_succ, i64_w, i32_w]
          rfl
        refine pure_ (i := 13) (N := some 90) (v := ?_) (a' := ?_) #[true, true, true, true, true, true, true, true, true, true, true, true, true, true, false] rfl rfl (by kernel_rfl) (fun _ _ _ h => h) (Or.inl ⟨by rfl, ?_⟩) ?_ ?_
        rotate_left
        · intro w'
          go_simp
          with_reducible rfl
        rotate_left
        · simp only [Act.put, List.setIfInBounds_toArray, List.set_cons_zero, List.set_cons_succ, i64_w, i32_w]
          rfl
        refine pure_ (i := 14) (N := some 6) (v := ?_) (a' := ?_) #[true, true, true, true, true, true, true, true, true, true, true, true, true, true, true] rfl rfl (by kernel_rfl) (fun _ _ _ h => h) (Or.inl ⟨by rfl, ?_⟩) ?_ ?_
        rotate_left
        · intro w'
          go_simp
          with_reducible rfl
        rotate_left
        · simp only [Act.put, List.setIfInBounds_toArray, List.set_cons_zero, List.set_cons_succ, i64_w, i32_w]
          rfl
        refine done_ (by kernel_rfl) ?_
        go_wp2
        go_ret
        exact ⟨rfl, by repeat (first | exact HB14.out | apply below_alloc | apply pw_below_drewN | apply below_drew1)⟩
      · rw [if_neg hkl] at hend
        refine (HD10.out.end_ hend).mono ?_
        rintro e w11 ⟨rfl, hc, hk, hb⟩
        have HB12 := Aside0.mk (Cur.wide2 HB10.out hb hlo2.out.2.1)
        have HD12 := Aside0.mk hc
        clear HB10 HD10 hc hb hk hend hkl
        go_wp2_with fail
        refine (HD12.out.left (left_at l2 k 0 hlk.1 hlk.2)).mono ?_
        rintro e w13 ⟨rfl, hc, hk, hb⟩
        have HB13 := Aside0.mk (Cur.wide2 HB12.out hb hlo2.out.2.1)
        clear HB12 HD12 hc hb hk
        have hsub : (l2.length : Int) - ((l2.length - k : Nat) : Int) = (k : Int) := by omega
        have hk0 : ((k : Int) == 0) = false := by have := HK.out.1; simp; omega
        have hk1 : ((k : Int) = 0) = False := by have := HK.out.1; simp; omega
        have hk2 : decide ((k : Int) = 0) = false := by have := HK.out.1; simp; omega
        have hk3 : (k = 0) = False := by have := HK.out.1; simp; omega
        have hk4 : (k == 0) = false := by have := HK.out.1; simp; omega
        have hk5 : decide (k = 0) = false := by have := HK.out.1; simp; omega
        go_wp2_with fail
        obtain ⟨i0, hi0, _, hsz, _⟩ := info_parts info8
        have hcut := cut_to (P := Try.prog) 24 5 .i64 Try.underlying24 hi0 A2 l2.length c2 (k : Int) (by omega) (by omega) HC2.out
        rw [Int.toNat_natCast] at hcut
        have HT := Aside0.mk (Kd.C_take (m := k) (Kd.C_below HR2.out HB13.out) hlk.2)
        rw [HK.out.2.2.1] at HT
        obtain ⟨kp, hkp⟩ := (cput_f x HK.out.2.2.2).rounds
        have HKP := Aside0.mk hkp
        clear hkp hi0 hsz hlk hsub
        have hkv : k = (vint x).length := by rw [← HK.out.2.2.1, List.length_take]; have := HK.out.2.1; omega
        have hcut2 : ∀ W : World, (Instr.slice 24 (.slice A2 l2.length c2) none (some (.int .i64 (k : Int))) none).run Try.prog W = .ok (.slice A2 (vint x).length c2) W := by
          intro W
          rw [hcut W, ← hkv]
        have HC9 : Aside0 ((vint x).length ≤ c2) := ⟨by have := HC2.out; have := HK.out.2.1; omega⟩
        clear hcut hkv
        refine start_ (n := 15) (S := fun w' => True) (ds := []) #[false, false, false, false, false, false, false, false, false, false, false, false, false, false, false] (by kernel_rfl) rfl rfl trivial (fun hHeld => ?_)
        refine pure_ (i := 0) (N := some 77) (v := ?_) (a' := ?_) #[true, false, false, false, false, false, false, false, false, false, false, false, false, false, false] rfl rfl (by kernel_rfl) (fun _ _ _ h => h) (Or.inl ⟨by rfl, ?_⟩) ?_ ?_
        rotate_left
        · intro w'
          go_simp
          with_reducible rfl
        rotate_left
        · simp only [Act.put, List.setIfInBounds_toArray, List.set_cons_zero, List.set_cons_succ, i64_w, i32_w]
          rfl
        refine pure_ (i := 1) (N := some 78) (v := ?_) (a' := ?_) #[true, true, false, false, false, false, false, false, false, false, false, false, false, false, false] rfl rfl (by kernel_rfl) (fun _ _ _ h => h) (Or.inl ⟨by rfl, ?_⟩) ?_ ?_
        rotate_left
        · intro w'
          go_simp
          with_reducible rfl
        rotate_left
        · simp only [Act.put, List.setIfInBounds_toArray, List.set_cons_zero, List.set_cons_succ, i64_w, i32_w]
          rfl
        refine pure_ (i := 2) (N := some 79) (v := ?_) (a' := ?_) #[true, true, true, false, false, false, false, false, false, false, false, false, false, false, false] rfl rfl (by kernel_rfl) (fun _ _ _ h => h) (Or.inl ⟨by rfl, ?_⟩) ?_ ?_
        rotate_left
        · intro w'
          go_simp
          with_reducible rfl
        rotate_left
        · simp only [Act.put, List.setIfInBounds_toArray, List.set_cons_zero, List.set_cons_succ, i64_w, i32_w]
          rfl
        refine pure_ (i := 3) (N := some 80) (v := undef) (a' := ?_) #[true, true, true, true, false, false, false, false, false, false, false, false, false, false, false] rfl rfl (by kernel_rfl) (fun _ _ _ h => h) (Or.inr ⟨by rfl, rfl⟩) ?_ ?_
        rotate_left
        · simp only [Act.put, List.setIfInBounds_toArray, List.set_cons_zero, List.set_cons_succ, i64_w, i32_w]
          rfl
        refine pure_ (i := 4) (N := some 81) (v := undef) (a' := ?_) #[true, true, true, true, true, false, false, false, false, false, false, false, false, false, false] rfl rfl (by kernel_rfl) (fun _ _ _ h => h) (Or.inr ⟨by rfl, rfl⟩) ?_ ?_
        rotate_left
        · simp only [Act.put, List.setIfInBounds_toArray, List.set_cons_zero, List.set_cons_succ, i64_w, i32_w]
          rfl
        refine pure_ (i := 5) (N := some 82) (v := ?_) (a' := ?_) #[true, true, true, true, true, true, false, false, false, false, false, false, false, false, false] rfl rfl (by kernel_rfl) (fun _ _ _ h => h) (Or.inl ⟨by rfl, ?_⟩) ?_ ?_
        rotate_left
        · intro w'
          go_simp
          with_reducible rfl
        rotate_left
        · simp only [Act.put, List.setIfInBounds_toArray, List.set_cons_zero, List.set_cons_succ, i64_w, i32_w]
          rfl
        refine pure_ (i := 6) (N := some 83) (v := ?_) (a' := ?_) #[true, true, true, true, true, true, true, false, false, false, false, false, false, false, false] rfl rfl (by kernel_rfl) (fun _ _ _ h => h) (Or.inl ⟨by rfl, ?_⟩) ?_ ?_
        rotate_left
        · intro w'
          go_simp
          with_reducible rfl
        rotate_left
        · simp only [Act.put, List.setIfInBounds_toArray, List.set_cons_zero, List.set_cons_succ, i64_w, i32_w]
          rfl
        refine pure_ (i := 7) (N := some 84) (v := ?_) (a' := ?_) #[true, true, true, true, true, true, true, true, false, false, false, false, false, false, false] rfl rfl (by kernel_rfl) (fun _ _ _ h => h) (Or.inl ⟨by rfl, ?_⟩) ?_ ?_
        rotate_left
        · intro w'
          go_simp
          with_reducible rfl
        rotate_left
        · simp only [Act.put, List.setIfInBounds_toArray, List.set_cons_zero, List.set_cons_succ, i64_w, i32_w]
          rfl
        refine pure_ (i := 9) (N := some 86) (v := ?_) (a' := ?_) #[true, true, true, true, true, true, true, true, false, true, false, false, false, false, false] rfl rfl (by kernel_rfl) (fun _ _ _ h => h) (Or.inl ⟨by rfl, ?_⟩) ?_ ?_
        rotate_left
        · intro w'
          go_simp
          with_reducible rfl
        rotate_left
        · simp only [Act.put, List.setIfInBounds_toArray, List.set_cons_zero, List.set_cons_succ, i64_w, i32_w]
          rfl
        refine pure_ (i := 10) (N := some 87) (v := ?_) (a' := ?_) #[true, true, true, true, true, true, true, true, false, true, true, false, false, false, false] rfl rfl (by kernel_rfl) (fun _ _ _ h => h) (Or.inl ⟨by rfl, ?_⟩) ?_ ?_
        rotate_left
        · intro w'
          go_simp
          with_reducible rfl
        rotate_left
        · simp only [Act.put, List.setIfInBounds_toArray, List.set_cons_zero, List.set_cons_succ, i64_w, i32_w]
          rfl
        refine pure_ (i := 11) (N := some 88) (v := ?_) (a' := ?_) #[true, true, true, true, true, true, true, true, false, true, true, true, false, false, false] rfl rfl (by kernel_rfl) (fun _ _ _ h => h) (Or.inl ⟨by rfl, ?_⟩) ?_ ?_
        rotate_left
        · intro w'
          go_simp
          with_reducible rfl
        rotate_left
        · simp only [Act.put, List.setIfInBounds_toArray, List.set_cons_zero, List.set_cons_succ, i64_w, i32_w]
          rfl
        refine one_ (i := 8) (N := some 85) #[true, true, true, true, true, true, true, true, true, true, true, true, false, false, false] rfl rfl (by kernel_rfl) (by decide) (fun K hK => ?_)
        refine goes_ Try.func14 (by kernel_rfl) rfl #[.int .i64 (x : Int)] (by rfl) rfl rfl (by simp only [List.map_toArray, List.map_cons, List.map_nil]; rfl) ?_
        with_reducible refine (cursor_Put.calls kp (x : Int) (vint x) _ HKP.out).mono ?_
        rintro e w14 ⟨v14, rfl, ho14, hb14⟩
        refine ⟨_, rfl, ?_⟩
        obtain ⟨A14, c14, rfl, hl14, hr14⟩ := Kd.R_reads ho14
        have HT14 := Aside0.mk (Kd.C_below (Kd.C_drew HT.out) hb14)
        have HB14 := Aside0.mk (below_step (below_drew1 HB13.out) hb14)
        have HR14 := Aside0.mk hr14
        have HL14 := Aside0.mk hl14
        clear ho14 hb14 hl14 hr14
        refine hK.out _ _ trivial (fun hHeld => ?_)
        clear hK K
        refine norm_ (a' := ?_) ?_ ?_
        rotate_left
        · show Act.put _ (some 85) _ = _
          simp only [Act.put, List.setIfInBounds_toArray, List.set_cons_zero, List.set_cons_succ, i64_w, i32_w]
          rfl
        refine one_ (i := 12) (N := some 89) #[true, true, true, true, true, true, true, true, true, true, true, true, true, false, false] rfl rfl (by kernel_rfl) (by decide) (fun K hK => ?_)
        refine goes_ Try.func13 (by kernel_rfl) rfl #[.slice A14 (vint x).length c14, .slice A2 (vint x).length c2] (by rfl) rfl rfl (by simp only [List.map_toArray, List.map_cons, List.map_nil]; rfl) ?_
        with_reducible refine (hopperref01_Same.calls A14 c14 (vint x) A2 c2 (vint x) true _ HR14.out HL14.out HT14.out HC9.out (same_self _)).mono ?_
        rintro e w15 ⟨rfl, n15, rfl⟩
        refine ⟨_, rfl, ?_⟩
        refine hK.out _ _ trivial (fun hHeld => ?_)
        clear hK K
        refine norm_ (a' := ?_) ?_ ?_
        rotate_left
        · show Act.put _ (some 89) _ = _
          simp only [Act.put, List.setIfInBounds_toArray, List.set_cons_zero, List.set_cons_succ, i64_w, i32_w]
          rfl
        refine pure_ (i := 13) (N := some 90) (v := ?_) (a' := ?_) #[true, true, true, true, true, true, true, true, true, true, true, true, true, true, false] rfl rfl (by kernel_rfl) (fun _ _ _ h => h) (Or.inl ⟨by rfl, ?_⟩) ?_ ?_
        rotate_left
        · intro w'
          go_simp
          with_reducible rfl
        rotate_left
        · simp only [Act.put, List.setIfInBounds_toArray, List.set_cons_zero, List.set_cons_succ, i64_w, i32_w]
          rfl
        refine pure_ (i := 14) (N := some 6) (v := ?_) (a' := ?_) #[true, true, true, true, true, true, true, true, true, true, true, true, true, true, true] rfl rfl (by kernel_rfl) (fun _ _ _ h => h) (Or.inl ⟨by rfl, ?_⟩) ?_ ?_
        rotate_left
        · intro w'
          go_simp
          with_reducible rfl
        rotate_left
        · simp only [Act.put, List.setIfInBounds_toArray, List.set_cons_zero, List.set_cons_succ, i64_w, i32_w]
          rfl
        refine done_ (by kernel_rfl) ?_
        go_wp2
        go_ret
        exact ⟨rfl, by repeat (first | exact HB14.out | apply below_alloc | apply pw_below_drewN | apply below_drew1)⟩
    · refine (HD9.out.number hnum).mono ?_
      rintro e w10 ⟨rfl, hc, hk, hb⟩
      have HB10 := Aside0.mk (Cur.wide2 HB9.out hb hlo2.out.2.1)
      have HD10 := Aside0.mk hc
      clear HB9 HD9 hc hb hk hnum
      go_wp2_with fail
      refine (HD10.out.end_ (end_bad l2 _ 2 (by decide))).mono ?_
      rintro e w11 ⟨rfl, hc, hk, hb⟩
      have HB11 := Aside0.mk (Cur.wide2 HB10.out hb hlo2.out.2.1)
      have HD11 := Aside0.mk hc
      clear HB10 HD10 hc hb hk
      go_wp2_with fail
      refine (HD11.out.end_ (end_bad l2 _ 2 (by decide))).mono ?_
      rintro e w12 ⟨rfl, hc, hk, hb⟩
      have HB12 := Aside0.mk (Cur.wide2 HB11.out hb hlo2.out.2.1)
      have HD12 := Aside0.mk hc
      clear HB11 HD11 hc hb hk
      go_wp2_with fail
      refine (HD12.out.left (left_at l2 0 2 (by have := HL.out.1; omega) (by omega))).mono ?_
      rintro e w13 ⟨rfl, hc, hk, hb⟩
      have HB13 := Aside0.mk (Cur.wide2 HB12.out hb hlo2.out.2.1)
      clear HB12 HD12 hc hb hk
      have hsub : (l2.length : Int) - ((l2.length - 0 : Nat) : Int) = 0 := by omega
      go_wp2_with fail
      repeat (go_quiet (fail); try go_wp2)
      go_ret
      exact ⟨rfl, by repeat (first | exact HB13.out | apply below_alloc | apply pw_below_drewN | apply below_drew1)⟩
    · refine (HD9.out.number hnum).mono ?_
      rintro e w10 ⟨rfl, hc, hk, hb⟩
      have HB10 := Aside0.mk (Cur.wide2 HB9.out hb hlo2.out.2.1)
      have HD10 := Aside0.mk hc
      clear HB9 HD9 hc hb hk hnum
      go_wp2_with fail
      refine (HD10.out.end_ (end_bad l2 _ 3 (by decide))).mono ?_
      rintro e w11 ⟨rfl, hc, hk, hb⟩
      have HB11 := Aside0.mk (Cur.wide2 HB10.out hb hlo2.out.2.1)
      have HD11 := Aside0.mk hc
      clear HB10 HD10 hc hb hk
      go_wp2_with fail
      refine (HD11.out.end_ (end_bad l2 _ 3 (by decide))).mono ?_
      rintro e w12 ⟨rfl, hc, hk, hb⟩
      have HB12 := Aside0.mk (Cur.wide2 HB11.out hb hlo2.out.2.1)
      clear HB11 HD11 hc hb hk
      go_wp2_with fail
      go_ret
      exact ⟨rfl, HB12.out⟩
end Go.Proofs.Ytkdncanoajbdgaa.HW
