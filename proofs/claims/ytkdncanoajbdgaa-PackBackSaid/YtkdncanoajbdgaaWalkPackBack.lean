/- PackBack: the law, walked. -/
import Derived.Test.YtkdncanoajbdgaaHCurB
import Derived.Test.YtkdncanoajbdgaaHPackT
import Derived.Test.YtkdncanoajbdgaaPx6
import Derived.Test.YtkdncanoajbdgaaPx10
set_option linter.unusedVariables false
set_option linter.unusedSimpArgs false
namespace Go.Proofs.Ytkdncanoajbdgaa.HW
open Go.RowKit Go.Proofs.Ytkdncanoajbdgaa.P Go.Proofs.Ytkdncanoajbdgaa.HP Go.Proofs.YtkdncanoajbdgaaW.PrintWords Go.Proofs.YtkdncanoajbdgaaW.PrintLast Go.Proofs.YtkdncanoajbdgaaW.PrintMore
attribute [local go_sem] max2_int min2_int max_two min_two max_three min_three max_four min_four
theorem info64 : (Try.prog.info? 3).map (fun i => (i.zero, i.size, i.bytes)) = some (some (.int .i64 0), 1, 8) := by kernel_rfl
theorem may_wf {l : List Int} (h : ∀ x ∈ l, (Lit.int .u32 x).wf = true) : mayL l = true := by
  unfold mayL
  rw [List.all_eq_true]
  intro x hx
  have := h x hx
  simp [Lit.wf, IntKind.min, IntKind.max, IntKind.signed, IntKind.bits] at this
  simp
  omega
set_option maxHeartbeats 8000000 in
set_option maxRecDepth 100000 in
theorem PackBack (A0 : Option Addr) (c0 : Nat) (l0 : List Int) (a1 : Int) (w : World) (hr0 : Kd.C (Kd.int .u32) w A0 l0.length l0) (hc0 : l0.length ≤ c0) (hs0 : l0.length * 4 ≤ 140737488351232) (hw0 : ∀ x ∈ l0, (Lit.int .u32 x).wf = true) (w1 : (Lit.int .u8 a1).wf = true) :
    Calls Try.prog 11 #[.slice A0 l0.length c0, .int .u8 a1] w fun e w' => e = .returned (.bool true) ∧ Below w.heap.size w w' := by
  have ha1 : 0 ≤ a1 ∧ a1 < 256 := by
    simp [Lit.wf, IntKind.min, IntKind.max, IntKind.signed, IntKind.bits] at w1
    omega
  have HM := Aside0.mk (may_wf hw0)
  have HR0 := Aside0.mk hr0
  have HC0 := Aside0.mk hc0
  have HB := Aside0.mk (Below.refl w.heap.size w)
  obtain ⟨ka, hka⟩ := (awake3).rounds
  have HA := Aside0.mk hka
  clear hr0 hc0 hw0 w1 hs0 hka
  by_cases h5 : (l0.length : Int) > 300
  · have t5 : decide (300 < (l0.length : Int)) = true := decide_eq_true h5
    have t5b : decide (300 < l0.length) = true := decide_eq_true (by omega)
    clear h5
    go_enter Try.func11, Try.ntmps11
    go_wp2_with fail
    refine (hopperlaw03_awake.calls ka true _ HA.out).mono ?_
    rintro e w1 ⟨rfl, hb⟩
    have HB1 := Aside0.mk (below_step HB.out hb)
    clear HB hb
    go_wp2_with fail
    refine (hopperlaw03_awake.calls ka true _ HA.out).mono ?_
    rintro e w2 ⟨rfl, hb⟩
    have HB2 := Aside0.mk (below_step HB1.out hb)
    clear HB1 hb
    go_wp2_with fail
    go_ret
    exact ⟨rfl, HB2.out⟩
  have t5 : decide (300 < (l0.length : Int)) = false := decide_eq_false h5
  have t5b : decide (300 < l0.length) = false := decide_eq_false (by omega)
  have HL := Aside0.mk (show l0.length ≤ 300 by omega)
  clear h5
  go_enter Try.func11, Try.ntmps11
  go_wp2_with fail
  refine (hopperlaw03_awake.calls ka true _ HA.out).mono ?_
  rintro e w1 ⟨rfl, hb⟩
  have HB1 := Aside0.mk (below_step HB.out hb)
  clear HB hb
  go_wp2_with fail
  go_loopg [5, 6] (l0.length : Nat) (fun kq v5 v6 w' => ∃ i : Nat, v6 = .int .i64 (i : Int) ∧ Aside0 (i + kq = l0.length) ∧ Aside0 (Kd.R (Kd.int .i64) 3 w' w.heap.size (fun _ => True) v5 (l0.take i)) ∧ Aside0 (Below w.heap.size w w'))
  case atStart => exact ⟨0, rfl, ⟨by omega⟩, ⟨Kd.R_nil _ _ _ _ _⟩, HB1⟩
  case round =>
    clear HB1
    obtain ⟨i, rfl, HI, HO, HB⟩ := hrel
    have hL := HL.out
    cases gk with
    | zero =>
      obtain rfl : i = l0.length := by have := HI.out; omega
      have HO2 := Aside0.mk (show Kd.R (Kd.int .i64) 3 wr w.heap.size (fun _ => True) u5 l0 from by have z := HO.out; rwa [List.take_length] at z)
      clear HO HI
      obtain ⟨Am, cm, rfl, hlm, hrm⟩ := Kd.R_reads HO2.out
      have HRm := Aside0.mk hrm
      have HLm := Aside0.mk hlm
      clear hlm hrm HO2
      have hW := wide_32 HM.out
      have HG := Aside0.mk (wide_good HM.out)
      have HPW := Aside0.mk (pwidth_f l0 (by omega) HM.out)
      generalize hWe : wideL l0 0 = W at *
      obtain ⟨v, hv2, hv3, hv4⟩ : ∃ v : Nat, v ≤ 2 ∧ Int.tmod a1 3 = (v : Int) ∧ a1 % 3 = (v : Int) := ⟨(a1 % 3).toNat, by omega, by rw [Int.tmod_eq_emod_of_nonneg (by omega)]; omega, by omega⟩
      go_wp2_with fail
      refine (pack_Width.calls Am cm l0 (W : Int) _ HRm.out HLm.out HPW.out).mono ?_
      rintro e w3 ⟨rfl, n3, rfl⟩
      by_cases c32 : 32 < W + v
      · have t32 : decide ((32 : Int) < (W : Int) + (v : Int)) = true := decide_eq_true (by omega)
        go_wp2_with fail
        obtain ⟨V, hVI, hVW, hV32⟩ : ∃ V : Nat, (32 : Int) = (V : Int) ∧ W ≤ V ∧ V ≤ 32 := ⟨32, rfl, hW, Nat.le_refl _⟩
        clear c32 t32
        rw [hVI]
        obtain ⟨kq, hkq⟩ := (pput_f V hV32 l0 (by omega)).rounds
        rw [if_pos (good_up hVW HG.out)] at hkq
        obtain ⟨B, HBe⟩ : ∃ B : List Int, Aside0 (B = pack (bitsL V l0)) := ⟨_, ⟨rfl⟩⟩
        have HKQ : Aside0 (pack_Put.f kq l0 (V : Int) = some (B, 0)) := ⟨by rw [hkq, HBe.out]; rfl⟩
        obtain ⟨P, hP, hP2⟩ : ∃ P : Nat, P = l0.length * V ∧ P ≤ 9600 := ⟨_, rfl, by have := Nat.mul_le_mul hL hV32; omega⟩
        have hBl : B.length = (P + 7) / 8 := by rw [HBe.out, pack_length, bitsL_len, ← hP]; rfl
        have hmP : (l0.length : Int) * (V : Int) = (P : Int) := by rw [hP]; push_cast; rfl
        have hm0 : 0 ≤ (l0.length : Int) * (V : Int) := by omega
        have hm1 : (l0.length : Int) * (V : Int) ≤ 9600 := by omega
        have hq : ((l0.length : Int) * (V : Int) + 7) / 8 = (B.length : Int) := by omega
        clear hmP hBl hP2 hP
        obtain ⟨kw, hkw⟩ := (pwrite_f l0 (by omega) HM.out).rounds
        have HKW := Aside0.mk hkw
        clear hkq hkw
        have HBw := Aside0.mk (pw_below_drewN HB.out n3)
        have HR3 := Aside0.mk (Kd.C_drewN HRm.out n3)
        clear HB HRm
        refine (pack_Put.calls kq Am cm l0 (V : Int) B 0 _ HR3.out HLm.out HKQ.out).mono ?_
        rintro e w4 ⟨v4, rfl, ho, hb⟩
        obtain ⟨A4, c4, rfl, hl4, hr4⟩ := Kd.R_reads ho
        have HB4 := Aside0.mk (below_step HBw.out hb)
        have HR4 := Aside0.mk (Kd.C_below HR3.out hb)
        have HX4 := Aside0.mk hr4
        have HL4 := Aside0.mk hl4
        clear HBw HR3 ho hb hr4 hl4
        go_wp2_with fail
        refine (pack_Write.calls kw Am cm l0 (writeL l0) 0 _ HR4.out HLm.out HKW.out).mono ?_
        rintro e w5 ⟨v5, rfl, ho, hb⟩
        obtain ⟨A5, c5, rfl, hl5, hr5⟩ := Kd.R_reads ho
        have HB5 := Aside0.mk (below_step HB4.out hb)
        have HR5 := Aside0.mk (Kd.C_below HR4.out hb)
        have HX5 := Aside0.mk (Kd.C_below HX4.out hb)
        have HY5 := Aside0.mk hr5
        have HL5 := Aside0.mk hl5
        clear HB4 HR4 HX4 ho hb hr5 hl5
        go_wp2_with fail
        go_loopg [12] (l0.length : Nat) (fun kq v12 w' => ∃ i : Nat, v12 = .int .i64 (i : Int) ∧ Aside0 (i + kq = l0.length) ∧ Aside0 (Below w5.heap.size w5 w'))
        case atStart => exact ⟨0, rfl, ⟨by omega⟩, ⟨Below.refl _ _⟩⟩
        case round =>
          obtain ⟨i, rfl, HI, HK⟩ := hrel
          cases gk with
          | zero =>
            obtain rfl : i = l0.length := by have := HI.out; omega
            clear HI HX5
            go_wp2_with fail
            refine (Cur.make A5 c5 (writeL l0) _ (Kd.C_below HY5.out HK.out) HL5.out (by have := writeL_len l0 (by omega) HM.out; omega)).mono ?_
            rintro e w6 ⟨g, rfl, hc, hb⟩
            have hs := below_size HK.out
            obtain ⟨lo, hlo⟩ : ∃ lo, Aside0 (lo = wr.heap.size ∧ w.heap.size ≤ lo) := ⟨_, ⟨rfl, by have := below_size HB5.out; omega⟩⟩
            rw [← hlo.out.1] at hc
            have HB6 := Aside0.mk (below_step (Cur.wide HB5.out HK.out (below_size HB5.out)) hb)
            have HRk := Aside0.mk (Kd.C_below HR5.out HK.out)
            have HBk := Aside0.mk hb
            have HC6 := Aside0.mk hc
            clear HB5 HR5 HK HY5 hc hb hs
            go_wp2_with fail
            obtain ⟨kr, hkr⟩ := (pread_f l0 (by omega) HM.out).rounds
            refine (Cur.read kr HC6.out hkr).mono ?_
            rintro e w7 ⟨v7, rfl, ho, hc, hk, hb⟩
            obtain ⟨A7, c7, rfl, hl7, hr7⟩ := Kd.R_reads ho
            have HB7 := Aside0.mk (Cur.wide2 HB6.out hb hlo.out.2)
            have HR7 := Aside0.mk (Kd.C_below HRk.out (by rw [← hlo.out.1]; exact (by rw [hlo.out.1]; exact HBk.out : Below lo wr w6).trans hb))
            have HX7 := Aside0.mk hr7
            have HL7 := Aside0.mk hl7
            have HC7 := Aside0.mk hc
            clear HB6 HRk HBk HC6 ho hc hk hb hkr hl7 hr7
            go_wp2_with fail
            obtain ⟨ki, hki⟩ := (ints_self l0 (by omega)).rounds
            refine (hopperref03_Ints.calls ki A7 c7 l0 Am cm l0 true _ HX7.out HL7.out HR7.out HLm.out hki).mono ?_
            rintro e w8 ⟨rfl, n8, rfl⟩
            have HC8 := Aside0.mk (HC7.out.below (pw_below_drewN (Below.refl _ _) n8))
            have HB8 := Aside0.mk (pw_below_drewN HB7.out n8)
            clear HC7 HB7 HX7 HL7 hki
            go_wp2_with fail
            have hend := end_at (writeL l0) (writeL l0).length (by have := writeL_len l0 (by omega) HM.out; omega) (Nat.le_refl _)
            rw [if_neg (by omega)] at hend
            refine (HC8.out.end_ hend).mono ?_
            rintro e w9 ⟨rfl, hc, hk, hb⟩
            have HB9 := Aside0.mk (Cur.wide2 HB8.out hb hlo.out.2)
            clear HB8 HC8 hc hk hb hend
            go_wp2_with fail
            go_ret
            exact ⟨rfl, HB9.out⟩
          | succ k1 =>
            have cm : i < l0.length := by have := HI.out; omega
            have c : (i : Int) < (l0.length : Int) := by omega
            have cb : decide ((i : Int) < (l0.length : Int)) = true := decide_eq_true c
            have cb2 : decide (i < l0.length) = true := decide_eq_true cm
            obtain ⟨ad1, e1, hx1⟩ := Kd.at_int HR5.out (i : Int) (by omega) c
            cases e1
            replace hx1 := (HK.out.cell (World.block_lt_of_cell? w5 _ hx1)).trans hx1
            simp only [Int.toNat_natCast] at hx1
            have HXi := Aside0.mk (Kd.C_below HX5.out HK.out)
            obtain ⟨kg, hkg⟩ := (pget_pack V hV32 l0 (by omega) (good_up hVW HG.out) i cm).rounds
            rw [← HBe.out, ← rd_nat l0 i cm] at hkg
            generalize rd l0 (i : Int) = x at *
            have HKG := Aside0.mk hkg
            clear hkg
            go_wp2_with fail
            refine start_ (n := 9) (S := fun w' => w'.cell? (ad1.add i) = some (.int .i64 x)) (ds := []) #[false, false, false, false, false, false, false, false, false] (by kernel_rfl) rfl rfl (hx1) (fun hHeld => ?_)
            refine pure_ (i := 0) (N := some 78) (v := ?_) (a' := ?_) #[true, false, false, false, false, false, false, false, false] rfl rfl (by kernel_rfl) (fun _ _ _ h => h) (Or.inl ⟨by rfl, ?_⟩) ?_ ?_
            rotate_left
            · intro w'
              go_simp
              with_reducible rfl
            rotate_left
            · simp only [Act.put, List.setIfInBounds_toArray, List.set_cons_zero, List.set_cons_succ, i64_w, i32_w]
              rfl
            refine pure_ (i := 1) (N := some 79) (v := ?_) (a' := ?_) #[true, true, false, false, false, false, false, false, false] rfl rfl (by kernel_rfl) (fun _ _ _ h => h) (Or.inl ⟨by rfl, ?_⟩) ?_ ?_
            rotate_left
            · intro w'
              go_simp
              with_reducible rfl
            rotate_left
            · simp only [Act.put, List.setIfInBounds_toArray, List.set_cons_zero, List.set_cons_succ, i64_w, i32_w]
              rfl
            refine pure_ (i := 2) (N := some 80) (v := ?_) (a' := ?_) #[true, true, true, false, false, false, false, false, false] rfl rfl (by kernel_rfl) (fun _ _ _ h => h) (Or.inl ⟨by rfl, ?_⟩) ?_ ?_
            rotate_left
            · intro w'
              go_simp
              with_reducible rfl
            rotate_left
            · simp only [Act.put, List.setIfInBounds_toArray, List.set_cons_zero, List.set_cons_succ, i64_w, i32_w]
              rfl
            refine pure_ (i := 4) (N := some 82) (v := ?_) (a' := ?_) #[true, true, true, false, true, false, false, false, false] rfl rfl (by kernel_rfl) (fun _ _ _ h => h) (Or.inl ⟨by rfl, ?_⟩) ?_ ?_
            rotate_left
            · intro w'
              go_simp
              with_reducible rfl
            rotate_left
            · simp only [Act.put, List.setIfInBounds_toArray, List.set_cons_zero, List.set_cons_succ, i64_w, i32_w]
              rfl
            refine pure_ (i := 5) (N := some 83) (v := ?_) (a' := ?_) #[true, true, true, false, true, true, false, false, false] rfl rfl (by kernel_rfl) (fun _ _ _ h => h) (Or.inl ⟨by rfl, ?_⟩) ?_ ?_
            rotate_left
            · intro w'
              go_simp
              with_reducible rfl
            rotate_left
            · simp only [Act.put, List.setIfInBounds_toArray, List.set_cons_zero, List.set_cons_succ, i64_w, i32_w]
              rfl
            refine pure_ (i := 6) (N := some 84) (v := ?_) (a' := ?_) #[true, true, true, false, true, true, true, false, false] rfl rfl (by kernel_rfl) (fun _ _ _ h => h) (Or.inl ⟨by rfl, ?_⟩) ?_ ?_
            rotate_left
            · intro w'
              go_simp
              with_reducible rfl
            rotate_left
            · simp only [Act.put, List.setIfInBounds_toArray, List.set_cons_zero, List.set_cons_succ, i64_w, i32_w]
              rfl
            refine take_ (i := 7) (N := some 85) (v := ?_) (a' := ?_) #[true, true, true, false, true, true, true, true, false] rfl rfl (by kernel_rfl) (fun _ _ _ h => h) (Or.inl ⟨by rfl, ?_⟩) hHeld ?_ ?_
            rotate_left
            · intro w' s0
              go_simp
              with_reducible rfl
            rotate_left
            · simp only [Act.put, List.setIfInBounds_toArray, List.set_cons_zero, List.set_cons_succ, i64_w, i32_w]
              rfl
            refine one_ (i := 3) (N := some 81) #[true, true, true, true, true, true, true, true, false] rfl rfl (by kernel_rfl) (by decide) (fun K hK => ?_)
            refine goes_ Try.func35 (by kernel_rfl) rfl #[.slice A4 B.length c4, .int .i64 (V : Int), .int .i64 (i : Int)] (by rfl) rfl rfl (by simp only [List.map_toArray, List.map_cons, List.map_nil]; rfl) ?_
            with_reducible refine (pack_Get.calls kg A4 c4 B (V : Int) (i : Int) x _ (Kd.C_drew HXi.out) HL4.out HKG.out).mono ?_
            rintro e w9 ⟨rfl, ⟨nd, rfl⟩⟩
            refine ⟨_, rfl, ?_⟩
            refine hK.out _ _ (hx1) (fun hHeld => ?_)
            clear hK K
            refine norm_ (a' := ?_) ?_ ?_
            rotate_left
            · show Act.put _ (some 81) _ = _
              simp only [Act.put, List.setIfInBounds_toArray, List.set_cons_zero, List.set_cons_succ, i64_w, i32_w]
              rfl
            refine pure_ (i := 8) (N := some 86) (v := ?_) (a' := ?_) #[true, true, true, true, true, true, true, true, true] rfl rfl (by kernel_rfl) (fun _ _ _ h => h) (Or.inl ⟨by rfl, ?_⟩) ?_ ?_
            rotate_left
            · intro w'
              go_simp
              with_reducible rfl
            rotate_left
            · simp only [Act.put, List.setIfInBounds_toArray, List.set_cons_zero, List.set_cons_succ, i64_w, i32_w]
              rfl
            refine done_ (by kernel_rfl) ?_
            go_wp2
            go_roundg k1
            case measure => omega
            case rel => exact ⟨i + 1, (by first | rfl | (simp; done) | go_num), ⟨by have := HI.out; omega⟩, ⟨by repeat (first | exact HK.out | apply below_alloc | apply pw_below_drewN | apply below_drew1)⟩⟩
      · have t32 : decide ((32 : Int) < (W : Int) + (v : Int)) = false := decide_eq_false (by omega)
        go_wp2_with fail
        obtain ⟨V, hVI, hVW, hV32⟩ : ∃ V : Nat, (W : Int) + (v : Int) = (V : Int) ∧ W ≤ V ∧ V ≤ 32 := ⟨W + v, by push_cast; rfl, by omega, by omega⟩
        clear c32 t32
        rw [hVI]
        obtain ⟨kq, hkq⟩ := (pput_f V hV32 l0 (by omega)).rounds
        rw [if_pos (good_up hVW HG.out)] at hkq
        obtain ⟨B, HBe⟩ : ∃ B : List Int, Aside0 (B = pack (bitsL V l0)) := ⟨_, ⟨rfl⟩⟩
        have HKQ : Aside0 (pack_Put.f kq l0 (V : Int) = some (B, 0)) := ⟨by rw [hkq, HBe.out]; rfl⟩
        obtain ⟨P, hP, hP2⟩ : ∃ P : Nat, P = l0.length * V ∧ P ≤ 9600 := ⟨_, rfl, by have := Nat.mul_le_mul hL hV32; omega⟩
        have hBl : B.length = (P + 7) / 8 := by rw [HBe.out, pack_length, bitsL_len, ← hP]; rfl
        have hmP : (l0.length : Int) * (V : Int) = (P : Int) := by rw [hP]; push_cast; rfl
        have hm0 : 0 ≤ (l0.length : Int) * (V : Int) := by omega
        have hm1 : (l0.length : Int) * (V : Int) ≤ 9600 := by omega
        have hq : ((l0.length : Int) * (V : Int) + 7) / 8 = (B.length : Int) := by omega
        clear hmP hBl hP2 hP
        obtain ⟨kw, hkw⟩ := (pwrite_f l0 (by omega) HM.out).rounds
        have HKW := Aside0.mk hkw
        clear hkq hkw
        have HBw := Aside0.mk (pw_below_drewN HB.out n3)
        have HR3 := Aside0.mk (Kd.C_drewN HRm.out n3)
        clear HB HRm
        refine (pack_Put.calls kq Am cm l0 (V : Int) B 0 _ HR3.out HLm.out HKQ.out).mono ?_
        rintro e w4 ⟨v4, rfl, ho, hb⟩
        obtain ⟨A4, c4, rfl, hl4, hr4⟩ := Kd.R_reads ho
        have HB4 := Aside0.mk (below_step HBw.out hb)
        have HR4 := Aside0.mk (Kd.C_below HR3.out hb)
        have HX4 := Aside0.mk hr4
        have HL4 := Aside0.mk hl4
        clear HBw HR3 ho hb hr4 hl4
        go_wp2_with fail
        refine (pack_Write.calls kw Am cm l0 (writeL l0) 0 _ HR4.out HLm.out HKW.out).mono ?_
        rintro e w5 ⟨v5, rfl, ho, hb⟩
        obtain ⟨A5, c5, rfl, hl5, hr5⟩ := Kd.R_reads ho
        have HB5 := Aside0.mk (below_step HB4.out hb)
        have HR5 := Aside0.mk (Kd.C_below HR4.out hb)
        have HX5 := Aside0.mk (Kd.C_below HX4.out hb)
        have HY5 := Aside0.mk hr5
        have HL5 := Aside0.mk hl5
        clear HB4 HR4 HX4 ho hb hr5 hl5
        go_wp2_with fail
        go_loopg [12] (l0.length : Nat) (fun kq v12 w' => ∃ i : Nat, v12 = .int .i64 (i : Int) ∧ Aside0 (i + kq = l0.length) ∧ Aside0 (Below w5.heap.size w5 w'))
        case atStart => exact ⟨0, rfl, ⟨by omega⟩, ⟨Below.refl _ _⟩⟩
        case round =>
          obtain ⟨i, rfl, HI, HK⟩ := hrel
          cases gk with
          | zero =>
            obtain rfl : i = l0.length := by have := HI.out; omega
            clear HI HX5
            go_wp2_with fail
            refine (Cur.make A5 c5 (writeL l0) _ (Kd.C_below HY5.out HK.out) HL5.out (by have := writeL_len l0 (by omega) HM.out; omega)).mono ?_
            rintro e w6 ⟨g, rfl, hc, hb⟩
            have hs := below_size HK.out
            obtain ⟨lo, hlo⟩ : ∃ lo, Aside0 (lo = wr.heap.size ∧ w.heap.size ≤ lo) := ⟨_, ⟨rfl, by have := below_size HB5.out; omega⟩⟩
            rw [← hlo.out.1] at hc
            have HB6 := Aside0.mk (below_step (Cur.wide HB5.out HK.out (below_size HB5.out)) hb)
            have HRk := Aside0.mk (Kd.C_below HR5.out HK.out)
            have HBk := Aside0.mk hb
            have HC6 := Aside0.mk hc
            clear HB5 HR5 HK HY5 hc hb hs
            go_wp2_with fail
            obtain ⟨kr, hkr⟩ := (pread_f l0 (by omega) HM.out).rounds
            refine (Cur.read kr HC6.out hkr).mono ?_
            rintro e w7 ⟨v7, rfl, ho, hc, hk, hb⟩
            obtain ⟨A7, c7, rfl, hl7, hr7⟩ := Kd.R_reads ho
            have HB7 := Aside0.mk (Cur.wide2 HB6.out hb hlo.out.2)
            have HR7 := Aside0.mk (Kd.C_below HRk.out (by rw [← hlo.out.1]; exact (by rw [hlo.out.1]; exact HBk.out : Below lo wr w6).trans hb))
            have HX7 := Aside0.mk hr7
            have HL7 := Aside0.mk hl7
            have HC7 := Aside0.mk hc
            clear HB6 HRk HBk HC6 ho hc hk hb hkr hl7 hr7
            go_wp2_with fail
            obtain ⟨ki, hki⟩ := (ints_self l0 (by omega)).rounds
            refine (hopperref03_Ints.calls ki A7 c7 l0 Am cm l0 true _ HX7.out HL7.out HR7.out HLm.out hki).mono ?_
            rintro e w8 ⟨rfl, n8, rfl⟩
            have HC8 := Aside0.mk (HC7.out.below (pw_below_drewN (Below.refl _ _) n8))
            have HB8 := Aside0.mk (pw_below_drewN HB7.out n8)
            clear HC7 HB7 HX7 HL7 hki
            go_wp2_with fail
            have hend := end_at (writeL l0) (writeL l0).length (by have := writeL_len l0 (by omega) HM.out; omega) (Nat.le_refl _)
            rw [if_neg (by omega)] at hend
            refine (HC8.out.end_ hend).mono ?_
            rintro e w9 ⟨rfl, hc, hk, hb⟩
            have HB9 := Aside0.mk (Cur.wide2 HB8.out hb hlo.out.2)
            clear HB8 HC8 hc hk hb hend
            go_wp2_with fail
            go_ret
            exact ⟨rfl, HB9.out⟩
          | succ k1 =>
            have cm : i < l0.length := by have := HI.out; omega
            have c : (i : Int) < (l0.length : Int) := by omega
            have cb : decide ((i : Int) < (l0.length : Int)) = true := decide_eq_true c
            have cb2 : decide (i < l0.length) = true := decide_eq_true cm
            obtain ⟨ad1, e1, hx1⟩ := Kd.at_int HR5.out (i : Int) (by omega) c
            cases e1
            replace hx1 := (HK.out.cell (World.block_lt_of_cell? w5 _ hx1)).trans hx1
            simp only [Int.toNat_natCast] at hx1
            have HXi := Aside0.mk (Kd.C_below HX5.out HK.out)
            obtain ⟨kg, hkg⟩ := (pget_pack V hV32 l0 (by omega) (good_up hVW HG.out) i cm).rounds
            rw [← HBe.out, ← rd_nat l0 i cm] at hkg
            generalize rd l0 (i : Int) = x at *
            have HKG := Aside0.mk hkg
            clear hkg
            go_wp2_with fail
            refine start_ (n := 9) (S := fun w' => w'.cell? (ad1.add i) = some (.int .i64 x)) (ds := []) #[false, false, false, false, false, false, false, false, false] (by kernel_rfl) rfl rfl (hx1) (fun hHeld => ?_)
            refine pure_ (i := 0) (N := some 78) (v := ?_) (a' := ?_) #[true, false, false, false, false, false, false, false, false] rfl rfl (by kernel_rfl) (fun _ _ _ h => h) (Or.inl ⟨by rfl, ?_⟩) ?_ ?_
            rotate_left
            · intro w'
              go_simp
              with_reducible rfl
            rotate_left
            · simp only [Act.put, List.setIfInBounds_toArray, List.set_cons_zero, List.set_cons_succ, i64_w, i32_w]
              rfl
            refine pure_ (i := 1) (N := some 79) (v := ?_) (a' := ?_) #[true, true, false, false, false, false, false, false, false] rfl rfl (by kernel_rfl) (fun _ _ _ h => h) (Or.inl ⟨by rfl, ?_⟩) ?_ ?_
            rotate_left
            · intro w'
              go_simp
              with_reducible rfl
            rotate_left
            · simp only [Act.put, List.setIfInBounds_toArray, List.set_cons_zero, List.set_cons_succ, i64_w, i32_w]
              rfl
            refine pure_ (i := 2) (N := some 80) (v := ?_) (a' := ?_) #[true, true, true, false, false, false, false, false, false] rfl rfl (by kernel_rfl) (fun _ _ _ h => h) (Or.inl ⟨by rfl, ?_⟩) ?_ ?_
            rotate_left
            · intro w'
              go_simp
              with_reducible rfl
            rotate_left
            · simp only [Act.put, List.setIfInBounds_toArray, List.set_cons_zero, List.set_cons_succ, i64_w, i32_w]
              rfl
            refine pure_ (i := 4) (N := some 82) (v := ?_) (a' := ?_) #[true, true, true, false, true, false, false, false, false] rfl rfl (by kernel_rfl) (fun _ _ _ h => h) (Or.inl ⟨by rfl, ?_⟩) ?_ ?_
            rotate_left
            · intro w'
              go_simp
              with_reducible rfl
            rotate_left
            · simp only [Act.put, List.setIfInBounds_toArray, List.set_cons_zero, List.set_cons_succ, i64_w, i32_w]
              rfl
            refine pure_ (i := 5) (N := some 83) (v := ?_) (a' := ?_) #[true, true, true, false, true, true, false, false, false] rfl rfl (by kernel_rfl) (fun _ _ _ h => h) (Or.inl ⟨by rfl, ?_⟩) ?_ ?_
            rotate_left
            · intro w'
              go_simp
              with_reducible rfl
            rotate_left
            · simp only [Act.put, List.setIfInBounds_toArray, List.set_cons_zero, List.set_cons_succ, i64_w, i32_w]
              rfl
            refine pure_ (i := 6) (N := some 84) (v := ?_) (a' := ?_) #[true, true, true, false, true, true, true, false, false] rfl rfl (by kernel_rfl) (fun _ _ _ h => h) (Or.inl ⟨by rfl, ?_⟩) ?_ ?_
            rotate_left
            · intro w'
              go_simp
              with_reducible rfl
            rotate_left
            · simp only [Act.put, List.setIfInBounds_toArray, List.set_cons_zero, List.set_cons_succ, i64_w, i32_w]
              rfl
            refine take_ (i := 7) (N := some 85) (v := ?_) (a' := ?_) #[true, true, true, false, true, true, true, true, false] rfl rfl (by kernel_rfl) (fun _ _ _ h => h) (Or.inl ⟨by rfl, ?_⟩) hHeld ?_ ?_
            rotate_left
            · intro w' s0
              go_simp
              with_reducible rfl
            rotate_left
            · simp only [Act.put, List.setIfInBounds_toArray, List.set_cons_zero, List.set_cons_succ, i64_w, i32_w]
              rfl
            refine one_ (i := 3) (N := some 81) #[true, true, true, true, true, true, true, true, false] rfl rfl (by kernel_rfl) (by decide) (fun K hK => ?_)
            refine goes_ Try.func35 (by kernel_rfl) rfl #[.slice A4 B.length c4, .int .i64 (V : Int), .int .i64 (i : Int)] (by rfl) rfl rfl (by simp only [List.map_toArray, List.map_cons, List.map_nil]; rfl) ?_
            with_reducible refine (pack_Get.calls kg A4 c4 B (V : Int) (i : Int) x _ (Kd.C_drew HXi.out) HL4.out HKG.out).mono ?_
            rintro e w9 ⟨rfl, ⟨nd, rfl⟩⟩
            refine ⟨_, rfl, ?_⟩
            refine hK.out _ _ (hx1) (fun hHeld => ?_)
            clear hK K
            refine norm_ (a' := ?_) ?_ ?_
            rotate_left
            · show Act.put _ (some 81) _ = _
              simp only [Act.put, List.setIfInBounds_toArray, List.set_cons_zero, List.set_cons_succ, i64_w, i32_w]
              rfl
            refine pure_ (i := 8) (N := some 86) (v := ?_) (a' := ?_) #[true, true, true, true, true, true, true, true, true] rfl rfl (by kernel_rfl) (fun _ _ _ h => h) (Or.inl ⟨by rfl, ?_⟩) ?_ ?_
            rotate_left
            · intro w'
              go_simp
              with_reducible rfl
            rotate_left
            · simp only [Act.put, List.setIfInBounds_toArray, List.set_cons_zero, List.set_cons_succ, i64_w, i32_w]
              rfl
            refine done_ (by kernel_rfl) ?_
            go_wp2
            go_roundg k1
            case measure => omega
            case rel => exact ⟨i + 1, (by first | rfl | (simp; done) | go_num), ⟨by have := HI.out; omega⟩, ⟨by repeat (first | exact HK.out | apply below_alloc | apply pw_below_drewN | apply below_drew1)⟩⟩
    | succ k1 =>
      have cm : i < l0.length := by have := HI.out; omega
      have c : (i : Int) < (l0.length : Int) := by omega
      have cb : decide ((i : Int) < (l0.length : Int)) = true := decide_eq_true c
      have cb2 : decide (i < l0.length) = true := decide_eq_true cm
      obtain ⟨ad1, e1, hx1⟩ := Kd.at_int HR0.out (i : Int) (by omega) c
      cases e1
      replace hx1 := (HB.out.cell (World.block_lt_of_cell? w _ hx1)).trans hx1
      simp only [Int.toNat_natCast] at hx1
      have hx := may_mem HM.out (rd l0 (i : Int)) (by rw [rd_nat l0 i cm]; exact List.getElem_mem _)
      have HT : Aside0 (l0.take (i + 1) = l0.take i ++ [rd l0 (i : Int)]) := ⟨by rw [List.take_succ_eq_append_getElem cm, rd_nat l0 i cm]⟩
      generalize rd l0 (i : Int) = x at *
      have hx0 := hx.1
      have hx9 := hx.2
      go_wp2_with (first | ((with_reducible refine gate_builtin (b := .append) (xs := #[.tmp 28, .tmp 34]) rfl ?_); at_builtin; refine Kd.R_append (Kd.int .i64) (w0 := w) w.heap.size rfl (.tmp 28) (.tmp 34) 44 3 (.int .i64 0) 8 rfl Try.underlying44 info64 rfl (by decide) (by omega) u5 (l0.take i) x [.int .i64 x] (fun _ => True) (fun _ => False) rfl rfl ?aP (fun _ hk => hk.elim) ?aF ?aO ?aB ?aS ?aL ?_; (case aP => exact rfl); (case aB => exact HB.out); (case aF => exact (fun _ _ => trivial)); (case aO => exact HO.out); (case aS => exact below_size HB.out); (case aL => simp; omega); intro v117 w9 ho hb hg hat; have n0_ := Aside0.mk hb; have n1_ := Aside0.mk ho; clear HB; clear HO; have HB := n0_; have HO := n1_; clear n0_ n1_; clear ho hb hg hat))
      go_roundg k1
      case measure => omega
      case rel => exact ⟨i + 1, (by first | rfl | (simp; done) | go_num), ⟨by have := HI.out; omega⟩, ⟨by rw [HT.out]; exact HO.out⟩, HB⟩
end Go.Proofs.Ytkdncanoajbdgaa.HW
