/- Law 07's awake, walked. -/
import Derived.Test.YtpbplflocdhahaaHeapD
set_option linter.unusedVariables false
set_option linter.unusedSimpArgs false
namespace Go.Proofs.Ytpbplflocdhahaa.HW
open Go.RowKit Go.Proofs.Ytpbplflocdhahaa.P Go.Proofs.Ytpbplflocdhahaa.HP Go.Proofs.YtpbplflocdhahaaW.PrintWords Go.Proofs.YtpbplflocdhahaaW.PrintLast Go.Proofs.YtpbplflocdhahaaW.PrintMore
attribute [local go_sem] max2_int min2_int max_two min_two max_three min_three max_four min_four
theorem cs1 : cs (⟨#[116, 104, 105, 114, 116, 101, 101, 110, 32, 108, 111, 110, 103]⟩ : ByteArray) (⟨#[115, 104, 111, 114, 116]⟩ : ByteArray) = 1 := by decide +kernel
theorem b13 : (bytesOf (⟨#[116, 104, 105, 114, 116, 101, 101, 110, 32, 108, 111, 110, 103]⟩ : ByteArray)).length = 13 := by decide +kernel
theorem getD_nil : (none : Option (List Int)).getD [] = [] := rfl
set_option maxHeartbeats 8000000 in
set_option maxRecDepth 100000 in
theorem law7_awake (w : World) : Calls Try.prog 8 #[] w fun e w' => e = .returned (.bool true) ∧ Below w.heap.size w w' := by
  have hz := zero16
  obtain ⟨Z, hZ⟩ : ∃ Z, Z = cel z16 := ⟨_, rfl⟩
  rw [← hZ] at hz
  have HSZ : Aside0 (Z.size = 16) := ⟨by rw [hZ]; rfl⟩
  have H1Z : Aside0 (Z.all (·.oneCell') = true) := ⟨by rw [hZ]; exact cel_one _⟩
  have HZE := Aside0.mk hZ
  have hgd := guard16
  obtain ⟨C, hC⟩ : ∃ C, C = cel (mkB (⟨#[116, 104, 105, 114, 116, 101, 101, 110, 32, 108, 111, 110, 103]⟩ : ByteArray) 0 (0 : Int)) := ⟨_, rfl⟩
  have HSC : Aside0 (C.size = 16) := ⟨by rw [hC, cel_size, mkB_len _ _ _ (by decide)]⟩
  have H1C : Aside0 (C.all (·.oneCell') = true) := ⟨by rw [hC]; exact cel_one _⟩
  obtain ⟨D, hD⟩ : ∃ D, D = cel (mkS (⟨#[115, 104, 111, 114, 116]⟩ : ByteArray)) := ⟨_, rfl⟩
  have HSD : Aside0 (D.size = 16) := ⟨by rw [hD, cel_size, mkS_len _ (by decide)]⟩
  have H1D : Aside0 (D.all (·.oneCell') = true) := ⟨by rw [hD]; exact cel_one _⟩
  have HA1 := Aside0.mk (fun (lo g : Nat) (W : World) (h : Hp lo W g none 100) (hlo : lo ≤ W.heap.size) => h.add_long (⟨#[116, 104, 105, 114, 116, 101, 101, 110, 32, 108, 111, 110, 103]⟩ : ByteArray) W hlo (by decide) (by decide) (by omega) (by decide) (by decide))
  simp only [getD_nil, List.nil_append, List.length_nil, Int.natCast_zero] at HA1
  rw [← hC] at HA1
  have HA2 := Aside0.mk (fun (g : Nat) (W : World) => add_short g (⟨#[115, 104, 111, 114, 116]⟩ : ByteArray) W (by decide))
  rw [← hD] at HA2
  obtain ⟨b, hb13⟩ : ∃ b, b = bytesOf (⟨#[116, 104, 105, 114, 116, 101, 101, 110, 32, 108, 111, 110, 103]⟩ : ByteArray) := ⟨_, rfl⟩
  rw [← hb13] at HA1
  have HBL : Aside0 (b.length = 13) := ⟨by rw [hb13]; exact b13⟩
  have hHC : Holds (some b) (mkB (⟨#[116, 104, 105, 114, 116, 101, 101, 110, 32, 108, 111, 110, 103]⟩ : ByteArray) 0 (0 : Int)) (⟨#[116, 104, 105, 114, 116, 101, 101, 110, 32, 108, 111, 110, 103]⟩ : ByteArray) := ⟨vw_B (⟨#[116, 104, 105, 114, 116, 101, 101, 110, 32, 108, 111, 110, 103]⟩ : ByteArray) 0 (by decide) (by decide) (by omega), by decide, .inr ⟨by decide, b, 0, rfl, rfl, by rw [hb13]; decide +kernel, by omega, by rw [hb13]; decide +kernel, by rw [hb13]; decide +kernel⟩⟩
  have hHD : Holds (some b) (mkS (⟨#[115, 104, 111, 114, 116]⟩ : ByteArray)) (⟨#[115, 104, 111, 114, 116]⟩ : ByteArray) := holds_S _ _ (by decide)
  have HG1 := Aside0.mk (fun (lo g : Nat) (W : World) (h : Hp lo W g (some b) 100) => h.get _ _ W hHC)
  have HG2 := Aside0.mk (fun (lo g : Nat) (W : World) (h : Hp lo W g (some b) 100) => h.get _ _ W hHD)
  have HCM := Aside0.mk (fun (lo g : Nat) (W : World) (h : Hp lo W g (some b) 100) => h.compare _ _ _ _ W hHC hHD)
  have HEQ := Aside0.mk (fun (lo g : Nat) (W : World) (h : Hp lo W g (some b) 100) => h.equal _ _ _ _ W hHC hHC)
  rw [← hC] at HG1 HCM HEQ
  rw [← hD] at HG2 HCM
  rw [cs1] at HCM
  rw [decide_eq_true rfl] at HEQ
  have HFL := Aside0.mk (fun (lo g : Nat) (s : ByteArray) (W : World) (h : Hp lo W g (some b) 100) (hs : s.size = 90) => h.add_full s W (by omega) (by omega) (by omega) (by show b.length ≤ 1000000; have := HBL.out; omega) (by show (100 : Int) - (b.length : Int) < (s.size : Int); have := HBL.out; omega))
  rw [← hZ] at HFL
  have HSI := Aside0.mk (fun (lo g : Nat) (W : World) (h : Hp lo W g (some b) 100) => h.size W)
  have HBY := Aside0.mk (fun (lo g : Nat) (W : World) (h : Hp lo W g (some b) 100) => h.bytes W (by have := HBL.out; omega))
  simp only [Option.getD_some] at HSI
  rw [HBL.out] at HSI HBY
  clear hC hD hZ hb13 hHC hHD
  go_enter Try.func8, Try.ntmps8
  go_wp2_with fail
  refine (Hp.new 100 _ (by omega)).mono ?_
  rintro e w1 ⟨g, rfl, hh, hb⟩
  have HB1 := Aside0.mk hb
  have HH1 := Aside0.mk hh
  clear hh hb
  go_wp2_with fail
  refine (HA1.out _ g _ HH1.out (below_size HB1.out)).mono ?_
  rintro e w2 ⟨rfl, hh, hb, _⟩
  have HBx := Aside0.mk (HB1.out.trans hb)
  have HM2 := Aside0.mk (blk_new w2 (.cells Z 28))
  have HV2 := Aside0.mk (setRow_heap _ _ _ C _ _ HM2.out)
  have hbw := below_row (below_alloc (Below.refl w2.heap.size w2) (.cells Z 28)) (Nat.le_refl _) C
  have HH2 := Aside0.mk (hh.below hbw)
  have HB2 := Aside0.mk (below_step HBx.out hbw)
  clear hh hb hbw HH1 HB1
  go_wp2_with (first | ((with_reducible refine gate_store (t := 28) (p := 2) rfl ?_); refine wpList_store_row rfl 28 _ _ rfl w2.heap.size C (by rfl) (by rfl) 28 Z HM2.out (by rw [info16, HSC.out]) (HSZ.out.trans HSC.out.symm) H1C.out ?_))
  refine (HA2.out g _).mono ?_
  rintro e w3 ⟨rfl, hb⟩
  have HM3 := Aside0.mk (blk_new w3 (.cells Z 28))
  have HU3 := Aside0.mk (setRow_heap _ _ _ D _ _ HM3.out)
  have hbw := below_row (below_alloc (Below.refl w3.heap.size w3) (.cells Z 28)) (Nat.le_refl _) D
  have HH3 := Aside0.mk ((HH2.out.below hb).below hbw)
  have HV3 := Aside0.mk ((hbw.block _ (blk_lt ((hb.block _ (blk_lt HV2.out)).trans HV2.out))).trans ((hb.block _ (blk_lt HV2.out)).trans HV2.out))
  have HB3 := Aside0.mk (below_step (below_step HB2.out hb) hbw)
  clear hb hbw
  go_wp2_with (first | ((with_reducible refine gate_store (t := 28) (p := 4) rfl ?_); refine wpList_store_row rfl 28 _ _ rfl w3.heap.size D (by rfl) (by rfl) 28 Z HM3.out (by rw [info16, HSD.out]) (HSZ.out.trans HSD.out.symm) H1D.out ?_) | ((with_reducible refine gate_dst (N := 27) rfl ?_); refine wpList_load_row rfl 28 _ rfl w2.heap.size (by rfl) 28 C (0, 0) _ HV3.out Try.underlying28 rfl (by rw [info16, HSC.out]) ?_))
  refine (HG1.out _ g _ HH3.out).mono ?_
  rintro e w4 ⟨rfl, hb⟩
  have HH4 := Aside0.mk (HH3.out.below hb)
  have HV4 := Aside0.mk ((hb.block _ (blk_lt HV3.out)).trans HV3.out)
  have HU4 := Aside0.mk ((hb.block _ (blk_lt HU3.out)).trans HU3.out)
  have HB4 := Aside0.mk (below_step HB3.out hb)
  clear hb
  go_wp2_with (first | ((with_reducible refine gate_dst (N := 33) rfl ?_); refine wpList_load_row rfl 28 _ rfl w3.heap.size (by rfl) 28 D (0, 0) _ HU4.out Try.underlying28 rfl (by rw [info16, HSD.out]) ?_))
  refine (HG2.out _ g _ HH4.out).mono ?_
  rintro e w5 ⟨rfl, hb⟩
  have HH5 := Aside0.mk (HH4.out.below hb)
  have HV5 := Aside0.mk ((hb.block _ (blk_lt HV4.out)).trans HV4.out)
  have HU5 := Aside0.mk ((hb.block _ (blk_lt HU4.out)).trans HU4.out)
  have HB5 := Aside0.mk (below_step HB4.out hb)
  clear hb
  go_wp2_with (first | ((with_reducible refine gate_dst (N := 39) rfl ?_); refine Kd.R_make (Kd.int .u8) _ 5 rfl (N := 39) rfl 36 _ _ rfl 90 rfl rfl Try.underlying36 (.int .u8 0) 1 info8 rfl (by decide) (by omega) 0 (ok := fun _ => True) (okp := fun _ => True) rfl (fun _ hk => hk) trivial (by decide) (by decide) (Below.refl _ _) (Nat.le_refl _) ?_; intro v39 w6 ho hb hg_ hnew_; have HO6 := Aside0.mk ho; have HB6 := Aside0.mk (below_step HB5.out hb); have HH6 := Aside0.mk (HH5.out.below hb); have HV6 := Aside0.mk ((hb.block _ (blk_lt HV5.out)).trans HV5.out); have HU6 := Aside0.mk ((hb.block _ (blk_lt HU5.out)).trans HU5.out); clear ho hb hg_ hnew_; obtain ⟨A6, c6, rfl, hl6, hr6⟩ := Kd.R_reads HO6.out; have hcv6 := Kd.C_string (P := Try.prog) (c := c6) Try.underlying36 Try.underlying5 Try.underlying9 hr6; have hl90 : (List.replicate (Int.toNat 90) (0 : Int)).length = 90 := (by simp); rw [hl90] at hcv6; obtain ⟨S9, hS9⟩ : ∃ S, S = strOfNums (List.replicate (Int.toNat 90) (0 : Int)) := ⟨_, rfl⟩; rw [← hS9] at hcv6; have HS9 : Aside0 (S9.size = 90) := ⟨by rw [hS9, str_size, hl90]⟩; clear hl6 hr6 hl90 hS9))
  refine (HFL.out _ g S9 _ HH6.out HS9.out).mono ?_
  rintro e w7 ⟨rfl, hb⟩
  have HM7 := Aside0.mk (blk_new w7 (.cells Z 28))
  have HH7 := Aside0.mk (HH6.out.below hb)
  have HV7 := Aside0.mk ((hb.block _ (blk_lt HV6.out)).trans HV6.out)
  have HU7 := Aside0.mk ((hb.block _ (blk_lt HU6.out)).trans HU6.out)
  have HB7 := Aside0.mk (below_step HB6.out hb)
  have hbw := below_row (below_alloc (Below.refl w7.heap.size w7) (.cells Z 28)) (Nat.le_refl _) Z
  have HH8 := Aside0.mk (HH7.out.below hbw)
  have HV8 := Aside0.mk ((hbw.block _ (blk_lt HV7.out)).trans HV7.out)
  have HU8 := Aside0.mk ((hbw.block _ (blk_lt HU7.out)).trans HU7.out)
  have HB8 := Aside0.mk (below_step HB7.out hbw)
  clear hb hbw hcv6
  go_wp2_with (first | ((with_reducible refine gate_store (t := 28) (p := 10) rfl ?_); refine wpList_store_row rfl 28 _ _ rfl w7.heap.size Z (by rfl) (by rfl) 28 Z HM7.out (by rw [info16, HSZ.out]) (HSZ.out.trans HSZ.out.symm) H1Z.out ?_))
  refine (HSI.out _ g _ HH8.out).mono ?_
  rintro e w9 ⟨rfl, hb⟩
  have HH9 := Aside0.mk (HH8.out.below hb)
  have HV9 := Aside0.mk ((hb.block _ (blk_lt HV8.out)).trans HV8.out)
  have HU9 := Aside0.mk ((hb.block _ (blk_lt HU8.out)).trans HU8.out)
  have HB9 := Aside0.mk (below_step HB8.out hb)
  clear hb
  go_wp2_with (first | ((with_reducible refine gate_dst (N := 75) rfl ?_); refine Go.BigFrame.wpList_want ?hw (fun K hK => ?_); (case hw => rfl); refine wp_load_row 28 _ rfl w2.heap.size ?hx 28 C (0, 0) _ HV9.out Try.underlying28 rfl ?hi ?_; (case hx => rfl); (case hi => rw [info16, HSC.out]); refine hK _ _ ?_; clear hK K) | ((with_reducible refine gate_dst (N := 76) rfl ?_); refine Go.BigFrame.wpList_want ?hw (fun K hK => ?_); (case hw => rfl); refine wp_load_row 28 _ rfl w3.heap.size ?hx 28 D (0, 0) _ HU9.out Try.underlying28 rfl ?hi ?_; (case hx => rfl); (case hi => rw [info16, HSD.out]); refine hK _ _ ?_; clear hK K))
  refine (HCM.out _ g _ HH9.out).mono ?_
  rintro e w10 ⟨rfl, hb⟩
  have HH10 := Aside0.mk (HH9.out.below hb)
  have HV10 := Aside0.mk ((hb.block _ (blk_lt HV9.out)).trans HV9.out)
  have HU10 := Aside0.mk ((hb.block _ (blk_lt HU9.out)).trans HU9.out)
  have HB10 := Aside0.mk (below_step HB9.out hb)
  clear hb
  go_wp2_with (first | ((with_reducible refine gate_dst (N := 82) rfl ?_); refine Go.BigFrame.wpList_want ?hw (fun K hK => ?_); (case hw => rfl); refine wp_load_row 28 _ rfl w2.heap.size ?hx 28 C (0, 0) _ HV10.out Try.underlying28 rfl ?hi ?_; (case hx => rfl); (case hi => rw [info16, HSC.out]); refine hK _ _ ?_; clear hK K) | ((with_reducible refine gate_dst (N := 83) rfl ?_); refine Go.BigFrame.wpList_want ?hw (fun K hK => ?_); (case hw => rfl); refine wp_load_row 28 _ rfl w2.heap.size ?hx 28 C (0, 0) _ HV10.out Try.underlying28 rfl ?hi ?_; (case hx => rfl); (case hi => rw [info16, HSC.out]); refine hK _ _ ?_; clear hK K))
  refine (HEQ.out _ g _ HH10.out).mono ?_
  rintro e w11 ⟨rfl, hb⟩
  have HH11 := Aside0.mk (HH10.out.below hb)
  have HV11 := Aside0.mk ((hb.block _ (blk_lt HV10.out)).trans HV10.out)
  have HU11 := Aside0.mk ((hb.block _ (blk_lt HU10.out)).trans HU10.out)
  have HB11 := Aside0.mk (below_step HB10.out hb)
  clear hb
  go_wp2_with fail
  refine (HBY.out _ g _ HH11.out).mono ?_
  rintro e w12 ⟨A12, c12, rfl, hl12, hr12, hb⟩
  have HB12 := Aside0.mk (below_step HB11.out hb)
  clear hl12 hr12 hb
  go_wp2_with fail
  go_ret
  exact ⟨rfl, HB12.out⟩
end Go.Proofs.Ytpbplflocdhahaa.HW
