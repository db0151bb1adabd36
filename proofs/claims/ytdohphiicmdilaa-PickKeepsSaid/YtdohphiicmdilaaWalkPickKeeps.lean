/- PickKeeps: the law, walked. -/
import Derived.Test.YtdohphiicmdilaaHPickK
import Derived.Test.YtdohphiicmdilaaPx2
import Derived.Test.YtdohphiicmdilaaPx3
import Derived.Test.YtdohphiicmdilaaPx1
set_option linter.unusedVariables false
set_option linter.unusedSimpArgs false
namespace Go.Proofs.Ytdohphiicmdilaa.HW
open Go.RowKit Go.Proofs.Ytdohphiicmdilaa.P Go.Proofs.Ytdohphiicmdilaa.HP Go.Proofs.YtdohphiicmdilaaW.PrintWords Go.Proofs.YtdohphiicmdilaaW.PrintLast Go.Proofs.YtdohphiicmdilaaW.PrintMore
attribute [local go_sem] max2_int min2_int max_two min_two max_three min_three max_four min_four
set_option maxHeartbeats 8000000 in
set_option maxRecDepth 100000 in
theorem PickKeeps (A0 : Option Addr) (c0 : Nat) (l0 : List Bool) (w : World) (hr0 : Kd.C Kd.bool w A0 l0.length l0) (hc0 : l0.length ≤ c0) (hs0 : l0.length ≤ 140737488351232) :
    Calls Try.prog 11 #[.slice A0 l0.length c0] w fun e w' => e = .returned (.bool true) ∧ Below w.heap.size w w' := by
  have HR0 := Aside0.mk hr0
  have HC0 := Aside0.mk hc0
  have HB := Aside0.mk (Below.refl w.heap.size w)
  obtain ⟨ka, hka⟩ := (awake5).rounds
  have HA := Aside0.mk hka
  clear hr0 hc0 hs0 hka
  by_cases h5 : (l0.length : Int) > 500
  · have t5 : decide (500 < (l0.length : Int)) = true := decide_eq_true h5
    have t5b : decide (500 < l0.length) = true := decide_eq_true (by omega)
    clear h5
    go_enter Try.func11, Try.ntmps11
    go_wp2_with fail
    refine (hopperlaw05_awake.calls ka true _ HA.out).mono ?_
    rintro e w1 ⟨rfl, hb⟩
    have HB1 := Aside0.mk (below_step HB.out hb)
    clear HB hb
    go_wp2_with fail
    refine (hopperlaw05_awake.calls ka true _ HA.out).mono ?_
    rintro e w2 ⟨rfl, hb⟩
    have HB2 := Aside0.mk (below_step HB1.out hb)
    clear HB1 hb
    go_wp2_with fail
    go_ret
    exact ⟨rfl, HB2.out⟩
  have t5 : decide (500 < (l0.length : Int)) = false := decide_eq_false h5
  have t5b : decide (500 < l0.length) = false := decide_eq_false (by omega)
  have HL := Aside0.mk (show l0.length ≤ 500 by omega)
  clear h5
  go_enter Try.func11, Try.ntmps11
  go_wp2_with fail
  refine (hopperlaw05_awake.calls ka true _ HA.out).mono ?_
  rintro e w1 ⟨rfl, hb⟩
  have HB1 := Aside0.mk (below_step HB.out hb)
  clear HB hb
  go_wp2_with fail
  obtain ⟨x, HXe⟩ : ∃ x, Aside0 (x = pl l0) := ⟨_, ⟨rfl⟩⟩
  have HXL : Aside0 (x.length ≤ 500) := ⟨by rw [HXe.out]; have := plf_len l0 0; have := HL.out; unfold pl; omega⟩
  obtain ⟨kp, hkp⟩ := (places_f l0 (by have := HL.out; omega)).rounds
  rw [← HXe.out] at hkp
  have HKP := Aside0.mk hkp
  refine (hopperlaw05_places.calls kp A0 c0 l0 x _ (Kd.C_below HR0.out HB1.out) HC0.out HKP.out).mono ?_
  rintro e w2 ⟨v2, rfl, ho, hb⟩
  obtain ⟨Ax, cx, rfl, hlx, hrx⟩ := Kd.R_reads ho
  obtain ⟨L1, hL1⟩ : ∃ L, Aside0 (L = w2.heap.size) := ⟨_, ⟨rfl⟩⟩
  have HX2 : Aside0 (Kd.R (Kd.int .i64) 3 w2 w.heap.size (fun k => k < L1) (.slice Ax x.length cx) x) := ⟨Kd.R_lower (Kd.R_mono (Kd.R_bound ho) (fun k h => by rw [hL1.out]; exact h.2.2.1)) (below_size HB1.out)⟩
  have HB2 := Aside0.mk (below_step HB1.out hb)
  have HCx := Aside0.mk hlx
  clear HB1 hkp ho hb hlx hrx
  go_wp2_with fail
  obtain ⟨r1, hr1e⟩ : ∃ r1, pick_And.f x x = some r1 := ⟨pick_And.z x x, by unfold pick_And.f; rw [if_pos (by have := HXL.out; omega)]⟩
  refine (pick_And.calls Ax cx x Ax cx x r1 _ (Kd.R_reads' HX2.out).2.2 HCx.out (Kd.R_reads' HX2.out).2.2 HCx.out hr1e).mono ?_
  rintro e w3 ⟨v3, rfl, ho, hb⟩
  obtain ⟨A1, c1, rfl, hl1, hrr1⟩ := Kd.R_reads ho
  obtain ⟨L2, hL2⟩ : ∃ L, Aside0 (L = w3.heap.size) := ⟨_, ⟨rfl⟩⟩
  have HN12 : Aside0 (L1 ≤ L2) := ⟨by rw [hL1.out, hL2.out]; exact below_size hb⟩
  have HO1_3 : Aside0 (Kd.R (Kd.int .i64) 3 w3 w.heap.size (fun k => L1 ≤ k ∧ k < L2) (.slice A1 r1.length c1) r1) := ⟨Kd.R_lower (Kd.R_mono (Kd.R_bound ho) (fun k h => by rw [hL1.out, hL2.out]; exact ⟨h.2.1, h.2.2.1⟩)) (below_size HB2.out)⟩
  have HX3 := Aside0.mk (Kd.R_below HX2.out hb)
  have HB3 := Aside0.mk (below_step HB2.out hb)
  clear HB2 HX2 ho hb hl1 hrr1 hr1e
  go_wp2_with fail
  obtain ⟨ko, hko⟩ := (or_l _ x x [] rfl (by have := HXL.out; simp; omega)).rounds
  obtain ⟨r2, HR2e⟩ : ∃ r2, Aside0 (r2 = [] ++ orL x x) := ⟨_, ⟨rfl⟩⟩
  rw [← HR2e.out] at hko
  have HKO : Aside0 (pick_Or.f ko x x = some r2) := ⟨hko⟩
  refine (pick_Or.calls ko (fun _ => True) Ax cx x (fun _ => True) Ax cx x r2 _ (Kd.R_V (Kd.R_mono HX3.out (fun _ _ => trivial))) (Kd.R_V (Kd.R_mono HX3.out (fun _ _ => trivial))) HKO.out).mono ?_
  rintro e w4 ⟨v4, rfl, ho, hb⟩
  obtain ⟨A2, c2, rfl, hl2, hrr2⟩ := Kd.R_reads ho
  obtain ⟨L3, hL3⟩ : ∃ L, Aside0 (L = w4.heap.size) := ⟨_, ⟨rfl⟩⟩
  have HN23 : Aside0 (L2 ≤ L3) := ⟨by rw [hL2.out, hL3.out]; exact below_size hb⟩
  have HO2_4 : Aside0 (Kd.R (Kd.int .i64) 3 w4 w.heap.size (fun k => L2 ≤ k ∧ k < L3) (.slice A2 r2.length c2) r2) := ⟨Kd.R_lower (Kd.R_mono (Kd.R_bound ho) (fun k h => by rw [hL2.out, hL3.out]; exact ⟨h.2.1, h.2.2.1⟩)) (below_size HB3.out)⟩
  have HX4 := Aside0.mk (Kd.R_below HX3.out hb)
  have HO1_4 := Aside0.mk (Kd.R_below HO1_3.out hb)
  have HB4 := Aside0.mk (below_step HB3.out hb)
  clear HB3 HX3 HO1_3 ho hb hl2 hrr2 hko
  go_wp2_with fail
  obtain ⟨kn, hkn⟩ := (not_nil_f x.length (by have := HXL.out; omega)).rounds
  refine (pick_Not.calls kn (fun _ => True) none 0 [] (x.length : Int) (iota x.length) _ (Kd.R_V (Kd.R_nil _ _ _ 0 (fun _ => True))) hkn).mono ?_
  rintro e w5 ⟨v5, rfl, ho, hb⟩
  obtain ⟨A5, c5, rfl, hl5, hrr5⟩ := Kd.R_reads ho
  have HX5 := Aside0.mk (Kd.R_below HX4.out hb)
  have HO1_5 := Aside0.mk (Kd.R_below HO1_4.out hb)
  have HO2_5 := Aside0.mk (Kd.R_below HO2_4.out hb)
  have HB5 := Aside0.mk (below_step HB4.out hb)
  have HI5 := Aside0.mk hrr5
  have HI5c := Aside0.mk hl5
  have HS5 : Aside0 (L3 ≤ w5.heap.size) := ⟨by rw [hL3.out]; exact below_size hb⟩
  clear HB4 HX4 HO1_4 HO2_4 ho hb hl5 hrr5 hkn
  go_wp2_with fail
  obtain ⟨kt, hkt⟩ := (through_f x (iota x.length) (by rw [iota_len]; have := HXL.out; omega) (fun a ha => iota_mem ha)).rounds
  obtain ⟨r3, HR3e⟩ : ∃ r3, Aside0 (r3 = (iota x.length).map (rd x)) := ⟨_, ⟨rfl⟩⟩
  rw [← HR3e.out] at hkt
  refine (pick_Through.calls kt Ax cx x A5 c5 (iota x.length) r3 _ (Kd.R_reads' HX5.out).2.2 HCx.out HI5.out HI5c.out hkt).mono ?_
  rintro e w6 ⟨v6, rfl, ho, hb⟩
  obtain ⟨A3, c3, rfl, hl3, hrr3⟩ := Kd.R_reads ho
  obtain ⟨L4, hL4⟩ : ∃ L, Aside0 (L = w6.heap.size) := ⟨_, ⟨rfl⟩⟩
  have HN34 : Aside0 (L3 ≤ L4) := ⟨by rw [hL4.out]; exact Nat.le_trans HS5.out (below_size hb)⟩
  have HO3_6 : Aside0 (Kd.R (Kd.int .i64) 3 w6 w.heap.size (fun k => L3 ≤ k ∧ k < L4) (.slice A3 r3.length c3) r3) := ⟨Kd.R_lower (Kd.R_mono (Kd.R_bound ho) (fun k h => by rw [hL4.out]; exact ⟨Nat.le_trans HS5.out h.2.1, h.2.2.1⟩)) (below_size HB5.out)⟩
  have HX6 := Aside0.mk (Kd.R_below HX5.out hb)
  have HO1_6 := Aside0.mk (Kd.R_below HO1_5.out hb)
  have HO2_6 := Aside0.mk (Kd.R_below HO2_5.out hb)
  have HB6 := Aside0.mk (below_step HB5.out hb)
  clear HB5 HX5 HO1_5 HO2_5 HI5 HI5c ho hb hl3 hrr3 hkt
  go_wp2_with fail
  have HO1 := Aside0.mk (Kd.R_alloc HO1_6.out (.cells #[.slice A1 r1.length c1, .slice A2 r2.length c2, .slice A3 r3.length c3] 22))
  have HO2 := Aside0.mk (Kd.R_alloc HO2_6.out (.cells #[.slice A1 r1.length c1, .slice A2 r2.length c2, .slice A3 r3.length c3] 22))
  have HO3 := Aside0.mk (Kd.R_alloc HO3_6.out (.cells #[.slice A1 r1.length c1, .slice A2 r2.length c2, .slice A3 r3.length c3] 22))
  have HX := Aside0.mk (Kd.R_alloc HX6.out (.cells #[.slice A1 r1.length c1, .slice A2 r2.length c2, .slice A3 r3.length c3] 22))
  have HB := Aside0.mk (below_alloc HB6.out (.cells #[.slice A1 r1.length c1, .slice A2 r2.length c2, .slice A3 r3.length c3] 22))
  have HG : Aside0 ((w6.alloc (.cells #[.slice A1 r1.length c1, .slice A2 r2.length c2, .slice A3 r3.length c3] 22)).heap[L4]? = some (.cells #[.slice A1 r1.length c1, .slice A2 r2.length c2, .slice A3 r3.length c3] 22 (0, 0))) := ⟨by rw [hL4.out]; exact blk_new _ _⟩
  have HN : Aside0 (L1 ≤ L2 ∧ L2 ≤ L3 ∧ L3 ≤ L4) := ⟨HN12.out, HN23.out, HN34.out⟩
  rw [← hL4.out]
  clear HO1_6 HO2_6 HO3_6 HX6 HB6
  go_loopg [5] (3 : Nat) (fun kq v5 w' => ∃ (i : Int) (x1 x2 x3 : List Int), v5 = .int .i64 i ∧ Aside0 (0 ≤ i ∧ i + kq = 3) ∧ Aside0 (x1.length = r1.length) ∧ Aside0 (Kd.R (Kd.int .i64) 3 w' w.heap.size (fun k => L1 ≤ k ∧ k < L2) (.slice A1 r1.length c1) x1) ∧ Aside0 (x2.length = r2.length) ∧ Aside0 (Kd.R (Kd.int .i64) 3 w' w.heap.size (fun k => L2 ≤ k ∧ k < L3) (.slice A2 r2.length c2) x2) ∧ Aside0 (x3.length = r3.length) ∧ Aside0 (Kd.R (Kd.int .i64) 3 w' w.heap.size (fun k => L3 ≤ k ∧ k < L4) (.slice A3 r3.length c3) x3) ∧ Aside0 (Kd.R (Kd.int .i64) 3 w' w.heap.size (fun k => k < L1) (.slice Ax x.length cx) x) ∧ Aside0 (w'.heap[L4]? = some (.cells #[.slice A1 r1.length c1, .slice A2 r2.length c2, .slice A3 r3.length c3] 22 (0, 0))) ∧ Aside0 (Below w.heap.size w w'))
  case atStart => exact ⟨0, r1, r2, r3, rfl, ⟨by omega⟩, ⟨rfl⟩, HO1, ⟨rfl⟩, HO2, ⟨rfl⟩, HO3, HX, HG, HB⟩
  case round =>
    clear HO1 HO2 HO3 HX HG HB
    obtain ⟨i, x1, x2, x3, rfl, HI, HL1, HO1, HL2, HO2, HL3, HO3, HX, HG, HB⟩ := hrel
    cases gk with
    | zero =>
      obtain rfl : i = 3 := by have := HI.out; omega
      go_wp2_with fail
      refine (hopperlaw05_places.calls kp A0 c0 l0 x _ (Kd.C_below HR0.out HB.out) HC0.out HKP.out).mono ?_
      rintro e w7 ⟨v7, rfl, ho, hb⟩
      obtain ⟨A7, c7, rfl, hl7, hr7⟩ := Kd.R_reads ho
      have HB7 := Aside0.mk (below_step HB.out hb)
      have HX7 := Aside0.mk (Kd.R_below HX.out hb)
      have HR7 := Aside0.mk hr7
      have HL7 := Aside0.mk hl7
      clear HB HO1 HO2 HO3 HX HG ho hb hl7 hr7
      go_wp2_with fail
      obtain ⟨ki, hki⟩ := (ints_f x (by have := HXL.out; omega)).rounds
      refine (hopperref03_Ints.calls ki Ax cx x A7 c7 x true _ (Kd.R_reads' HX7.out).2.2 HCx.out HR7.out HL7.out hki).mono ?_
      rintro e w8 ⟨rfl, n8, rfl⟩
      go_wp2_with fail
      go_ret
      exact ⟨rfl, by repeat (first | exact HB7.out | apply below_alloc | apply pw_below_drewN | apply below_drew1)⟩
    | succ k1 =>
      have hi : i = 0 ∨ i = 1 ∨ i = 2 := by have := HI.out; omega
      rcases hi with rfl | rfl | rfl
      · have hcg : wr.cell? ⟨L4, 0, none⟩ = some (.slice A1 r1.length c1) := by rw [blk_cell HG.out]; rfl
        go_wp2_with fail
        clear hcg
        go_loopg [6] (r1.length : Nat) (fun kq v6 w' => ∃ (i : Nat) (x1 x2 x3 : List Int), v6 = .int .i64 (i : Int) ∧ Aside0 (i + kq = r1.length) ∧ Aside0 (x1.length = r1.length) ∧ Aside0 (Kd.R (Kd.int .i64) 3 w' w.heap.size (fun k => L1 ≤ k ∧ k < L2) (.slice A1 r1.length c1) x1) ∧ Aside0 (x2.length = r2.length) ∧ Aside0 (Kd.R (Kd.int .i64) 3 w' w.heap.size (fun k => L2 ≤ k ∧ k < L3) (.slice A2 r2.length c2) x2) ∧ Aside0 (x3.length = r3.length) ∧ Aside0 (Kd.R (Kd.int .i64) 3 w' w.heap.size (fun k => L3 ≤ k ∧ k < L4) (.slice A3 r3.length c3) x3) ∧ Aside0 (Kd.R (Kd.int .i64) 3 w' w.heap.size (fun k => k < L1) (.slice Ax x.length cx) x) ∧ Aside0 (w'.heap[L4]? = some (.cells #[.slice A1 r1.length c1, .slice A2 r2.length c2, .slice A3 r3.length c3] 22 (0, 0))) ∧ Aside0 (Below w.heap.size w w'))
        case atStart => exact ⟨0, x1, x2, x3, rfl, ⟨by omega⟩, HL1, HO1, HL2, HO2, HL3, HO3, HX, HG, HB⟩
        case round =>
          clear HL1 HO1 HL2 HO2 HL3 HO3 HX HG HB
          obtain ⟨i, x1, x2, x3, rfl, HI2, HL1, HO1, HL2, HO2, HL3, HO3, HX, HG, HB⟩ := hrel
          have hcg : wr.cell? ⟨L4, 0, none⟩ = some (.slice A1 r1.length c1) := by rw [blk_cell HG.out]; rfl
          cases gk with
          | zero =>
            obtain rfl : i = r1.length := by have := HI2.out; omega
            go_wp2_with fail
            go_roundg k1
            case measure => omega
            case rel => exact ⟨1, x1, x2, x3, rfl, ⟨by have := HI.out; omega⟩, HL1, HO1, HL2, HO2, HL3, HO3, HX, HG, HB⟩
          | succ k2 =>
            have cm : i < r1.length := by have := HI2.out; omega
            have c : (i : Int) < (r1.length : Int) := by omega
            have cb : decide ((i : Int) < (r1.length : Int)) = true := decide_eq_true c
            have cb2 : decide (i < r1.length) = true := decide_eq_true cm
            have hxl := HL1.out
            have hbd : x1.length ≤ 9223372036854775807 := (Kd.R_reads' HO1.out).2.2.2.1
            obtain ⟨go, co, eo, gb, gl, cl, HG21⟩ := Kd.R_form HO1.out (by omega)
            injection eo with ea en ec
            subst ea ec
            obtain ⟨hx2, hf2⟩ := Kd.R_celln 0 HO1.out (i : Int) (by omega) (by omega)
            have HP := Kd.R_putg HO1.out (i : Int) (-7)
            have HPa := Aside0.mk HP.1
            have HBa := Aside0.mk gb
            have HGl := Aside0.mk (HO1.out.1 go rfl)
            clear HP gb gl HG21 en
            simp only [Int.toNat_natCast] at hx2 hf2
            go_wp2
            go_roundg k2
            case measure => omega
            case rel => exact ⟨i + 1, _, x2, x3, (by first | rfl | (simp; done) | go_num), ⟨by have := HI2.out; omega⟩, ⟨by have := HL1.out; simp; omega⟩, ⟨HPa.out⟩, HL2, ⟨Kd.R_far HO2.out (fun k h => by have := HGl.out; have := HN.out; show k ≠ go; omega) _⟩, HL3, ⟨Kd.R_far HO3.out (fun k h => by have := HGl.out; have := HN.out; show k ≠ go; omega) _⟩, ⟨Kd.R_far HX.out (fun k h => by have := HGl.out; have := HN.out; show k ≠ go; omega) _⟩, ⟨(Below.heap_setCell _ _ _ L4 (by have := HGl.out; have := HN.out; show L4 ≠ go; omega)).trans HG.out⟩, ⟨below_set HB.out HBa.out⟩⟩
      · have hcg : wr.cell? ⟨L4, 1, none⟩ = some (.slice A2 r2.length c2) := by rw [blk_cell HG.out]; rfl
        go_wp2_with fail
        clear hcg
        go_loopg [6] (r2.length : Nat) (fun kq v6 w' => ∃ (i : Nat) (x1 x2 x3 : List Int), v6 = .int .i64 (i : Int) ∧ Aside0 (i + kq = r2.length) ∧ Aside0 (x1.length = r1.length) ∧ Aside0 (Kd.R (Kd.int .i64) 3 w' w.heap.size (fun k => L1 ≤ k ∧ k < L2) (.slice A1 r1.length c1) x1) ∧ Aside0 (x2.length = r2.length) ∧ Aside0 (Kd.R (Kd.int .i64) 3 w' w.heap.size (fun k => L2 ≤ k ∧ k < L3) (.slice A2 r2.length c2) x2) ∧ Aside0 (x3.length = r3.length) ∧ Aside0 (Kd.R (Kd.int .i64) 3 w' w.heap.size (fun k => L3 ≤ k ∧ k < L4) (.slice A3 r3.length c3) x3) ∧ Aside0 (Kd.R (Kd.int .i64) 3 w' w.heap.size (fun k => k < L1) (.slice Ax x.length cx) x) ∧ Aside0 (w'.heap[L4]? = some (.cells #[.slice A1 r1.length c1, .slice A2 r2.length c2, .slice A3 r3.length c3] 22 (0, 0))) ∧ Aside0 (Below w.heap.size w w'))
        case atStart => exact ⟨0, x1, x2, x3, rfl, ⟨by omega⟩, HL1, HO1, HL2, HO2, HL3, HO3, HX, HG, HB⟩
        case round =>
          clear HL1 HO1 HL2 HO2 HL3 HO3 HX HG HB
          obtain ⟨i, x1, x2, x3, rfl, HI2, HL1, HO1, HL2, HO2, HL3, HO3, HX, HG, HB⟩ := hrel
          have hcg : wr.cell? ⟨L4, 1, none⟩ = some (.slice A2 r2.length c2) := by rw [blk_cell HG.out]; rfl
          cases gk with
          | zero =>
            obtain rfl : i = r2.length := by have := HI2.out; omega
            go_wp2_with fail
            go_roundg k1
            case measure => omega
            case rel => exact ⟨2, x1, x2, x3, rfl, ⟨by have := HI.out; omega⟩, HL1, HO1, HL2, HO2, HL3, HO3, HX, HG, HB⟩
          | succ k2 =>
            have cm : i < r2.length := by have := HI2.out; omega
            have c : (i : Int) < (r2.length : Int) := by omega
            have cb : decide ((i : Int) < (r2.length : Int)) = true := decide_eq_true c
            have cb2 : decide (i < r2.length) = true := decide_eq_true cm
            have hxl := HL2.out
            have hbd : x2.length ≤ 9223372036854775807 := (Kd.R_reads' HO2.out).2.2.2.1
            obtain ⟨go, co, eo, gb, gl, cl, HG21⟩ := Kd.R_form HO2.out (by omega)
            injection eo with ea en ec
            subst ea ec
            obtain ⟨hx2, hf2⟩ := Kd.R_celln 0 HO2.out (i : Int) (by omega) (by omega)
            have HP := Kd.R_putg HO2.out (i : Int) (-7)
            have HPa := Aside0.mk HP.1
            have HBa := Aside0.mk gb
            have HGl := Aside0.mk (HO2.out.1 go rfl)
            clear HP gb gl HG21 en
            simp only [Int.toNat_natCast] at hx2 hf2
            go_wp2
            go_roundg k2
            case measure => omega
            case rel => exact ⟨i + 1, x1, _, x3, (by first | rfl | (simp; done) | go_num), ⟨by have := HI2.out; omega⟩, HL1, ⟨Kd.R_far HO1.out (fun k h => by have := HGl.out; have := HN.out; show k ≠ go; omega) _⟩, ⟨by have := HL2.out; simp; omega⟩, ⟨HPa.out⟩, HL3, ⟨Kd.R_far HO3.out (fun k h => by have := HGl.out; have := HN.out; show k ≠ go; omega) _⟩, ⟨Kd.R_far HX.out (fun k h => by have := HGl.out; have := HN.out; show k ≠ go; omega) _⟩, ⟨(Below.heap_setCell _ _ _ L4 (by have := HGl.out; have := HN.out; show L4 ≠ go; omega)).trans HG.out⟩, ⟨below_set HB.out HBa.out⟩⟩
      · have hcg : wr.cell? ⟨L4, 2, none⟩ = some (.slice A3 r3.length c3) := by rw [blk_cell HG.out]; rfl
        go_wp2_with fail
        clear hcg
        go_loopg [6] (r3.length : Nat) (fun kq v6 w' => ∃ (i : Nat) (x1 x2 x3 : List Int), v6 = .int .i64 (i : Int) ∧ Aside0 (i + kq = r3.length) ∧ Aside0 (x1.length = r1.length) ∧ Aside0 (Kd.R (Kd.int .i64) 3 w' w.heap.size (fun k => L1 ≤ k ∧ k < L2) (.slice A1 r1.length c1) x1) ∧ Aside0 (x2.length = r2.length) ∧ Aside0 (Kd.R (Kd.int .i64) 3 w' w.heap.size (fun k => L2 ≤ k ∧ k < L3) (.slice A2 r2.length c2) x2) ∧ Aside0 (x3.length = r3.length) ∧ Aside0 (Kd.R (Kd.int .i64) 3 w' w.heap.size (fun k => L3 ≤ k ∧ k < L4) (.slice A3 r3.length c3) x3) ∧ Aside0 (Kd.R (Kd.int .i64) 3 w' w.heap.size (fun k => k < L1) (.slice Ax x.length cx) x) ∧ Aside0 (w'.heap[L4]? = some (.cells #[.slice A1 r1.length c1, .slice A2 r2.length c2, .slice A3 r3.length c3] 22 (0, 0))) ∧ Aside0 (Below w.heap.size w w'))
        case atStart => exact ⟨0, x1, x2, x3, rfl, ⟨by omega⟩, HL1, HO1, HL2, HO2, HL3, HO3, HX, HG, HB⟩
        case round =>
          clear HL1 HO1 HL2 HO2 HL3 HO3 HX HG HB
          obtain ⟨i, x1, x2, x3, rfl, HI2, HL1, HO1, HL2, HO2, HL3, HO3, HX, HG, HB⟩ := hrel
          have hcg : wr.cell? ⟨L4, 2, none⟩ = some (.slice A3 r3.length c3) := by rw [blk_cell HG.out]; rfl
          cases gk with
          | zero =>
            obtain rfl : i = r3.length := by have := HI2.out; omega
            go_wp2_with fail
            go_roundg k1
            case measure => omega
            case rel => exact ⟨3, x1, x2, x3, rfl, ⟨by have := HI.out; omega⟩, HL1, HO1, HL2, HO2, HL3, HO3, HX, HG, HB⟩
          | succ k2 =>
            have cm : i < r3.length := by have := HI2.out; omega
            have c : (i : Int) < (r3.length : Int) := by omega
            have cb : decide ((i : Int) < (r3.length : Int)) = true := decide_eq_true c
            have cb2 : decide (i < r3.length) = true := decide_eq_true cm
            have hxl := HL3.out
            have hbd : x3.length ≤ 9223372036854775807 := (Kd.R_reads' HO3.out).2.2.2.1
            obtain ⟨go, co, eo, gb, gl, cl, HG21⟩ := Kd.R_form HO3.out (by omega)
            injection eo with ea en ec
            subst ea ec
            obtain ⟨hx2, hf2⟩ := Kd.R_celln 0 HO3.out (i : Int) (by omega) (by omega)
            have HP := Kd.R_putg HO3.out (i : Int) (-7)
            have HPa := Aside0.mk HP.1
            have HBa := Aside0.mk gb
            have HGl := Aside0.mk (HO3.out.1 go rfl)
            clear HP gb gl HG21 en
            simp only [Int.toNat_natCast] at hx2 hf2
            go_wp2
            go_roundg k2
            case measure => omega
            case rel => exact ⟨i + 1, x1, x2, _, (by first | rfl | (simp; done) | go_num), ⟨by have := HI2.out; omega⟩, HL1, ⟨Kd.R_far HO1.out (fun k h => by have := HGl.out; have := HN.out; show k ≠ go; omega) _⟩, HL2, ⟨Kd.R_far HO2.out (fun k h => by have := HGl.out; have := HN.out; show k ≠ go; omega) _⟩, ⟨by have := HL3.out; simp; omega⟩, ⟨HPa.out⟩, ⟨Kd.R_far HX.out (fun k h => by have := HGl.out; have := HN.out; show k ≠ go; omega) _⟩, ⟨(Below.heap_setCell _ _ _ L4 (by have := HGl.out; have := HN.out; show L4 ≠ go; omega)).trans HG.out⟩, ⟨below_set HB.out HBa.out⟩⟩
end Go.Proofs.Ytdohphiicmdilaa.HW
