import Derived.Test.YtcbjkejboegmlaaZJnS
import Derived.Test.YtcbjkejboegmlaaZWalkJoinRows
/- JoinKeeps: the law, walked. -/
set_option linter.unusedVariables false
set_option linter.unusedSimpArgs false
namespace Go.Proofs.Ytcbjkejboegmlaa.HW
open Go.RowKit Go.Proofs.Ytcbjkejboegmlaa.P Go.Proofs.Ytcbjkejboegmlaa.HP Go.Proofs.YtcbjkejboegmlaaW.PrintWords Go.Proofs.YtcbjkejboegmlaaW.PrintLast Go.Proofs.YtcbjkejboegmlaaW.PrintMore
attribute [local go_sem] max2_int min2_int max_two min_two max_three min_three max_four min_four
set_option maxHeartbeats 8000000 in
set_option maxRecDepth 100000 in
theorem keeps_no (ch : Int) (hch : (Lit.int .u8 ch).wf = true) (A0 : Option Addr) (c0 : Nat) (l : List Key) (m : Int) (A2 : Option Addr) (c2 : Nat) (lk : List Int) (A1 : Option Addr) (c1 : Nat) (r : List Key) (m1 : Int) (A3 : Option Addr) (c3 : Nat) (rk : List Int) (w : World)
    (hl : Kd.C (Kd.slice 43 k43) w A0 l.length l) (hcl : l.length ≤ c0) (hr : Kd.C (Kd.slice 43 k43) w A1 r.length r) (hcr : r.length ≤ c1) (hlk : Kd.C (Kd.int .i64) w A2 lk.length lk) (hclk : lk.length ≤ c2) (hrk : Kd.C (Kd.int .i64) w A3 rk.length rk) (hcrk : rk.length ≤ c3)
    (b : Bool) (hF : ∀ V, Below w.heap.size w V → Calls Try.prog 9 #[.int .i64 (1 + ch % 4), .slice A0 l.length c0, .slice A1 r.length c1, .slice A2 lk.length c2, .slice A3 rk.length c3, .int .i64 m, .int .i64 m1] V fun e w' => e = .returned (.bool b) ∧ Below V.heap.size V w') (hb : b = false) :
    Calls Try.prog 7 #[sideV A0 l c0 m A2 lk c2, sideV A1 r c1 m1 A3 rk c3, .int .u8 ch] w fun e w' => e = .returned (.bool true) ∧ Below w.heap.size w w' := by
  have HBX := Aside0.mk (boxes w (.slice A0 l.length c0) (.int .i64 m) (.slice A2 lk.length c2) (.slice A1 r.length c1) (.int .i64 m1) (.slice A3 rk.length c3))
  have HB0 := Aside0.mk (below2 w (.cells #[.slice A0 l.length c0, .int .i64 m, .slice A2 lk.length c2] 25) (.cells #[.slice A1 r.length c1, .int .i64 m1, .slice A3 rk.length c3] 25))
  obtain ⟨w0, hw0⟩ : ∃ W, W = ((w.alloc (.cells #[.slice A0 l.length c0, .int .i64 m, .slice A2 lk.length c2] 25)).alloc (.cells #[.slice A1 r.length c1, .int .i64 m1, .slice A3 rk.length c3] 25)) := ⟨_, rfl⟩
  have HW0 := Aside0.mk hw0
  rw [← hw0] at HBX HB0
  have HX := Aside0.mk (Below.refl w0.heap.size w0)
  have HF := Aside0.mk hF
  subst hb
  clear hl hcl hr hcr hlk hclk hrk hcrk hF
  have h255 : 0 ≤ ch ∧ ch ≤ 255 := by simpa [Lit.wf, IntKind.min, IntKind.max, IntKind.signed, IntKind.bits] using hch
  unfold sideV
  go_enter Try.func7, Try.ntmps7
  go_wp2_with fail
  rw [← hw0]
  refine (law23_awake _).mono ?_
  rintro e w1 ⟨rfl, hb⟩
  have HX1 := Aside0.mk (below_step HX.out hb)
  clear hb HX hw0
  obtain ⟨x0, x1, x2, y0, y1, y2⟩ := HBX.out w1 HX1.out
  go_wp2_with fail
  refine (HF.out _ (HB0.out.trans (HX1.out.mono (below_size HB0.out)))).mono ?_
  rintro e w2 ⟨rfl, hb⟩
  have HX2 := Aside0.mk (below_step HX1.out hb)
  clear hb HX1 x0 x1 x2 y0 y1 y2
  go_wp2_with fail
  refine (law23_awake _).mono ?_
  rintro e w3 ⟨rfl, hb⟩
  have HX3 := Aside0.mk (below_step HX2.out hb)
  clear hb HX2
  go_wp2_with fail
  go_ret
  exact ⟨rfl, HB0.out.trans (HX3.out.mono (below_size HB0.out))⟩
set_option maxHeartbeats 8000000 in
set_option maxRecDepth 100000 in
theorem keeps_yes (ch : Int) (hch : (Lit.int .u8 ch).wf = true) (A0 : Option Addr) (c0 : Nat) (l : List Key) (m : Int) (A2 : Option Addr) (c2 : Nat) (lk : List Int) (A1 : Option Addr) (c1 : Nat) (r : List Key) (n : Nat) (A3 : Option Addr) (c3 : Nat) (rk : List Int) (w : World)
    (hl : Kd.C (Kd.slice 43 k43) w A0 l.length l) (hcl : l.length ≤ c0) (hr : Kd.C (Kd.slice 43 k43) w A1 r.length r) (hcr : r.length ≤ c1) (hlk : Kd.C (Kd.int .i64) w A2 lk.length lk) (hclk : lk.length ≤ c2) (hrk : Kd.C (Kd.int .i64) w A3 rk.length rk) (hcrk : rk.length ≤ c3)
    (hF : ∀ V, Below w.heap.size w V → Calls Try.prog 9 #[.int .i64 (1 + ch % 4), .slice A0 l.length c0, .slice A1 r.length c1, .slice A2 lk.length c2, .slice A3 rk.length c3, .int .i64 m, .int .i64 (n : Int)] V fun e w' => e = .returned (.bool true) ∧ Below V.heap.size V w') (hb : Fine 1 l r lk rk m (n : Int)) :
    Calls Try.prog 7 #[sideV A0 l c0 m A2 lk c2, sideV A1 r c1 (n : Int) A3 rk c3, .int .u8 ch] w fun e w' => e = .returned (.bool true) ∧ Below w.heap.size w w' := by
  have HBX := Aside0.mk (boxes w (.slice A0 l.length c0) (.int .i64 m) (.slice A2 lk.length c2) (.slice A1 r.length c1) (.int .i64 (n : Int)) (.slice A3 rk.length c3))
  have HB0 := Aside0.mk (below2 w (.cells #[.slice A0 l.length c0, .int .i64 m, .slice A2 lk.length c2] 25) (.cells #[.slice A1 r.length c1, .int .i64 (n : Int), .slice A3 rk.length c3] 25))
  obtain ⟨w0, hw0⟩ : ∃ W, W = ((w.alloc (.cells #[.slice A0 l.length c0, .int .i64 m, .slice A2 lk.length c2] 25)).alloc (.cells #[.slice A1 r.length c1, .int .i64 (n : Int), .slice A3 rk.length c3] 25)) := ⟨_, rfl⟩
  have HW0 := Aside0.mk hw0
  rw [← hw0] at HBX HB0
  have HX := Aside0.mk (Below.refl w0.heap.size w0)
  have HF := Aside0.mk hF
  have h255 : 0 ≤ ch ∧ ch ≤ 255 := by simpa [Lit.wf, IntKind.min, IntKind.max, IntKind.signed, IntKind.bits] using hch
  have hk : 1 ≤ 1 + ch % 4 ∧ 1 + ch % 4 ≤ 4 := by omega
  obtain ⟨g1, g2, g3, g4, g5, g6, g7⟩ := fine_cols hb
  have hn : n ≤ 1000 := by have := hb.2.1.2.1; omega
  have hsm : (rowsL (1 + ch % 4) l r lk rk n).length ≤ 1640 := by
    have h1 := rowsL_small (1 + ch % 4) l r lk rk n
    have h2 : (r.length + 1) * l.length ≤ 41 * 40 := Nat.mul_le_mul (by have := hb.2.2.2.1; omega) (by have := hb.2.2.1; omega)
    omega
  have hwide := rowsL_wide (kind := 1 + ch % 4) (l := l) (r := r) (lk := lk) (rk := rk) (n := n) g6 g7 hn
  have HRA := Aside0.mk (fun (V : World) (h : Below w.heap.size w V) => Rows_ok (1 + ch % 4) A0 c0 l A1 c1 r A2 c2 lk A3 c3 rk n 10000 10000 V (Kd.C_below hl h) hcl (Kd.C_below hr h) hcr (Kd.C_below hlk h) hclk (Kd.C_below hrk h) hcrk g1 g2 g3 g4 g5 g6 g7 hk hn (by decide) (by omega))
  have HRR := Aside0.mk (fun (V : World) (h : Below w.heap.size w V) => RefRows_ (1 + ch % 4) A0 c0 l A1 c1 r A2 c2 lk A3 c3 rk n V (Kd.C_below hl h) hcl (Kd.C_below hr h) hcr (Kd.C_below hlk h) hclk (Kd.C_below hrk h) hcrk g1 g2 g3 g6 g7 hk hn)
  obtain ⟨RL, hRL⟩ : ∃ L, L = rowsL (1 + ch % 4) l r lk rk n := ⟨_, rfl⟩
  rw [← hRL] at HRA HRR hsm hwide
  have HWD := Aside0.mk hwide
  have HSM := Aside0.mk hsm
  have HL := Aside0.mk hl
  have HCL := Aside0.mk hcl
  have HLN := Aside0.mk g1
  have HWL := Aside0.mk g6
  have H255 := Aside0.mk h255
  clear hl hcl hr hcr hlk hclk hrk hcrk hF g1 g2 g3 g4 g5 g6 g7 hn hsm hb hk hwide hRL h255 hch
  unfold sideV
  go_enter Try.func7, Try.ntmps7
  have h255 := H255.out
  go_wp2_with fail
  rw [← hw0]
  refine (law23_awake _).mono ?_
  rintro e w1 ⟨rfl, hb⟩
  have HX1 := Aside0.mk (below_step HX.out hb)
  clear hb HX hw0 h255
  obtain ⟨x0, x1, x2, y0, y1, y2⟩ := HBX.out w1 HX1.out
  go_wp2_with fail
  refine (HF.out _ (HB0.out.trans (HX1.out.mono (below_size HB0.out)))).mono ?_
  rintro e w2 ⟨rfl, hb⟩
  have HX2 := Aside0.mk (below_step HX1.out hb)
  clear hb HX1 x0 x1 x2 y0 y1 y2 HF
  have HB2 := Aside0.mk (Below.refl w2.heap.size w2)
  have HXW2 := Aside0.mk (HB0.out.trans (HX2.out.mono (below_size HB0.out)))
  go_wp2_with fail
  go_loopg [8, 9] (l.length : Nat) (fun kq v8 v9 w' => ∃ i : Nat, v9 = .int .i64 (i : Int) ∧ Aside0 (i + kq = l.length) ∧ Aside0 (Kd.R (Kd.slice 43 k43) 38 w' w2.heap.size (fun _ => True) v8 (l.take i)) ∧ Aside0 (Below w2.heap.size w2 w'))
  case atStart => exact ⟨0, rfl, ⟨by omega⟩, ⟨by rw [List.take_zero]; exact Kd.R_nil _ _ _ _ _⟩, HB2⟩
  case round =>
    clear HB2
    obtain ⟨i, rfl, HI, HO, HBV⟩ := hrel
    obtain ⟨vP, hvP⟩ : ∃ v, v = u8 := ⟨_, rfl⟩
    rw [← hvP] at HO ⊢
    clear hvP
    have HX := Aside0.mk (HXW2.out.trans (HBV.out.mono (below_size HXW2.out)))
    have HXV := Aside0.mk (HX2.out.trans (HBV.out.mono (below_size HX2.out)))
    obtain ⟨x0, _, _, _, _, _⟩ := HBX.out wr HXV.out
    cases gk with
    | zero =>
      have hi : i = l.length := by have := HI.out; omega
      have cb : decide ((i : Int) < (l.length : Int)) = false := decide_eq_false (by omega)
      have cb2 : decide (i < l.length) = false := decide_eq_false (by omega)
      obtain ⟨w3, hw3⟩ : ∃ V, V = wr := ⟨_, rfl⟩
      rw [← hw3] at HO HBV HX HXV ⊢
      have hO3 := HO.out
      rw [hi, List.take_length] at hO3
      obtain ⟨AW, cW, eW, hlW, hCW⟩ := Kd.R_reads hO3
      subst eW
      have HLW := Aside0.mk hlW
      have HCW := Aside0.mk hCW
      clear hO3 hlW hCW HO hw3 x0 hi HI HBV
      obtain ⟨x0, x1, x2, y0, y1, y2⟩ := HBX.out w3 HXV.out
      go_wp2_with fail
      refine (HRR.out _ HX.out).mono ?_
      rintro e w4 ⟨v, rfl, ho, hb⟩
      obtain ⟨AS, cS, eS, hlS, hCS⟩ := Kd.R_reads ho
      subst eS
      have HLS := Aside0.mk hlS
      have HCS := Aside0.mk hCS
      have HX4 := Aside0.mk (HX.out.trans (hb.mono (below_size HX.out)))
      have HXV4 := Aside0.mk (below_step HXV.out hb)
      have HCW4 := Aside0.mk (Kd.C_below HCW.out hb)
      clear ho hb hlS hCS x0 x1 x2 y0 y1 y2 HX HXV HCW HRR
      obtain ⟨x0, x1, x2, y0, y1, y2⟩ := HBX.out w4 HXV4.out
      go_wp2_with fail
      refine (HRA.out _ HX4.out).mono ?_
      rintro e w5 ⟨v, rfl, ho, hb⟩
      obtain ⟨AX, cX, eX⟩ := Kd.R_slice ho
      subst eX
      have HG0 : Aside0 (0 < RL.length → ∃ gx cx, AX = some ⟨gx, 0, none⟩ ∧ Grid w4.heap.size gx cx (fun i => (RL.getD i []).length) RL.length w5) := ⟨fun hp => by
        obtain ⟨gx, cap, cx, e1, hG⟩ := Grid.start ho hp
        injection e1 with e1
        exact ⟨gx, cx, e1, hG⟩⟩
      have HB5 := Aside0.mk hb
      clear ho hb x0 x1 x2 y0 y1 y2
      go_wp2_with fail
      go_loopg [13] (RL.length : Nat) (fun kq v13 w' => ∃ i : Nat, v13 = .int .i64 (i : Int) ∧ Aside0 (i + kq = RL.length) ∧ Aside0 (0 < RL.length → ∃ gx cx, AX = some ⟨gx, 0, none⟩ ∧ Grid w4.heap.size gx cx (fun i => (RL.getD i []).length) RL.length w') ∧ Aside0 (Below w4.heap.size w4 w'))
      case atStart => exact ⟨0, rfl, ⟨by omega⟩, HG0, HB5⟩
      case round =>
        clear HG0 HB5
        obtain ⟨i, rfl, HI, HG, HBG⟩ := hrel
        cases gk with
        | zero =>
          have hi : i = RL.length := by have := HI.out; omega
          have cb : decide ((i : Int) < (RL.length : Int)) = false := decide_eq_false (by omega)
          have cb2 : decide (i < RL.length) = false := decide_eq_false (by omega)
          obtain ⟨w6, hw6⟩ : ∃ V, V = wr := ⟨_, rfl⟩
          rw [← hw6] at HG HBG ⊢
          have HX6 := Aside0.mk (HX4.out.trans (HBG.out.mono (below_size HX4.out)))
          have HXV6 := Aside0.mk (below_step HXV4.out HBG.out)
          clear hi hw6 HI
          obtain ⟨x0, x1, x2, y0, y1, y2⟩ := HBX.out w6 HXV6.out
          go_wp2_with fail
          refine (HRA.out _ HX6.out).mono ?_
          rintro e w7 ⟨v, rfl, ho, hb⟩
          obtain ⟨AY, cY, eY, hlY, hCY⟩ := Kd.R_reads ho
          subst eY
          obtain ⟨ks, hks⟩ := (same18 l l (by have := HLN.out; omega) (fun row hr => by have := HWL.out row hr; omega)).rounds
          rw [decide_eq_true rfl] at hks
          obtain ⟨kt, hkt⟩ := (same18 RL RL (by have := HSM.out; omega) HWD.out).rounds
          rw [decide_eq_true rfl] at hkt
          have HX7 := Aside0.mk (HX6.out.trans (hb.mono (below_size HX6.out)))
          have HXV7 := Aside0.mk (below_step HXV6.out hb)
          have HS1 := Aside0.mk (fun V (hV : Below w7.heap.size w7 V) => hopperref18_Same.calls ks A0 c0 l AW cW l true V (Kd.C_below (Kd.C_below HL.out HX7.out) hV) HCL.out (Kd.C_below (Kd.C_below HCW4.out (HBG.out.trans (hb.mono (below_size HBG.out)))) hV) HLW.out hks)
          have HS2 := Aside0.mk (fun V (hV : Below w7.heap.size w7 V) => hopperref18_Same.calls kt AY cY RL AS cS RL true V (Kd.C_below hCY hV) hlY (Kd.C_below (Kd.C_below HCS.out (HBG.out.trans (hb.mono (below_size HBG.out)))) hV) HLS.out hkt)
          have HR7 := Aside0.mk (Below.refl w7.heap.size w7)
          clear ho hb hlY hCY hks hkt x0 x1 x2 y0 y1 y2 HRA
          obtain ⟨x0, x1, x2, y0, y1, y2⟩ := HBX.out w7 HXV7.out
          go_wp2_with fail
          refine (HS1.out _ HR7.out).mono ?_
          rintro e w8 ⟨rfl, hd8⟩
          have HB8 := Aside0.mk hd8.below
          clear hd8 x0 x1 x2 y0 y1 y2
          go_wp2_with fail
          refine (HS2.out _ HB8.out).mono ?_
          rintro e w9 ⟨rfl, hd9⟩
          have HB9 := Aside0.mk (HB8.out.trans (hd9.below.mono (below_size HB8.out)))
          clear hd9
          go_wp2_with fail
          go_ret
          exact ⟨by first | rfl | simp, HX7.out.trans (HB9.out.mono (below_size HX7.out))⟩
        | succ k1 =>
          have ci : i < RL.length := by have := HI.out; omega
          have cb : decide ((i : Int) < (RL.length : Int)) = true := decide_eq_true (by omega)
          have cb2 : decide (i < RL.length) = true := decide_eq_true ci
          have wi : wrap64 ((i : Int) + 1) = (i : Int) + 1 := by unfold wrap64; have := HSM.out; omega
          have p0 : ((0 : Int) ≤ (i : Int)) = True := eq_true (by omega)
          have q0 : ((i : Int) < (RL.length : Int)) = True := eq_true (by omega)
          have q0n : (i < RL.length) = True := eq_true ci
          have HI1 : Aside0 ((i : Int) + 1 = ((i + 1 : Nat) : Int)) := ⟨by omega⟩
          obtain ⟨gx, cx, eA, hG⟩ := HG.out (by omega)
          obtain ⟨ad, had⟩ : ∃ a : Addr, a = ⟨gx, 0, none⟩ := ⟨_, rfl⟩
          rw [← had] at eA
          subst eA
          obtain ⟨Ai, ci0, ecx, _⟩ := hG.2 i ci
          have hrow := HWD.out _ (getD_lt_mem RL i ci)
          obtain ⟨m, hm⟩ : ∃ m, m = (RL.getD i []).length := ⟨_, rfl⟩
          have HM : Aside0 (m ≤ 1000000) := ⟨by omega⟩
          have HME : Aside0 (m = (fun i => (RL.getD i []).length) i) := ⟨hm⟩
          have HGG := Aside0.mk hG
          have HCX := Aside0.mk ecx
          have HCI := Aside0.mk ci
          have HLD : Aside0 (∀ V, Grid w4.heap.size gx cx (fun i => (RL.getD i []).length) RL.length V → V.cell? (ad.add i) = some (.slice Ai m ci0)) := ⟨fun V hV => by rw [had, add_plain, blk_cell hV.1, ecx, hm]⟩
          have HBW := Aside0.mk HBG.out
          have HGR : Aside0 (∀ V, Grid w4.heap.size gx cx (fun i => (RL.getD i []).length) RL.length V → 0 < RL.length → ∃ gx cx, some ad = some (⟨gx, 0, none⟩ : Addr) ∧ Grid w4.heap.size gx cx (fun i => (RL.getD i []).length) RL.length V) := ⟨fun V hV _ => ⟨gx, cx, by rw [had], hV⟩⟩
          clear hrow hG ecx hm had ci HG
          go_wp2_with fail
          go_loopg [14] (m : Nat) (fun kq v14 w' => ∃ j : Nat, v14 = .int .i64 (j : Int) ∧ Aside0 (j + kq = m) ∧ Aside0 (Grid w4.heap.size gx cx (fun i => (RL.getD i []).length) RL.length w') ∧ Aside0 (Below w4.heap.size w4 w'))
          case atStart => exact ⟨0, rfl, ⟨by omega⟩, HGG, HBW⟩
          case round =>
            clear HGG HBW HBG
            obtain ⟨j, rfl, HJ, HG, HBG⟩ := hrel
            have hld := HLD.out wr HG.out
            cases gk with
            | zero =>
              have hj : j = m := by have := HJ.out; omega
              have cj : decide ((j : Int) < (m : Int)) = false := decide_eq_false (by omega)
              have cj2 : decide (j < m) = false := decide_eq_false (by omega)
              clear hj
              go_wp2_with fail
              go_roundg k1
              case measure => omega
              case rel => exact ⟨i + 1, by first | (rw [wi, HI1.out]; done) | (rw [HI1.out]; done), ⟨by have := HI.out; omega⟩, ⟨HGR.out _ HG.out⟩, HBG⟩
            | succ k2 =>
              have cij : j < m := by have := HJ.out; omega
              have cj : decide ((j : Int) < (m : Int)) = true := decide_eq_true (by omega)
              have cj2 : decide (j < m) = true := decide_eq_true cij
              have wj : wrap64 ((j : Int) + 1) = (j : Int) + 1 := by unfold wrap64; have := HM.out; omega
              have r0 : ((0 : Int) ≤ (j : Int)) = True := eq_true (by omega)
              have s0 : ((j : Int) < (m : Int)) = True := eq_true (by omega)
              have s0n : (j < m) = True := eq_true cij
              have HJ1 : Aside0 ((j : Int) + 1 = ((j + 1 : Nat) : Int)) := ⟨by omega⟩
              obtain ⟨A3, c3x, e3, hh⟩ := HG.out.2 i HCI.out
              rw [HCX.out] at e3
              injection e3 with e3
              injection e3 with e4 e5 e6
              obtain ⟨g3, cells3, e7, _, _, _⟩ := hh (by have := HME.out; show 0 < (RL.getD i []).length; omega)
              rw [← e4] at e7
              obtain ⟨ag, hag⟩ : ∃ a : Addr, a = ⟨g3, 0, none⟩ := ⟨_, rfl⟩
              rw [← hag] at e7
              subst e7
              have HCJ : Aside0 (j < (fun i => (RL.getD i []).length) i) := ⟨by have := HME.out; show j < (RL.getD i []).length; omega⟩
              clear hh e4 e5 e6 hag cij
              go_wp2_with (first | ((with_reducible refine gate_store (t := 43) (p := 106) rfl ?_); refine grid_store (w0 := w4) HG.out HBG.out i j HCI.out HCJ.out (some ag) ci0 HCX.out rfl rfl (.tmp 106) _ rfl ag rfl ?sA (.bool false) (.string ⟨#[63]⟩) ?sX rfl rfl ?_; (case sA => rfl); (case sX => rfl); intro w9 hg9 hb9; have HG9 := Aside0.mk hg9; have HB9 := Aside0.mk hb9; clear hg9 hb9))
              go_roundg k2
              case measure => omega
              case rel => exact ⟨j + 1, by first | (rw [wj, HJ1.out]; done) | (rw [HJ1.out]; done), ⟨by have := HJ.out; omega⟩, HG9, HB9⟩
    | succ k1 =>
      have ci : i < l.length := by have := HI.out; omega
      have cb : decide ((i : Int) < (l.length : Int)) = true := decide_eq_true (by omega)
      have cb2 : decide (i < l.length) = true := decide_eq_true ci
      have wi : wrap64 ((i : Int) + 1) = (i : Int) + 1 := by unfold wrap64; have := HLN.out; omega
      have p0 : ((0 : Int) ≤ (i : Int)) = True := eq_true (by omega)
      have q0 : ((i : Int) < (l.length : Int)) = True := eq_true (by omega)
      have q0n : (i < l.length) = True := eq_true ci
      have HI1 : Aside0 ((i : Int) + 1 = ((i + 1 : Nat) : Int)) := ⟨by omega⟩
      obtain ⟨adl, Al, cl, e2, hy, hck, hCk⟩ := at_L3 HL.out (i : Int) (by omega) (by omega)
      subst e2
      rw [rdL_get, Int.toNat_natCast] at hy
      rw [rdL_get] at hck hCk
      have hrl := HWL.out _ (getD_lt_mem l i ci)
      have htk : l.take (i + 1) = l.take i ++ [l.getD i []] := by
        rw [List.take_succ_eq_append_getElem ci]
        simp [List.getD_eq_getElem?_getD, ci]
      obtain ⟨row, hr0⟩ : ∃ row, row = l.getD i [] := ⟨_, rfl⟩
      rw [← hr0] at hy hck hCk hrl htk
      have HY := Aside0.mk hy
      have HCK := Aside0.mk (And.intro hck hCk)
      have HRL := Aside0.mk hrl
      have HTK := Aside0.mk htk
      have HRR := Aside0.mk (Below.refl wr.heap.size wr)
      clear hy hck hCk hrl htk hr0 ci
      go_wp2_with (first | ((with_reducible refine gate_dst (N := 49) rfl ?_); refine Kd.R_lit k43 (w0 := wr) wr.heap.size 43 ?hg (N := 49) ?hd (xs := ([] : List S43)) (inner := []) (ok := fun _ => True) (okp := fun _ => True) ?hr ?hp (fun _ _ => trivial) trivial ?hB ?hS (by simp) ?_; (case hd => rfl); (case hg => rfl); (case hr => first | (go_simp; done) | (go_simp; rfl)); (case hp => exact Reps.none _ _); (case hB => exact HRR.out); (case hS => exact Nat.le_refl _); intro v60 w60 ho hb hg hat; obtain ⟨x0, _, _, _, _, _⟩ := HBX.out w60 (HXV.out.trans (hb.mono (below_size HXV.out))); have hlc6 : w60.cell? (adl.add i) = some (.slice Al row.length cl) := cell_later_ HY.out (HX.out.trans (hb.mono (below_size HX.out))); have HO60 := Aside0.mk ho; have HB60 := Aside0.mk hb; clear ho hb hg hat) | ((with_reducible refine gate_builtin (b := .append) (xs := #[.tmp 49, .tmp 54]) rfl ?_); at_builtin; refine Kd.R_append_rows k43 (Rr := RV) (w0 := wr) wr.heap.size rfl (.tmp 49) (.tmp 54) 38 43 (.agg #[.bool false, .string ⟨#[]⟩]) 24 rfl Try.underlying38 info43 rfl (by decide) (by omega) v60 ([] : List S43) row Al (List.length row) cl (fun _ => True) (fun _ => False) rfl rfl ?aO ?aR (fun x cs h => RV_M _ _ _ x cs h) (fun _ h => h.elim) ?aF ?aB ?aS ?aL ?_; (case aO => exact HO60.out); (case aR => exact C_RV (Kd.C_below HCK.out.2 (HX.out.trans (HB60.out.mono (below_size HX.out))))); (case aF => exact (fun _ _ => trivial)); (case aB => exact HB60.out); (case aS => exact below_size HB60.out); (case aL => have h9 := HRL.out; (try simp only [List.length_nil]); omega); intro v65 w65 ho hb hg hat; rw [List.nil_append] at ho; obtain ⟨A65, c65, e65⟩ := Kd.R_slice ho; subst e65; have HO65 := Aside0.mk ho; have HB65 := Aside0.mk hb; clear ho hb hg hat hlc6) | ((with_reducible refine gate_builtin (b := .append) (xs := #[.tmp 48, .tmp 56]) rfl ?_); at_builtin; refine Kd.R_append (Kd.slice 43 k43) (w0 := w2) w2.heap.size rfl (.tmp 48) (.tmp 56) 22 38 (.slice none 0 0) 24 rfl Try.underlying22 info38 rfl (by decide) (by omega) vP (l.take i) row [.slice A65 (List.length row) c65] (fun _ => True) (fun k => some k = (Value.slice A65 (List.length row) c65).ownBlock) rfl rfl ?aP ?aK ?aF ?aO ?aB ?aS ?aL ?_; (case aP => exact M_row (Kd.R_lower HO65.out (below_size HBV.out))); (case aK => exact (fun k hk => ⟨trivial, fun e => by have h1 := Kd.R_base HO65.out k hk.symm; have h2 := Kd.R_lt HO.out k e.symm; omega⟩)); (case aF => exact (fun _ _ => trivial)); (case aO => exact Kd.R_below HO.out HB65.out); (case aB => exact HBV.out.trans (HB65.out.mono (below_size HBV.out))); (case aS => exact Nat.le_trans (below_size HBV.out) (below_size HB65.out)); (case aL => have h9 := HLN.out.1; rw [List.length_take]; omega); intro v70 w70 ho hb hg hat; have HO70 := Aside0.mk ho; have HB70 := Aside0.mk hb; clear ho hb hg hat))
      go_roundg k1
      case measure => omega
      case rel => exact ⟨i + 1, by first | (rw [wi, HI1.out]; done) | (rw [HI1.out]; done), ⟨by have := HI.out; omega⟩, ⟨by rw [HTK.out]; exact HO70.out⟩, HB70⟩
theorem JoinKeeps (A0 : Option Addr) (c0 : Nat) (l : List Key) (m : Int) (A2 : Option Addr) (c2 : Nat) (lk : List Int) (A1 : Option Addr) (c1 : Nat) (r : List Key) (m1 : Int) (A3 : Option Addr) (c3 : Nat) (rk : List Int) (ch : Int) (w : World)
    (hl : Kd.C (Kd.slice 43 k43) w A0 l.length l) (hcl : l.length ≤ c0) (hr : Kd.C (Kd.slice 43 k43) w A1 r.length r) (hcr : r.length ≤ c1) (hlk : Kd.C (Kd.int .i64) w A2 lk.length lk) (hclk : lk.length ≤ c2) (hrk : Kd.C (Kd.int .i64) w A3 rk.length rk) (hcrk : rk.length ≤ c3) (hch : (Lit.int .u8 ch).wf = true) :
    Calls Try.prog 7 #[sideV A0 l c0 m A2 lk c2, sideV A1 r c1 m1 A3 rk c3, .int .u8 ch] w fun e w' => e = .returned (.bool true) ∧ Below w.heap.size w w' := by
  obtain ⟨k, b, h, hp⟩ := fine_f (1 + ch % 4) l r lk rk m m1
  have hF : ∀ V, Below w.heap.size w V → Calls Try.prog 9 #[.int .i64 (1 + ch % 4), .slice A0 l.length c0, .slice A1 r.length c1, .slice A2 lk.length c2, .slice A3 rk.length c3, .int .i64 m, .int .i64 m1] V fun e w' => e = .returned (.bool b) ∧ Below V.heap.size V w' := fun V hV => (hopperlaw23_fine.calls k (1 + ch % 4) A0 c0 l A1 c1 r A2 c2 lk A3 c3 rk m m1 b V (Kd.C_below hl hV) hcl (Kd.C_below hr hV) hcr (Kd.C_below hlk hV) hclk (Kd.C_below hrk hV) hcrk h).mono (fun e w' h => ⟨h.1, h.2.below⟩)
  cases b with
  | false => exact keeps_no ch hch A0 c0 l m A2 c2 lk A1 c1 r m1 A3 c3 rk w hl hcl hr hcr hlk hclk hrk hcrk false hF rfl
  | true =>
    have h9 := (fine_cols2 (hp rfl)).1
    have e1 : m1 = ((m1.toNat : Nat) : Int) := by have := h9.2.1.1; omega
    rw [e1] at hF h9 ⊢
    exact keeps_yes ch hch A0 c0 l m A2 c2 lk A1 c1 r m1.toNat A3 c3 rk w hl hcl hr hcr hlk hclk hrk hcrk hF h9
end Go.Proofs.Ytcbjkejboegmlaa.HW
