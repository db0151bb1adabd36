import Derived.Test.YtcbjkejboegmlaaZWalkJoinParts
import Derived.Test.YtcbjkejboegmlaaZJnY
/- JoinPairs: the law, walked. -/
set_option linter.unusedVariables false
set_option linter.unusedSimpArgs false
namespace Go.Proofs.Ytcbjkejboegmlaa.HW
open Go.RowKit Go.Proofs.Ytcbjkejboegmlaa.P Go.Proofs.Ytcbjkejboegmlaa.HP Go.Proofs.YtcbjkejboegmlaaW.PrintWords Go.Proofs.YtcbjkejboegmlaaW.PrintLast Go.Proofs.YtcbjkejboegmlaaW.PrintMore
attribute [local go_sem] max2_int min2_int max_two min_two max_three min_three max_four min_four
set_option maxHeartbeats 8000000 in
set_option maxRecDepth 100000 in
theorem pairs_no (A0 : Option Addr) (c0 : Nat) (l : List Key) (m : Int) (A2 : Option Addr) (c2 : Nat) (lk : List Int) (A1 : Option Addr) (c1 : Nat) (r : List Key) (m1 : Int) (A3 : Option Addr) (c3 : Nat) (rk : List Int) (w : World)
    (hl : Kd.C (Kd.slice 43 k43) w A0 l.length l) (hcl : l.length ≤ c0) (hr : Kd.C (Kd.slice 43 k43) w A1 r.length r) (hcr : r.length ≤ c1) (hlk : Kd.C (Kd.int .i64) w A2 lk.length lk) (hclk : lk.length ≤ c2) (hrk : Kd.C (Kd.int .i64) w A3 rk.length rk) (hcrk : rk.length ≤ c3)
    (b : Bool) (hF : ∀ V, Below w.heap.size w V → Calls Try.prog 9 #[.int .i64 1, .slice A0 l.length c0, .slice A1 r.length c1, .slice A2 lk.length c2, .slice A3 rk.length c3, .int .i64 m, .int .i64 m1] V fun e w' => e = .returned (.bool b) ∧ Below V.heap.size V w') (hb : b = false) :
    Calls Try.prog 5 #[sideV A0 l c0 m A2 lk c2, sideV A1 r c1 m1 A3 rk c3] w fun e w' => e = .returned (.bool true) ∧ Below w.heap.size w w' := by
  have HBX := Aside0.mk (boxes w (.slice A0 l.length c0) (.int .i64 m) (.slice A2 lk.length c2) (.slice A1 r.length c1) (.int .i64 m1) (.slice A3 rk.length c3))
  have HB0 := Aside0.mk (below2 w (.cells #[.slice A0 l.length c0, .int .i64 m, .slice A2 lk.length c2] 25) (.cells #[.slice A1 r.length c1, .int .i64 m1, .slice A3 rk.length c3] 25))
  obtain ⟨w0, hw0⟩ : ∃ W, W = ((w.alloc (.cells #[.slice A0 l.length c0, .int .i64 m, .slice A2 lk.length c2] 25)).alloc (.cells #[.slice A1 r.length c1, .int .i64 m1, .slice A3 rk.length c3] 25)) := ⟨_, rfl⟩
  have HW0 := Aside0.mk hw0
  rw [← hw0] at HBX HB0
  have HX := Aside0.mk (Below.refl w0.heap.size w0)
  have HF := Aside0.mk hF
  subst hb
  clear hl hcl hr hcr hlk hclk hrk hcrk hF
  unfold sideV
  go_enter Try.func5, Try.ntmps5
  go_wp2_with fail
  rw [← hw0]
  refine (law23_awake _).mono ?_
  rintro e w1 ⟨rfl, hb⟩
  have HX1 := Aside0.mk (below_step HX.out hb)
  clear hb HX hw0
  obtain ⟨x0, x1, x2, y0, y1, y2⟩ := HBX.out w1 HX1.out
  go_wp2_with fail
  refine (HF.out _ (HB0.out.trans (HX1.out.mono (below_size HB0.out)))).mono ?_
  rintro e w2 ⟨rfl, hb⟩
  have HX2 := Aside0.mk (below_step HX1.out hb)
  clear hb HX1 x0 x1 x2 y0 y1 y2
  go_wp2_with fail
  refine (law23_awake _).mono ?_
  rintro e w3 ⟨rfl, hb⟩
  have HX3 := Aside0.mk (below_step HX2.out hb)
  clear hb HX2
  go_wp2_with fail
  go_ret
  exact ⟨rfl, HB0.out.trans (HX3.out.mono (below_size HB0.out))⟩
theorem same_calls (row rj : Key) (h1 : row.length ≤ 1000) (h2 : rj.length ≤ 1000) (A B : Option Addr) (V : World) (hA : Kd.C (Kd.slice 43 k43) V A [row, rj].length [row, rj]) (hB : Kd.C (Kd.slice 43 k43) V B [row, rj].length [row, rj]) : Calls Try.prog 12 #[.slice A 2 2, .slice B 2 2] V fun e w' => e = .returned (.bool true) ∧ Drawn0 V w' := by
  obtain ⟨ks, hks⟩ := same_two row rj h1 h2
  exact hopperref18_Same.calls ks A 2 [row, rj] B 2 [row, rj] true V hA (Nat.le_refl _) hB (Nat.le_refl _) hks
theorem wrapN {m n N a b : Nat} (h1 : (m : Int) ≤ 8) (h2 : (n : Int) ≤ 8) (h3 : N = a + b) (h4 : (a : Int) = (m : Int)) (h5 : (b : Int) = (n : Int)) : wrap64 ((m : Int) + (n : Int)) = (N : Int) := by
  unfold wrap64
  omega
theorem lenN {m a : Nat} (h1 : (m : Int) ≤ 8) (h4 : (a : Int) = (m : Int)) : a ≤ 1000 := by omega
set_option maxHeartbeats 8000000 in
set_option maxRecDepth 100000 in
theorem pairs_yes (A0 : Option Addr) (c0 : Nat) (l : List Key) (m : Nat) (A2 : Option Addr) (c2 : Nat) (lk : List Int) (A1 : Option Addr) (c1 : Nat) (r : List Key) (n : Nat) (A3 : Option Addr) (c3 : Nat) (rk : List Int) (w : World)
    (hl : Kd.C (Kd.slice 43 k43) w A0 l.length l) (hcl : l.length ≤ c0) (hr : Kd.C (Kd.slice 43 k43) w A1 r.length r) (hcr : r.length ≤ c1) (hlk : Kd.C (Kd.int .i64) w A2 lk.length lk) (hclk : lk.length ≤ c2) (hrk : Kd.C (Kd.int .i64) w A3 rk.length rk) (hcrk : rk.length ≤ c3)
    (hF : ∀ V, Below w.heap.size w V → Calls Try.prog 9 #[.int .i64 1, .slice A0 l.length c0, .slice A1 r.length c1, .slice A2 lk.length c2, .slice A3 rk.length c3, .int .i64 (m : Int), .int .i64 (n : Int)] V fun e w' => e = .returned (.bool true) ∧ Below V.heap.size V w') (hb : Fine 1 l r lk rk (m : Int) (n : Int)) :
    Calls Try.prog 5 #[sideV A0 l c0 (m : Int) A2 lk c2, sideV A1 r c1 (n : Int) A3 rk c3] w fun e w' => e = .returned (.bool true) ∧ Below w.heap.size w w' := by
  have HBX := Aside0.mk (boxes w (.slice A0 l.length c0) (.int .i64 (m : Int)) (.slice A2 lk.length c2) (.slice A1 r.length c1) (.int .i64 (n : Int)) (.slice A3 rk.length c3))
  have HB0 := Aside0.mk (below2 w (.cells #[.slice A0 l.length c0, .int .i64 (m : Int), .slice A2 lk.length c2] 25) (.cells #[.slice A1 r.length c1, .int .i64 (n : Int), .slice A3 rk.length c3] 25))
  obtain ⟨w0, hw0⟩ : ∃ W, W = ((w.alloc (.cells #[.slice A0 l.length c0, .int .i64 (m : Int), .slice A2 lk.length c2] 25)).alloc (.cells #[.slice A1 r.length c1, .int .i64 (n : Int), .slice A3 rk.length c3] 25)) := ⟨_, rfl⟩
  have HW0 := Aside0.mk hw0
  rw [← hw0] at HBX HB0
  have HX := Aside0.mk (Below.refl w0.heap.size w0)
  have HF := Aside0.mk hF
  obtain ⟨g1, g2, g3, g4, g5, g6, g7⟩ := fine_cols hb
  have hn : n ≤ 1000 := by have := hb.2.1.2.1; omega
  have hsm : (rowsL 1 l r lk rk n).length ≤ 1640 := by
    have h1 := rowsL_small 1 l r lk rk n
    have h2 : (r.length + 1) * l.length ≤ 41 * 40 := Nat.mul_le_mul (by have := hb.2.2.2.1; omega) (by have := hb.2.2.1; omega)
    omega
  have HRW := Aside0.mk (fun (V : World) (h : Below w.heap.size w V) => Rows_ok 1 A0 c0 l A1 c1 r A2 c2 lk A3 c3 rk n 10000 10000 V (Kd.C_below hl h) hcl (Kd.C_below hr h) hcr (Kd.C_below hlk h) hclk (Kd.C_below hrk h) hcrk g1 g2 g3 g4 g5 g6 g7 ⟨by omega, by omega⟩ hn (by decide) (by omega))
  have HM := Aside0.mk (fun (V : World) (h : Below w.heap.size w V) => Matches_ A0 c0 l A1 c1 r A2 c2 lk A3 c3 rk V (Kd.C_below hl h) hcl (Kd.C_below hr h) hcr (Kd.C_below hlk h) hclk (Kd.C_below hrk h) hcrk g1 g2 g3 g4 g5)
  unfold rowsL at HRW hsm
  have hml := matchL_len (keysOf l lk) (keysOf r rk)
  rw [keysOf_len] at hml
  have hma : ∀ i, i < l.length → (matchL (keysOf l lk) (keysOf r rk)).getD i [] = mP (l.getD i []) r lk rk r.length := fun i hi => by
    rw [matchL_at (by rw [keysOf_len]; exact hi), mP_all]
    congr 1
    simp [keysOf, List.getD_eq_getElem?_getD, hi]
  obtain ⟨ms, hms⟩ : ∃ ms, ms = matchL (keysOf l lk) (keysOf r rk) := ⟨_, rfl⟩
  rw [← hms] at HM HRW hsm hml hma
  have HMA := Aside0.mk hma
  have HML := Aside0.mk hml
  have HSM := Aside0.mk hsm
  have HL := Aside0.mk (And.intro hl (And.intro hr (And.intro hlk hrk)))
  have HCL := Aside0.mk (And.intro hcl (And.intro hcr (And.intro hclk hcrk)))
  have HFI := Aside0.mk hb
  have HCO := Aside0.mk (And.intro g1 (And.intro g2 (And.intro g3 (And.intro g6 g7))))
  clear hl hcl hr hcr hlk hclk hrk hcrk hF g1 g2 g3 g4 g5 g6 g7 hn hsm hb hma hml hms
  unfold sideV
  go_enter Try.func5, Try.ntmps5
  go_wp2_with fail
  rw [← hw0]
  refine (law23_awake _).mono ?_
  rintro e w1 ⟨rfl, hb⟩
  have HX1 := Aside0.mk (below_step HX.out hb)
  clear hb HX hw0
  obtain ⟨x0, x1, x2, y0, y1, y2⟩ := HBX.out w1 HX1.out
  go_wp2_with fail
  refine (HF.out _ (HB0.out.trans (HX1.out.mono (below_size HB0.out)))).mono ?_
  rintro e w2 ⟨rfl, hb⟩
  have HX2 := Aside0.mk (below_step HX1.out hb)
  clear hb HX1 x0 x1 x2 y0 y1 y2 HF
  obtain ⟨x0, x1, x2, y0, y1, y2⟩ := HBX.out w2 HX2.out
  go_wp2_with fail
  refine (HM.out _ (HB0.out.trans (HX2.out.mono (below_size HB0.out)))).mono ?_
  rintro e w3 ⟨v, rfl, ho, hb⟩
  obtain ⟨AM, cM, eM, hlM, hCM⟩ := Kd.R_reads ho
  subst eM
  have HX3 := Aside0.mk (below_step HX2.out hb)
  have HCM := Aside0.mk hCM
  rw [HML.out]
  clear ho hb HX2 x0 x1 x2 y0 y1 y2 hlM hCM HM
  obtain ⟨x0, x1, x2, y0, y1, y2⟩ := HBX.out w3 HX3.out
  go_wp2_with fail
  refine (HRW.out _ (HB0.out.trans (HX3.out.mono (below_size HB0.out)))).mono ?_
  rintro e w4 ⟨v, rfl, ho, hb⟩
  obtain ⟨AR, cR, eR, hlR, hCR⟩ := Kd.R_reads ho
  subst eR
  have HX4 := Aside0.mk (below_step HX3.out hb)
  have HCR := Aside0.mk hCR
  have HCM4 := Aside0.mk (Kd.C_below HCM.out hb)
  clear ho hb HX3 x0 x1 x2 y0 y1 y2 hlR hCR HRW HCM
  obtain ⟨x0, x1, x2, y0, y1, y2⟩ := HBX.out w4 HX4.out
  obtain ⟨RL, hRL⟩ : ∃ L, L = accL 1 l r ms n l.length := ⟨_, rfl⟩
  rw [← hRL] at HSM HCR ⊢
  have HRL := Aside0.mk hRL
  have HB4 := Aside0.mk (Below.refl w4.heap.size w4)
  clear hRL
  go_wp2_with fail
  clear x0 x1 x2 y0 y1 y2
  go_loopg [8, 9] (l.length : Nat) (fun kq v8 v9 w' => ∃ i P : Nat, v9 = .int .i64 (i : Int) ∧ v8 = .int .i64 (P : Int) ∧ Aside0 (i + kq = l.length) ∧ Aside0 (P = (accL 1 l r ms n i).length) ∧ Aside0 (Below w4.heap.size w4 w'))
  case atStart => exact ⟨0, 0, rfl, rfl, ⟨by omega⟩, ⟨by simp [accL]⟩, HB4⟩
  case round =>
    clear HB4
    obtain ⟨i, P, rfl, rfl, HI, HP, HBW⟩ := hrel
    cases gk with
    | zero =>
      have hi : i = l.length := by have := HI.out; omega
      have cb : decide ((i : Int) < (l.length : Int)) = false := decide_eq_false (by omega)
      have cb2 : decide (i < l.length) = false := decide_eq_false (by omega)
      have hP : P = RL.length := by rw [HP.out, hi, ← HRL.out]
      subst hP
      clear hi
      go_wp2_with fail
      go_ret
      exact ⟨by first | rfl | simp, HB0.out.trans ((HX4.out.trans (HBW.out.mono (below_size HX4.out))).mono (below_size HB0.out))⟩
    | succ k1 =>
      have ci : i < l.length := by have := HI.out; omega
      have cb : decide ((i : Int) < (l.length : Int)) = true := decide_eq_true (by omega)
      have cb2 : decide (i < l.length) = true := decide_eq_true ci
      have wi : wrap64 ((i : Int) + 1) = (i : Int) + 1 := by unfold wrap64; have := HFI.out.2.2.1; omega
      obtain ⟨wo, hwo⟩ : ∃ V, V = wr := ⟨_, rfl⟩
      rw [← hwo] at HBW ⊢
      clear hwo
      have HBO := Aside0.mk (Below.refl wo.heap.size wo)
      have HXO := Aside0.mk (HX4.out.trans (HBW.out.mono (below_size HX4.out)))
      have HBO0 := Aside0.mk (HB0.out.trans (HXO.out.mono (below_size HB0.out)))
      obtain ⟨adl, Al, cl, e2, hy, hck, hCk⟩ := at_L3 (Kd.C_below HL.out.1 HBO0.out) (i : Int) (by omega) (by omega)
      subst e2
      rw [rdL_get, Int.toNat_natCast] at hy
      rw [rdL_get] at hck hCk
      have hmem := getD_lt_mem l i ci
      have hrm := (HFI.out.1.2.2.2 _ hmem).1
      have hcols := fun c hc => HCO.out.2.1 _ hmem c hc
      have hma := HMA.out i ci
      have hal := acc_len l r ms n i
      have hat := fun k hk => acc_at l r ms n l.length i k ci hk
      rw [← HP.out, ← HRL.out] at hat
      rw [← HP.out] at hal
      obtain ⟨row, hr0⟩ : ∃ row, row = l.getD i [] := ⟨_, rfl⟩
      rw [← hr0] at hy hck hCk hrm hcols hma hat
      have HY := Aside0.mk hy
      have HCK := Aside0.mk hck
      have HCk := Aside0.mk hCk
      have HRM := Aside0.mk hrm
      have HCOL := Aside0.mk hcols
      have HMI := Aside0.mk hma
      have HAL := Aside0.mk hal
      have HAT := Aside0.mk hat
      have p0 : ((0 : Int) ≤ (i : Int)) = True := eq_true (by omega)
      have q0 : ((i : Int) < (l.length : Int)) = True := eq_true (by omega)
      have q0n : (i < l.length) = True := eq_true ci
      clear hy hck hCk hrm hcols hma hal hat hmem hr0 ci
      go_wp2_with fail
      go_loopg [10, 11] (r.length : Nat) (fun kq v10 v11 w' => ∃ j : Nat, v11 = .int .i64 (j : Int) ∧ Aside0 (j + kq = r.length) ∧ Aside0 (Kd.R (Kd.int .i64) 3 w' wo.heap.size (fun _ => True) v10 (mP row r lk rk j)) ∧ Aside0 (Below wo.heap.size wo w'))
      case atStart => exact ⟨0, rfl, ⟨by omega⟩, ⟨Kd.R_nil _ _ _ _ _⟩, ⟨by repeat (first | exact HBO.out | apply pw_below_drewN | apply below_drew1)⟩⟩
      case round =>
        obtain ⟨j, rfl, HJ, HO, HBV⟩ := hrel
        obtain ⟨vO, hvO⟩ : ∃ v, v = u10 := ⟨_, rfl⟩
        rw [← hvO] at HO ⊢
        clear hvO
        have HXV := Aside0.mk (HXO.out.trans (HBV.out.mono (below_size HXO.out)))
        obtain ⟨x0, x1, x2, y0, y1, y2⟩ := HBX.out wr HXV.out
        cases gk with
        | zero =>
          have hj : j = r.length := by have := HJ.out; omega
          have cj : decide ((j : Int) < (r.length : Int)) = false := decide_eq_false (by omega)
          have cj2 : decide (j < r.length) = false := decide_eq_false (by omega)
          rw [hj] at HO
          obtain ⟨A10, c10, e10, hl10, hC10⟩ := Kd.R_reads HO.out
          subst e10
          have HWV := Aside0.mk (HBW.out.trans (HBV.out.mono (below_size HBW.out)))
          obtain ⟨ad, cs, e1, hcs, ⟨Am, cm, hcm, hlm, hCm⟩, hcell⟩ := Kd.C_get (Kd.C_below HCM4.out HWV.out) ([] : List Int) (i : Int) (by omega) (by have := HML.out; have := HI.out; omega)
          subst hcm
          have hx1 := hcell 0 _ rfl
          subst e1
          rw [Int.toNat_natCast] at hlm hCm
          simp only [Int.toNat_natCast, Nat.add_zero, show (Kd.slice 3 (Kd.int .i64)).sz = 1 from rfl, Nat.mul_one] at hx1
          rw [HMI.out] at hlm hCm hx1
          have hme := fun k => mP_mem (row := row) (r := r) (lk := lk) (rk := rk) (j := r.length) (k := k)
          have hmp := mP_len row r lk rk r.length
          have hAT := HAT.out
          have hAL := HAL.out
          rw [HMI.out] at hAT hAL
          obtain ⟨MM, hMM⟩ : ∃ M, M = mP row r lk rk r.length := ⟨_, rfl⟩
          rw [← hMM] at hlm hCm hx1 hl10 hC10 hme hmp hAT hAL ⊢
          obtain ⟨ki, hki⟩ := ints_f MM (by have := HFI.out.2.2.2.1; omega)
          have HIC := Aside0.mk (hopperref03_Ints.calls ki Am cm MM A10 c10 MM true wr hCm hlm hC10 hl10 hki)
          have HC10 := Aside0.mk hC10
          have HME := Aside0.mk hme
          have HMP := Aside0.mk hmp
          have HAT2 := Aside0.mk hAT
          have HAL2 := Aside0.mk hAL
          clear hMM hlm hCm hl10 hC10 hme hmp hAT hAL hki hcs hcell HO hj HJ x0 x1 x2 y1 y2
          go_wp2_with fail
          refine HIC.out.mono ?_
          clear HIC
          rintro e w5 ⟨rfl, hd5⟩
          have hb5 := hd5.below
          have HC105 := Aside0.mk (Kd.C_below HC10.out hb5)
          have HB5 := Aside0.mk (HBV.out.trans (hb5.mono (below_size HBV.out)))
          have HB55 := Aside0.mk (Below.refl w5.heap.size w5)
          clear hd5 hb5 hx1 HC10 y0
          go_wp2_with fail
          go_loopg [8, 12] (MM.length : Nat) (fun kq v8 v12 w' => ∃ k Q : Nat, v12 = .int .i64 (k : Int) ∧ v8 = .int .i64 (Q : Int) ∧ Aside0 (k + kq = MM.length) ∧ Aside0 (Q = P + k) ∧ Aside0 (Below w5.heap.size w5 w'))
          case atStart => exact ⟨0, P, rfl, rfl, ⟨by omega⟩, ⟨by omega⟩, HB55⟩
          case round =>
            clear HB55
            obtain ⟨k, Q, rfl, rfl, HK, HQ, HB6⟩ := hrel
            cases gk with
            | zero =>
              have hk : k = MM.length := by have := HK.out; omega
              have ck : decide ((k : Int) < (MM.length : Int)) = false := decide_eq_false (by omega)
              have ck2 : decide (k < MM.length) = false := decide_eq_false (by omega)
              have HP1 : Aside0 (Q = (accL 1 l r ms n (i + 1)).length) := ⟨by rw [HQ.out, HAL2.out, hk]⟩
              have HBN := Aside0.mk (HBW.out.trans ((HB5.out.trans (HB6.out.mono (below_size HB5.out))).mono (below_size HBW.out)))
              have HI1 : Aside0 ((i : Int) + 1 = ((i + 1 : Nat) : Int)) := ⟨by omega⟩
              clear hk
              go_wp2_with fail
              go_roundg k1
              case measure => omega
              case rel => exact ⟨i + 1, Q, by rw [wi, HI1.out], rfl, ⟨by have := HI.out; omega⟩, HP1, HBN⟩
            | succ k3 =>
              have ckk : k < MM.length := by have := HK.out; omega
              have ck : decide ((k : Int) < (MM.length : Int)) = true := decide_eq_true (by omega)
              have ck2 : decide (k < MM.length) = true := decide_eq_true ckk
              have wk : wrap64 ((k : Int) + 1) = (k : Int) + 1 := by unfold wrap64; have := HMP.out; have := HFI.out.2.2.2.1; omega
              obtain ⟨hQ, hbig⟩ := HAT2.out k ckk
              rw [← HQ.out] at hQ hbig
              have wQ : wrap64 ((Q : Int) + 1) = (Q : Int) + 1 := by unfold wrap64; have := HSM.out; omega
              obtain ⟨j, hjm, hjr⟩ := HME.out k ckk
              rw [hjm, rdL_get] at hbig
              have HBr := Aside0.mk (HB5.out.trans (HB6.out.mono (below_size HB5.out)))
              have HXR := Aside0.mk (HXO.out.trans (HBr.out.mono (below_size HXO.out)))
              have HX9 := Aside0.mk (HBW.out.trans (HBr.out.mono (below_size HBW.out)))
              have HX00 := Aside0.mk (HB0.out.trans (HXR.out.mono (below_size HB0.out)))
              obtain ⟨x0, x1, x2, y0, y1, y2⟩ := HBX.out wr HXR.out
              obtain ⟨adR, Ab, cb, e4, hbc, hbk, hbC⟩ := at_L3 (Kd.C_below HCR.out HX9.out) (Q : Int) (by omega) (by omega)
              subst e4
              rw [rdL_get, Int.toNat_natCast] at hbc
              rw [rdL_get] at hbk hbC
              obtain ⟨adr, Aj, cj, e5, hrc, hrk', hrC⟩ := at_L3 (Kd.C_below HL.out.2.1 HX00.out) (j : Int) (by omega) (by omega)
              subst e5
              rw [rdL_get, Int.toNat_natCast] at hrc
              rw [rdL_get] at hrk' hrC
              obtain ⟨adA, e6, hac⟩ := Kd.at_int (Kd.C_below HC105.out HB6.out) (k : Int) (by omega) (by omega)
              subst e6
              rw [Int.toNat_natCast, hjm] at hac
              have hrm2 := (HFI.out.2.1.2.2.2 _ (getD_lt_mem r j hjr)).1
              have hlc : wr.cell? (adl.add i) = some (.slice Al row.length cl) := cell_later HY.out HBr.out
              obtain ⟨rj, hrj⟩ : ∃ x, x = r.getD j [] := ⟨_, rfl⟩
              rw [← hrj] at hbig hrc hrk' hrC hrm2
              rw [hbig] at hbc hbk hbC
              have hNN : (row ++ rj).length = row.length + rj.length := List.length_append
              obtain ⟨N, hN⟩ : ∃ N, N = (row ++ rj).length := ⟨_, rfl⟩
              rw [← hN] at hbc hbk hbC hNN
              obtain ⟨At, ct, hct, hcb, hcutA, hcutB, hCC⟩ := cut_two Ab cb N row rj hN hbk
              have hrm := HRM.out
              rw [hrm] at hcutA hcutB
              have wN : wrap64 ((m : Int) + (n : Int)) = (N : Int) := wrapN HFI.out.1.2.1 HFI.out.2.1.2.1 hNN hrm hrm2
              have l1 : row.length ≤ 1000 := lenN HFI.out.1.2.1 hrm
              have l2 : rj.length ≤ 1000 := lenN HFI.out.2.1.2.1 hrm2
              have HSC := Aside0.mk (same_calls row rj l1 l2)
              clear l1 l2
              have HCB := Aside0.mk (And.intro hcb hct)
              have HCC := Aside0.mk (And.intro HCK.out hrk')
              have HC1 : Aside0 (∀ V, Below wr.heap.size wr V → Kd.C k43 V Ab row.length row ∧ Kd.C k43 V At rj.length rj) := ⟨fun V hV => hCC V (Kd.C_below hbC hV)⟩
              have HC2 : Aside0 (∀ V, Below wr.heap.size wr V → Kd.C k43 V Al row.length row ∧ Kd.C k43 V Aj rj.length rj) := ⟨fun V hV => ⟨Kd.C_below HCk.out (HBr.out.trans (hV.mono (below_size HBr.out))), Kd.C_below hrC hV⟩⟩
              have HI2 : Aside0 ((k : Int) + 1 = ((k + 1 : Nat) : Int) ∧ (Q : Int) + 1 = ((Q + 1 : Nat) : Int)) := ⟨by omega, by omega⟩
              have ti : i < l.length := by have := HI.out; omega
              clear hbig hjm hbk hbC hrk' hrC hrm2 hrj hNN hN hct hcb hCC hrm x2 y2
              go_wp2_with fail
              refine reg22 (by kernel_rfl) (fun _ _ T _ _ h => by cases T <;> exact h) x1 y1 x0 y0 hbc hlc hac hrc hcutA hcutB wN hQ ckk hjr ti HCB HCC HC1 HC2 HSC ?_
              intro x110 x111 x112 x113 x114 x115 x116 x117 x118 x119 x120 x121 x122 x123 x124 x125 x126 x127 x128 x129 x130 x131 x132 x133 x134 x135 x136 x137 x138 x139 x140 x141 x142 x143 x144 x145 x146 x147 x148 x149 x150 x151 x152 x153 x154 x155 x156 x157 x158 w10 hb10
              have HB10 := Aside0.mk hb10
              clear hb10 hQ ckk hjr ti x0 x1 y0 y1 hbc hlc hac hrc hcutA hcutB
              go_wp2_with fail
              go_roundg k3
              case measure => omega
              case rel => exact ⟨k + 1, Q + 1, by rw [wk, HI2.out.1], by rw [wQ, HI2.out.2], ⟨by have := HK.out; omega⟩, ⟨by have := HQ.out; omega⟩, ⟨HB6.out.trans (HB10.out.mono (below_size HB6.out))⟩⟩
        | succ k2 =>
          have cij : j < r.length := by have := HJ.out; omega
          have cj : decide ((j : Int) < (r.length : Int)) = true := decide_eq_true (by omega)
          have cj2 : decide (j < r.length) = true := decide_eq_true cij
          have wj : wrap64 ((j : Int) + 1) = (j : Int) + 1 := by unfold wrap64; have := HFI.out.2.2.2.1; omega
          have pj : ((0 : Int) ≤ (j : Int)) = True := eq_true (by omega)
          have qj : ((j : Int) < (r.length : Int)) = True := eq_true (by omega)
          have qjn : (j < r.length) = True := eq_true cij
          have HX00 := Aside0.mk (HB0.out.trans (HXV.out.mono (below_size HB0.out)))
          obtain ⟨adr, Aj, cj0, e5, hrc, hrk', hrC⟩ := at_L3 (Kd.C_below HL.out.2.1 HX00.out) (j : Int) (by omega) (by omega)
          subst e5
          rw [rdL_get, Int.toNat_natCast] at hrc
          rw [rdL_get] at hrk' hrC
          have hmem2 := getD_lt_mem r j cij
          have hcolr := fun c hc => HCO.out.2.2.1 _ hmem2 c hc
          have hyes := mP_yes (row := row) (r := r) (lk := lk) (rk := rk) (j := j)
          have hno := mP_no (row := row) (r := r) (lk := lk) (rk := rk) (j := j)
          have hlc : wr.cell? (adl.add i) = some (.slice Al row.length cl) := cell_later HY.out HBV.out
          obtain ⟨rj, hrj⟩ : ∃ x, x = r.getD j [] := ⟨_, rfl⟩
          rw [← hrj] at hrc hrk' hrC hcolr hyes hno
          have HMC := Aside0.mk (Match_ Al cl row Aj cj0 rj A2 c2 lk A3 c3 rk wr.drew (Kd.C_drew (Kd.C_below HCk.out HBV.out)) (Kd.C_drew hrC) (Kd.C_drew (Kd.C_below HL.out.2.2.1 HX00.out)) (Kd.C_drew (Kd.C_below HL.out.2.2.2 HX00.out)) HCO.out.1.2.2.1 (by have := HCO.out.1.2.2.2; omega) HCOL.out hcolr)
          obtain ⟨b, hb⟩ : ∃ b, b = mB (ofL row lk) (ofL rj rk) := ⟨_, rfl⟩
          rw [← hb] at HMC hyes hno
          have HMB : Aside0 (b = true → mP row r lk rk (j + 1) = mP row r lk rk j ++ [(j : Int)]) := ⟨hyes⟩
          have HMN : Aside0 (b = false → mP row r lk rk (j + 1) = mP row r lk rk j) := ⟨hno⟩
          have HI2 : Aside0 ((j : Int) + 1 = ((j + 1 : Nat) : Int)) := ⟨by omega⟩
          have ti : i < l.length := by have := HI.out; omega
          clear hmem2 hcolr hyes hno hrk' hrC hrj hb x1 y1
          go_wp2_with fail
          refine reg15 (by kernel_rfl) (fun _ _ T _ _ h => by cases T <;> exact h) x0 y0 x2 y2 hlc hrc cij ti HMC ?_
          intro x78 x79 x80 x81 x82 x83 x84 x85 x86 x87 x88 x89 x90 x91 w8 hb8
          have HD8 := Aside0.mk hb8
          clear hb8 cij ti x0 y0 x2 y2 hlc hrc HMC pj qj qjn
          have HO8 := Aside0.mk (Kd.R_below HO.out HD8.out)
          have HV8 := Aside0.mk (HBV.out.trans (HD8.out.mono (below_size HBV.out)))
          cases b with
          | true =>
            go_wp2_with (first | ((with_reducible refine gate_builtin (b := .append) (xs := #[.tmp 93, .tmp 95]) rfl ?_); at_builtin; refine Kd.R_append (Kd.int .i64) (w0 := wo) wo.heap.size rfl (.tmp 93) (.tmp 95) 23 3 (.int .i64 0) 8 rfl Try.underlying23 infoI rfl (by decide) (by omega) vO (mP row r lk rk j) (j : Int) [.int .i64 (j : Int)] (fun _ => True) (fun _ => False) rfl rfl ?aP (fun _ hk => hk.elim) ?aF ?aO ?aB ?aS ?aL ?_; (case aP => rfl); (case aF => exact (fun _ _ => trivial)); (case aO => exact HO8.out); (case aB => exact HV8.out); (case aS => exact HV8.out.size); (case aL => have h8 := mP_len row r lk rk j; have h9 := HFI.out.2.2.2.1; have := HJ.out; omega); intro v3 w3 ho hb hg hat; rw [← HMB.out rfl] at ho; have HO3 := Aside0.mk ho; have HB3 := Aside0.mk hb; clear ho hb hg hat))
            go_roundg k2
            case measure => omega
            case rel => exact ⟨j + 1, by first | rw [HI2.out] | rw [wj, HI2.out], ⟨by have := HJ.out; omega⟩, HO3, HB3⟩
          | false =>
            go_wp2_with fail
            go_roundg k2
            case measure => omega
            case rel => exact ⟨j + 1, by first | rw [HI2.out] | rw [wj, HI2.out], ⟨by have := HJ.out; omega⟩, ⟨by first | (rw [HMN.out rfl]; exact HO8.out) | (rw [HMN.out trivial]; exact HO8.out)⟩, HV8⟩
theorem JoinPairs (A0 : Option Addr) (c0 : Nat) (l : List Key) (m : Int) (A2 : Option Addr) (c2 : Nat) (lk : List Int) (A1 : Option Addr) (c1 : Nat) (r : List Key) (m1 : Int) (A3 : Option Addr) (c3 : Nat) (rk : List Int) (w : World)
    (hl : Kd.C (Kd.slice 43 k43) w A0 l.length l) (hcl : l.length ≤ c0) (hr : Kd.C (Kd.slice 43 k43) w A1 r.length r) (hcr : r.length ≤ c1) (hlk : Kd.C (Kd.int .i64) w A2 lk.length lk) (hclk : lk.length ≤ c2) (hrk : Kd.C (Kd.int .i64) w A3 rk.length rk) (hcrk : rk.length ≤ c3) :
    Calls Try.prog 5 #[sideV A0 l c0 m A2 lk c2, sideV A1 r c1 m1 A3 rk c3] w fun e w' => e = .returned (.bool true) ∧ Below w.heap.size w w' := by
  obtain ⟨k, b, h, hp⟩ := fine_f 1 l r lk rk m m1
  have hF : ∀ V, Below w.heap.size w V → Calls Try.prog 9 #[.int .i64 1, .slice A0 l.length c0, .slice A1 r.length c1, .slice A2 lk.length c2, .slice A3 rk.length c3, .int .i64 m, .int .i64 m1] V fun e w' => e = .returned (.bool b) ∧ Below V.heap.size V w' := fun V hV => (hopperlaw23_fine.calls k 1 A0 c0 l A1 c1 r A2 c2 lk A3 c3 rk m m1 b V (Kd.C_below hl hV) hcl (Kd.C_below hr hV) hcr (Kd.C_below hlk hV) hclk (Kd.C_below hrk hV) hcrk h).mono (fun e w' h => ⟨h.1, h.2.below⟩)
  cases b with
  | false => exact pairs_no A0 c0 l m A2 c2 lk A1 c1 r m1 A3 c3 rk w hl hcl hr hcr hlk hclk hrk hcrk false hF rfl
  | true =>
    have h9 := hp rfl
    have e0 : m = ((m.toNat : Nat) : Int) := by have := h9.1.1; omega
    have e1 : m1 = ((m1.toNat : Nat) : Int) := by have := h9.2.1.1; omega
    rw [e0, e1] at hF h9 ⊢
    exact pairs_yes A0 c0 l m.toNat A2 c2 lk A1 c1 r m1.toNat A3 c3 rk w hl hcl hr hcr hlk hclk hrk hcrk hF h9
end Go.Proofs.Ytcbjkejboegmlaa.HW
