import Derived.Test.YtcbjkejboegmlaaZWalkJoinParts
import Derived.Test.YtcbjkejboegmlaaZRefRows
/- JoinRows: the law, walked. -/
set_option linter.unusedVariables false
set_option linter.unusedSimpArgs false
namespace Go.Proofs.Ytcbjkejboegmlaa.HW
open Go.RowKit Go.Proofs.Ytcbjkejboegmlaa.P Go.Proofs.Ytcbjkejboegmlaa.HP Go.Proofs.YtcbjkejboegmlaaW.PrintWords Go.Proofs.YtcbjkejboegmlaaW.PrintLast Go.Proofs.YtcbjkejboegmlaaW.PrintMore
attribute [local go_sem] max2_int min2_int max_two min_two max_three min_three max_four min_four
set_option maxHeartbeats 8000000 in
set_option maxRecDepth 100000 in
theorem rows_no (kind lim : Int) (A0 : Option Addr) (c0 : Nat) (l : List Key) (m : Int) (A2 : Option Addr) (c2 : Nat) (lk : List Int) (A1 : Option Addr) (c1 : Nat) (r : List Key) (m1 : Int) (A3 : Option Addr) (c3 : Nat) (rk : List Int) (w : World)
    (hl : Kd.C (Kd.slice 43 k43) w A0 l.length l) (hcl : l.length ≤ c0) (hr : Kd.C (Kd.slice 43 k43) w A1 r.length r) (hcr : r.length ≤ c1) (hlk : Kd.C (Kd.int .i64) w A2 lk.length lk) (hclk : lk.length ≤ c2) (hrk : Kd.C (Kd.int .i64) w A3 rk.length rk) (hcrk : rk.length ≤ c3)
    (b : Bool) (hF : ∀ V, Below w.heap.size w V → Calls Try.prog 9 #[.int .i64 kind, .slice A0 l.length c0, .slice A1 r.length c1, .slice A2 lk.length c2, .slice A3 rk.length c3, .int .i64 m, .int .i64 m1] V fun e w' => e = .returned (.bool b) ∧ Below V.heap.size V w') (hb : b = false) :
    Calls Try.prog 3 #[.int .i64 kind, sideV A0 l c0 m A2 lk c2, sideV A1 r c1 m1 A3 rk c3, .int .i64 lim] w fun e w' => e = .returned (.bool true) ∧ Below w.heap.size w w' := by
  have HBX := Aside0.mk (boxes w (.slice A0 l.length c0) (.int .i64 m) (.slice A2 lk.length c2) (.slice A1 r.length c1) (.int .i64 m1) (.slice A3 rk.length c3))
  have HB0 := Aside0.mk (below2 w (.cells #[.slice A0 l.length c0, .int .i64 m, .slice A2 lk.length c2] 25) (.cells #[.slice A1 r.length c1, .int .i64 m1, .slice A3 rk.length c3] 25))
  obtain ⟨w0, hw0⟩ : ∃ W, W = ((w.alloc (.cells #[.slice A0 l.length c0, .int .i64 m, .slice A2 lk.length c2] 25)).alloc (.cells #[.slice A1 r.length c1, .int .i64 m1, .slice A3 rk.length c3] 25)) := ⟨_, rfl⟩
  have HW0 := Aside0.mk hw0
  rw [← hw0] at HBX HB0
  have HX := Aside0.mk (Below.refl w0.heap.size w0)
  have HF := Aside0.mk hF
  subst hb
  clear hl hcl hr hcr hlk hclk hrk hcrk hF
  unfold sideV
  go_enter Try.func3, Try.ntmps3
  go_wp2_with fail
  rw [← hw0]
  refine (law23_awake _).mono ?_
  rintro e w1 ⟨rfl, hb⟩
  have HX1 := Aside0.mk (below_step HX.out hb)
  clear hb HX hw0
  obtain ⟨x0, x1, x2, y0, y1, y2⟩ := HBX.out w1 HX1.out
  go_wp2_with fail
  refine (HF.out _ (HB0.out.trans (HX1.out.mono (below_size HB0.out)))).mono ?_
  rintro e w2 ⟨rfl, hb⟩
  have HX2 := Aside0.mk (below_step HX1.out hb)
  clear hb HX1 x0 x1 x2 y0 y1 y2
  go_wp2_with fail
  refine (law23_awake _).mono ?_
  rintro e w3 ⟨rfl, hb⟩
  have HX3 := Aside0.mk (below_step HX2.out hb)
  clear hb HX2
  go_wp2_with fail
  go_ret
  exact ⟨rfl, HB0.out.trans (HX3.out.mono (below_size HB0.out))⟩
theorem fine_cols2 {kind : Int} {l r : List Key} {lk rk : List Int} {m m1 : Int} (h : Fine kind l r lk rk m m1) : Fine 1 l r lk rk m m1 ∧ 1 ≤ kind ∧ kind ≤ 4 := by
  obtain ⟨a, b, c, d, e⟩ := h
  have e0 := e
  unfold rightB at e
  simp only [Bool.and_eq_true, decide_eq_true_eq] at e
  refine ⟨⟨a, b, c, d, ?_⟩, e.1, e.2.1⟩
  unfold rightB at e0 ⊢
  simp only [Bool.and_eq_true, decide_eq_true_eq] at e0 ⊢
  exact ⟨by decide, by decide, e0.2.2⟩
theorem rowsL_wide {kind : Int} {l r : List Key} {lk rk : List Int} {n : Nat} (hl : ∀ row ∈ l, row.length ≤ 1000) (hr : ∀ row ∈ r, row.length ≤ 1000) (hn : n ≤ 1000) : ∀ row ∈ rowsL kind l r lk rk n, row.length ≤ 1000000 := by
  intro row hrow
  rw [rowsL_flat] at hrow
  obtain ⟨x, hx, hm⟩ := List.mem_flatMap.1 hrow
  have hxl := hl x hx
  have hrd : ∀ i, (rd_L3 r i).length ≤ 1000 := fun i => by
    unfold rd_L3
    rcases Nat.lt_or_ge i.toNat r.length with h | h
    · exact hr _ (getD_lt_mem r _ h)
    · simp [List.getD_eq_getElem?_getD, h]
  unfold joinedL at hm
  split at hm
  · split at hm
    · simp at hm
    · simp at hm; subst hm; omega
  · split at hm
    · split at hm
      · simp at hm; subst hm; omega
      · simp at hm
    · split at hm
      · simp at hm; subst hm; simp; omega
      · obtain ⟨i, _, e⟩ := List.mem_map.1 hm
        subst e
        have := hrd i
        simp; omega
set_option maxHeartbeats 8000000 in
set_option maxRecDepth 100000 in
theorem rows_yes (kind lim : Int) (A0 : Option Addr) (c0 : Nat) (l : List Key) (m : Int) (A2 : Option Addr) (c2 : Nat) (lk : List Int) (A1 : Option Addr) (c1 : Nat) (r : List Key) (n : Nat) (A3 : Option Addr) (c3 : Nat) (rk : List Int) (w : World)
    (hl : Kd.C (Kd.slice 43 k43) w A0 l.length l) (hcl : l.length ≤ c0) (hr : Kd.C (Kd.slice 43 k43) w A1 r.length r) (hcr : r.length ≤ c1) (hlk : Kd.C (Kd.int .i64) w A2 lk.length lk) (hclk : lk.length ≤ c2) (hrk : Kd.C (Kd.int .i64) w A3 rk.length rk) (hcrk : rk.length ≤ c3)
    (hF : ∀ V, Below w.heap.size w V → Calls Try.prog 9 #[.int .i64 kind, .slice A0 l.length c0, .slice A1 r.length c1, .slice A2 lk.length c2, .slice A3 rk.length c3, .int .i64 m, .int .i64 (n : Int)] V fun e w' => e = .returned (.bool true) ∧ Below V.heap.size V w') (hb : Fine kind l r lk rk m (n : Int)) :
    Calls Try.prog 3 #[.int .i64 kind, sideV A0 l c0 m A2 lk c2, sideV A1 r c1 (n : Int) A3 rk c3, .int .i64 lim] w fun e w' => e = .returned (.bool true) ∧ Below w.heap.size w w' := by
  have HBX := Aside0.mk (boxes w (.slice A0 l.length c0) (.int .i64 m) (.slice A2 lk.length c2) (.slice A1 r.length c1) (.int .i64 (n : Int)) (.slice A3 rk.length c3))
  have HB0 := Aside0.mk (below2 w (.cells #[.slice A0 l.length c0, .int .i64 m, .slice A2 lk.length c2] 25) (.cells #[.slice A1 r.length c1, .int .i64 (n : Int), .slice A3 rk.length c3] 25))
  obtain ⟨w0, hw0⟩ : ∃ W, W = ((w.alloc (.cells #[.slice A0 l.length c0, .int .i64 m, .slice A2 lk.length c2] 25)).alloc (.cells #[.slice A1 r.length c1, .int .i64 (n : Int), .slice A3 rk.length c3] 25)) := ⟨_, rfl⟩
  have HW0 := Aside0.mk hw0
  rw [← hw0] at HBX HB0
  have HX := Aside0.mk (Below.refl w0.heap.size w0)
  have HF := Aside0.mk hF
  obtain ⟨hb1, hk⟩ := fine_cols2 hb
  obtain ⟨g1, g2, g3, g4, g5, g6, g7⟩ := fine_cols hb1
  have hn : n ≤ 1000 := by have := hb.2.1.2.1; omega
  have hsm : (rowsL kind l r lk rk n).length ≤ 1640 := by
    have h1 := rowsL_small kind l r lk rk n
    have h2 : (r.length + 1) * l.length ≤ 41 * 40 := Nat.mul_le_mul (by have := hb.2.2.2.1; omega) (by have := hb.2.2.1; omega)
    omega
  have hwide := rowsL_wide (kind := kind) (l := l) (r := r) (lk := lk) (rk := rk) (n := n) g6 g7 hn
  obtain ⟨mx, hmx⟩ : ∃ mx : Int, (if lim < 0 then (0 : Int) else lim) = mx := ⟨_, rfl⟩
  have HRA := Aside0.mk (fun (V : World) (h : Below w.heap.size w V) => Rows_ok kind A0 c0 l A1 c1 r A2 c2 lk A3 c3 rk n lim mx V (Kd.C_below hl h) hcl (Kd.C_below hr h) hcr (Kd.C_below hlk h) hclk (Kd.C_below hrk h) hcrk g1 g2 g3 g4 g5 g6 g7 hk hn hmx)
  have HRO := Aside0.mk (fun (V : World) (h : Below w.heap.size w V) => Rows_over kind A0 c0 l A1 c1 r A2 c2 lk A3 c3 rk n lim mx V (Kd.C_below hl h) hcl (Kd.C_below hr h) hcr (Kd.C_below hlk h) hclk (Kd.C_below hrk h) hcrk g1 g2 g3 g4 g5 g6 g7 hk hn hmx)
  have HRR := Aside0.mk (fun (V : World) (h : Below w.heap.size w V) => RefRows_ kind A0 c0 l A1 c1 r A2 c2 lk A3 c3 rk n V (Kd.C_below hl h) hcl (Kd.C_below hr h) hcr (Kd.C_below hlk h) hclk (Kd.C_below hrk h) hcrk g1 g2 g3 g6 g7 hk hn)
  obtain ⟨RL, hRL⟩ : ∃ L, L = rowsL kind l r lk rk n := ⟨_, rfl⟩
  rw [← hRL] at HRA HRO HRR hsm hwide
  have HMX := Aside0.mk hmx
  have HWD := Aside0.mk hwide
  have HSM := Aside0.mk hsm
  clear hl hcl hr hcr hlk hclk hrk hcrk hF g1 g2 g3 g4 g5 g6 g7 hn hsm hb hb1 hk hmx hwide hRL
  unfold sideV
  go_enter Try.func3, Try.ntmps3
  go_wp2_with fail
  rw [← hw0]
  refine (law23_awake _).mono ?_
  rintro e w1 ⟨rfl, hb⟩
  have HX1 := Aside0.mk (below_step HX.out hb)
  clear hb HX hw0
  obtain ⟨x0, x1, x2, y0, y1, y2⟩ := HBX.out w1 HX1.out
  go_wp2_with fail
  refine (HF.out _ (HB0.out.trans (HX1.out.mono (below_size HB0.out)))).mono ?_
  rintro e w2 ⟨rfl, hb⟩
  have HX2 := Aside0.mk (below_step HX1.out hb)
  clear hb HX1 x0 x1 x2 y0 y1 y2 HF
  obtain ⟨x0, x1, x2, y0, y1, y2⟩ := HBX.out w2 HX2.out
  go_wp2_with fail
  have HX22 := Aside0.mk (HB0.out.trans (HX2.out.mono (below_size HB0.out)))
  by_cases hov : (RL.length : Int) ≤ mx
  · refine (HRA.out _ HX22.out hov).mono ?_
    rintro e w3 ⟨v, rfl, ho, hb⟩
    obtain ⟨AR, cR, eR, hlR, hCR⟩ := Kd.R_reads ho
    subst eR
    have HX3 := Aside0.mk (below_step HX2.out hb)
    have HCR := Aside0.mk hCR
    have HLR := Aside0.mk hlR
    clear ho hb HX2 HX22 x0 x1 x2 y0 y1 y2 hlR hCR HRA HRO
    obtain ⟨x0, x1, x2, y0, y1, y2⟩ := HBX.out w3 HX3.out
    go_wp2_with fail
    refine (HRR.out _ (HB0.out.trans (HX3.out.mono (below_size HB0.out)))).mono ?_
    rintro e w4 ⟨v, rfl, ho, hb⟩
    obtain ⟨AS, cS, eS, hlS, hCS⟩ := Kd.R_reads ho
    subst eS
    obtain ⟨ks, hks⟩ := (same18 RL RL (by have := HSM.out; omega) HWD.out).rounds
    rw [decide_eq_true rfl] at hks
    have HSC := Aside0.mk (hopperref18_Same.calls ks AR cR RL AS cS RL true w4 (Kd.C_below HCR.out hb) HLR.out hCS hlS hks)
    have HX4 := Aside0.mk (below_step HX3.out hb)
    clear ho hb HX3 x0 x1 x2 y0 y1 y2 hlS hCS HRR hks
    have hl0 : ¬ (lim < (RL.length : Int) ∧ 0 < (RL.length : Int)) := by
      intro h
      have h9 := HMX.out
      split at h9 <;> omega
    by_cases h1 : lim < (RL.length : Int)
    · have t1 : decide (lim < (RL.length : Int)) = true := decide_eq_true h1
      have t2 : decide ((0 : Int) < (RL.length : Int)) = false := decide_eq_false (by omega)
      have t2n : decide (0 < RL.length) = false := decide_eq_false (by omega)
      clear h1 hl0 hov
      go_wp2_with fail
      refine HSC.out.mono ?_
      rintro e w5 ⟨rfl, hd5⟩
      have HX5 := Aside0.mk (below_step HX4.out hd5.below)
      clear hd5
      go_wp2_with fail
      go_ret
      exact ⟨by first | rfl | simp, HB0.out.trans (HX5.out.mono (below_size HB0.out))⟩
    · have t1 : decide (lim < (RL.length : Int)) = false := decide_eq_false h1
      clear h1 hl0 hov
      go_wp2_with fail
      refine HSC.out.mono ?_
      rintro e w5 ⟨rfl, hd5⟩
      have HX5 := Aside0.mk (below_step HX4.out hd5.below)
      clear hd5
      go_wp2_with fail
      go_ret
      exact ⟨by first | rfl | simp, HB0.out.trans (HX5.out.mono (below_size HB0.out))⟩
  · refine (HRO.out _ HX22.out (by omega)).mono ?_
    rintro e w3 ⟨rfl, hb⟩
    have HX3 := Aside0.mk (below_step HX2.out hb)
    clear hb HX2 HX22 x0 x1 x2 y0 y1 y2 HRA HRO
    obtain ⟨x0, x1, x2, y0, y1, y2⟩ := HBX.out w3 HX3.out
    go_wp2_with fail
    refine (HRR.out _ (HB0.out.trans (HX3.out.mono (below_size HB0.out)))).mono ?_
    rintro e w4 ⟨v, rfl, ho, hb⟩
    obtain ⟨AS, cS, eS⟩ := Kd.R_slice ho
    subst eS
    have HX4 := Aside0.mk (below_step HX3.out hb)
    clear ho hb HX3 x0 x1 x2 y0 y1 y2 HRR
    have h9 : lim < (RL.length : Int) ∧ 0 < (RL.length : Int) := by
      have h9 := HMX.out
      split at h9 <;> omega
    have t1 : decide (lim < (RL.length : Int)) = true := decide_eq_true h9.1
    have t2 : decide ((0 : Int) < (RL.length : Int)) = true := decide_eq_true h9.2
    have t2n : decide (0 < RL.length) = true := decide_eq_true (by omega)
    clear h9 hov
    go_wp2_with fail
    go_ret
    exact ⟨by first | rfl | simp, HB0.out.trans (HX4.out.mono (below_size HB0.out))⟩
theorem JoinRows (kind : Int) (A0 : Option Addr) (c0 : Nat) (l : List Key) (m : Int) (A2 : Option Addr) (c2 : Nat) (lk : List Int) (A1 : Option Addr) (c1 : Nat) (r : List Key) (m1 : Int) (A3 : Option Addr) (c3 : Nat) (rk : List Int) (lim : Int) (w : World)
    (hl : Kd.C (Kd.slice 43 k43) w A0 l.length l) (hcl : l.length ≤ c0) (hr : Kd.C (Kd.slice 43 k43) w A1 r.length r) (hcr : r.length ≤ c1) (hlk : Kd.C (Kd.int .i64) w A2 lk.length lk) (hclk : lk.length ≤ c2) (hrk : Kd.C (Kd.int .i64) w A3 rk.length rk) (hcrk : rk.length ≤ c3) :
    Calls Try.prog 3 #[.int .i64 kind, sideV A0 l c0 m A2 lk c2, sideV A1 r c1 m1 A3 rk c3, .int .i64 lim] w fun e w' => e = .returned (.bool true) ∧ Below w.heap.size w w' := by
  obtain ⟨k, b, h, hp⟩ := fine_f kind l r lk rk m m1
  have hF : ∀ V, Below w.heap.size w V → Calls Try.prog 9 #[.int .i64 kind, .slice A0 l.length c0, .slice A1 r.length c1, .slice A2 lk.length c2, .slice A3 rk.length c3, .int .i64 m, .int .i64 m1] V fun e w' => e = .returned (.bool b) ∧ Below V.heap.size V w' := fun V hV => (hopperlaw23_fine.calls k kind A0 c0 l A1 c1 r A2 c2 lk A3 c3 rk m m1 b V (Kd.C_below hl hV) hcl (Kd.C_below hr hV) hcr (Kd.C_below hlk hV) hclk (Kd.C_below hrk hV) hcrk h).mono (fun e w' h => ⟨h.1, h.2.below⟩)
  cases b with
  | false => exact rows_no kind lim A0 c0 l m A2 c2 lk A1 c1 r m1 A3 c3 rk w hl hcl hr hcr hlk hclk hrk hcrk false hF rfl
  | true =>
    have h9 := hp rfl
    have e1 : m1 = ((m1.toNat : Nat) : Int) := by have := h9.2.1.1; omega
    rw [e1] at hF h9 ⊢
    exact rows_yes kind lim A0 c0 l m A2 c2 lk A1 c1 r m1.toNat A3 c3 rk w hl hcl hr hcr hlk hclk hrk hcrk hF h9
end Go.Proofs.Ytcbjkejboegmlaa.HW
