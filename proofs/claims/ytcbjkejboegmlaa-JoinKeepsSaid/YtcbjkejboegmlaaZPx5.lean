import Derived.Test.YtcbjkejboegmlaaZPx0
-- Written by hp.py, a wrapper round the kit's print; not by print.sh.
namespace Go.Proofs.Ytcbjkejboegmlaa.P
open Go.RowKit Go.Proofs.YtcbjkejboegmlaaW.PrintWords Go.Proofs.YtcbjkejboegmlaaW.PrintLast Go.Proofs.YtcbjkejboegmlaaW.PrintMore
attribute [local go_sem] max2_int min2_int max_two min_two max_three min_three max_four min_four   -- for this text's walks alone
set_option linter.unusedVariables false
set_option linter.unusedSimpArgs false

/-! ### hopperref16_Rows: function 18 -/
mutual
def hopperref16_Rows.j0 : Nat → List (List (S43)) → Int → Bool → Option (Bool)
  | 0, _, _, _ => none
  | k + 1, x0, x1, x17 => if x17 = true then (some false) else (hopperref16_Rows.l0 k x0 x1 0)
def hopperref16_Rows.l0 : Nat → List (List (S43)) → Int → Int → Option (Bool)
  | 0, _, _, _ => none
  | k + 1, x0, x1, x5 => if x5 < (x0.length : Int) then (if 0 ≤ x5 then (if ((rd_L3 x0 x5).length : Int) = x1 then (hopperref16_Rows.l1 k x0 x1 x5 0) else (some false)) else (none)) else (some true)
def hopperref16_Rows.l1 : Nat → List (List (S43)) → Int → Int → Int → Option (Bool)
  | 0, _, _, _, _ => none
  | k + 1, x0, x1, x5, x6 => if x6 < x1 then (if 0 ≤ x5 then (if x5 < (x0.length : Int) then (if 0 ≤ x6 then (if x6 < ((rd_L3 x0 x5).length : Int) then (if (((rd_T43 (rd_L3 x0 x5) x6).f1).size : Int) > 100 then (some false) else (if (rd_T43 (rd_L3 x0 x5) x6).f0 = true then (if ((rd_T43 (rd_L3 x0 x5) x6).f1).toList = ([] : List UInt8) then (hopperref16_Rows.l1 k x0 x1 x5 (wrap64 (x6 + 1))) else (some false)) else (hopperref16_Rows.l1 k x0 x1 x5 (wrap64 (x6 + 1))))) else (none)) else (none)) else (none)) else (none)) else (hopperref16_Rows.l0 k x0 x1 (wrap64 (x5 + 1)))
end
def hopperref16_Rows.f (k : Nat) (l0 : List (List (S43))) (a1 : Int) : Option (Bool) := if a1 < 1 then (hopperref16_Rows.j0 k l0 a1 true) else (if a1 > 8 then (hopperref16_Rows.j0 k l0 a1 true) else (hopperref16_Rows.j0 k l0 a1 (decide ((l0.length : Int) > 100))))
theorem hopperref16_Rows.mono_l : ∀ k, (∀ y0 y1 y2, LeO (hopperref16_Rows.j0 k y0 y1 y2) (hopperref16_Rows.j0 (k + 1) y0 y1 y2)) ∧ (∀ y0 y1 y2, LeO (hopperref16_Rows.l0 k y0 y1 y2) (hopperref16_Rows.l0 (k + 1) y0 y1 y2)) ∧ (∀ y0 y1 y2 y3, LeO (hopperref16_Rows.l1 k y0 y1 y2 y3) (hopperref16_Rows.l1 (k + 1) y0 y1 y2 y3))
  | 0 => ⟨fun _ _ _ r h => by simp [hopperref16_Rows.j0] at h, fun _ _ _ r h => by simp [hopperref16_Rows.l0] at h, fun _ _ _ _ r h => by simp [hopperref16_Rows.l1] at h⟩
  | k + 1 => by
    obtain ⟨ih0, ih1, ih2⟩ := hopperref16_Rows.mono_l k
    refine ⟨?_, ?_, ?_⟩
    · intro y0 y1 y2
      unfold hopperref16_Rows.j0
      repeat' first
      | (with_reducible exact ih0 _ _ _)
      | (with_reducible exact ih1 _ _ _)
      | (with_reducible exact ih2 _ _ _ _)
      | (with_reducible exact LeO.refl _)
      | (with_reducible exact LeO.none _)
      | (with_reducible refine LeO.ite ?_ ?_)
      | (with_reducible refine LeO.bind ?_ (fun _ => ?_))
      | exact ih0 _ _ _
      | exact ih1 _ _ _
      | exact ih2 _ _ _ _
      | exact LeO.none _
      | refine LeO.ite ?_ ?_
      | refine LeO.bind ?_ (fun _ => ?_)
    · intro y0 y1 y2
      unfold hopperref16_Rows.l0
      repeat' first
      | (with_reducible exact ih0 _ _ _)
      | (with_reducible exact ih1 _ _ _)
      | (with_reducible exact ih2 _ _ _ _)
      | (with_reducible exact LeO.refl _)
      | (with_reducible exact LeO.none _)
      | (with_reducible refine LeO.ite ?_ ?_)
      | (with_reducible refine LeO.bind ?_ (fun _ => ?_))
      | exact ih0 _ _ _
      | exact ih1 _ _ _
      | exact ih2 _ _ _ _
      | exact LeO.none _
      | refine LeO.ite ?_ ?_
      | refine LeO.bind ?_ (fun _ => ?_)
    · intro y0 y1 y2 y3
      unfold hopperref16_Rows.l1
      repeat' first
      | (with_reducible exact ih0 _ _ _)
      | (with_reducible exact ih1 _ _ _)
      | (with_reducible exact ih2 _ _ _ _)
      | (with_reducible exact LeO.refl _)
      | (with_reducible exact LeO.none _)
      | (with_reducible refine LeO.ite ?_ ?_)
      | (with_reducible refine LeO.bind ?_ (fun _ => ?_))
      | exact ih0 _ _ _
      | exact ih1 _ _ _
      | exact ih2 _ _ _ _
      | exact LeO.none _
      | refine LeO.ite ?_ ?_
      | refine LeO.bind ?_ (fun _ => ?_)
theorem hopperref16_Rows.mono : ∀ a0 a1 k, LeO (hopperref16_Rows.f k a0 a1) (hopperref16_Rows.f (k + 1) a0 a1) := by
  intro a0 a1 k
  obtain ⟨ih0, ih1, ih2⟩ := hopperref16_Rows.mono_l k
  unfold hopperref16_Rows.f
  repeat' first
      | (with_reducible exact ih0 _ _ _)
      | (with_reducible exact ih1 _ _ _)
      | (with_reducible exact ih2 _ _ _ _)
      | (with_reducible exact LeO.refl _)
      | (with_reducible exact LeO.none _)
      | (with_reducible refine LeO.ite ?_ ?_)
      | (with_reducible refine LeO.bind ?_ (fun _ => ?_))
      | exact ih0 _ _ _
      | exact ih1 _ _ _
      | exact ih2 _ _ _ _
      | exact LeO.none _
      | refine LeO.ite ?_ ?_
      | refine LeO.bind ?_ (fun _ => ?_)
set_option maxHeartbeats 8000000 in
set_option maxRecDepth 100000 in
theorem hopperref16_Rows.calls (k : Nat) (A0 : Option Addr) (c0 : Nat) (l0 : List (List (S43))) (a1 : Int) (r : Bool) (w : World) (hr0 : Kd.C (Kd.slice 43 k43) w A0 l0.length l0) (hc0 : l0.length ≤ c0) (h : hopperref16_Rows.f k l0 a1 = some r) :
    Calls Try.prog 18 #[.slice A0 l0.length c0, .int .i64 a1] w fun e w' => e = .returned (.bool r) ∧ Drawn0 w w' := by
  have HR0 := Aside0.mk hr0
  have HC0 := Aside0.mk hc0
  clear hr0 hc0
  have H : (if a1 < 1 then (hopperref16_Rows.j0 k l0 a1 true) else (if a1 > 8 then (hopperref16_Rows.j0 k l0 a1 true) else (hopperref16_Rows.j0 k l0 a1 (decide ((l0.length : Int) > 100))))) = some r := h
  clear h
  have HC3 := Aside0.mk H
  clear H
  go_enter Try.func18, Try.ntmps18
  go_upto_region 1 with (fail)
  go_cut [17] (fun v17 wc => ∃ (kq : Nat) (x17_2 : Bool), v17 = .bool x17_2 ∧ Aside0 (hopperref16_Rows.j0 kq l0 a1 x17_2 = some r) ∧ Aside0 (kq ≤ k) ∧ Drawn0 w wc)
  case first =>
    have H := HC3.out
    clear HC3
    by_cases c4 : a1 < 1
    · rw [if_pos c4] at H
      have c4b0 : decide (a1 < 1) = true := decide_eq_true c4
      clear c4
      (first | rw [c4b0] | (simp only [i64_w, i32_w]; rw [c4b0]) | skip)
      have H' := Aside0.mk H
      clear H
      go_wp2
      go_meet
      case rel => exact ⟨_, (true), (by first | rfl | (simp; done) | (simp [*]; done)), H', ⟨by first | omega | exact Nat.le_refl _⟩, by repeat (first | exact Drawn0.refl _ | apply Drawn0.step)⟩
    · rw [if_neg c4] at H
      have c4b0 : decide (a1 < 1) = false := decide_eq_false c4
      clear c4
      (first | rw [c4b0] | (simp only [i64_w, i32_w]; rw [c4b0]) | skip)
      by_cases c5 : a1 > 8
      · rw [if_pos c5] at H
        have c5b0 : decide (8 < a1) = true := decide_eq_true c5
        clear c5
        have H' := Aside0.mk H
        clear H
        go_wp2
        go_meet
        case rel => exact ⟨_, (true), (by first | rfl | (simp; done) | (simp [*]; done)), H', ⟨by first | omega | exact Nat.le_refl _⟩, by repeat (first | exact Drawn0.refl _ | apply Drawn0.step)⟩
      · rw [if_neg c5] at H
        have c5b0 : decide (8 < a1) = false := decide_eq_false c5
        clear c5
        have H' := Aside0.mk H
        clear H
        go_wp2
        go_meet
        case rel => exact ⟨_, (decide ((l0.length : Int) > 100)), (by first | rfl | (simp; done) | (simp [*]; done)), H', ⟨by first | omega | exact Nat.le_refl _⟩, by repeat (first | exact Drawn0.refl _ | apply Drawn0.step)⟩
  case rest =>
    clear HC3
    try clear c1
    try clear p2
    try clear c4
    try clear c4b0
    try clear c5
    try clear c5b0
    obtain ⟨kq, x17_2, rfl, HA, HJ2, ⟨mc2, rfl⟩⟩ := hcut
    cases kq with
    | zero => exact absurd HA.out (by simp [hopperref16_Rows.j0])
    | succ kj2 =>
      have H := HA.out
      clear HA
      simp only [hopperref16_Rows.j0] at H
      by_cases c6 : x17_2 = true
      · subst c6
        have H1 : (some false) = some r := by rw [if_pos rfl] at H; exact H
        clear H
        have H := H1
        clear H1
        obtain rfl := Option.some.inj H
        go_wp2
        go_ret
        exact ⟨by first | rfl | (simp; done) | (simp [*]; done), by repeat (first | exact Drawn0.refl _ | apply Drawn0.step)⟩
      · replace c6 := Bool.eq_false_iff.mpr c6
        subst c6
        have H1 : (hopperref16_Rows.l0 kj2 l0 a1 0) = some r := by rw [if_neg (show ¬ (false = true) by decide)] at H; exact H
        clear H
        have H := H1
        clear H1
        have H' := Aside0.mk H
        clear H
        go_wp2
        go_loopg [5] kj2 (fun kq v5 w' => ∃ (x5_2 : Int), v5 = .int .i64 x5_2 ∧ Aside0 (hopperref16_Rows.l0 kq l0 a1 x5_2 = some r) ∧ Aside0 (kq ≤ kj2) ∧ Drawn0 w w')
        case atStart => exact ⟨(0), (by first | rfl | (simp; done) | (simp [*]; done)), H', ⟨Nat.le_refl _⟩, by repeat (first | exact Drawn0.refl _ | apply Drawn0.step)⟩
        case round =>
          clear H'
          try clear c1
          try clear c2
          try clear p2
          try clear c4
          try clear c4b0
          try clear c5
          try clear c5b0
          try clear c6
          try clear p2
          obtain ⟨x5_2, rfl, HA, HK2, ⟨m2, rfl⟩⟩ := hrel
          cases gk with
          | zero => exact absurd HA.out (by simp [hopperref16_Rows.l0])
          | succ k2 =>
            have H := HA.out
            clear HA
            simp only [hopperref16_Rows.l0] at H
            by_cases c7 : x5_2 < (l0.length : Int)
            · rw [if_pos c7] at H
              have c7b0 : decide (x5_2 < (l0.length : Int)) = true := decide_eq_true c7
              clear c7
              by_cases c8 : 0 ≤ x5_2
              · rw [if_pos c8] at H
                have c8b0 : decide (0 ≤ x5_2) = true := decide_eq_true c8
                clear c8
                by_cases c9 : ((rd_L3 l0 x5_2).length : Int) = a1
                · rw [if_pos c9] at H
                  have c9b0 : (((rd_L3 l0 x5_2).length : Int) == a1) = true := beq_iff_eq.mpr c9
                  have c9b1 : (((rd_L3 l0 x5_2).length : Int) != a1) = false := bne_eq_false_iff_eq.mpr c9
                  clear c9
                  have H' := Aside0.mk H
                  clear H
                  have p170 : 0 ≤ (x5_2 : Int) := of_decide_eq_true (by first | (with_reducible assumption) | assumption)
                  have q170 : x5_2 < (l0.length : Int) := of_decide_eq_true (by first | (with_reducible assumption) | assumption)
                  obtain ⟨ad170, A170_0, c170_0, e170, hx170_0, hl170_0, hi170_0⟩ := at_L3 HR0.out x5_2 p170 q170
                  cases e170
                  have HR170_0 := Aside0.mk hi170_0
                  have HC170_0 := Aside0.mk hl170_0
                  clear hi170_0 hl170_0
                  replace p170 := eq_true p170
                  replace q170 := eq_true q170
                  go_wp2
                  go_loopg [6] k2 (fun kq v6 w' => ∃ (x6_3 : Int), v6 = .int .i64 x6_3 ∧ Aside0 (hopperref16_Rows.l1 kq l0 a1 x5_2 x6_3 = some r) ∧ Aside0 (kq ≤ k2) ∧ Drawn0 w w')
                  case atStart => exact ⟨(0), (by first | rfl | (simp; done) | (simp [*]; done)), H', ⟨Nat.le_refl _⟩, by repeat (first | exact Drawn0.refl _ | apply Drawn0.step)⟩
                  case round =>
                    clear H'
                    try clear c1
                    try clear p1
                    try clear q1
                    try clear hx1
                    try clear c2
                    try clear p2
                    try clear c4
                    try clear c4b0
                    try clear c5
                    try clear c5b0
                    try clear c6
                    try clear c7
                    try clear c7b0
                    try clear c8
                    try clear c8b0
                    try clear c9
                    try clear c9b0
                    try clear c9b1
                    try clear hx170_0
                    try clear p170
                    try clear p2
                    try clear q170
                    obtain ⟨x6_3, rfl, HA, HK3, ⟨m3, rfl⟩⟩ := hrel
                    cases gk with
                    | zero => exact absurd HA.out (by simp [hopperref16_Rows.l1])
                    | succ k3 =>
                      have H := HA.out
                      clear HA
                      simp only [hopperref16_Rows.l1] at H
                      by_cases c10 : x6_3 < a1
                      · rw [if_pos c10] at H
                        have c10b0 : decide (x6_3 < a1) = true := decide_eq_true c10
                        clear c10
                        by_cases c11 : 0 ≤ x5_2
                        · rw [if_pos c11] at H
                          have c11b0 : decide (0 ≤ x5_2) = true := decide_eq_true c11
                          clear c11
                          by_cases c12 : x5_2 < (l0.length : Int)
                          · rw [if_pos c12] at H
                            have c12b0 : decide (x5_2 < (l0.length : Int)) = true := decide_eq_true c12
                            clear c12
                            by_cases c13 : 0 ≤ x6_3
                            · rw [if_pos c13] at H
                              have c13b0 : decide (0 ≤ x6_3) = true := decide_eq_true c13
                              clear c13
                              by_cases c14 : x6_3 < ((rd_L3 l0 x5_2).length : Int)
                              · rw [if_pos c14] at H
                                have c14b0 : decide (x6_3 < ((rd_L3 l0 x5_2).length : Int)) = true := decide_eq_true c14
                                clear c14
                                by_cases c15 : (((rd_T43 (rd_L3 l0 x5_2) x6_3).f1).size : Int) > 100
                                · rw [if_pos c15] at H
                                  have c15b0 : decide (100 < (((rd_T43 (rd_L3 l0 x5_2) x6_3).f1).size : Int)) = true := decide_eq_true c15
                                  have c15b1 : decide (100 < ((rd_T43 (rd_L3 l0 x5_2) x6_3).f1).size) = true := decide_eq_true (by omega)
                                  clear c15
                                  obtain rfl := Option.some.inj H
                                  have p171 : 0 ≤ (x5_2 : Int) := of_decide_eq_true (by first | (with_reducible assumption) | assumption)
                                  have q171 : x5_2 < (l0.length : Int) := of_decide_eq_true (by first | (with_reducible assumption) | assumption)
                                  obtain ⟨ad171, A171_0, c171_0, e171, hx171_0, hl171_0, hi171_0⟩ := at_L3 HR0.out x5_2 p171 q171
                                  obtain rfl : ad170 = ad171 := (by injection e171)
                                  have HR171_0 := Aside0.mk hi171_0
                                  have HC171_0 := Aside0.mk hl171_0
                                  clear hi171_0 hl171_0
                                  replace p171 := eq_true p171
                                  replace q171 := eq_true q171
                                  have p172 : 0 ≤ (x6_3 : Int) := of_decide_eq_true (by first | (with_reducible assumption) | assumption)
                                  have q172 : x6_3 < ((rd_L3 l0 x5_2).length : Int) := of_decide_eq_true (by first | (with_reducible assumption) | assumption)
                                  obtain ⟨ad172, e172, hx172_0, hx172_1⟩ := at_T43 HR171_0.out x6_3 p172 q172
                                  cases e172
                                  replace p172 := eq_true p172
                                  replace q172 := eq_true q172
                                  go_wp2
                                  go_ret
                                  exact ⟨by first | rfl | (simp; done) | (simp [*]; done), by repeat (first | exact Drawn0.refl _ | apply Drawn0.step)⟩
                                · rw [if_neg c15] at H
                                  have c15b0 : decide (100 < (((rd_T43 (rd_L3 l0 x5_2) x6_3).f1).size : Int)) = false := decide_eq_false c15
                                  have c15b1 : decide (100 < ((rd_T43 (rd_L3 l0 x5_2) x6_3).f1).size) = false := decide_eq_false (by omega)
                                  clear c15
                                  obtain ⟨bq16, hbq16⟩ : ∃ b_ : Bool, b_ = ((rd_T43 (rd_L3 l0 x5_2) x6_3).f0) := ⟨_, rfl⟩
                                  replace H : (if bq16 = true then (if ((rd_T43 (rd_L3 l0 x5_2) x6_3).f1).toList = ([] : List UInt8) then (hopperref16_Rows.l1 k3 l0 a1 x5_2 (wrap64 (x6_3 + 1))) else (some false)) else (hopperref16_Rows.l1 k3 l0 a1 x5_2 (wrap64 (x6_3 + 1)))) = some r := by rw [← hbq16] at H; exact H
                                  have Nbq16 := Aside0.mk hbq16
                                  clear hbq16
                                  by_cases c17 : bq16 = true
                                  · subst c17
                                    have H1 : (if ((rd_T43 (rd_L3 l0 x5_2) x6_3).f1).toList = ([] : List UInt8) then (hopperref16_Rows.l1 k3 l0 a1 x5_2 (wrap64 (x6_3 + 1))) else (some false)) = some r := by rw [if_pos rfl] at H; exact H
                                    clear H
                                    have H := H1
                                    clear H1
                                    by_cases c18 : ((rd_T43 (rd_L3 l0 x5_2) x6_3).f1).toList = ([] : List UInt8)
                                    · rw [if_pos c18] at H
                                      have c18b0 : (((rd_T43 (rd_L3 l0 x5_2) x6_3).f1).toList == ([] : List UInt8)) = true := beq_iff_eq.mpr c18
                                      have c18b1 : (((rd_T43 (rd_L3 l0 x5_2) x6_3).f1).toList != ([] : List UInt8)) = false := bne_eq_false_iff_eq.mpr c18
                                      clear c18
                                      have H' := Aside0.mk H
                                      clear H
                                      have p171 : 0 ≤ (x5_2 : Int) := of_decide_eq_true (by first | (with_reducible assumption) | assumption)
                                      have q171 : x5_2 < (l0.length : Int) := of_decide_eq_true (by first | (with_reducible assumption) | assumption)
                                      obtain ⟨ad171, A171_0, c171_0, e171, hx171_0, hl171_0, hi171_0⟩ := at_L3 HR0.out x5_2 p171 q171
                                      obtain rfl : ad170 = ad171 := (by injection e171)
                                      have HR171_0 := Aside0.mk hi171_0
                                      have HC171_0 := Aside0.mk hl171_0
                                      clear hi171_0 hl171_0
                                      replace p171 := eq_true p171
                                      replace q171 := eq_true q171
                                      have p172 : 0 ≤ (x6_3 : Int) := of_decide_eq_true (by first | (with_reducible assumption) | assumption)
                                      have q172 : x6_3 < ((rd_L3 l0 x5_2).length : Int) := of_decide_eq_true (by first | (with_reducible assumption) | assumption)
                                      obtain ⟨ad172, e172, hx172_0, hx172_1⟩ := at_T43 HR171_0.out x6_3 p172 q172
                                      (try rw [← Nbq16.out] at hx172_0)
                                      cases e172
                                      replace p172 := eq_true p172
                                      replace q172 := eq_true q172
                                      have p173 : 0 ≤ (x5_2 : Int) := of_decide_eq_true (by first | (with_reducible assumption) | assumption)
                                      have q173 : x5_2 < (l0.length : Int) := of_decide_eq_true (by first | (with_reducible assumption) | assumption)
                                      obtain ⟨ad173, A173_0, c173_0, e173, hx173_0, hl173_0, hi173_0⟩ := at_L3 HR0.out x5_2 p173 q173
                                      obtain rfl : ad170 = ad173 := (by injection e173)
                                      have HR173_0 := Aside0.mk hi173_0
                                      have HC173_0 := Aside0.mk hl173_0
                                      clear hi173_0 hl173_0
                                      replace p173 := eq_true p173
                                      replace q173 := eq_true q173
                                      have ea_ := Option.some.inj (hx171_0.symm.trans hx173_0)
                                      injection ea_ with ea_ en_ ec_
                                      subst ea_
                                      subst ec_
                                      clear en_
                                      have p174 : 0 ≤ (x6_3 : Int) := of_decide_eq_true (by first | (with_reducible assumption) | assumption)
                                      have q174 : x6_3 < ((rd_L3 l0 x5_2).length : Int) := of_decide_eq_true (by first | (with_reducible assumption) | assumption)
                                      obtain ⟨ad174, e174, hx174_0, hx174_1⟩ := at_T43 HR173_0.out x6_3 p174 q174
                                      (try rw [← Nbq16.out] at hx174_0)
                                      cases e174
                                      replace p174 := eq_true p174
                                      replace q174 := eq_true q174
                                      have p175 : 0 ≤ (x5_2 : Int) := of_decide_eq_true (by first | (with_reducible assumption) | assumption)
                                      have q175 : x5_2 < (l0.length : Int) := of_decide_eq_true (by first | (with_reducible assumption) | assumption)
                                      obtain ⟨ad175, A175_0, c175_0, e175, hx175_0, hl175_0, hi175_0⟩ := at_L3 HR0.out x5_2 p175 q175
                                      obtain rfl : ad170 = ad175 := (by injection e175)
                                      have HR175_0 := Aside0.mk hi175_0
                                      have HC175_0 := Aside0.mk hl175_0
                                      clear hi175_0 hl175_0
                                      replace p175 := eq_true p175
                                      replace q175 := eq_true q175
                                      have ea_ := Option.some.inj (hx171_0.symm.trans hx175_0)
                                      injection ea_ with ea_ en_ ec_
                                      subst ea_
                                      subst ec_
                                      clear en_
                                      have p176 : 0 ≤ (x6_3 : Int) := of_decide_eq_true (by first | (with_reducible assumption) | assumption)
                                      have q176 : x6_3 < ((rd_L3 l0 x5_2).length : Int) := of_decide_eq_true (by first | (with_reducible assumption) | assumption)
                                      obtain ⟨ad176, e176, hx176_0, hx176_1⟩ := at_T43 HR175_0.out x6_3 p176 q176
                                      (try rw [← Nbq16.out] at hx176_0)
                                      cases e176
                                      replace p176 := eq_true p176
                                      replace q176 := eq_true q176
                                      go_wp2
                                      go_roundg k3
                                      case measure => have := HJ2.out; have := HK2.out; have := HK3.out; omega
                                      case rel => exact ⟨(wrap64 (x6_3 + 1)), (by first | rfl | (simp; done) | (simp [*]; done)), H', ⟨by have := HJ2.out; have := HK2.out; have := HK3.out; omega⟩, by repeat (first | exact Drawn0.refl _ | apply Drawn0.step)⟩
                                    · rw [if_neg c18] at H
                                      have c18b0 : (((rd_T43 (rd_L3 l0 x5_2) x6_3).f1).toList == ([] : List UInt8)) = false := beq_eq_false_iff_ne.mpr c18
                                      have c18b1 : (((rd_T43 (rd_L3 l0 x5_2) x6_3).f1).toList != ([] : List UInt8)) = true := bne_iff_ne.mpr c18
                                      obtain rfl := Option.some.inj H
                                      have p171 : 0 ≤ (x5_2 : Int) := of_decide_eq_true (by first | (with_reducible assumption) | assumption)
                                      have q171 : x5_2 < (l0.length : Int) := of_decide_eq_true (by first | (with_reducible assumption) | assumption)
                                      obtain ⟨ad171, A171_0, c171_0, e171, hx171_0, hl171_0, hi171_0⟩ := at_L3 HR0.out x5_2 p171 q171
                                      obtain rfl : ad170 = ad171 := (by injection e171)
                                      have HR171_0 := Aside0.mk hi171_0
                                      have HC171_0 := Aside0.mk hl171_0
                                      clear hi171_0 hl171_0
                                      replace p171 := eq_true p171
                                      replace q171 := eq_true q171
                                      have p172 : 0 ≤ (x6_3 : Int) := of_decide_eq_true (by first | (with_reducible assumption) | assumption)
                                      have q172 : x6_3 < ((rd_L3 l0 x5_2).length : Int) := of_decide_eq_true (by first | (with_reducible assumption) | assumption)
                                      obtain ⟨ad172, e172, hx172_0, hx172_1⟩ := at_T43 HR171_0.out x6_3 p172 q172
                                      (try rw [← Nbq16.out] at hx172_0)
                                      cases e172
                                      replace p172 := eq_true p172
                                      replace q172 := eq_true q172
                                      have p173 : 0 ≤ (x5_2 : Int) := of_decide_eq_true (by first | (with_reducible assumption) | assumption)
                                      have q173 : x5_2 < (l0.length : Int) := of_decide_eq_true (by first | (with_reducible assumption) | assumption)
                                      obtain ⟨ad173, A173_0, c173_0, e173, hx173_0, hl173_0, hi173_0⟩ := at_L3 HR0.out x5_2 p173 q173
                                      obtain rfl : ad170 = ad173 := (by injection e173)
                                      have HR173_0 := Aside0.mk hi173_0
                                      have HC173_0 := Aside0.mk hl173_0
                                      clear hi173_0 hl173_0
                                      replace p173 := eq_true p173
                                      replace q173 := eq_true q173
                                      have ea_ := Option.some.inj (hx171_0.symm.trans hx173_0)
                                      injection ea_ with ea_ en_ ec_
                                      subst ea_
                                      subst ec_
                                      clear en_
                                      have p174 : 0 ≤ (x6_3 : Int) := of_decide_eq_true (by first | (with_reducible assumption) | assumption)
                                      have q174 : x6_3 < ((rd_L3 l0 x5_2).length : Int) := of_decide_eq_true (by first | (with_reducible assumption) | assumption)
                                      obtain ⟨ad174, e174, hx174_0, hx174_1⟩ := at_T43 HR173_0.out x6_3 p174 q174
                                      (try rw [← Nbq16.out] at hx174_0)
                                      cases e174
                                      replace p174 := eq_true p174
                                      replace q174 := eq_true q174
                                      have p175 : 0 ≤ (x5_2 : Int) := of_decide_eq_true (by first | (with_reducible assumption) | assumption)
                                      have q175 : x5_2 < (l0.length : Int) := of_decide_eq_true (by first | (with_reducible assumption) | assumption)
                                      obtain ⟨ad175, A175_0, c175_0, e175, hx175_0, hl175_0, hi175_0⟩ := at_L3 HR0.out x5_2 p175 q175
                                      obtain rfl : ad170 = ad175 := (by injection e175)
                                      have HR175_0 := Aside0.mk hi175_0
                                      have HC175_0 := Aside0.mk hl175_0
                                      clear hi175_0 hl175_0
                                      replace p175 := eq_true p175
                                      replace q175 := eq_true q175
                                      have ea_ := Option.some.inj (hx171_0.symm.trans hx175_0)
                                      injection ea_ with ea_ en_ ec_
                                      subst ea_
                                      subst ec_
                                      clear en_
                                      have p176 : 0 ≤ (x6_3 : Int) := of_decide_eq_true (by first | (with_reducible assumption) | assumption)
                                      have q176 : x6_3 < ((rd_L3 l0 x5_2).length : Int) := of_decide_eq_true (by first | (with_reducible assumption) | assumption)
                                      obtain ⟨ad176, e176, hx176_0, hx176_1⟩ := at_T43 HR175_0.out x6_3 p176 q176
                                      (try rw [← Nbq16.out] at hx176_0)
                                      cases e176
                                      replace p176 := eq_true p176
                                      replace q176 := eq_true q176
                                      go_wp2
                                      go_ret
                                      exact ⟨by first | rfl | (simp; done) | (simp [*]; done), by repeat (first | exact Drawn0.refl _ | apply Drawn0.step)⟩
                                  · replace c17 := Bool.eq_false_iff.mpr c17
                                    subst c17
                                    have H1 : (hopperref16_Rows.l1 k3 l0 a1 x5_2 (wrap64 (x6_3 + 1))) = some r := by rw [if_neg (show ¬ (false = true) by decide)] at H; exact H
                                    clear H
                                    have H := H1
                                    clear H1
                                    have H' := Aside0.mk H
                                    clear H
                                    have p171 : 0 ≤ (x5_2 : Int) := of_decide_eq_true (by first | (with_reducible assumption) | assumption)
                                    have q171 : x5_2 < (l0.length : Int) := of_decide_eq_true (by first | (with_reducible assumption) | assumption)
                                    obtain ⟨ad171, A171_0, c171_0, e171, hx171_0, hl171_0, hi171_0⟩ := at_L3 HR0.out x5_2 p171 q171
                                    obtain rfl : ad170 = ad171 := (by injection e171)
                                    have HR171_0 := Aside0.mk hi171_0
                                    have HC171_0 := Aside0.mk hl171_0
                                    clear hi171_0 hl171_0
                                    replace p171 := eq_true p171
                                    replace q171 := eq_true q171
                                    have p172 : 0 ≤ (x6_3 : Int) := of_decide_eq_true (by first | (with_reducible assumption) | assumption)
                                    have q172 : x6_3 < ((rd_L3 l0 x5_2).length : Int) := of_decide_eq_true (by first | (with_reducible assumption) | assumption)
                                    obtain ⟨ad172, e172, hx172_0, hx172_1⟩ := at_T43 HR171_0.out x6_3 p172 q172
                                    (try rw [← Nbq16.out] at hx172_0)
                                    cases e172
                                    replace p172 := eq_true p172
                                    replace q172 := eq_true q172
                                    have p173 : 0 ≤ (x5_2 : Int) := of_decide_eq_true (by first | (with_reducible assumption) | assumption)
                                    have q173 : x5_2 < (l0.length : Int) := of_decide_eq_true (by first | (with_reducible assumption) | assumption)
                                    obtain ⟨ad173, A173_0, c173_0, e173, hx173_0, hl173_0, hi173_0⟩ := at_L3 HR0.out x5_2 p173 q173
                                    obtain rfl : ad170 = ad173 := (by injection e173)
                                    have HR173_0 := Aside0.mk hi173_0
                                    have HC173_0 := Aside0.mk hl173_0
                                    clear hi173_0 hl173_0
                                    replace p173 := eq_true p173
                                    replace q173 := eq_true q173
                                    have ea_ := Option.some.inj (hx171_0.symm.trans hx173_0)
                                    injection ea_ with ea_ en_ ec_
                                    subst ea_
                                    subst ec_
                                    clear en_
                                    have p174 : 0 ≤ (x6_3 : Int) := of_decide_eq_true (by first | (with_reducible assumption) | assumption)
                                    have q174 : x6_3 < ((rd_L3 l0 x5_2).length : Int) := of_decide_eq_true (by first | (with_reducible assumption) | assumption)
                                    obtain ⟨ad174, e174, hx174_0, hx174_1⟩ := at_T43 HR173_0.out x6_3 p174 q174
                                    (try rw [← Nbq16.out] at hx174_0)
                                    cases e174
                                    replace p174 := eq_true p174
                                    replace q174 := eq_true q174
                                    go_wp2
                                    go_roundg k3
                                    case measure => have := HJ2.out; have := HK2.out; have := HK3.out; omega
                                    case rel => exact ⟨(wrap64 (x6_3 + 1)), (by first | rfl | (simp; done) | (simp [*]; done)), H', ⟨by have := HJ2.out; have := HK2.out; have := HK3.out; omega⟩, by repeat (first | exact Drawn0.refl _ | apply Drawn0.step)⟩
                              · rw [if_neg c14] at H
                                exact absurd H (by simp)
                            · rw [if_neg c13] at H
                              exact absurd H (by simp)
                          · rw [if_neg c12] at H
                            exact absurd H (by simp)
                        · rw [if_neg c11] at H
                          exact absurd H (by simp)
                      · rw [if_neg c10] at H
                        have c10b0 : decide (x6_3 < a1) = false := decide_eq_false c10
                        clear c10
                        have H' := Aside0.mk H
                        clear H
                        go_wp2
                        go_roundg k3
                        case measure => have := HJ2.out; have := HK2.out; have := HK3.out; omega
                        case rel => exact ⟨(wrap64 (x5_2 + 1)), (by first | rfl | (simp; done) | (simp [*]; done)), H', ⟨by have := HJ2.out; have := HK2.out; have := HK3.out; omega⟩, by repeat (first | exact Drawn0.refl _ | apply Drawn0.step)⟩
                · rw [if_neg c9] at H
                  have c9b0 : (((rd_L3 l0 x5_2).length : Int) == a1) = false := beq_eq_false_iff_ne.mpr c9
                  have c9b1 : (((rd_L3 l0 x5_2).length : Int) != a1) = true := bne_iff_ne.mpr c9
                  obtain rfl := Option.some.inj H
                  have p170 : 0 ≤ (x5_2 : Int) := of_decide_eq_true (by first | (with_reducible assumption) | assumption)
                  have q170 : x5_2 < (l0.length : Int) := of_decide_eq_true (by first | (with_reducible assumption) | assumption)
                  obtain ⟨ad170, A170_0, c170_0, e170, hx170_0, hl170_0, hi170_0⟩ := at_L3 HR0.out x5_2 p170 q170
                  cases e170
                  have HR170_0 := Aside0.mk hi170_0
                  have HC170_0 := Aside0.mk hl170_0
                  clear hi170_0 hl170_0
                  replace p170 := eq_true p170
                  replace q170 := eq_true q170
                  go_wp2
                  go_ret
                  exact ⟨by first | rfl | (simp; done) | (simp [*]; done), by repeat (first | exact Drawn0.refl _ | apply Drawn0.step)⟩
              · rw [if_neg c8] at H
                exact absurd H (by simp)
            · rw [if_neg c7] at H
              have c7b0 : decide (x5_2 < (l0.length : Int)) = false := decide_eq_false c7
              clear c7
              obtain rfl := Option.some.inj H
              go_wp2
              go_ret
              exact ⟨by first | rfl | (simp; done) | (simp [*]; done), by repeat (first | exact Drawn0.refl _ | apply Drawn0.step)⟩

end Go.Proofs.Ytcbjkejboegmlaa.P
