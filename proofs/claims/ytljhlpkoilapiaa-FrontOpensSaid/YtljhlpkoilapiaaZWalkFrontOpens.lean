import Derived.Test.YtljhlpkoilapiaaZC
import Derived.Test.YtljhlpkoilapiaaZPx13
import Derived.Test.YtljhlpkoilapiaaZPx17
/- FrontOpens: the law, walked. -/
set_option linter.unusedVariables false
set_option linter.unusedSimpArgs false
namespace Go.Proofs.Ytljhlpkoilapiaa.HW
open Go.RowKit Go.Proofs.Ytljhlpkoilapiaa.P Go.Proofs.Ytljhlpkoilapiaa.HP Go.Proofs.YtljhlpkoilapiaaW.PrintWords Go.Proofs.YtljhlpkoilapiaaW.PrintLast Go.Proofs.YtljhlpkoilapiaaW.PrintMore
attribute [local go_sem] max2_int min2_int max_two min_two max_three min_three max_four min_four
theorem isBy_wf {l : List Int} (h : ∀ x ∈ l, (Lit.int .u8 x).wf = true) : isBy l := fun x hx => by
  have h9 := h x hx
  simp [Lit.wf, IntKind.min, IntKind.max, IntKind.signed, IntKind.bits] at h9
  omega
theorem same_any (X Y : List Int) : ∃ r, hopperref01_Same.f X Y = some r ∧ (X = Y → r = true) := ⟨_, rfl, fun h => by subst h; exact Option.some.inj (same_self X)⟩
theorem fsum_small (l : List ByteArray) (h : smallL l) : fsum l ≤ 4096 * l.length := by
  induction l with
  | nil => simp [fsum]
  | cons a l ih =>
    have h1 := h a List.mem_cons_self
    have h2 := ih (fun s hs => h s (List.mem_cons_of_mem _ hs))
    unfold fsum at *
    simp only [List.map_cons, List.sum_cons, List.length_cons]
    omega
set_option maxHeartbeats 8000000 in
set_option maxRecDepth 100000 in
theorem FrontOpens_long (A0 : Option Addr) (c0 : Nat) (l0 : List Int) (w : World) (hr : Kd.C (Kd.int .u8) w A0 l0.length l0) (hcl : l0.length ≤ c0) (h : 3000 < l0.length) :
    Calls Try.prog 4 #[.slice A0 l0.length c0] w fun e w' => e = .returned (.bool true) ∧ Below w.heap.size w w' := by
  have HR := Aside0.mk hr
  have HC := Aside0.mk hcl
  have HB := Aside0.mk (Below.refl w.heap.size w)
  have t1 : decide (3000 < (l0.length : Int)) = true := decide_eq_true (by omega)
  have t2 : decide (3000 < l0.length) = true := decide_eq_true h
  clear hr hcl h
  go_enter Try.func4, Try.ntmps4
  go_wp2_with fail
  refine (law13_awake _).mono ?_
  rintro e w1 ⟨rfl, hb⟩
  have HB1 := Aside0.mk (below_step HB.out hb)
  clear HB hb
  go_wp2_with fail
  refine (law13_awake _).mono ?_
  rintro e w3 ⟨rfl, hb⟩
  have HB3 := Aside0.mk (below_step HB1.out hb)
  clear HB1 hb
  go_wp2_with fail
  go_ret
  exact ⟨rfl, HB3.out⟩
set_option maxHeartbeats 8000000 in
set_option maxRecDepth 100000 in
theorem FrontOpens_bad (A0 : Option Addr) (c0 : Nat) (l0 : List Int) (w : World) (hr : Kd.C (Kd.int .u8) w A0 l0.length l0) (hcl : l0.length ≤ c0) (h : l0.length ≤ 3000) (a' : Nat) (e' : Int) (hop : OpenR l0 0 [] a' e') (he : e' ≠ 0) :
    Calls Try.prog 4 #[.slice A0 l0.length c0] w fun e w' => e = .returned (.bool true) ∧ Below w.heap.size w w' := by
  have HR := Aside0.mk hr
  have HC := Aside0.mk hcl
  have HB := Aside0.mk (Below.refl w.heap.size w)
  have HL := Aside0.mk h
  have HOP := Aside0.mk hop
  have hz : (e' == 0) = false := beq_eq_false_iff_ne.2 he
  have hz2 : (e' != 0) = true := bne_iff_ne.2 he
  have hz3 : decide (e' = 0) = false := decide_eq_false he
  have hz4 : (e' = 0) = False := eq_false he
  have t1 : decide (3000 < (l0.length : Int)) = false := decide_eq_false (by omega)
  have t2 : decide (3000 < l0.length) = false := decide_eq_false (by omega)
  have HE := Aside0.mk he
  clear hr hcl h hop he
  go_enter Try.func4, Try.ntmps4
  go_wp2_with fail
  refine (law13_awake _).mono ?_
  rintro e w1 ⟨rfl, hb⟩
  have HB1 := Aside0.mk (below_step HB.out hb)
  clear HB hb
  go_wp2_with fail
  refine (Cur.make A0 c0 l0 _ (Kd.C_below HR.out HB1.out) HC.out (by have := HL.out; omega)).mono ?_
  rintro e w2 ⟨g, rfl, hc2, hb2⟩
  have HC2 := Aside0.mk hc2
  have HS2 := Aside0.mk (below_size hb2)
  have HB2 := Aside0.mk (below_step HB1.out hb2)
  have HG2 := Aside0.mk hc2.lt
  have HR2 := Aside0.mk (Kd.C_below HR.out HB2.out)
  have HHB : Aside0 (∀ W : World, Below w1.heap.size w1 W → Below w.heap.size w W) := ⟨fun W hW => HB1.out.trans (hW.mono (below_size HB1.out))⟩
  have HX2 := Aside0.mk hb2
  clear hc2 hb2
  go_wp2_with fail
  refine (Open_ _ HC2.out _ _ _ HOP.out).mono ?_
  rintro e w3 ⟨q, rfl, hq, hd3, hc3, hk3, hb3⟩
  have HD3 := Aside0.mk hd3
  have HC3 := Aside0.mk hc3
  have HX3 := Aside0.mk (HX2.out.trans hb3)
  clear hd3 hc3 hk3 hb3 hq HB2
  go_wp2_with fail
  refine (Cur.good HC3.out (r := false) (i' := (a' : Int)) (e' := e') (by unfold cursor_Cursor_Good.f; rw [beq_eq_false_iff_ne.2 HE.out])).mono ?_
  rintro e w4 ⟨rfl, hc4, hk4, hb4⟩
  have HC4 := Aside0.mk hc4
  have HD4 := Aside0.mk (HD3.out.keep hk4 HG2.out)
  have HX4 := Aside0.mk (HX3.out.trans hb4)
  clear hc4 hk4 hb4 HC3 HD3 HX3
  go_wp2_with fail
  refine (DictP.len _ q [] HD4.out).mono ?_
  rintro e w5 ⟨rfl, hb5⟩
  have HD5 := Aside0.mk (HD4.out.below hb5)
  have HC5 := Aside0.mk (HC4.out.below hb5)
  have HX5 := Aside0.mk (HX4.out.trans (hb5.mono (below_size HX4.out)))
  clear HD4 HC4 HX4 hb5
  rw [show (([] : List ByteArray).length : Int) = 0 from rfl]
  go_wp2_with fail
  refine (DictP.all _ q [] HD5.out (by decide)).mono ?_
  rintro e w6 ⟨v6, rfl, ho6, hb6⟩
  obtain ⟨A6, c6, rfl⟩ := Kd.R_slice ho6
  rw [show ([] : List ByteArray).length = 0 from rfl]
  have HC6 := Aside0.mk (HC5.out.below hb6)
  have HX6 := Aside0.mk (HX5.out.trans (hb6.mono (below_size HX5.out)))
  clear HD5 HC5 HX5 ho6 hb6
  go_wp2_with fail
  refine (Cur.end_ HC6.out (r := e') (i' := (a' : Int)) (e' := e') (by unfold cursor_Cursor_End.f; rw [if_neg HE.out])).mono ?_
  rintro e w7 ⟨rfl, hc7, hk7, hb7⟩
  have HX7 := Aside0.mk (HX6.out.trans hb7)
  clear HC6 HX6 hc7 hk7 hb7
  go_wp2_with fail
  go_ret
  exact ⟨rfl, HHB.out _ HX7.out⟩
set_option maxHeartbeats 8000000 in
set_option maxRecDepth 100000 in
theorem FrontOpens_good (A0 : Option Addr) (c0 : Nat) (l0 : List Int) (w : World) (hr : Kd.C (Kd.int .u8) w A0 l0.length l0) (hcl : l0.length ≤ c0) (h : l0.length ≤ 3000) (d : List ByteArray) (a' : Nat) (hop : OpenR l0 0 d a' 0) (bb : Nat) (hbb : 1 ≤ bb ∧ bb ≤ 64) (hrb : rightL d (bb : Int) = true) (hpp : l0.take a' = buildL bb d) (ha : a' ≤ l0.length) :
    Calls Try.prog 4 #[.slice A0 l0.length c0] w fun e w' => e = .returned (.bool true) ∧ Below w.heap.size w w' := by
  have HR := Aside0.mk hr
  have HC := Aside0.mk hcl
  have HB := Aside0.mk (Below.refl w.heap.size w)
  have HL := Aside0.mk h
  have HOP := Aside0.mk hop
  have t1 : decide (3000 < (l0.length : Int)) = false := decide_eq_false (by omega)
  have t2 : decide (3000 < l0.length) = false := decide_eq_false (by omega)
  obtain ⟨PP, hPP⟩ : ∃ P, P = l0.take a' := ⟨_, rfl⟩
  have hPL : PP.length = a' := by rw [hPP, List.length_take]; omega
  have HPP := Aside0.mk hPP
  have HPB := Aside0.mk (show PP = buildL bb d from hPP.trans hpp)
  have HBB := Aside0.mk hbb
  have HRT := Aside0.mk hrb
  have HA := Aside0.mk ha
  have HPL := Aside0.mk hPL
  have HPC : Aside0 (PP.length ≤ c0) := ⟨by omega⟩
  obtain ⟨i0, hi0, _, hsz, _⟩ := info_parts info8
  have hcut := cut_to (P := Try.prog) 25 5 .i64 Try.underlying25 hi0 A0 l0.length c0 (a' : Int) (by omega) (by omega) hcl
  rw [Int.toNat_natCast, ← hPL, hPL] at hcut
  have HCUT : Aside0 (∀ W : World, (Instr.slice 25 (.slice A0 l0.length c0) none (some (.int .i64 (a' : Int))) none).run Try.prog W = .ok (.slice A0 PP.length c0) W) := ⟨by rw [hPL]; exact hcut⟩
  have hsub : wrap64 ((l0.length : Int) - ((l0.length - a' : Nat) : Int)) = (a' : Int) := by unfold wrap64; omega
  have HSUB := Aside0.mk hsub
  clear hr hcl h hop hPP hpp hrb hbb ha hPL hi0 hsz hcut hsub
  go_enter Try.func4, Try.ntmps4
  go_wp2_with fail
  refine (law13_awake _).mono ?_
  rintro e w1 ⟨rfl, hb⟩
  have HB1 := Aside0.mk (below_step HB.out hb)
  clear HB hb
  go_wp2_with fail
  refine (Cur.make A0 c0 l0 _ (Kd.C_below HR.out HB1.out) HC.out (by have := HL.out; omega)).mono ?_
  rintro e w2 ⟨g, rfl, hc2, hb2⟩
  have HC2 := Aside0.mk hc2
  have HS2 := Aside0.mk (below_size hb2)
  have HB2 := Aside0.mk (below_step HB1.out hb2)
  have HG2 := Aside0.mk hc2.lt
  have HR2 := Aside0.mk (Kd.C_below HR.out HB2.out)
  have HHB : Aside0 (∀ W : World, Below w1.heap.size w1 W → Below w.heap.size w W) := ⟨fun W hW => HB1.out.trans (hW.mono (below_size HB1.out))⟩
  have HX2 := Aside0.mk hb2
  clear hc2 hb2
  go_wp2_with fail
  refine (Open_ _ HC2.out _ _ _ HOP.out).mono ?_
  rintro e w3 ⟨q, rfl, hq, hd3, hc3, hk3, hb3⟩
  have HD3 := Aside0.mk hd3
  have HC3 := Aside0.mk hc3
  have HX3 := Aside0.mk (HX2.out.trans hb3)
  clear hd3 hc3 hk3 hb3 hq HB2
  go_wp2_with fail
  refine (Cur.good HC3.out (r := true) (i' := (a' : Int)) (e' := 0) rfl).mono ?_
  rintro e w4 ⟨rfl, hc4, hk4, hb4⟩
  have HC4 := Aside0.mk hc4
  have HD4 := Aside0.mk (HD3.out.keep hk4 HG2.out)
  have HX4 := Aside0.mk (HX3.out.trans hb4)
  clear hc4 hk4 hb4 HC3 HD3 HX3
  go_wp2_with fail
  refine (Cur.left HC4.out (left_at l0 a' 0 (by have := HL.out; omega) HA.out)).mono ?_
  rintro e w5 ⟨rfl, hc5, hk5, hb5⟩
  have HD5 := Aside0.mk (HD4.out.keep hk5 HG2.out)
  have HX5 := Aside0.mk (HX4.out.trans hb5)
  have hsub := HSUB.out
  clear hc5 hk5 hb5 HC4 HD4 HX4
  go_wp2_with fail
  rw [hsub]
  refine (DictP.all _ q d HD5.out (by have h9 := right_parts HRT.out; omega)).mono ?_
  rintro e w6 ⟨v6, rfl, ho6, hb6⟩
  obtain ⟨A6, c6, rfl, hl6, hr6⟩ := Kd.R_reads ho6
  have HRL := Aside0.mk hr6
  have HL6 := Aside0.mk hl6
  have HDL := Aside0.mk (HD5.out.below hb6)
  have HX6 := Aside0.mk (HX5.out.trans (hb6.mono (below_size HX5.out)))
  have HTL : Aside0 (Kd.C (Kd.int .u8) w6 A0 PP.length PP) := ⟨by
    have h9 := Kd.C_take (m := a') (Kd.C_below HR.out (HHB.out _ HX6.out)) HA.out
    rw [← HPP.out] at h9
    exact h9⟩
  clear HD5 HX5 ho6 hb6 hl6 hr6 hsub
  go_wp2_with fail
  go_loopg [7] (bb - 1) (fun kq v7 w' => ∃ kk : Nat, v7 = .int .i64 (kk : Int) ∧ Aside0 (kk + kq = bb ∧ 1 ≤ kk) ∧ Aside0 (Below w6.heap.size w6 w'))
  case atStart => exact ⟨1, rfl, ⟨by have := HBB.out; omega⟩, ⟨by repeat (first | exact Below.refl _ _ | apply pw_below_drewN | apply below_drew1)⟩⟩
  case round =>
    obtain ⟨kk, rfl, HI, HX⟩ := hrel
    obtain ⟨kr, hkr⟩ := (rright_f d (kk : Int)).rounds
    have hk1 : (kk : Int) ≤ 64 := by have := HI.out; have := HBB.out; omega
    have tk1 : decide ((kk : Int) ≤ 64) = true := decide_eq_true hk1
    have tk2 : decide (kk ≤ 64) = true := decide_eq_true (by omega)
    have HRr := Aside0.mk (Kd.C_below HRL.out HX.out)
    have HBR : Aside0 (∀ n, Below wr.heap.size wr (wr.drew.drewN n)) := ⟨fun n => pw_below_drewN (below_drew1 (Below.refl _ _)) n⟩
    have hw1 : wrap64 ((kk : Int) + 1) = ((kk + 1 : Nat) : Int) := by unfold wrap64; omega
    have HW1 := Aside0.mk hw1
    clear hk1 hw1
    cases hrt : rightL d (kk : Int) with
    | false =>
      rw [hrt] at hkr
      have HKR := Aside0.mk hkr
      clear hkr
      cases gk with
      | zero =>
        have h9 : kk = bb := by have := HI.out; omega
        rw [h9, HRT.out] at hrt
        cases hrt
      | succ k1 =>
        clear hrt
        go_wp2_with fail
        refine start_ (n := 12) (S := fun w' => True) (ds := []) #[false, false, false, false, false, false, false, false, false, false, false, false] (by kernel_rfl) rfl rfl trivial (fun hHeld => ?_)
        refine pure_ (i := 0) (N := some 50) (v := ?_) (a' := ?_) #[true, false, false, false, false, false, false, false, false, false, false, false] rfl rfl (by kernel_rfl) (fun _ _ _ h => h) (Or.inl ⟨by rfl, ?_⟩) ?_ ?_
        rotate_left
        · intro w'
          go_simp
          with_reducible rfl
        rotate_left
        · simp only [Act.put, List.setIfInBounds_toArray, List.set_cons_zero, List.set_cons_succ, i64_w, i32_w]
          rfl
        refine pure_ (i := 1) (N := some 51) (v := ?_) (a' := ?_) #[true, true, false, false, false, false, false, false, false, false, false, false] rfl rfl (by kernel_rfl) (fun _ _ _ h => h) (Or.inl ⟨by rfl, ?_⟩) ?_ ?_
        rotate_left
        · intro w'
          go_simp
          with_reducible rfl
        rotate_left
        · simp only [Act.put, List.setIfInBounds_toArray, List.set_cons_zero, List.set_cons_succ, i64_w, i32_w]
          rfl
        refine one_ (i := 2) (N := some 52) #[true, true, true, false, false, false, false, false, false, false, false, false] rfl rfl (by kernel_rfl) (by decide) (fun K hK => ?_)
        refine goes_ Try.func11 (by kernel_rfl) rfl #[.slice A6 d.length c6, .int .i64 (kk : Int)] (by rfl) rfl rfl (by simp only [List.map_toArray, List.map_cons, List.map_nil]; rfl) ?_
        with_reducible refine (hopperref13_Right.calls kr A6 c6 d (kk : Int) false _ (Kd.C_drew HRr.out) HL6.out HKR.out).mono ?_
        rintro e w8 ⟨rfl, n8, rfl⟩
        refine ⟨_, rfl, ?_⟩
        have hb8 := HBR.out n8
        have HX8 := Aside0.mk (HX.out.trans (hb8.mono (below_size HX.out)))
        clear hb8
        refine hK.out _ _ trivial (fun hHeld => ?_)
        clear hK K
        refine norm_ (a' := ?_) ?_ ?_
        rotate_left
        · show Act.put _ (some 52) _ = _
          simp only [Act.put, List.setIfInBounds_toArray, List.set_cons_zero, List.set_cons_succ, i64_w, i32_w]
          rfl
        refine pure_ (i := 3) (N := some 53) (v := ?_) (a' := ?_) #[true, true, true, true, false, false, false, false, false, false, false, false] rfl rfl (by kernel_rfl) (fun _ _ _ h => h) (Or.inl ⟨by rfl, ?_⟩) ?_ ?_
        rotate_left
        · intro w'
          go_simp
          with_reducible rfl
        rotate_left
        · simp only [Act.put, List.setIfInBounds_toArray, List.set_cons_zero, List.set_cons_succ, i64_w, i32_w]
          rfl
        refine pure_ (i := 4) (N := some 54) (v := undef) (a' := ?_) #[true, true, true, true, true, false, false, false, false, false, false, false] rfl rfl (by kernel_rfl) (fun _ _ _ h => h) (Or.inr ⟨by rfl, rfl⟩) ?_ ?_
        rotate_left
        · simp only [Act.put, List.setIfInBounds_toArray, List.set_cons_zero, List.set_cons_succ, i64_w, i32_w]
          rfl
        refine pure_ (i := 5) (N := some 55) (v := undef) (a' := ?_) #[true, true, true, true, true, true, false, false, false, false, false, false] rfl rfl (by kernel_rfl) (fun _ _ _ h => h) (Or.inr ⟨by rfl, rfl⟩) ?_ ?_
        rotate_left
        · simp only [Act.put, List.setIfInBounds_toArray, List.set_cons_zero, List.set_cons_succ, i64_w, i32_w]
          rfl
        refine pure_ (i := 6) (N := some 56) (v := undef) (a' := ?_) #[true, true, true, true, true, true, true, false, false, false, false, false] rfl rfl (by kernel_rfl) (fun _ _ _ h => h) (Or.inr ⟨by rfl, rfl⟩) ?_ ?_
        rotate_left
        · simp only [Act.put, List.setIfInBounds_toArray, List.set_cons_zero, List.set_cons_succ, i64_w, i32_w]
          rfl
        refine pure_ (i := 7) (N := some 57) (v := undef) (a' := ?_) #[true, true, true, true, true, true, true, true, false, false, false, false] rfl rfl (by kernel_rfl) (fun _ _ _ h => h) (Or.inr ⟨by rfl, rfl⟩) ?_ ?_
        rotate_left
        · simp only [Act.put, List.setIfInBounds_toArray, List.set_cons_zero, List.set_cons_succ, i64_w, i32_w]
          rfl
        refine pure_ (i := 8) (N := some 58) (v := undef) (a' := ?_) #[true, true, true, true, true, true, true, true, true, false, false, false] rfl rfl (by kernel_rfl) (fun _ _ _ h => h) (Or.inr ⟨by rfl, rfl⟩) ?_ ?_
        rotate_left
        · simp only [Act.put, List.setIfInBounds_toArray, List.set_cons_zero, List.set_cons_succ, i64_w, i32_w]
          rfl
        refine pure_ (i := 9) (N := some 59) (v := undef) (a' := ?_) #[true, true, true, true, true, true, true, true, true, true, false, false] rfl rfl (by kernel_rfl) (fun _ _ _ h => h) (Or.inr ⟨by rfl, rfl⟩) ?_ ?_
        rotate_left
        · simp only [Act.put, List.setIfInBounds_toArray, List.set_cons_zero, List.set_cons_succ, i64_w, i32_w]
          rfl
        refine pure_ (i := 10) (N := some 60) (v := undef) (a' := ?_) #[true, true, true, true, true, true, true, true, true, true, true, false] rfl rfl (by kernel_rfl) (fun _ _ _ h => h) (Or.inr ⟨by rfl, rfl⟩) ?_ ?_
        rotate_left
        · simp only [Act.put, List.setIfInBounds_toArray, List.set_cons_zero, List.set_cons_succ, i64_w, i32_w]
          rfl
        refine pure_ (i := 11) (N := some 61) (v := ?_) (a' := ?_) #[true, true, true, true, true, true, true, true, true, true, true, true] rfl rfl (by kernel_rfl) (fun _ _ _ h => h) (Or.inl ⟨by rfl, ?_⟩) ?_ ?_
        rotate_left
        · intro w'
          go_simp
          with_reducible rfl
        rotate_left
        · simp only [Act.put, List.setIfInBounds_toArray, List.set_cons_zero, List.set_cons_succ, i64_w, i32_w]
          rfl
        refine done_ (by kernel_rfl) ?_
        go_wp2_with fail
        go_roundg k1
        case measure => omega
        case rel => exact ⟨kk + 1, by first | rfl | (rw [HW1.out]), ⟨by have := HI.out; omega⟩, ⟨HX.out.trans ((pw_below_drewN (Below.refl _ _) _).mono (below_size HX.out))⟩⟩
    | true =>
      rw [hrt] at hkr
      have HKR := Aside0.mk hkr
      obtain ⟨hp1, hp2, hp3, hp4⟩ := right_parts hrt
      obtain ⟨kb, hkb⟩ := (rbuild_f kk (by omega) (by omega) d (by omega) hp4 (by have := fsum_small d hp4; omega)).rounds
      obtain ⟨Bl, hBl⟩ : ∃ Bl, Bl = buildL kk d := ⟨_, rfl⟩
      rw [← hBl] at hkb
      have HKB := Aside0.mk hkb
      obtain ⟨r9, hsm, hsr⟩ := same_any Bl PP
      have HSM := Aside0.mk hsm
      have HSR : Aside0 (kk = bb → r9 = true) := ⟨fun h => hsr (by rw [hBl, h, HPB.out])⟩
      clear hkr hp1 hp2 hp3 hp4 hkb hBl hsm hsr hrt
      go_wp2_with fail
      have hcut := HCUT.out
      refine start_ (n := 12) (S := fun w' => True) (ds := []) #[false, false, false, false, false, false, false, false, false, false, false, false] (by kernel_rfl) rfl rfl trivial (fun hHeld => ?_)
      refine pure_ (i := 0) (N := some 50) (v := ?_) (a' := ?_) #[true, false, false, false, false, false, false, false, false, false, false, false] rfl rfl (by kernel_rfl) (fun _ _ _ h => h) (Or.inl ⟨by rfl, ?_⟩) ?_ ?_
      rotate_left
      · intro w'
        go_simp
        with_reducible rfl
      rotate_left
      · simp only [Act.put, List.setIfInBounds_toArray, List.set_cons_zero, List.set_cons_succ, i64_w, i32_w]
        rfl
      refine pure_ (i := 1) (N := some 51) (v := ?_) (a' := ?_) #[true, true, false, false, false, false, false, false, false, false, false, false] rfl rfl (by kernel_rfl) (fun _ _ _ h => h) (Or.inl ⟨by rfl, ?_⟩) ?_ ?_
      rotate_left
      · intro w'
        go_simp
        with_reducible rfl
      rotate_left
      · simp only [Act.put, List.setIfInBounds_toArray, List.set_cons_zero, List.set_cons_succ, i64_w, i32_w]
        rfl
      refine one_ (i := 2) (N := some 52) #[true, true, true, false, false, false, false, false, false, false, false, false] rfl rfl (by kernel_rfl) (by decide) (fun K hK => ?_)
      refine goes_ Try.func11 (by kernel_rfl) rfl #[.slice A6 d.length c6, .int .i64 (kk : Int)] (by rfl) rfl rfl (by simp only [List.map_toArray, List.map_cons, List.map_nil]; rfl) ?_
      with_reducible refine (hopperref13_Right.calls kr A6 c6 d (kk : Int) true _ (Kd.C_drew HRr.out) HL6.out HKR.out).mono ?_
      rintro e w8 ⟨rfl, n8, rfl⟩
      refine ⟨_, rfl, ?_⟩
      have hb8 := HBR.out n8
      have HX8 := Aside0.mk (HX.out.trans (hb8.mono (below_size HX.out)))
      clear hb8
      refine hK.out _ _ trivial (fun hHeld => ?_)
      clear hK K
      refine norm_ (a' := ?_) ?_ ?_
      rotate_left
      · show Act.put _ (some 52) _ = _
        simp only [Act.put, List.setIfInBounds_toArray, List.set_cons_zero, List.set_cons_succ, i64_w, i32_w]
        rfl
      refine pure_ (i := 3) (N := some 53) (v := ?_) (a' := ?_) #[true, true, true, true, false, false, false, false, false, false, false, false] rfl rfl (by kernel_rfl) (fun _ _ _ h => h) (Or.inl ⟨by rfl, ?_⟩) ?_ ?_
      rotate_left
      · intro w'
        go_simp
        with_reducible rfl
      rotate_left
      · simp only [Act.put, List.setIfInBounds_toArray, List.set_cons_zero, List.set_cons_succ, i64_w, i32_w]
        rfl
      refine pure_ (i := 4) (N := some 54) (v := ?_) (a' := ?_) #[true, true, true, true, true, false, false, false, false, false, false, false] rfl rfl (by kernel_rfl) (fun _ _ _ h => h) (Or.inl ⟨by rfl, ?_⟩) ?_ ?_
      rotate_left
      · intro w'
        go_simp
        with_reducible rfl
      rotate_left
      · simp only [Act.put, List.setIfInBounds_toArray, List.set_cons_zero, List.set_cons_succ, i64_w, i32_w]
        rfl
      refine pure_ (i := 5) (N := some 55) (v := ?_) (a' := ?_) #[true, true, true, true, true, true, false, false, false, false, false, false] rfl rfl (by kernel_rfl) (fun _ _ _ h => h) (Or.inl ⟨by rfl, ?_⟩) ?_ ?_
      rotate_left
      · intro w'
        go_simp
        with_reducible rfl
      rotate_left
      · simp only [Act.put, List.setIfInBounds_toArray, List.set_cons_zero, List.set_cons_succ, i64_w, i32_w]
        rfl
      refine pure_ (i := 7) (N := some 57) (v := ?_) (a' := ?_) #[true, true, true, true, true, true, false, true, false, false, false, false] rfl rfl (by kernel_rfl) (fun _ _ _ h => h) (Or.inl ⟨by rfl, ?_⟩) ?_ ?_
      rotate_left
      · intro w'
        go_simp
        with_reducible rfl
      rotate_left
      · simp only [Act.put, List.setIfInBounds_toArray, List.set_cons_zero, List.set_cons_succ, i64_w, i32_w]
        rfl
      refine pure_ (i := 8) (N := some 58) (v := ?_) (a' := ?_) #[true, true, true, true, true, true, false, true, true, false, false, false] rfl rfl (by kernel_rfl) (fun _ _ _ h => h) (Or.inl ⟨by rfl, ?_⟩) ?_ ?_
      rotate_left
      · intro w'
        go_simp
        with_reducible rfl
      rotate_left
      · simp only [Act.put, List.setIfInBounds_toArray, List.set_cons_zero, List.set_cons_succ, i64_w, i32_w]
        rfl
      refine pure_ (i := 9) (N := some 59) (v := ?_) (a' := ?_) #[true, true, true, true, true, true, false, true, true, true, false, false] rfl rfl (by kernel_rfl) (fun _ _ _ h => h) (Or.inl ⟨by rfl, ?_⟩) ?_ ?_
      rotate_left
      · intro w'
        go_simp
        with_reducible rfl
      rotate_left
      · simp only [Act.put, List.setIfInBounds_toArray, List.set_cons_zero, List.set_cons_succ, i64_w, i32_w]
        rfl
      refine one_ (i := 6) (N := some 56) #[true, true, true, true, true, true, true, true, true, true, false, false] rfl rfl (by kernel_rfl) (by decide) (fun K hK => ?_)
      refine goes_ Try.func13 (by kernel_rfl) rfl #[.slice A6 d.length c6, .int .i64 (kk : Int)] (by rfl) rfl rfl (by simp only [List.map_toArray, List.map_cons, List.map_nil]; rfl) ?_
      with_reducible refine (hopperref13_Build.calls kb A6 c6 d (kk : Int) Bl _ (Kd.C_below HRL.out HX8.out) HL6.out HKB.out).mono ?_
      rintro e w9 ⟨v9, rfl, ho9, hb9⟩
      refine ⟨_, rfl, ?_⟩
      obtain ⟨A9, c9, rfl, hl9, hr9⟩ := Kd.R_reads ho9
      have HR9 := Aside0.mk hr9
      have HL9 := Aside0.mk hl9
      have HX9 := Aside0.mk (HX8.out.trans (hb9.mono (below_size HX8.out)))
      clear ho9 hb9 hl9 hr9
      refine hK.out _ _ trivial (fun hHeld => ?_)
      clear hK K
      refine norm_ (a' := ?_) ?_ ?_
      rotate_left
      · show Act.put _ (some 56) _ = _
        simp only [Act.put, List.setIfInBounds_toArray, List.set_cons_zero, List.set_cons_succ, i64_w, i32_w]
        rfl
      refine one_ (i := 10) (N := some 60) #[true, true, true, true, true, true, true, true, true, true, true, false] rfl rfl (by kernel_rfl) (by decide) (fun K hK => ?_)
      refine goes_ Try.func12 (by kernel_rfl) rfl #[.slice A9 Bl.length c9, .slice A0 PP.length c0] (by rfl) rfl rfl (by simp only [List.map_toArray, List.map_cons, List.map_nil]; rfl) ?_
      with_reducible refine (hopperref01_Same.calls A9 c9 Bl A0 c0 PP r9 _ HR9.out HL9.out (Kd.C_below HTL.out HX9.out) HPC.out HSM.out).mono ?_
      rintro e w10 ⟨rfl, n10, rfl⟩
      refine ⟨_, rfl, ?_⟩
      have hb10 := pw_below_drewN (Below.refl w9.heap.size w9) n10
      have HX10 := Aside0.mk (HX9.out.trans (hb10.mono (below_size HX9.out)))
      clear hb10
      refine hK.out _ _ trivial (fun hHeld => ?_)
      clear hK K
      refine norm_ (a' := ?_) ?_ ?_
      rotate_left
      · show Act.put _ (some 60) _ = _
        simp only [Act.put, List.setIfInBounds_toArray, List.set_cons_zero, List.set_cons_succ, i64_w, i32_w]
        rfl
      refine pure_ (i := 11) (N := some 61) (v := ?_) (a' := ?_) #[true, true, true, true, true, true, true, true, true, true, true, true] rfl rfl (by kernel_rfl) (fun _ _ _ h => h) (Or.inl ⟨by rfl, ?_⟩) ?_ ?_
      rotate_left
      · intro w'
        go_simp
        with_reducible rfl
      rotate_left
      · simp only [Act.put, List.setIfInBounds_toArray, List.set_cons_zero, List.set_cons_succ, i64_w, i32_w]
        rfl
      refine done_ (by kernel_rfl) ?_
      clear hcut
      cases r9 with
      | true =>
        go_wp2_with fail
        refine (DictP.len _ q d (HDL.out.below HX10.out)).mono ?_
        rintro e w11 ⟨rfl, hb11⟩
        have HX11 := Aside0.mk (HX10.out.trans (hb11.mono (below_size HX10.out)))
        clear hb11
        go_wp2_with fail
        go_ret
        exact ⟨by simp, HHB.out _ (HX6.out.trans (HX11.out.mono (below_size HX6.out)))⟩
      | false =>
        cases gk with
        | zero => exact absurd (HSR.out (by have := HI.out; omega)) (by decide)
        | succ k1 =>
          go_wp2_with fail
          go_roundg k1
          case measure => omega
          case rel => exact ⟨kk + 1, by first | rfl | (rw [HW1.out]), ⟨by have := HI.out; omega⟩, HX10⟩
theorem FrontOpens (A0 : Option Addr) (c0 : Nat) (l0 : List Int) (w : World) (hr : Kd.C (Kd.int .u8) w A0 l0.length l0) (hcl : l0.length ≤ c0) (hs : l0.length * 1 ≤ 140737488351232) (hw : ∀ x ∈ l0, (Lit.int .u8 x).wf = true) :
    Calls Try.prog 4 #[.slice A0 l0.length c0] w fun e w' => e = .returned (.bool true) ∧ Below w.heap.size w w' := by
  by_cases h : 3000 < l0.length
  · exact FrontOpens_long A0 c0 l0 w hr hcl h
  · have hl : l0.length ≤ 1000000 := by omega
    obtain ⟨d, a', e', hop, ha'⟩ := open_total l0 (isBy_wf hw) hl 0 (Nat.zero_le _)
    obtain ⟨h1, h2⟩ := open_sound l0 (isBy_wf hw) hl 0 (Nat.zero_le _) d a' e' hop
    by_cases he : e' = 0
    · subst he
      obtain ⟨bb, hb1, hb2, hb3⟩ := h2 rfl
      obtain ⟨p1, p2, p3, p4⟩ := right_parts hb1
      rw [List.drop_zero] at hb2
      exact FrontOpens_good A0 c0 l0 w hr hcl (by omega) d a' hop bb ⟨by omega, by omega⟩ hb1 (by rw [hb2, List.take_left' (by omega)]) ha'
    · obtain rfl := h1 he
      exact FrontOpens_bad A0 c0 l0 w hr hcl (by omega) a' e' hop he
end Go.Proofs.Ytljhlpkoilapiaa.HW
