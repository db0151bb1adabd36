/- BitmapReads: the law, walked. -/
import Derived.Test.YtdohphiicmdilaaHBitR
import Derived.Test.YtdohphiicmdilaaPx10
import Derived.Test.YtdohphiicmdilaaPx5
import Derived.Test.YtdohphiicmdilaaPx13
set_option linter.unusedVariables false
set_option linter.unusedSimpArgs false
namespace Go.Proofs.Ytdohphiicmdilaa.HW
open Go.RowKit Go.Proofs.Ytdohphiicmdilaa.P Go.Proofs.Ytdohphiicmdilaa.HP Go.Proofs.YtdohphiicmdilaaW.PrintWords Go.Proofs.YtdohphiicmdilaaW.PrintLast Go.Proofs.YtdohphiicmdilaaW.PrintMore
attribute [local go_sem] max2_int min2_int max_two min_two max_three min_three max_four min_four
theorem same_self (a : List Int) : hopperref01_Same.f a a = some true := by unfold hopperref01_Same.f; simp
theorem info8 : (Try.prog.info? 5).map (fun i => (i.zero, i.size, i.bytes)) = some (some (.int .u8 0), 1, 1) := by kernel_rfl
theorem C_keep {w w' : World} {g : Nat} {A : Option Addr} {l : List Bool} (h : Kd.C Kd.bool w A l.length l) (hk : KeepBut w w' g none) (hg : ∀ a, A = some a → a.block ≠ g) : Kd.C Kd.bool w' A l.length l := by
  have hr := Kd.reads_of_C (d := false) h
  refine Kd.C_of_reads (d := false) (h1 := fun _ => rfl) ⟨hr.1, hr.2.1, fun hn => ?_⟩
  obtain ⟨ad, e, hcell⟩ := hr.2.2 hn
  refine ⟨ad, e, fun j hj => ?_⟩
  have h1 := World.block_lt_of_cell? _ _ (hcell j hj)
  rw [← hcell j hj]
  unfold World.cell?
  rw [hk.2 (ad.add j).block h1 (by rw [add_block]; exact hg ad e) (by simp)]
set_option maxHeartbeats 8000000 in
set_option maxRecDepth 100000 in
theorem BitmapReads (A0 : Option Addr) (c0 : Nat) (l0 : List Bool) (A1 : Option Addr) (c1 : Nat) (l1 : List Int) (a2 : Int) (w : World) (hr0 : Kd.C Kd.bool w A0 l0.length l0) (hc0 : l0.length ≤ c0) (hr1 : Kd.C (Kd.int .u8) w A1 l1.length l1) (hc1 : l1.length ≤ c1) (hs0 : l0.length ≤ 140737488351232) (hs1 : l1.length * 1 ≤ 140737488351232) (hw1 : ∀ x ∈ l1, (Lit.int .u8 x).wf = true) (w2 : (Lit.int .u8 a2).wf = true) :
    Calls Try.prog 12 #[.slice A0 l0.length c0, .slice A1 l1.length c1, .int .u8 a2] w fun e w' => e = .returned (.bool true) ∧ Below w.heap.size w w' := by
  have ha2 : 0 ≤ a2 ∧ a2 < 256 := by
    simp [Lit.wf, IntKind.min, IntKind.max, IntKind.signed, IntKind.bits] at w2
    omega
  have HBY := Aside0.mk (isBy_wf hw1)
  have HR0 := Aside0.mk hr0
  have HC0 := Aside0.mk hc0
  have HR1 := Aside0.mk hr1
  have HC1 := Aside0.mk hc1
  have HB := Aside0.mk (Below.refl w.heap.size w)
  obtain ⟨ka, hka⟩ := (awake4).rounds
  have HA := Aside0.mk hka
  clear hr0 hc0 hr1 hc1 hw1 w2 hs0 hs1 hka
  by_cases h5 : (l0.length : Int) > 1000
  · have t5 : decide (1000 < (l0.length : Int)) = true := decide_eq_true h5
    have t5b : decide (1000 < l0.length) = true := decide_eq_true (by omega)
    clear h5
    go_enter Try.func12, Try.ntmps12
    go_wp2_with fail
    refine (hopperlaw04_awake.calls ka true _ HA.out).mono ?_
    rintro e w1 ⟨rfl, hb⟩
    have HB1 := Aside0.mk (below_step HB.out hb)
    clear HB hb
    go_wp2_with fail
    refine (hopperlaw04_awake.calls ka true _ HA.out).mono ?_
    rintro e w2 ⟨rfl, hb⟩
    have HB2 := Aside0.mk (below_step HB1.out hb)
    clear HB1 hb
    go_wp2_with fail
    go_ret
    exact ⟨rfl, HB2.out⟩
  by_cases h6 : (l1.length : Int) > 500
  · have t5 : decide (1000 < (l0.length : Int)) = false := decide_eq_false h5
    have t5b : decide (1000 < l0.length) = false := decide_eq_false (by omega)
    have t6 : decide (500 < (l1.length : Int)) = true := decide_eq_true h6
    have t6b : decide (500 < l1.length) = true := decide_eq_true (by omega)
    clear h5 h6
    go_enter Try.func12, Try.ntmps12
    go_wp2_with fail
    refine (hopperlaw04_awake.calls ka true _ HA.out).mono ?_
    rintro e w1 ⟨rfl, hb⟩
    have HB1 := Aside0.mk (below_step HB.out hb)
    clear HB hb
    go_wp2_with fail
    refine (hopperlaw04_awake.calls ka true _ HA.out).mono ?_
    rintro e w2 ⟨rfl, hb⟩
    have HB2 := Aside0.mk (below_step HB1.out hb)
    clear HB1 hb
    go_wp2_with fail
    go_ret
    exact ⟨rfl, HB2.out⟩
  have t5 : decide (1000 < (l0.length : Int)) = false := decide_eq_false h5
  have t5b : decide (1000 < l0.length) = false := decide_eq_false (by omega)
  have t6 : decide (500 < (l1.length : Int)) = false := decide_eq_false h6
  have t6b : decide (500 < l1.length) = false := decide_eq_false (by omega)
  have HL := Aside0.mk (show l0.length ≤ 1000 ∧ l1.length ≤ 500 by omega)
  clear h5 h6
  go_enter Try.func12, Try.ntmps12
  go_wp2_with fail
  refine (hopperlaw04_awake.calls ka true _ HA.out).mono ?_
  rintro e w1 ⟨rfl, hb⟩
  have HB1 := Aside0.mk (below_step HB.out hb)
  clear HB hb
  go_wp2_with fail
  obtain ⟨kw, hkw⟩ := (bwrite_f l0 HL.out.1).rounds
  refine (bitmap_Write.calls kw A0 c0 l0 (bwrL l0) _ (Kd.C_below HR0.out HB1.out) HC0.out hkw).mono ?_
  rintro e w3 ⟨v3, rfl, ho, hb⟩
  obtain ⟨A3, c3, rfl, hl3, hr3⟩ := Kd.R_reads ho
  have HB3 := Aside0.mk (below_step HB1.out hb)
  have HR3 := Aside0.mk hr3
  have HL3 := Aside0.mk hl3
  clear HB1 ho hb hkw hl3 hr3
  go_wp2_with fail
  refine (Cur.make A3 c3 (bwrL l0) _ HR3.out HL3.out (by have := bwrL_len l0 HL.out.1; omega)).mono ?_
  rintro e w4 ⟨g1, rfl, hc, hb⟩
  obtain ⟨lo1, hlo1⟩ : ∃ lo, Aside0 (lo = w3.heap.size ∧ w.heap.size ≤ lo) := ⟨_, ⟨rfl, below_size HB3.out⟩⟩
  rw [← hlo1.out.1] at hc
  have HB4 := Aside0.mk (below_step HB3.out hb)
  have HC4 := Aside0.mk hc
  clear HB3 HR3 HL3 hc hb
  go_wp2_with fail
  obtain ⟨kr, hkr⟩ := (bread_back l0 HL.out.1).rounds
  refine (Cur.bread kr HC4.out hkr).mono ?_
  rintro e w5 ⟨v5, rfl, ho, hc, hk, hb⟩
  obtain ⟨A5, c5, rfl, hl5, hr5⟩ := Kd.R_reads ho
  have HB5 := Aside0.mk (Cur.wide2 HB4.out hb hlo1.out.2)
  have HC5 := Aside0.mk hc
  have HR5 := Aside0.mk hr5
  have HL5 := Aside0.mk hl5
  clear HB4 HC4 ho hc hk hb hkr hl5 hr5
  go_wp2_with fail
  obtain ⟨ks, hks⟩ := (same4 l0 (by have := HL.out; omega)).rounds
  refine (hopperref04_Same.calls ks A5 c5 l0 A0 c0 l0 true _ HR5.out HL5.out (Kd.C_below HR0.out HB5.out) HC0.out hks).mono ?_
  rintro e w6 ⟨rfl, n6, rfl⟩
  have HC6 := Aside0.mk (HC5.out.below (pw_below_drewN (Below.refl _ _) n6))
  have HB6 := Aside0.mk (pw_below_drewN HB5.out n6)
  clear HC5 HB5 HR5 HL5 hks
  go_wp2_with fail
  have hend := end_at (bwrL l0) (bwrL l0).length (by have := bwrL_len l0 HL.out.1; omega) (Nat.le_refl _)
  rw [if_neg (by omega)] at hend
  refine (HC6.out.end_ hend).mono ?_
  rintro e w7 ⟨rfl, hc, hk, hb⟩
  have HB7 := Aside0.mk (Cur.wide2 HB6.out hb hlo1.out.2)
  clear HB6 HC6 hc hk hb hend
  go_wp2_with fail
  refine (Cur.make A1 c1 l1 _ (Kd.C_below HR1.out HB7.out) HC1.out (by have := HL.out; omega)).mono ?_
  rintro e w8 ⟨g2, rfl, hc, hb⟩
  obtain ⟨lo2, hlo2⟩ : ∃ lo, Aside0 (lo = w7.heap.size ∧ w.heap.size ≤ lo) := ⟨_, ⟨rfl, below_size HB7.out⟩⟩
  rw [← hlo2.out.1] at hc
  have HB8 := Aside0.mk (below_step HB7.out hb)
  have HC8 := Aside0.mk hc
  clear HB7 hc hb
  go_wp2_with fail
  obtain ⟨M, rfl⟩ : ∃ M : Nat, a2 = (M : Int) := ⟨a2.toNat, by omega⟩
  obtain ⟨r, i, er, hev, hi, hrm, hcase⟩ := bread_any l1 HBY.out (by have := HL.out; omega) M (by omega)
  obtain ⟨kr, hkr⟩ := hev.rounds
  have HRM := Aside0.mk hrm
  have HI := Aside0.mk hi
  clear hev hrm hi
  refine (Cur.bread kr HC8.out hkr).mono ?_
  rintro e w9 ⟨v9, rfl, ho, hc, hk, hb⟩
  obtain ⟨A9, c9, rfl, hl9, hr9⟩ := Kd.R_reads ho
  have HB9 := Aside0.mk (Cur.wide2 HB8.out hb hlo2.out.2)
  have HC9 := Aside0.mk hc
  have HG9 : Aside0 (∀ a, A9 = some a → a.block ≠ g2) := ⟨by intro a ha; subst ha; have := Kd.R_base ho a.block rfl; have := HC8.out.lt; omega⟩
  have HR9 := Aside0.mk hr9
  have HL9 := Aside0.mk hl9
  clear HB8 HC8 ho hc hk hb hkr hl9 hr9
  have hM : (Nat.cast M : Int) = M := rfl
  rcases hcase with ⟨hr, he⟩ | ⟨hr, he, hi1, t, hl⟩ | ⟨hr, he, hp⟩
  · obtain rfl := hr
    go_wp2_with fail
    refine (HC9.out.end_ (end_bad l1 (i : Int) er he)).mono ?_
    rintro e w10 ⟨rfl, hc, hk, hb⟩
    have HB10 := Aside0.mk (Cur.wide2 HB9.out hb hlo2.out.2)
    clear HB9 HC9 hc hk hb
    have he1 : (er == 0) = false := by simpa using he
    have he2 : (er != 0) = true := by simpa using he
    have he3 : decide (er = 0) = false := decide_eq_false he
    go_wp2_with fail
    go_ret
    exact ⟨rfl, HB10.out⟩
  · obtain rfl := hr
    obtain rfl := he
    obtain rfl := hi1
    have hend := end_at l1 1 (by have := HL.out; omega) HI.out
    by_cases h1 : 1 < l1.length
    · rw [if_pos h1] at hend
      clear h1
      go_wp2_with fail
      refine (HC9.out.end_ hend).mono ?_
      rintro e w10 ⟨rfl, hc, hk, hb⟩
      have HB10 := Aside0.mk (Cur.wide2 HB9.out hb hlo2.out.2)
      clear HB9 HC9 hc hk hb
      go_wp2_with fail
      go_ret
      exact ⟨rfl, HB10.out⟩
    · rw [if_neg h1] at hend
      have e1 : l1.length = 1 := by have := HI.out; omega
      clear h1
      obtain ⟨ad1, ea1, hx1⟩ := Kd.at_int HR1.out (0 : Int) (by omega) (by omega)
      cases ea1
      have hrd : rd l1 0 = 0 := by rw [hl]; rfl
      rw [hrd] at hx1
      have HX := Aside0.mk hx1
      clear hl hrd t6 t6b hx1
      go_wp2_with fail
      refine (HC9.out.end_ hend).mono ?_
      rintro e w10 ⟨rfl, hc, hk, hb⟩
      have HB10 := Aside0.mk (Cur.wide2 HB9.out hb hlo2.out.2)
      have hx1 := (HB10.out.cell (World.block_lt_of_cell? w _ HX.out)).trans HX.out
      have e0 : ad1.add 0 = ad1 := by obtain ⟨b, o, u⟩ := ad1; unfold Addr.add; split <;> simp_all
      rw [show (0 : Int).toNat = 0 from rfl, e0] at hx1
      go_wp2_with fail
      go_ret
      exact ⟨rfl, HB10.out⟩
  · obtain rfl := he
    have hrn : ¬ r = [] := by intro h; rw [h] at hr; simp at hr
    have hr7 : (r = []) = False := eq_false hrn
    have hr1 : ((r.length : Int) == 0) = false := by simp [hrn]
    have hr2 : ((r.length : Int) = 0) = False := by simp [hrn]
    have hr3 : decide ((r.length : Int) = 0) = false := by simp [hrn]
    have hr4 : (r.length = 0) = False := by simp [hrn]
    have hr5 : (r.length == 0) = false := by simp [hrn]
    have hr6 : decide (r.length = 0) = false := by simp [hrn]
    clear hr
    go_wp2_with fail
    refine (HC9.out.left (left_at l1 i 0 (by have := HL.out; omega) HI.out)).mono ?_
    rintro e w10 ⟨rfl, hc, hk, hb⟩
    have HB10 := Aside0.mk (Cur.wide2 HB9.out hb hlo2.out.2)
    have HR10 := Aside0.mk (C_keep HR9.out hk HG9.out)
    clear HB9 HC9 HR9 hc hk hb
    have hil : i ≤ l1.length := HI.out
    have hl500 : l1.length ≤ 500 := HL.out.2
    have hi500 : (i : Int) ≤ 500 := by omega
    have hsub : (l1.length : Int) - ((l1.length - i : Nat) : Int) = (i : Int) := by omega
    have hle1 : decide ((r.length : Int) ≤ (M : Int)) = true := decide_eq_true (by have := HRM.out; omega)
    have hle2 : decide (r.length ≤ M) = true := decide_eq_true HRM.out
    have hle3 : decide ((M : Int) < (r.length : Int)) = false := decide_eq_false (by have := HRM.out; omega)
    have hle4 : decide (M < r.length) = false := decide_eq_false (by have := HRM.out; omega)
    go_wp2_with fail
    obtain ⟨i0, hi0, _, hsz, _⟩ := info_parts info8
    have hcut := cut_to (P := Try.prog) 32 5 .i64 Try.underlying32 hi0 A1 l1.length c1 (i : Int) (by omega) (by omega) HC1.out
    rw [Int.toNat_natCast] at hcut
    have HT := Aside0.mk (Kd.C_take (m := i) (Kd.C_below HR1.out HB10.out) hil)
    rw [← hp] at HT
    have HT : Aside0 (Kd.C (Kd.int .u8) w10 A1 (bwrL r).length (bwrL r)) := HT
    obtain ⟨kq, hkq⟩ := (rwrite4_f r (by have := HRM.out; omega)).rounds
    have HKQ := Aside0.mk hkq
    have hkv : i = (bwrL r).length := by have := congrArg List.length hp; rw [List.length_take] at this; unfold bwrL; omega
    have hcut2 : ∀ W : World, (Instr.slice 32 (.slice A1 l1.length c1) none (some (.int .i64 (i : Int))) none).run Try.prog W = .ok (.slice A1 (bwrL r).length c1) W := by
      intro W
      rw [hcut W, ← hkv]
    have HC19 : Aside0 ((bwrL r).length ≤ c1) := ⟨by have := HC1.out; omega⟩
    clear hkq hi0 hsz hsub hcut hkv hil
    have hle5 : decide ((r.length : Int) ≤ wrap64 (M : Int)) = true := decide_eq_true (by have := HRM.out; unfold wrap64; omega)
    refine start_ (n := 14) (S := fun w' => True) (ds := []) #[false, false, false, false, false, false, false, false, false, false, false, false, false, false] (by kernel_rfl) rfl rfl trivial (fun hHeld => ?_)
    refine pure_ (i := 0) (N := some 65) (v := ?_) (a' := ?_) #[true, false, false, false, false, false, false, false, false, false, false, false, false, false] rfl rfl (by kernel_rfl) (fun _ _ _ h => h) (Or.inl ⟨by rfl, ?_⟩) ?_ ?_
    rotate_left
    · intro w'
      go_simp
      with_reducible rfl
    rotate_left
    · simp only [Act.put, List.setIfInBounds_toArray, List.set_cons_zero, List.set_cons_succ, i64_w, i32_w]
      rfl
    refine pure_ (i := 1) (N := some 66) (v := ?_) (a' := ?_) #[true, true, false, false, false, false, false, false, false, false, false, false, false, false] rfl rfl (by kernel_rfl) (fun _ _ _ h => h) (Or.inl ⟨by rfl, ?_⟩) ?_ ?_
    rotate_left
    · intro w'
      go_simp
      with_reducible rfl
    rotate_left
    · simp only [Act.put, List.setIfInBounds_toArray, List.set_cons_zero, List.set_cons_succ, i64_w, i32_w]
      rfl
    refine pure_ (i := 2) (N := some 67) (v := ?_) (a' := ?_) #[true, true, true, false, false, false, false, false, false, false, false, false, false, false] rfl rfl (by kernel_rfl) (fun _ _ _ h => h) (Or.inl ⟨by rfl, ?_⟩) ?_ ?_
    rotate_left
    · intro w'
      go_simp
      with_reducible rfl
    rotate_left
    · simp only [Act.put, List.setIfInBounds_toArray, List.set_cons_zero, List.set_cons_succ, i64_w, i32_w]
      rfl
    refine pure_ (i := 3) (N := some 68) (v := ?_) (a' := ?_) #[true, true, true, true, false, false, false, false, false, false, false, false, false, false] rfl rfl (by kernel_rfl) (fun _ _ _ h => h) (Or.inl ⟨by rfl, ?_⟩) ?_ ?_
    rotate_left
    · intro w'
      go_simp
      with_reducible rfl
    rotate_left
    · simp only [Act.put, List.setIfInBounds_toArray, List.set_cons_zero, List.set_cons_succ, i64_w, i32_w]
      rfl
    refine pure_ (i := 4) (N := some 69) (v := ?_) (a' := ?_) #[true, true, true, true, true, false, false, false, false, false, false, false, false, false] rfl rfl (by kernel_rfl) (fun _ _ _ h => h) (Or.inl ⟨by rfl, ?_⟩) ?_ ?_
    rotate_left
    · intro w'
      go_simp
      with_reducible rfl
    rotate_left
    · simp only [Act.put, List.setIfInBounds_toArray, List.set_cons_zero, List.set_cons_succ, i64_w, i32_w]
      rfl
    refine pure_ (i := 5) (N := some 70) (v := ?_) (a' := ?_) #[true, true, true, true, true, true, false, false, false, false, false, false, false, false] rfl rfl (by kernel_rfl) (fun _ _ _ h => h) (Or.inl ⟨by rfl, ?_⟩) ?_ ?_
    rotate_left
    · intro w'
      go_simp
      with_reducible rfl
    rotate_left
    · simp only [Act.put, List.setIfInBounds_toArray, List.set_cons_zero, List.set_cons_succ, i64_w, i32_w]
      rfl
    refine pure_ (i := 6) (N := some 71) (v := ?_) (a' := ?_) #[true, true, true, true, true, true, true, false, false, false, false, false, false, false] rfl rfl (by kernel_rfl) (fun _ _ _ h => h) (Or.inl ⟨by rfl, ?_⟩) ?_ ?_
    rotate_left
    · intro w'
      go_simp
      with_reducible rfl
    rotate_left
    · simp only [Act.put, List.setIfInBounds_toArray, List.set_cons_zero, List.set_cons_succ, i64_w, i32_w]
      rfl
    refine pure_ (i := 8) (N := some 73) (v := ?_) (a' := ?_) #[true, true, true, true, true, true, true, false, true, false, false, false, false, false] rfl rfl (by kernel_rfl) (fun _ _ _ h => h) (Or.inl ⟨by rfl, ?_⟩) ?_ ?_
    rotate_left
    · intro w'
      go_simp
      with_reducible rfl
    rotate_left
    · simp only [Act.put, List.setIfInBounds_toArray, List.set_cons_zero, List.set_cons_succ, i64_w, i32_w]
      rfl
    refine pure_ (i := 9) (N := some 74) (v := ?_) (a' := ?_) #[true, true, true, true, true, true, true, false, true, true, false, false, false, false] rfl rfl (by kernel_rfl) (fun _ _ _ h => h) (Or.inl ⟨by rfl, ?_⟩) ?_ ?_
    rotate_left
    · intro w'
      go_simp
      with_reducible rfl
    rotate_left
    · simp only [Act.put, List.setIfInBounds_toArray, List.set_cons_zero, List.set_cons_succ, i64_w, i32_w]
      rfl
    refine pure_ (i := 10) (N := some 75) (v := ?_) (a' := ?_) #[true, true, true, true, true, true, true, false, true, true, true, false, false, false] rfl rfl (by kernel_rfl) (fun _ _ _ h => h) (Or.inl ⟨by rfl, ?_⟩) ?_ ?_
    rotate_left
    · intro w'
      go_simp
      with_reducible rfl
    rotate_left
    · simp only [Act.put, List.setIfInBounds_toArray, List.set_cons_zero, List.set_cons_succ, i64_w, i32_w]
      rfl
    refine one_ (i := 7) (N := some 72) #[true, true, true, true, true, true, true, true, true, true, true, false, false, false] rfl rfl (by kernel_rfl) (by decide) (fun K hK => ?_)
    refine goes_ Try.func24 (by kernel_rfl) rfl #[.slice A9 r.length c9] (by rfl) rfl rfl (by simp only [List.map_toArray, List.map_cons, List.map_nil]; rfl) ?_
    with_reducible refine (hopperref04_Write.calls kq A9 c9 r (bwrL r) _ (Kd.C_drew HR10.out) HL9.out HKQ.out).mono ?_
    rintro e w14 ⟨v14, rfl, ho14, hb14⟩
    refine ⟨_, rfl, ?_⟩
    obtain ⟨A14, c14, rfl, hl14, hr14⟩ := Kd.R_reads ho14
    have HT14 := Aside0.mk (Kd.C_below (Kd.C_drew HT.out) hb14)
    have HB14 := Aside0.mk (below_step (below_drew1 HB10.out) hb14)
    have HR14 := Aside0.mk hr14
    have HL14 := Aside0.mk hl14
    clear ho14 hb14 hl14 hr14
    refine hK.out _ _ trivial (fun hHeld => ?_)
    clear hK K
    refine norm_ (a' := ?_) ?_ ?_
    rotate_left
    · show Act.put _ (some 72) _ = _
      simp only [Act.put, List.setIfInBounds_toArray, List.set_cons_zero, List.set_cons_succ, i64_w, i32_w]
      rfl
    refine one_ (i := 11) (N := some 76) #[true, true, true, true, true, true, true, true, true, true, true, true, false, false] rfl rfl (by kernel_rfl) (by decide) (fun K hK => ?_)
    refine goes_ Try.func20 (by kernel_rfl) rfl #[.slice A14 (bwrL r).length c14, .slice A1 (bwrL r).length c1] (by rfl) rfl rfl (by simp only [List.map_toArray, List.map_cons, List.map_nil]; rfl) ?_
    with_reducible refine (hopperref01_Same.calls A14 c14 (bwrL r) A1 c1 (bwrL r) true _ HR14.out HL14.out HT14.out HC19.out (same_self _)).mono ?_
    rintro e w15 ⟨rfl, n15, rfl⟩
    refine ⟨_, rfl, ?_⟩
    refine hK.out _ _ trivial (fun hHeld => ?_)
    clear hK K
    refine norm_ (a' := ?_) ?_ ?_
    rotate_left
    · show Act.put _ (some 76) _ = _
      simp only [Act.put, List.setIfInBounds_toArray, List.set_cons_zero, List.set_cons_succ, i64_w, i32_w]
      rfl
    refine pure_ (i := 12) (N := some 77) (v := ?_) (a' := ?_) #[true, true, true, true, true, true, true, true, true, true, true, true, true, false] rfl rfl (by kernel_rfl) (fun _ _ _ h => h) (Or.inl ⟨by rfl, ?_⟩) ?_ ?_
    rotate_left
    · intro w'
      go_simp
      with_reducible rfl
    rotate_left
    · simp only [Act.put, List.setIfInBounds_toArray, List.set_cons_zero, List.set_cons_succ, i64_w, i32_w]
      rfl
    refine pure_ (i := 13) (N := some 6) (v := ?_) (a' := ?_) #[true, true, true, true, true, true, true, true, true, true, true, true, true, true] rfl rfl (by kernel_rfl) (fun _ _ _ h => h) (Or.inl ⟨by rfl, ?_⟩) ?_ ?_
    rotate_left
    · intro w'
      go_simp
      with_reducible rfl
    rotate_left
    · simp only [Act.put, List.setIfInBounds_toArray, List.set_cons_zero, List.set_cons_succ, i64_w, i32_w]
      rfl
    refine done_ (by kernel_rfl) ?_
    go_wp2
    go_ret
    exact ⟨rfl, by repeat (first | exact HB14.out | apply below_alloc | apply pw_below_drewN | apply below_drew1)⟩
end Go.Proofs.Ytdohphiicmdilaa.HW
