import Derived.Test.YtljhlpkoilapiaaZD
/- FrontBack: the law, walked. -/
set_option linter.unusedVariables false
set_option linter.unusedSimpArgs false
namespace Go.Proofs.Ytljhlpkoilapiaa.HW
open Go.RowKit Go.Proofs.Ytljhlpkoilapiaa.P Go.Proofs.Ytljhlpkoilapiaa.HP Go.Proofs.YtljhlpkoilapiaaW.PrintWords Go.Proofs.YtljhlpkoilapiaaW.PrintLast Go.Proofs.YtljhlpkoilapiaaW.PrintMore
attribute [local go_sem] max2_int min2_int max_two min_two max_three min_three max_four min_four
set_option maxHeartbeats 8000000 in
set_option maxRecDepth 100000 in
theorem FrontBack_few (A0 : Option Addr) (c0 : Nat) (l0 : List ByteArray) (a1 : Int) (w : World) (hr : Kd.C Kd.string w A0 l0.length l0) (hcl : l0.length ≤ c0) (kf : Nat) (hf : hopperref13_Few.f kf l0 = some false) :
    Calls Try.prog 5 #[.slice A0 l0.length c0, .int .u8 a1] w fun e w' => e = .returned (.bool true) ∧ Below w.heap.size w w' := by
  have HR := Aside0.mk hr
  have HC := Aside0.mk hcl
  have HF := Aside0.mk hf
  have HB := Aside0.mk (Below.refl w.heap.size w)
  clear hr hcl hf
  go_enter Try.func5, Try.ntmps5
  go_wp2_with fail
  refine (law13_awake _).mono ?_
  rintro e w1 ⟨rfl, hb⟩
  have HB1 := Aside0.mk (below_step HB.out hb)
  clear HB hb
  go_wp2_with fail
  refine (hopperref13_Few.calls kf A0 c0 l0 false _ (Kd.C_below HR.out HB1.out) HC.out HF.out).mono ?_
  rintro e w2 ⟨rfl, n2, rfl⟩
  have HB2 := Aside0.mk (pw_below_drewN HB1.out n2)
  clear HB1
  go_wp2_with fail
  refine (law13_awake _).mono ?_
  rintro e w3 ⟨rfl, hb⟩
  have HB3 := Aside0.mk (below_step HB2.out hb)
  clear HB2 hb
  go_wp2_with fail
  go_ret
  exact ⟨rfl, HB3.out⟩
set_option maxHeartbeats 8000000 in
set_option maxRecDepth 100000 in
theorem FrontBack_main (A0 : Option Addr) (c0 : Nat) (l0 : List ByteArray) (a1 : Int) (w : World) (hr : Kd.C Kd.string w A0 l0.length l0) (hcl : l0.length ≤ c0) (kf : Nat) (hf : hopperref13_Few.f kf l0 = some true) (hn : l0.length ≤ 150) (hz : ∀ s ∈ l0, s.size ≤ 5000) (k : Nat) (hk : wrap64 (1 + wrap64 (Int.tmod a1 64)) = (k : Int)) (hk2 : 1 ≤ k ∧ k ≤ 64) :
    Calls Try.prog 5 #[.slice A0 l0.length c0, .int .u8 a1] w fun e w' => e = .returned (.bool true) ∧ Below w.heap.size w w' := by
  have HR := Aside0.mk hr
  have HC := Aside0.mk hcl
  have HF := Aside0.mk hf
  have HB := Aside0.mk (Below.refl w.heap.size w)
  have HN := Aside0.mk hn
  have HZ := Aside0.mk hz
  have HK := Aside0.mk hk
  have HK2 := Aside0.mk hk2
  clear hr hcl hf hn hz hk hk2
  go_enter Try.func5, Try.ntmps5
  go_wp2_with fail
  refine (law13_awake _).mono ?_
  rintro e w1 ⟨rfl, hb⟩
  have HB1 := Aside0.mk (below_step HB.out hb)
  clear HB hb
  go_wp2_with fail
  refine (hopperref13_Few.calls kf A0 c0 l0 true _ (Kd.C_below HR.out HB1.out) HC.out HF.out).mono ?_
  rintro e w2 ⟨rfl, n2, rfl⟩
  have HB2 := Aside0.mk (pw_below_drewN HB1.out n2)
  clear HB1
  go_wp2_with fail
  refine (Sorted_ A0 c0 l0 _ (Kd.C_below HR.out HB2.out) HC.out HN.out HZ.out).mono ?_
  rintro e w3 ⟨v3, t, rfl, ho3, ht1, ht2, hb3⟩
  obtain ⟨A3, c3, rfl, hl3, hr3⟩ := Kd.R_reads ho3
  have HR3 := Aside0.mk hr3
  have HL3 := Aside0.mk hl3
  have HT := Aside0.mk (And.intro ht1 ht2)
  have HB3 := Aside0.mk (below_step HB2.out hb3)
  have hk := HK.out
  clear ho3 ht1 ht2 hb3 hl3 hr3 HB2
  go_wp2_with fail
  rw [hk]
  clear hk
  cases hx : rightL t (k : Int) with
  | false =>
    refine (Build_bad A3 c3 t (k : Int) _ HL3.out HR3.out hx).mono ?_
    rintro e w4 ⟨rfl, hb⟩
    have HR4 := Aside0.mk (Kd.C_below HR3.out hb)
    have HB4 := Aside0.mk (below_step HB3.out hb)
    obtain ⟨kr, hkr⟩ := (rright_f t (k : Int)).rounds
    rw [hx] at hkr
    have HKR := Aside0.mk hkr
    have hk := HK.out
    clear hb hx hkr HR3
    go_wp2_with fail
    try rw [hk]
    refine (hopperref13_Right.calls kr A3 c3 t (k : Int) false _ HR4.out HL3.out HKR.out).mono ?_
    rintro e w5 ⟨rfl, n5, rfl⟩
    go_wp2_with fail
    go_ret
    exact ⟨rfl, by repeat (first | exact HB4.out | apply pw_below_drewN | apply below_drew1)⟩
  | true =>
    have HX := Aside0.mk hx
    obtain ⟨p1, p2, p3, p4⟩ := right_parts hx
    have hfs : fsum t + 4 * t.length ≤ 1000000000 := by have := fsum_small2 t p4; omega
    have hf5 : fsum t + 10 * t.length + 10 ≤ 1000000 := by have h2 := fsum_5000 t HT.out.2; have h3 := HT.out.1; have h4 := HN.out; omega
    refine (Build_ok A3 c3 t k _ HL3.out HR3.out hx hfs).mono ?_
    rintro e w4 ⟨v4, rfl, ho4, hb⟩
    have hop := open_built k t hx hf5
    have hlen := build_len k (by omega) (by omega) t p3 p4 hfs
    obtain ⟨Bl, hBl⟩ : ∃ Bl, Bl = buildL k t := ⟨_, rfl⟩
    rw [← hBl] at ho4 hop hlen
    obtain ⟨A4, c4, rfl, hl4, hr4⟩ := Kd.R_reads ho4
    have HR4 := Aside0.mk hr4
    have HL4 := Aside0.mk hl4
    have HR3 := Aside0.mk (Kd.C_below HR3.out hb)
    have HB4 := Aside0.mk (below_step HB3.out hb)
    have HOP := Aside0.mk hop
    have HLEN : Aside0 (Bl.length ≤ fsum t + 10 * t.length + 10 ∧ Bl.length ≤ 1000000 ∧ fsum t ≤ 1000000 ∧ t.length ≤ 150) := ⟨by have h3 := HT.out.1; have h4 := HN.out; omega⟩
    clear hb hx p1 p2 p3 p4 hfs hf5 ho4 hl4 hr4 hBl hop hlen HX
    go_wp2_with fail
    refine (Cur.make A4 c4 Bl _ HR4.out HL4.out (by have := HLEN.out; omega)).mono ?_
    rintro e w5 ⟨g, rfl, hc5, hb5⟩
    have HC5 := Aside0.mk hc5
    have HG5 := Aside0.mk hc5.lt
    have HHB : Aside0 (∀ W : World, Below w4.heap.size w4 W → Below w.heap.size w W) := ⟨fun W hW => HB4.out.trans (hW.mono (below_size HB4.out))⟩
    have HX5 := Aside0.mk hb5
    clear hc5 hb5
    go_wp2_with fail
    refine (Open_ _ HC5.out _ _ _ HOP.out).mono ?_
    rintro e w6 ⟨q, rfl, hq, hd6, hc6, hk6, hb6⟩
    have HD6 := Aside0.mk hd6
    have HC6 := Aside0.mk hc6
    have HX6 := Aside0.mk (HX5.out.trans hb6)
    clear hd6 hc6 hk6 hb6 hq
    go_wp2_with fail
    refine (Cur.end_ HC6.out (r := 0) (i' := (Bl.length : Int)) (e' := 0) (by unfold cursor_Cursor_End.f; rw [if_pos rfl, left_at Bl Bl.length 0 (by have := HLEN.out; omega) (Nat.le_refl _)]; simp)).mono ?_
    rintro e w7 ⟨rfl, hc7, hk7, hb7⟩
    have HD7 := Aside0.mk (HD6.out.keep hk7 HG5.out)
    have HX7 := Aside0.mk (HX6.out.trans hb7)
    clear hc7 hk7 hb7 HC6 HD6 HX6
    go_wp2_with fail
    refine (DictP.len _ q t HD7.out).mono ?_
    rintro e w8 ⟨rfl, hb8⟩
    have HD8 := Aside0.mk (HD7.out.below hb8)
    have HX8 := Aside0.mk (HX7.out.trans (hb8.mono (below_size HX7.out)))
    clear hb8 HD7 HX7
    go_wp2_with fail
    refine (DictP.all _ q t HD8.out (by have := HLEN.out; omega)).mono ?_
    rintro e w9 ⟨v9, rfl, ho9, hb9⟩
    obtain ⟨A9, c9, rfl, hl9, hr9⟩ := Kd.R_reads ho9
    have HR9 := Aside0.mk hr9
    have HL9 := Aside0.mk hl9
    have HD9 := Aside0.mk (HD8.out.below hb9)
    have HX9 := Aside0.mk (HX8.out.trans (hb9.mono (below_size HX8.out)))
    obtain ⟨ks, hks⟩ := (same7 t (by have := HLEN.out; omega)).rounds
    have HKS := Aside0.mk hks
    clear hb9 HD8 HX8 ho9 hl9 hr9 hks
    go_wp2_with fail
    refine (hopperref07_Same.calls ks A9 c9 t A3 c3 t true _ HR9.out HL9.out (Kd.C_below HR3.out HX9.out) HL3.out HKS.out).mono ?_
    rintro e w10 ⟨rfl, n10, rfl⟩
    have HX10 := Aside0.mk (pw_below_drewN HX9.out n10)
    obtain ⟨u, hu⟩ : ∃ U, U = w9.drewN n10 := ⟨_, rfl⟩
    rw [← hu] at HX10 ⊢
    have HDU : Aside0 (DictP w5.heap.size u q t) := ⟨by rw [hu]; exact HD9.out.below (pw_below_drewN (Below.refl _ _) n10)⟩
    have HRU := Aside0.mk (Kd.C_below HR3.out HX10.out)
    have HUB : Aside0 (∀ W : World, Below u.heap.size u W → Below w.heap.size w W) := ⟨fun W hW => HHB.out W (HX10.out.trans (hW.mono (below_size HX10.out)))⟩
    have HAT : Aside0 (∀ (i : Nat), i < t.length → ∀ W : World, Below u.heap.size u W → Calls Try.prog 23 #[.pointer (some ⟨q, 0, none⟩), .int .i64 (i : Int)] W fun e w' => e = .returned (.string (at_ t i)) ∧ Below W.heap.size W w') := ⟨fun i hi W hW => DictP.at_in W q t (HDU.out.below hW) i hi (by have := HLEN.out; omega)⟩
    clear hu HR9 HL9 HD9 HX9 HC5 HR4 HOP HKS
    go_wp2_with fail
    go_loopg [11, 12] (t.length : Nat) (fun kq v11 v12 w' => ∃ i : Nat, v11 = .int .i64 ((fsum (t.take i) : Nat) : Int) ∧ v12 = .int .i64 (i : Int) ∧ Aside0 (i + kq = t.length) ∧ Aside0 (Below u.heap.size u w'))
    case atStart => exact ⟨0, by simp [fsum], rfl, ⟨Nat.zero_add _⟩, ⟨by repeat (first | exact Below.refl _ _ | apply pw_below_drewN | apply below_drew1)⟩⟩
    case round =>
      obtain ⟨i, rfl, rfl, HI, HX⟩ := hrel
      cases gk with
      | zero =>
        obtain rfl : i = t.length := by have := HI.out; omega
        rw [List.take_length]
        obtain ⟨N, hN⟩ : ∃ N, N = t.length := ⟨_, rfl⟩
        obtain ⟨M, hM⟩ : ∃ N, N = fsum t := ⟨_, rfl⟩
        have hfe := few_end Bl.length M N (by have := HLEN.out; omega) (by have := HLEN.out; omega) (by have := HLEN.out; omega)
        have HFE := Aside0.mk hfe
        have HNN := Aside0.mk hN
        rw [← hN, ← hM]
        clear hN hM hfe
        go_wp2_with fail
        refine (DictP.at_neg _ q t (HDU.out.below HX.out)).mono ?_
        rintro e w12 ⟨rfl, hb⟩
        have HX12 := Aside0.mk (HX.out.trans (hb.mono (below_size HX.out)))
        clear hb
        go_wp2_with fail
        rw [HNN.out]
        refine (DictP.at_end _ q t (HDU.out.below HX12.out) (by have := HLEN.out; omega)).mono ?_
        rintro e w13 ⟨rfl, hb⟩
        have HX13 := Aside0.mk (HX12.out.trans (hb.mono (below_size HX12.out)))
        rw [← HNN.out]
        clear hb
        go_wp2_with fail
        go_ret
        exact ⟨by rw [HFE.out]; rfl, HUB.out _ HX13.out⟩
      | succ k1 =>
        have hi : i < t.length := by have := HI.out; omega
        have ti : decide ((i : Int) < (t.length : Int)) = true := decide_eq_true (by omega)
        have ti2 : decide (i < t.length) = true := decide_eq_true (by omega)
        have p3 : ((0 : Int) ≤ (i : Int)) = True := eq_true (by omega)
        have q3 : ((i : Int) < (t.length : Int)) = True := eq_true (by omega)
        have q3n : (i < t.length) = True := eq_true hi
        obtain ⟨ad3, e3, hx3⟩ := Kd.at_string HRU.out (i : Int) (by omega) (by omega)
        subst e3
        rw [at_rd, Int.toNat_natCast] at hx3
        obtain ⟨s, hs⟩ : ∃ s, s = at_ t i := ⟨_, rfl⟩
        have hget : t[i]? = some s := by rw [hs, at_get t i hi]; simp [hi]
        have HSUM := Aside0.mk (fsum_take_ t i s hget)
        have HAT := Aside0.mk (HAT.out i hi)
        rw [← hs] at hx3 HAT
        have HCT : Aside0 (∀ W : World, Below u.heap.size u W → W.cell? (ad3.add i) = some (.string s)) := ⟨fun W hW => by rw [hW.cell (World.block_lt_of_cell? u _ hx3), hx3]⟩
        have hx3 := HCT.out _ HX.out
        have HXR : Aside0 (Below u.heap.size u wr.drew) := ⟨below_drew1 HX.out⟩
        have HI1 : Aside0 (wrap64 ((i : Int) + 1) = ((i + 1 : Nat) : Int)) := ⟨by unfold wrap64; have := HLEN.out; omega⟩
        obtain ⟨M, hM⟩ : ∃ N, N = fsum (t.take i) := ⟨_, rfl⟩
        have hMb : M ≤ 1000000 := by have h1 := fsum_up t i; have := HLEN.out; omega
        have hsb : s.size ≤ 5000 := HT.out.2 s (List.mem_of_getElem? hget)
        have HS1 : Aside0 (wrap64 ((M : Int) + (s.size : Int)) = ((fsum (t.take (i + 1)) : Nat) : Int)) := ⟨by rw [HSUM.out, wsum M s.size (by omega), hM]; omega⟩
        rw [← hM]
        clear hi hs hget hM hMb hsb
        go_wp2_with fail
        refine start_ (n := 8) (S := fun w' => w'.cell? (ad3.add i) = some (.string s)) (ds := []) #[false, false, false, false, false, false, false, false] (by kernel_rfl) rfl rfl ((HCT.out _ HXR.out)) (fun hHeld => ?_)
        refine pure_ (i := 0) (N := some 77) (v := ?_) (a' := ?_) #[true, false, false, false, false, false, false, false] rfl rfl (by kernel_rfl) (fun _ _ _ h => h) (Or.inl ⟨by rfl, ?_⟩) ?_ ?_
        rotate_left
        · intro w'
          go_simp
          with_reducible rfl
        rotate_left
        · simp only [Act.put, List.setIfInBounds_toArray, List.set_cons_zero, List.set_cons_succ, i64_w, i32_w]
          rfl
        refine pure_ (i := 1) (N := some 78) (v := ?_) (a' := ?_) #[true, true, false, false, false, false, false, false] rfl rfl (by kernel_rfl) (fun _ _ _ h => h) (Or.inl ⟨by rfl, ?_⟩) ?_ ?_
        rotate_left
        · intro w'
          go_simp
          with_reducible rfl
        rotate_left
        · simp only [Act.put, List.setIfInBounds_toArray, List.set_cons_zero, List.set_cons_succ, i64_w, i32_w]
          rfl
        refine pure_ (i := 3) (N := some 80) (v := ?_) (a' := ?_) #[true, true, false, true, false, false, false, false] rfl rfl (by kernel_rfl) (fun _ _ _ h => h) (Or.inl ⟨by rfl, ?_⟩) ?_ ?_
        rotate_left
        · intro w'
          go_simp
          with_reducible rfl
        rotate_left
        · simp only [Act.put, List.setIfInBounds_toArray, List.set_cons_zero, List.set_cons_succ, i64_w, i32_w]
          rfl
        refine pure_ (i := 4) (N := some 81) (v := ?_) (a' := ?_) #[true, true, false, true, true, false, false, false] rfl rfl (by kernel_rfl) (fun _ _ _ h => h) (Or.inl ⟨by rfl, ?_⟩) ?_ ?_
        rotate_left
        · intro w'
          go_simp
          with_reducible rfl
        rotate_left
        · simp only [Act.put, List.setIfInBounds_toArray, List.set_cons_zero, List.set_cons_succ, i64_w, i32_w]
          rfl
        refine pure_ (i := 5) (N := some 82) (v := ?_) (a' := ?_) #[true, true, false, true, true, true, false, false] rfl rfl (by kernel_rfl) (fun _ _ _ h => h) (Or.inl ⟨by rfl, ?_⟩) ?_ ?_
        rotate_left
        · intro w'
          go_simp
          with_reducible rfl
        rotate_left
        · simp only [Act.put, List.setIfInBounds_toArray, List.set_cons_zero, List.set_cons_succ, i64_w, i32_w]
          rfl
        refine take_ (i := 6) (N := some 83) (v := ?_) (a' := ?_) #[true, true, false, true, true, true, true, false] rfl rfl (by kernel_rfl) (fun _ _ _ h => h) (Or.inl ⟨by rfl, ?_⟩) hHeld ?_ ?_
        rotate_left
        · intro w' s0
          go_simp
          with_reducible rfl
        rotate_left
        · simp only [Act.put, List.setIfInBounds_toArray, List.set_cons_zero, List.set_cons_succ, i64_w, i32_w]
          rfl
        refine one_ (i := 2) (N := some 79) #[true, true, true, true, true, true, true, false] rfl rfl (by kernel_rfl) (by decide) (fun K hK => ?_)
        refine goes_ Try.func23 (by kernel_rfl) rfl #[.pointer (some ⟨q, 0, none⟩), .int .i64 (i : Int)] (by rfl) rfl rfl (by simp only [List.map_toArray, List.map_cons, List.map_nil]; rfl) ?_
        with_reducible refine (HAT.out _ HXR.out).mono ?_
        rintro e w11 ⟨rfl, hb11⟩
        refine ⟨_, rfl, ?_⟩
        have HX11 := Aside0.mk (HXR.out.trans (hb11.mono (below_size HXR.out)))
        clear hb11
        refine hK.out _ _ ((HCT.out _ HX11.out)) (fun hHeld => ?_)
        clear hK K
        refine norm_ (a' := ?_) ?_ ?_
        rotate_left
        · show Act.put _ (some 79) _ = _
          simp only [Act.put, List.setIfInBounds_toArray, List.set_cons_zero, List.set_cons_succ, i64_w, i32_w]
          rfl
        refine pure_ (i := 7) (N := some 84) (v := ?_) (a' := ?_) #[true, true, true, true, true, true, true, true] rfl rfl (by kernel_rfl) (fun _ _ _ h => h) (Or.inl ⟨by rfl, ?_⟩) ?_ ?_
        rotate_left
        · intro w'
          go_simp
          with_reducible rfl
        rotate_left
        · simp only [Act.put, List.setIfInBounds_toArray, List.set_cons_zero, List.set_cons_succ, i64_w, i32_w]
          rfl
        refine done_ (by kernel_rfl) ?_
        go_wp2_with fail
        go_roundg k1
        case measure => omega
        case rel => exact ⟨i + 1, by first | rfl | (rw [HS1.out]), by first | rfl | (rw [HI1.out]), ⟨by have := HI.out; omega⟩, ⟨by repeat (first | exact HX11.out | apply pw_below_drewN | apply below_drew1)⟩⟩
theorem FrontBack (A0 : Option Addr) (c0 : Nat) (l0 : List ByteArray) (a1 : Int) (w : World) (hr : Kd.C Kd.string w A0 l0.length l0) (hcl : l0.length ≤ c0) (hs : l0.length * 16 ≤ 140737488351232) (hw : ∀ s ∈ l0, s.size ≤ 9223372036854775807) (hw1 : (Lit.int .u8 a1).wf = true) :
    Calls Try.prog 5 #[.slice A0 l0.length c0, .int .u8 a1] w fun e w' => e = .returned (.bool true) ∧ Below w.heap.size w w' := by
  obtain ⟨r, hev, hfew⟩ := few13 l0
  obtain ⟨kf, hf⟩ := hev.rounds
  cases r with
  | false => exact FrontBack_few A0 c0 l0 a1 w hr hcl kf hf
  | true =>
    obtain ⟨h1, h2, h3⟩ := hfew rfl
    have e1 : 0 ≤ a1 ∧ a1 < 256 := by
      simp [Lit.wf, IntKind.min, IntKind.max, IntKind.signed, IntKind.bits] at hw1
      omega
    have e3 := Int.emod_nonneg a1 (b := 64) (by omega)
    have e4 := Int.emod_lt_of_pos a1 (b := 64) (by omega)
    exact FrontBack_main A0 c0 l0 a1 w hr hcl kf hf h1 h2 (1 + a1 % 64).toNat (by rw [Int.tmod_eq_emod_of_nonneg e1.1]; unfold wrap64; omega) (by omega)
end Go.Proofs.Ytljhlpkoilapiaa.HW
