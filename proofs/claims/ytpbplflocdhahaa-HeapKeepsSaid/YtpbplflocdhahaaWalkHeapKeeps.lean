/- HeapKeeps: the law, walked. -/
import Derived.Test.YtpbplflocdhahaaHKeepP
set_option linter.unusedVariables false
set_option linter.unusedSimpArgs false
namespace Go.Proofs.Ytpbplflocdhahaa.HW
open Go.RowKit Go.Proofs.Ytpbplflocdhahaa.P Go.Proofs.Ytpbplflocdhahaa.HP Go.Proofs.YtpbplflocdhahaaW.PrintWords Go.Proofs.YtpbplflocdhahaaW.PrintLast Go.Proofs.YtpbplflocdhahaaW.PrintMore
attribute [local go_sem] max2_int min2_int max_two min_two max_three min_three max_four min_four
set_option maxHeartbeats 8000000 in
set_option maxRecDepth 100000 in
theorem HeapKeeps_big (A0 : Option Addr) (c0 : Nat) (l0 : List Int) (w : World) (hr0 : Kd.C (Kd.int .u8) w A0 l0.length l0) (hc0 : l0.length ≤ c0) (h : 1000 < l0.length) :
    Calls Try.prog 7 #[.slice A0 l0.length c0] w fun e w' => e = .returned (.bool true) ∧ Below w.heap.size w w' := by
  obtain ⟨N, hN⟩ : ∃ N, N = l0.length := ⟨_, rfl⟩
  rw [← hN] at hr0 hc0 h ⊢
  have t1 : decide (1000 < (N : Int)) = true := decide_eq_true (by omega)
  have t1b : decide (1000 < N) = true := decide_eq_true (by omega)
  clear hr0 hc0 hN h
  have HB := Aside0.mk (Below.refl w.heap.size w)
  go_enter Try.func7, Try.ntmps7
  go_wp2_with fail
  refine (law7_awake _).mono ?_
  rintro e w1 ⟨rfl, hb⟩
  have HB1 := Aside0.mk (below_step HB.out hb)
  clear HB hb
  go_wp2_with fail
  refine (law7_awake _).mono ?_
  rintro e w2 ⟨rfl, hb⟩
  have HB2 := Aside0.mk (below_step HB1.out hb)
  clear HB1 hb
  go_wp2_with fail
  go_ret
  exact ⟨rfl, HB2.out⟩
set_option maxHeartbeats 8000000 in
set_option maxRecDepth 100000 in
theorem HeapKeeps_in (A0 : Option Addr) (c0 : Nat) (l0 : List Int) (w : World) (hr0 : Kd.C (Kd.int .u8) w A0 l0.length l0) (hc0 : l0.length ≤ c0) (hB : isB l0) (h : ¬ 1000 < l0.length) :
    Calls Try.prog 7 #[.slice A0 l0.length c0] w fun e w' => e = .returned (.bool true) ∧ Below w.heap.size w w' := by
  obtain ⟨S0, hS0⟩ : ∃ S0, S0 = strOfNums l0 := ⟨_, rfl⟩
  have HCV : Aside0 (∀ W : World, Below w.heap.size w W → (convert 36 9 (.slice A0 l0.length c0)).run Try.prog W = .ok (.string S0) W) := ⟨fun W hW => by rw [hS0]; exact Kd.C_string (P := Try.prog) (c := c0) Try.underlying36 Try.underlying5 Try.underlying9 (Kd.C_below hr0 hW)⟩
  have HS0 := Aside0.mk hS0
  have hfl := chunks_flat 100 (by omega) l0
  have hcl := chunks_len 100 (by omega) l0
  have hcm := fun b hb => chunks_mem (k := 100) hB b hb
  obtain ⟨Bs, hBs⟩ : ∃ Bs, Bs = chunks 100 l0 := ⟨_, rfl⟩
  rw [← hBs] at hfl hcl hcm
  have HBY := Aside0.mk (fun (lo g : Nat) (W : World) (hW : HM lo W g Bs (l0.length : Int) (l0.length : Int)) => HM.bytesN W hW (by omega) (fun b hb => (hcm b hb).1) (fun b hb => by have := (hcm b hb).2; omega) (by rw [hfl]; omega))
  rw [hfl] at HBY
  have HBS := Aside0.mk hBs
  have HR0 := Aside0.mk hr0
  have HL := Aside0.mk (show l0.length ≤ 1000 by omega)
  have t1 : decide (1000 < (l0.length : Int)) = false := decide_eq_false (by omega)
  have t1b : decide (1000 < l0.length) = false := decide_eq_false (by omega)
  clear hS0 hfl hcl hcm hBs hr0 hc0 hB h
  have HB := Aside0.mk (Below.refl w.heap.size w)
  go_enter Try.func7, Try.ntmps7
  go_wp2_with fail
  refine (law7_awake _).mono ?_
  rintro e w1 ⟨rfl, hb⟩
  have HB1 := Aside0.mk (below_step HB.out hb)
  clear HB hb
  have HB := HB1
  clear HB1
  go_wp2_with (first | ((with_reducible refine gate_dst (N := 17) rfl ?_); refine Kd.R_lit (Kd.int .u8) _ 5 ?hg (N := 17) ?hd (xs := ([] : List Int)) (inner := []) (ok := fun _ => True) (okp := fun _ => True) ?hr ?hp (fun _ hk => hk) trivial (Below.refl _ _) (Nat.le_refl _) (by simp) ?_; (case hd => rfl); (case hg => rfl); (case hr => first | (go_simp; done) | (go_simp; rfl)); (case hp => exact Reps.none _ _); intro v397 w8 ho9 hb hg_ hnew_; clear hg_ hnew_; have n0_ := Aside0.mk (Kd.R_lower ho9 (below_size HB.out)); have n1_ := Aside0.mk (below_step HB.out hb); clear HB; have HB := n1_; have HO := n0_; clear n1_ n0_ hb ho9) | ((with_reducible refine gate_builtin (b := .append) (xs := #[.tmp 17, .tmp 18]) rfl ?_); at_builtin; refine Kd.R_append_rows (Kd.int .u8) (w0 := w) w.heap.size rfl (.tmp 17) (.tmp 18) 36 5 (.int .u8 0) 1 rfl Try.underlying36 info8 rfl (by decide) (by omega) v397 [] l0 _ _ _ (fun _ => True) (fun _ => False) rfl rfl ?aO ?aR (fun _ _ h => h) (fun _ h => h.elim) ?aF ?aB ?aS ?aL ?_; (case aR => exact Kd.C_below HR0.out HB.out); (case aB => exact HB.out); (case aF => exact (fun _ _ => trivial)); (case aO => exact HO.out); (case aS => exact (below_size HB.out)); (case aL => have := HL.out; simp; omega); intro v403 w11 ho hb hg hat; rw [List.nil_append] at ho; have n1_ := Aside0.mk hb; have n2_ := Aside0.mk ho; clear HB HO; have HB := n1_; have HO := n2_; clear n1_ n2_; clear ho hb hg hat))
  obtain ⟨Ao, co, rfl, hlo, hro⟩ := Kd.R_reads HO.out
  refine (Of_ Ao co l0 100 _ hlo hro (by have := HL.out; omega) 100 (by rw [if_neg (by omega)]; rfl)).mono ?_
  rintro e w2 ⟨g, rfl, hh, hb⟩
  rw [← HBS.out] at hh
  obtain ⟨lo, hlo2⟩ : ∃ lo, Aside0 (lo = w11.heap.size ∧ w.heap.size ≤ lo) := ⟨_, ⟨rfl, below_size HB.out⟩⟩
  have HO2 : Aside0 (Kd.R (Kd.int .u8) 5 w2 w.heap.size (fun k => k < lo) (.slice Ao l0.length co) l0) := ⟨Kd.R_below (Kd.R_mono (Kd.R_bound HO.out) (fun k h => by rw [hlo2.out.1]; exact h.2.2.1)) hb⟩
  have HB2 := Aside0.mk (below_step HB.out hb)
  have HC2 : Aside0 (HM lo w2 g Bs (l0.length : Int) (l0.length : Int)) := ⟨by rw [hlo2.out.1]; exact hh⟩
  have HBY := Aside0.mk (fun W hW => HBY.out lo g W hW)
  clear HB HO hlo hro hb hh
  go_wp2_with fail
  go_loopg [5] (l0.length : Nat) (fun kq v5 w' => ∃ (i : Nat) (x : List Int), v5 = .int .i64 (i : Int) ∧ Aside0 (i + kq = l0.length) ∧ Aside0 (x.length = l0.length) ∧ Aside0 (Kd.R (Kd.int .u8) 5 w' w.heap.size (fun k => k < lo) (.slice Ao l0.length co) x) ∧ Aside0 (HM lo w' g Bs (l0.length : Int) (l0.length : Int)) ∧ Aside0 (Below w.heap.size w w'))
  case atStart => exact ⟨0, l0, rfl, ⟨by omega⟩, ⟨rfl⟩, HO2, HC2, HB2⟩
  case round =>
    clear HO2 HC2 HB2
    obtain ⟨i, x, rfl, HI, HX, HO, HC, HB⟩ := hrel
    cases gk with
    | zero =>
      obtain rfl : i = l0.length := by have := HI.out; omega
      clear HO HX HI
      go_wp2_with fail
      refine (HBY.out _ HC.out).mono ?_
      rintro e w3 ⟨v3, rfl, hn3, hb⟩
      obtain ⟨A3, c3, rfl, hl3, hr3, hf3⟩ := hn3
      obtain ⟨wa, hwa⟩ : ∃ W : World, W = wr := ⟨_, rfl⟩
      rw [← hwa] at HB HC hb hf3
      have HHE := Aside0.mk (show ∀ W : World, Below wa.heap.size wa W → HM lo W g Bs (l0.length : Int) (l0.length : Int) from fun W hW => HC.out.below hW)
      have HBE := Aside0.mk (show ∀ W : World, Below wa.heap.size wa W → Below w.heap.size w W from fun W hW => HB.out.trans (hW.mono (below_size HB.out)))
      have HE3 := Aside0.mk hb
      have HF3 := Aside0.mk hf3
      have HR3 := Aside0.mk hr3
      have hcv3 : (convert 36 9 (.slice A3 l0.length c3)).run Try.prog w3 = .ok (.string S0) w3 := by
        have h9 := Kd.C_string (P := Try.prog) (c := c3) Try.underlying36 Try.underlying5 Try.underlying9 hr3
        rw [HS0.out]
        exact h9
      have hcv0 := HCV.out _ (HBE.out _ hb)
      clear hwa HB HC hb hl3 hr3 hf3
      go_wp2_with fail
      clear hcv3 hcv0
      go_loopg [8] (l0.length : Nat) (fun kq v8 w' => ∃ (i : Nat), v8 = .int .i64 (i : Int) ∧ Aside0 (i + kq = l0.length) ∧ Aside0 (∀ g9 : Nat, A3 = some ⟨g9, 0, none⟩ → ∀ j, j < l0.length → (∃ v, w'.cell? ⟨g9, j, none⟩ = some v) ∧ w'.frozen? ⟨g9, j, none⟩ = false) ∧ Aside0 (Below wa.heap.size wa w'))
      case atStart => exact ⟨0, rfl, ⟨by omega⟩, ⟨fun g9 e j hj => by
        obtain ⟨g8, e8, _, hfz⟩ := HF3.out (by omega)
        rw [e] at e8
        injection e8 with e8
        injection e8 with e8
        subst e8
        obtain ⟨ad, ea, hcell⟩ := (Kd.reads_of_C (d := (0 : Int)) HR3.out).2.2 (by omega)
        rw [e] at ea
        injection ea with ea
        subst ea
        have h9 := hcell j hj
        rw [add_plain] at h9
        exact ⟨⟨_, h9⟩, hfz j hj⟩⟩, HE3⟩
      case round =>
        clear HE3
        obtain ⟨i, rfl, HI, HX, HE⟩ := hrel
        cases gk with
        | zero =>
          obtain rfl : i = l0.length := by have := HI.out; omega
          clear HX HI
          go_wp2_with fail
          refine start_ (n := 10) (S := fun w' => (convert 36 9 (.slice A0 l0.length c0)).run Try.prog w' = .ok (.string S0) w') (ds := []) #[false, false, false, false, false, false, false, false, false, false] (by kernel_rfl) rfl rfl ((HCV.out _ (HBE.out _ (below_drew1 HE.out)))) (fun hHeld => ?_)
          refine pure_ (i := 0) (N := some 54) (v := ?_) (a' := ?_) #[true, false, false, false, false, false, false, false, false, false] rfl rfl (by kernel_rfl) (fun _ _ _ h => h) (Or.inl ⟨by rfl, ?_⟩) ?_ ?_
          rotate_left
          · intro w'
            go_simp
            with_reducible rfl
          rotate_left
          · simp only [Act.put, List.setIfInBounds_toArray, List.set_cons_zero, List.set_cons_succ, i64_w, i32_w]
            rfl
          refine pure_ (i := 1) (N := some 55) (v := ?_) (a' := ?_) #[true, true, false, false, false, false, false, false, false, false] rfl rfl (by kernel_rfl) (fun _ _ _ h => h) (Or.inl ⟨by rfl, ?_⟩) ?_ ?_
          rotate_left
          · intro w'
            go_simp
            with_reducible rfl
          rotate_left
          · simp only [Act.put, List.setIfInBounds_toArray, List.set_cons_zero, List.set_cons_succ, i64_w, i32_w]
            rfl
          refine pure_ (i := 2) (N := some 56) (v := ?_) (a' := ?_) #[true, true, true, false, false, false, false, false, false, false] rfl rfl (by kernel_rfl) (fun _ _ _ h => h) (Or.inl ⟨by rfl, ?_⟩) ?_ ?_
          rotate_left
          · intro w'
            go_simp
            with_reducible rfl
          rotate_left
          · simp only [Act.put, List.setIfInBounds_toArray, List.set_cons_zero, List.set_cons_succ, i64_w, i32_w]
            rfl
          refine pure_ (i := 5) (N := some 59) (v := ?_) (a' := ?_) #[true, true, true, false, false, true, false, false, false, false] rfl rfl (by kernel_rfl) (fun _ _ _ h => h) (Or.inl ⟨by rfl, ?_⟩) ?_ ?_
          rotate_left
          · intro w'
            go_simp
            with_reducible rfl
          rotate_left
          · simp only [Act.put, List.setIfInBounds_toArray, List.set_cons_zero, List.set_cons_succ, i64_w, i32_w]
            rfl
          refine take_ (i := 6) (N := some 60) (v := ?_) (a' := ?_) #[true, true, true, false, false, true, true, false, false, false] rfl rfl (by kernel_rfl) (fun _ _ _ h => h) (Or.inl ⟨by rfl, ?_⟩) hHeld ?_ ?_
          rotate_left
          · intro w' s0
            go_simp
            with_reducible rfl
          rotate_left
          · simp only [Act.put, List.setIfInBounds_toArray, List.set_cons_zero, List.set_cons_succ, i64_w, i32_w]
            rfl
          refine one_ (i := 3) (N := some 57) #[true, true, true, true, false, true, true, false, false, false] rfl rfl (by kernel_rfl) (by decide) (fun K hK => ?_)
          refine goes_ Try.func15 (by kernel_rfl) rfl #[.pointer (some ⟨g, 0, none⟩)] (by rfl) rfl rfl (by simp only [List.map_toArray, List.map_cons, List.map_nil]; rfl) ?_
          with_reducible refine (HBY.out _ (HHE.out _ (below_drew1 HE.out))).mono ?_
          rintro e w9 ⟨v9, rfl, hn9, hb9⟩
          refine ⟨_, rfl, ?_⟩
          obtain ⟨A9, c9, rfl, hl9, hr9, _⟩ := hn9
          have HE9 := Aside0.mk (below_step (below_drew1 HE.out) hb9)
          have hcv9 : (convert 36 9 (.slice A9 l0.length c9)).run Try.prog w9 = .ok (.string S0) w9 := by
            have h9 := Kd.C_string (P := Try.prog) (c := c9) Try.underlying36 Try.underlying5 Try.underlying9 hr9
            rw [HS0.out]
            exact h9
          clear hb9 hl9 hr9
          refine hK.out _ _ ((HCV.out _ (HBE.out _ HE9.out))) (fun hHeld => ?_)
          clear hK K
          refine norm_ (a' := ?_) ?_ ?_
          rotate_left
          · show Act.put _ (some 57) _ = _
            simp only [Act.put, List.setIfInBounds_toArray, List.set_cons_zero, List.set_cons_succ, i64_w, i32_w]
            rfl
          refine one_ (i := 4) (N := some 58) #[true, true, true, true, true, true, true, false, false, false] rfl rfl (by kernel_rfl) (by decide) (fun K hK => ?_)
          refine value_ (w1 := ?_) (v := ?_) (by rfl) rfl ?_ ?_
          rotate_left 2
          · go_simp
            constructor
            · rfl
            · rfl
          refine hK.out _ _ ((HCV.out _ (HBE.out _ HE9.out))) (fun hHeld => ?_)
          clear hK K
          refine norm_ (a' := ?_) ?_ ?_
          rotate_left
          · show Act.put _ (some 58) _ = _
            simp only [Act.put, List.setIfInBounds_toArray, List.set_cons_zero, List.set_cons_succ, i64_w, i32_w]
            rfl
          refine pure_ (i := 7) (N := some 61) (v := ?_) (a' := ?_) #[true, true, true, true, true, true, true, true, false, false] rfl rfl (by kernel_rfl) (fun _ _ _ h => h) (Or.inl ⟨by rfl, ?_⟩) ?_ ?_
          rotate_left
          · intro w'
            go_simp
            with_reducible rfl
          rotate_left
          · simp only [Act.put, List.setIfInBounds_toArray, List.set_cons_zero, List.set_cons_succ, i64_w, i32_w]
            rfl
          refine pure_ (i := 8) (N := some 62) (v := ?_) (a' := ?_) #[true, true, true, true, true, true, true, true, true, false] rfl rfl (by kernel_rfl) (fun _ _ _ h => h) (Or.inl ⟨by rfl, ?_⟩) ?_ ?_
          rotate_left
          · intro w'
            go_simp
            with_reducible rfl
          rotate_left
          · simp only [Act.put, List.setIfInBounds_toArray, List.set_cons_zero, List.set_cons_succ, i64_w, i32_w]
            rfl
          refine pure_ (i := 9) (N := some 2) (v := ?_) (a' := ?_) #[true, true, true, true, true, true, true, true, true, true] rfl rfl (by kernel_rfl) (fun _ _ _ h => h) (Or.inl ⟨by rfl, ?_⟩) ?_ ?_
          rotate_left
          · intro w'
            go_simp
            with_reducible rfl
          rotate_left
          · simp only [Act.put, List.setIfInBounds_toArray, List.set_cons_zero, List.set_cons_succ, i64_w, i32_w]
            rfl
          refine done_ (by kernel_rfl) ?_
          go_wp2
          go_ret
          exact ⟨rfl, HBE.out _ (by repeat (first | exact HE9.out | apply below_alloc | apply pw_below_drewN | apply below_drew1))⟩
        | succ k1 =>
          have hL := HL.out
          have cm : i < l0.length := by have := HI.out; omega
          have c : (i : Int) < (l0.length : Int) := by omega
          have cb : decide ((i : Int) < (l0.length : Int)) = true := decide_eq_true c
          have cb2 : decide (i < l0.length) = true := decide_eq_true cm
          obtain ⟨g9, rfl, hg9, _⟩ := HF3.out (by omega)
          obtain ⟨⟨v9, hx2⟩, hf2⟩ := HX.out g9 rfl i cm
          have HG9 := Aside0.mk hg9
          clear hg9
          go_wp2
          go_roundg k1
          case measure => omega
          case rel => exact ⟨i + 1, (by first | rfl | (simp; done) | go_num), ⟨by have := HI.out; omega⟩, ⟨fun g8 e j hj => by
            injection e with e
            injection e with e
            subst e
            obtain ⟨⟨v8, h8⟩, h7⟩ := HX.out g9 rfl j hj
            refine ⟨?_, by rw [World.frozen?_setCell]; exact h7⟩
            by_cases hij : j = i
            · subst hij
              exact ⟨_, World.cell?_setCell_same _ _ _ h8⟩
            · exact ⟨v8, (World.cell?_setCell_other _ _ _ _ (by simp only [ne_eq, Addr.mk.injEq]; omega)).trans h8⟩⟩, ⟨below_set HE.out HG9.out⟩⟩
    | succ k1 =>
      have hL := HL.out
      have cm : i < l0.length := by have := HI.out; omega
      have c : (i : Int) < (l0.length : Int) := by omega
      have cb : decide ((i : Int) < (l0.length : Int)) = true := decide_eq_true c
      have cb2 : decide (i < l0.length) = true := decide_eq_true cm
      have hxl := HX.out
      obtain ⟨go21, co21, eo21, gb21, gl21, cl21, HG21⟩ := Kd.R_form HO.out (by omega)
      injection eo21 with ea en ec
      subst ea ec
      obtain ⟨hx2, hf2⟩ := Kd.R_celln 0 HO.out (i : Int) (by omega) (by omega)
      have HP := Kd.R_putg HO.out (i : Int) (Go.bits .xor .u8 (rdOf 0 x (i : Int)) 255)
      have HPa := Aside0.mk HP.1
      have HBa := Aside0.mk gb21
      have HGl := Aside0.mk (HO.out.1 go21 rfl)
      clear HP gb21 gl21 HG21 en
      simp only [Int.toNat_natCast] at hx2 hf2
      go_wp2
      go_roundg k1
      case measure => omega
      case rel => exact ⟨i + 1, _, (by first | rfl | (simp; done) | go_num), ⟨by have := HI.out; omega⟩, ⟨by have := HX.out; simp; omega⟩, ⟨HPa.out⟩, ⟨HM.apart HC.out (fun k h1 h2 => Below.heap_setCell _ _ _ k (by have := HGl.out; show k ≠ go21; omega))⟩, ⟨below_set HB.out HBa.out⟩⟩
theorem HeapKeeps (A0 : Option Addr) (c0 : Nat) (l0 : List Int) (w : World) (hr0 : Kd.C (Kd.int .u8) w A0 l0.length l0) (hc0 : l0.length ≤ c0) (hs0 : l0.length * 1 ≤ 140737488351232) (hw0 : ∀ x ∈ l0, (Lit.int .u8 x).wf = true) :
    Calls Try.prog 7 #[.slice A0 l0.length c0] w fun e w' => e = .returned (.bool true) ∧ Below w.heap.size w w' := by
  by_cases h : 1000 < l0.length
  · exact HeapKeeps_big A0 c0 l0 w hr0 hc0 h
  · exact HeapKeeps_in A0 c0 l0 w hr0 hc0 (isB_wf hw0) h
end Go.Proofs.Ytpbplflocdhahaa.HW
