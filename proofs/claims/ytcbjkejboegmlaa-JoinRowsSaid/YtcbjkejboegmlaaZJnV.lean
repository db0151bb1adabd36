import Derived.Test.YtcbjkejboegmlaaZJnU
/- group.table: number. -/
set_option linter.unusedVariables false
set_option linter.unusedSimpArgs false
namespace Go.Proofs.Ytcbjkejboegmlaa.HW
open Go.RowKit Go.Proofs.Ytcbjkejboegmlaa.P Go.Proofs.Ytcbjkejboegmlaa.HP Go.Proofs.YtcbjkejboegmlaaW.PrintWords Go.Proofs.YtcbjkejboegmlaaW.PrintLast Go.Proofs.YtcbjkejboegmlaaW.PrintMore
attribute [local go_sem] max2_int min2_int max_two min_two max_three min_three max_four min_four
theorem Inv.slot {pl : List Int} {ks : List Key} {m : Nat} (h : Inv pl ks m) {a : Nat} (ha : a < pl.length) : rdOf (0 : Int) pl (a : Int) = pl.getD a 0 := by simp [rdOf]
theorem distinct_more {ks : List Key} {key : Key} (h : Distinct ks) (hn : ∀ j, j < ks.length → ks.getD j [] ≠ key) : Distinct (ks ++ [key]) := by
  intro i j hij hj
  rw [List.length_append, List.length_singleton] at hj
  rcases Nat.lt_or_ge j ks.length with h1 | h1
  · rw [getD_app (by omega), getD_app h1]
    exact h i j hij h1
  · obtain rfl : j = ks.length := by omega
    rw [getD_app hij, show (ks ++ [key]).getD ks.length [] = key by simp [List.getD_eq_getElem?_getD]]
    exact hn i hij
theorem getD_last (ks : List Key) (key : Key) : (ks ++ [key]).getD ks.length [] = key := by simp [List.getD_eq_getElem?_getD]
set_option maxHeartbeats 8000000 in
set_option maxRecDepth 100000 in
theorem Number_ (lo g : Nat) (ok okk : Nat → Prop) (pl : List Int) (ks : List Key) (vk : Value) (key : Key) (w : World) (hT : Tab lo ok w g pl ks) (hlo : lo ≤ w.heap.size) (hok : ∀ k, w.heap.size ≤ k → ok k) (hi : InvT pl ks) (hks : ks.length ≤ 1000) (hsz : ∀ k ∈ ks, k.length ≤ 1000000 ∧ ∀ x ∈ k, x.f1.size ≤ 1000000)
    (hY : Kd.R k43 43 w lo okk vk key) (hno : ∀ k, okk k → ¬ ok k) (hkl : key.length ≤ 1000000 ∧ ∀ x ∈ key, x.f1.size ≤ 1000000) :
    Calls Try.prog 30 #[.pointer (some ⟨g, 0, none⟩), vk] w fun e w' => ∃ (r : Nat) (pl' : List Int) (ks' : List Key), e = .returned (.int .i64 (r : Int)) ∧ r < ks'.length ∧ ks'.getD r [] = key ∧ (ks' = ks ∨ ks' = ks ++ [key]) ∧ InvT pl' ks' ∧ Tab lo (fun k => ok k ∨ okk k) w' g pl' ks' ∧ Fr lo ok w w' := by
  obtain ⟨Ak, ck, rfl, hck, hCk⟩ := Kd.R_reads hY
  have HLO := Aside0.mk hlo
  have HOK := Aside0.mk hok
  have HI := Aside0.mk hi
  have HKS := Aside0.mk hks
  have HSZ := Aside0.mk hsz
  have HY := Aside0.mk hY
  have HNO := Aside0.mk hno
  have HKL := Aside0.mk hkl
  have HCK := Aside0.mk hck
  have HGW := Aside0.mk (Grow_ lo g ok pl ks w hT hlo hok hi hks hsz)
  clear hck hCk hT hlo hok hi hks hsz hY hno hkl
  go_enter Try.func30, Try.ntmps30
  go_wp2_with fail
  refine HGW.out.mono ?_
  rintro e w1 ⟨rfl, pl1, hT1, hI1, hN1, hF1⟩
  have hY1 : Kd.R k43 43 w1 lo okk (.slice Ak (List.length key) ck) key := Kd.R_step HY.out (fun k hk hlt => hF1.rest k hlt (HNO.out k hk))
  obtain ⟨hg1, hg2, vP, vK, hg, hP, hK⟩ := hT1
  have hpos := hI1.pos
  obtain ⟨AP, cP, rfl, hcP, hCP⟩ := Kd.R_reads hP
  obtain ⟨gP, cP', eP, gb8, gl8, cells8, hc8⟩ := Kd.R_form hP hpos
  injection eP with eP1 _ eP2
  subst eP1 eP2
  obtain ⟨AK, cK, rfl, hcK, hCK⟩ := Kd.R_reads hK
  obtain ⟨Ak', ck', ek, hck, hCk⟩ := Kd.R_reads hY1
  injection ek with ek1 _ ek2
  subst ek1 ek2
  obtain ⟨d, hfd, hor⟩ := hI1.probe (by omega) key
  have hal : (startN key pl1.length + d) % pl1.length < pl1.length := Nat.mod_lt _ hpos
  have HPR := Aside0.mk (Probe_ g pl1 ks key (some ⟨gP, 0, none⟩) AK Ak cP cK ck ks.length d w1 hg hCP hcP hCK hcK hCk hck HKL.out.2 (fun k hk => (HSZ.out k hk).1) hI1 hfd)
  have HF1 := Aside0.mk hF1
  have HI1 := Aside0.mk hI1
  have HN1 := Aside0.mk hN1
  have HFD := Aside0.mk hfd
  obtain ⟨a, ha⟩ : ∃ a, a = (startN key pl1.length + d) % pl1.length := ⟨_, rfl⟩
  have HAE := Aside0.mk ha
  rw [← ha] at hal hor HPR
  have HAL := Aside0.mk hal
  have HGG := Aside0.mk (And.intro hg1 hg2)
  have HG1 := Aside0.mk hg
  have HP1 := Aside0.mk hP
  have HK1 := Aside0.mk hK
  have HY1 := Aside0.mk hY1
  have HC1 := Aside0.mk hc8
  have HGP := Aside0.mk gb8
  clear HGW hY1 hg1 hg2 hg hP hK hpos hcP hCP hcK hCK hck hCk hF1 hI1 hN1 hfd gb8 gl8 hc8 ha
  go_wp2_with fail
  refine HPR.out.mono ?_
  rintro e w2 ⟨rfl, hb2⟩
  have HB2 := Aside0.mk hb2
  have HGB2 := Aside0.mk ((hb2.block g (blk_lt HG1.out)).trans HG1.out)
  have HK2 := Aside0.mk (Kd.R_below HK1.out hb2)
  have HP2 := Aside0.mk (Kd.R_below HP1.out hb2)
  have HY2 := Aside0.mk (Kd.R_below HY1.out hb2)
  have HC2 := Aside0.mk ((hb2.block gP (blk_lt HC1.out)).trans HC1.out)
  have HF2 := Aside0.mk (HF1.out.trans (Fr.of_below hb2 (Nat.le_trans HLO.out HF1.out.below.size)))
  have hcg0 := blk_cell HGB2.out 0
  have hcg1 := blk_cell HGB2.out 1
  simp only [List.getElem?_toArray, List.getElem?_cons_zero, List.getElem?_cons_succ] at hcg0 hcg1
  obtain ⟨hs2, hf2⟩ := Kd.R_celln (0 : Int) HP2.out (a : Int) (by omega) (by omega)
  rw [Int.toNat_natCast, HI1.out.slot hal] at hs2
  rw [Int.toNat_natCast] at hf2
  have p1 : ((0 : Int) ≤ (a : Int)) = True := eq_true (by omega)
  have q1 : ((a : Int) < (pl1.length : Int)) = True := eq_true (by omega)
  have q1n : (a < pl1.length) = True := eq_true hal
  clear hb2 HB2 HK1 HP1 HY1 HC1 HPR hal hf2
  rcases hor with ⟨j, hj, hje, hz⟩ | ⟨hnew, hz⟩
  · rw [hz] at hs2
    obtain ⟨X, hX⟩ : ∃ X : Int, X = ((j + 1 : Nat) : Int) := ⟨_, rfl⟩
    rw [← hX] at hs2
    have t0 : (X == 0) = false := beq_eq_false_iff_ne.2 (by omega)
    have hwX : wrap64 (X - 1) = (j : Int) := by rw [hX]; unfold wrap64; have := HKS.out; omega
    have HJ := Aside0.mk (And.intro hj hje)
    clear hX hj hje hz
    go_wp2_with fail
    go_ret
    exact ⟨j, pl1, ks, by rw [hwX]; rfl, HJ.out.1, HJ.out.2, .inl rfl, ⟨HI.out.1, .inr ⟨HI1.out, by have := HN1.out; omega⟩⟩, ⟨HGG.out.1, .inl HGG.out.2, _, _, HGB2.out, Kd.R_mono HP2.out (fun k hk => .inl hk), Kd.R_mono HK2.out (fun k hk => .inl hk)⟩, HF2.out⟩
  · rw [hz] at hs2
    have HNEW := Aside0.mk hnew
    have HZ := Aside0.mk hz
    clear hnew hz
    go_wp2_with (first | ((with_reducible refine gate_builtin (b := .append) (xs := #[.tmp 23, .tmp 25]) rfl ?_); at_builtin; refine Kd.R_append (Kd.slice 43 k43) (w0 := w) lo rfl (.tmp 23) (.tmp 25) 22 38 (.slice none 0 0) 24 rfl Try.underlying22 info38 rfl (by decide) (by omega) (.slice AK ks.length cK) ks key [.slice Ak (List.length key) ck] (fun k => ok k ∨ okk k) okk rfl rfl ?aP ?aK ?aF ?aO ?aB ?aS ?aL ?_; (case aP => exact ⟨_, rfl, HY2.out⟩); (case aK => exact (fun k hk => ⟨.inr hk, fun e => HNO.out k hk (HK2.out.1 k e.symm)⟩)); (case aF => exact (fun k hk => .inl (HOK.out k (by have := HF2.out.below.size; omega)))); (case aO => exact Kd.R_mono HK2.out (fun k hk => .inl hk)); (case aB => exact HF2.out.below); (case aS => have h9 := HF2.out.below.size; have h8 := HLO.out; omega); (case aL => have := HKS.out; omega); intro v3 w3 ho hb hg hat; obtain ⟨Ao, co, eo⟩ := Kd.R_slice ho; rw [show (ks ++ [key]).length = ks.length + 1 by simp] at eo; subst eo; have hgb := (hg.block g (blk_lt HGB2.out) (Kd.R_ne HK2.out HGB2.out (by decide))).trans HGB2.out; have hcg1' := blk_cell hgb 1; simp only [List.getElem?_toArray, List.getElem?_cons_zero, List.getElem?_cons_succ] at hcg1'; have hfg1' : w3.frozen? ⟨g, 1, none⟩ = false := blk_frozen hgb _; have HGB3 := Aside0.mk hgb; have HO3 := Aside0.mk ho; have HB3 := Aside0.mk hb; have HGR3 := Aside0.mk hg; clear hgb ho hb hg hat))
    obtain ⟨u, hu⟩ : ∃ U, U = w3.setCell ⟨g, 1, none⟩ (.slice Ao (ks.length + 1) co) := ⟨_, rfl⟩
    rw [← hu]
    have hgu : u.heap[g]? = some (.cells #[.slice (some ⟨gP, 0, none⟩) pl1.length cP, .slice Ao (ks.length + 1) co] 60 (0, 0)) := by rw [hu]; exact blk_putj HGB3.out 1 _
    have hP3 : Kd.R (Kd.int .i64) 3 w3 lo ok (.slice (some ⟨gP, 0, none⟩) pl1.length cP) pl1 := Kd.R_mono (Kd.R_grown (Kd.R_apart' HP2.out (Kd.R_typed HK2.out) (by decide)) HGR3.out (fun k hk => hk.2)) (fun k hk => hk.1)
    have hPu : Kd.R (Kd.int .i64) 3 u lo ok (.slice (some ⟨gP, 0, none⟩) pl1.length cP) pl1 := by rw [hu]; exact Kd.R_set hP3 HGB3.out (by decide) 1 _
    have hKu : Kd.R (Kd.slice 43 k43) 38 u lo (fun k => ok k ∨ okk k) (.slice Ao (ks.length + 1) co) (ks ++ [key]) := by rw [hu]; exact Kd.R_set HO3.out HGB3.out (by decide) 1 _
    have hCu : ∃ cs, u.heap[gP]? = some (.cells cs 3 (0, 0)) := by
      obtain ⟨_, _, e9, _, _, cs, hcs⟩ := Kd.R_form hPu (by have := HAL.out; omega)
      injection e9 with e9 _ _
      injection e9 with e9
      injection e9 with e9
      exact ⟨cs, by rw [e9]; exact hcs⟩
    obtain ⟨csu, hcsu⟩ := hCu
    have hFu : Fr lo ok w u := by
      rw [hu]
      exact Fr.set ⟨HB3.out, fun k hk ho => (HGR3.out.block k (by have := HF2.out.below.size; omega) (fun e => ho (HK2.out.1 k e.symm))).trans (HF2.out.rest k hk ho)⟩ HGG.out.2 HGG.out.1
    obtain ⟨hs3, hf3⟩ := Kd.R_celln (0 : Int) hPu (a : Int) (by omega) (by have := HAL.out; omega)
    rw [Int.toNat_natCast, HI1.out.slot HAL.out, HZ.out] at hs3
    rw [Int.toNat_natCast] at hf3
    have hs3 : u.drew.cell? ⟨gP, a, none⟩ = some (.int .i64 0) := hs3
    have hf3 : u.drew.frozen? ⟨gP, a, none⟩ = false := hf3
    have hg0 := blk_cell hgu 0
    have hg1 := blk_cell hgu 1
    simp only [List.getElem?_toArray, List.getElem?_cons_zero, List.getElem?_cons_succ] at hg0 hg1
    have HC30 : Aside0 (u.drew.cell? ⟨g, 0, none⟩ = some (.slice (some ⟨gP, 0, none⟩) pl1.length cP)) := ⟨hg0⟩
    have HC31 : Aside0 (u.drew.cell? ⟨g, 1, none⟩ = some (.slice Ao (ks.length + 1) co)) := ⟨hg1⟩
    have HGU := Aside0.mk hgu
    have HPU := Aside0.mk hPu
    have HKU := Aside0.mk hKu
    have HFU := Aside0.mk hFu
    have HCU := Aside0.mk hcsu
    clear hu hgu hP3 hPu hKu hFu hcsu hg0 hg1 hcg0 hcg1 hs2 hcg1' hfg1' HGB3 HO3 HB3 HGR3
    refine start_ (n := 12) (S := fun w' => w'.cell? ⟨g, 0, none⟩ = some (.slice (some ⟨gP, 0, none⟩) pl1.length cP) ∧ w'.cell? ⟨g, 1, none⟩ = some (.slice Ao (ks.length + 1) co)) (ds := [11]) #[false, false, false, false, false, false, false, false, false, false, false, false] (by kernel_rfl) rfl rfl ⟨HC30.out, HC31.out⟩ (fun hHeld => ?_)
    refine pure_ (i := 0) (N := some 29) (v := ?_) (a' := ?_) #[true, false, false, false, false, false, false, false, false, false, false, false] rfl rfl (by kernel_rfl) (fun _ _ _ h => h) (Or.inl ⟨by rfl, ?_⟩) ?_ ?_
    rotate_left
    · intro w'
      go_simp
      with_reducible rfl
    rotate_left
    · simp only [Act.put, List.setIfInBounds_toArray, List.set_cons_zero, List.set_cons_succ, i64_w, i32_w]
      rfl
    refine pure_ (i := 1) (N := some 30) (v := ?_) (a' := ?_) #[true, true, false, false, false, false, false, false, false, false, false, false] rfl rfl (by kernel_rfl) (fun _ _ _ h => h) (Or.inl ⟨by rfl, ?_⟩) ?_ ?_
    rotate_left
    · intro w'
      go_simp
      with_reducible rfl
    rotate_left
    · simp only [Act.put, List.setIfInBounds_toArray, List.set_cons_zero, List.set_cons_succ, i64_w, i32_w]
      rfl
    refine pure_ (i := 2) (N := some 31) (v := ?_) (a' := ?_) #[true, true, true, false, false, false, false, false, false, false, false, false] rfl rfl (by kernel_rfl) (fun _ _ _ h => h) (Or.inl ⟨by rfl, ?_⟩) ?_ ?_
    rotate_left
    · intro w'
      go_simp
      with_reducible rfl
    rotate_left
    · simp only [Act.put, List.setIfInBounds_toArray, List.set_cons_zero, List.set_cons_succ, i64_w, i32_w]
      rfl
    refine pure_ (i := 4) (N := some 33) (v := ?_) (a' := ?_) #[true, true, true, false, true, false, false, false, false, false, false, false] rfl rfl (by kernel_rfl) (fun _ _ _ h => h) (Or.inl ⟨by rfl, ?_⟩) ?_ ?_
    rotate_left
    · intro w'
      go_simp
      with_reducible rfl
    rotate_left
    · simp only [Act.put, List.setIfInBounds_toArray, List.set_cons_zero, List.set_cons_succ, i64_w, i32_w]
      rfl
    refine pure_ (i := 5) (N := some 34) (v := ?_) (a' := ?_) #[true, true, true, false, true, true, false, false, false, false, false, false] rfl rfl (by kernel_rfl) (fun _ _ _ h => h) (Or.inl ⟨by rfl, ?_⟩) ?_ ?_
    rotate_left
    · intro w'
      go_simp
      with_reducible rfl
    rotate_left
    · simp only [Act.put, List.setIfInBounds_toArray, List.set_cons_zero, List.set_cons_succ, i64_w, i32_w]
      rfl
    refine pure_ (i := 6) (N := some 35) (v := ?_) (a' := ?_) #[true, true, true, false, true, true, true, false, false, false, false, false] rfl rfl (by kernel_rfl) (fun _ _ _ h => h) (Or.inl ⟨by rfl, ?_⟩) ?_ ?_
    rotate_left
    · intro w'
      go_simp
      with_reducible rfl
    rotate_left
    · simp only [Act.put, List.setIfInBounds_toArray, List.set_cons_zero, List.set_cons_succ, i64_w, i32_w]
      rfl
    refine pure_ (i := 7) (N := some 36) (v := ?_) (a' := ?_) #[true, true, true, false, true, true, true, true, false, false, false, false] rfl rfl (by kernel_rfl) (fun _ _ _ h => h) (Or.inl ⟨by rfl, ?_⟩) ?_ ?_
    rotate_left
    · intro w'
      go_simp
      with_reducible rfl
    rotate_left
    · simp only [Act.put, List.setIfInBounds_toArray, List.set_cons_zero, List.set_cons_succ, i64_w, i32_w]
      rfl
    refine take_ (i := 3) (N := some 32) (v := ?_) (a' := ?_) #[true, true, true, true, true, true, true, true, false, false, false, false] rfl rfl (by kernel_rfl) (fun _ _ _ h => h) (Or.inl ⟨by rfl, ?_⟩) hHeld ?_ ?_
    rotate_left
    · rintro w' ⟨s0, s1⟩
      go_simp
      with_reducible rfl
    rotate_left
    · simp only [Act.put, List.setIfInBounds_toArray, List.set_cons_zero, List.set_cons_succ, i64_w, i32_w]
      rfl
    refine take_ (i := 8) (N := some 37) (v := ?_) (a' := ?_) #[true, true, true, true, true, true, true, true, true, false, false, false] rfl rfl (by kernel_rfl) (fun _ _ _ h => h) (Or.inl ⟨by rfl, ?_⟩) hHeld ?_ ?_
    rotate_left
    · rintro w' ⟨s0, s1⟩
      go_simp
      with_reducible rfl
    rotate_left
    · simp only [Act.put, List.setIfInBounds_toArray, List.set_cons_zero, List.set_cons_succ, i64_w, i32_w]
      rfl
    refine pure_ (i := 9) (N := some 38) (v := ?_) (a' := ?_) #[true, true, true, true, true, true, true, true, true, true, false, false] rfl rfl (by kernel_rfl) (fun _ _ _ h => h) (Or.inl ⟨by rfl, ?_⟩) ?_ ?_
    rotate_left
    · intro w'
      go_simp
      with_reducible rfl
    rotate_left
    · simp only [Act.put, List.setIfInBounds_toArray, List.set_cons_zero, List.set_cons_succ, i64_w, i32_w]
      rfl
    refine pure_ (i := 10) (N := some 39) (v := ?_) (a' := ?_) #[true, true, true, true, true, true, true, true, true, true, true, false] rfl rfl (by kernel_rfl) (fun _ _ _ h => h) (Or.inl ⟨by rfl, ?_⟩) ?_ ?_
    rotate_left
    · intro w'
      go_simp
      with_reducible rfl
    rotate_left
    · simp only [Act.put, List.setIfInBounds_toArray, List.set_cons_zero, List.set_cons_succ, i64_w, i32_w]
      rfl
    refine last_ (i := 11) (N := none) #[true, true, true, true, true, true, true, true, true, true, true, true] rfl rfl (by kernel_rfl) (by decide) (fun K hK => ?_)
    refine skip_ (w1 := ?_) (by rfl) rfl ?_ ?_
    rotate_left
    · go_simp
      rfl
    refine hK.out _ _ ?_
    clear hK K
    refine done_ (by kernel_rfl) ?_
    obtain ⟨X, hX⟩ : ∃ X : Int, X = (ks.length : Int) + 1 := ⟨_, rfl⟩
    rw [← hX]
    obtain ⟨v, hv⟩ : ∃ U, U = u.setCell ⟨gP, a, none⟩ (.int .i64 X) := ⟨_, rfl⟩
    rw [← hv]
    have hg4 : v.heap[g]? = some (.cells #[.slice (some ⟨gP, 0, none⟩) pl1.length cP, .slice Ao (ks.length + 1) co] 60 (0, 0)) := by rw [hv]; exact blk_other HCU.out HGU.out (fun cs' e => by injection e with _ e; exact absurd e (by decide)) a _
    have hP4 : Kd.R (Kd.int .i64) 3 v lo ok (.slice (some ⟨gP, 0, none⟩) pl1.length cP) (pl1.set a X) := by
      have h9 := (Kd.R_putg HPU.out (a : Int) X).1
      rw [Int.toNat_natCast] at h9
      rw [hv]
      exact h9
    have hK4 : Kd.R (Kd.slice 43 k43) 38 v lo (fun k => ok k ∨ okk k) (.slice Ao (ks.length + 1) co) (ks ++ [key]) := by rw [hv]; exact Kd.R_set HKU.out HCU.out (by decide) a _
    have hF4 : Fr lo ok w v := by rw [hv]; exact HFU.out.set (HPU.out.1 gP rfl) HGP.out
    obtain ⟨hs4, _⟩ := Kd.R_celln (0 : Int) hP4 (a : Int) (by omega) (by have := HAL.out; omega)
    rw [Int.toNat_natCast, show rdOf (0 : Int) (pl1.set a X) (a : Int) = X from by rw [show rdOf (0 : Int) (pl1.set a X) (a : Int) = (pl1.set a X).getD a 0 by simp [rdOf]]; exact getD_set_eq X HAL.out] at hs4
    have hg0 := blk_cell hg4 0
    simp only [List.getElem?_toArray, List.getElem?_cons_zero, List.getElem?_cons_succ] at hg0
    have hwX : wrap64 (X - 1) = (ks.length : Int) := by rw [hX]; unfold wrap64; have := HKS.out; omega
    have hen := (HI1.out.more key).enter (d := d) (by simp) (by rw [getD_last]; exact HI1.out.found_more key key d HFD.out) (by intro j hj; rw [getD_last, getD_app hj]; exact HNEW.out j hj) (by rw [getD_last, ← HAE.out]; exact HZ.out)
    rw [getD_last, ← HAE.out, show ((ks.length + 1 : Nat) : Int) = X by rw [hX]; omega] at hen
    have HEN := Aside0.mk hen
    have HG4 := Aside0.mk hg4
    have HP4 := Aside0.mk hP4
    have HK4 := Aside0.mk hK4
    have HF4 := Aside0.mk hF4
    clear hv hX hg4 hP4 hK4 hF4 hen hs3 hf3 HC30 HC31 HGU HPU HKU HFU HCU
    go_wp2_with fail
    go_ret
    refine ⟨ks.length, pl1.set a X, ks ++ [key], by rw [hwX]; rfl, by simp, getD_last ks key, .inr rfl, ⟨distinct_more HI.out.1 HNEW.out, .inr ⟨?_, ?_⟩⟩, ⟨HGG.out.1, .inl HGG.out.2, .slice (some ⟨gP, 0, none⟩) pl1.length cP, .slice Ao (ks.length + 1) co, HG4.out, Kd.R_drew (Kd.R_mono HP4.out (fun k hk => .inl hk)), Kd.R_drew HK4.out⟩, ⟨below_drew HF4.out.below, HF4.out.rest⟩⟩
    · rw [List.length_append, List.length_singleton]
      exact HEN.out
    · rw [List.length_append, List.length_singleton, List.length_set]
      exact HN1.out
end Go.Proofs.Ytcbjkejboegmlaa.HW
