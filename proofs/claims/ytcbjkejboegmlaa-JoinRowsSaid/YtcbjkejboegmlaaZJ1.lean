import Derived.Test.YtcbjkejboegmlaaZJnP
/- Texts laid together by merge.py: JnT JnU JnV. -/
section
/- group.table: probe. -/
set_option linter.unusedVariables false
set_option linter.unusedSimpArgs false
namespace Go.Proofs.Ytcbjkejboegmlaa.HW
open Go.RowKit Go.Proofs.Ytcbjkejboegmlaa.P Go.Proofs.Ytcbjkejboegmlaa.HP Go.Proofs.YtcbjkejboegmlaaW.PrintWords Go.Proofs.YtcbjkejboegmlaaW.PrintLast Go.Proofs.YtcbjkejboegmlaaW.PrintMore
attribute [local go_sem] max2_int min2_int max_two min_two max_three min_three max_four min_four
theorem str_ne {x y : ByteArray} : (x.toList == y.toList) = decide (x = y) := by
  by_cases h : x = y
  · subst h; simp
  · rw [decide_eq_false h]
    refine Bool.eq_false_iff.2 (fun e => h ?_)
    have e := eq_of_beq e
    rw [ByteArray.toList_eq, ByteArray.toList_eq] at e
    obtain ⟨⟨x⟩⟩ := x
    obtain ⟨⟨y⟩⟩ := y
    simp only at e
    rw [e]
theorem s43_eq {x y : S43} (h0 : x.f0 = y.f0) (h1 : x.f1 = y.f1) : x = y := by cases x; cases y; simp at h0 h1; subst h0 h1; rfl
theorem s43_ne (x y : S43) : (!(x.f0 == y.f0) || (!(x.f1.toList == y.f1.toList))) = !decide (x = y) := by
  rw [str_ne]
  by_cases h : x = y
  · subst h; simp
  · rw [decide_eq_false h]
    by_cases h0 : x.f0 = y.f0
    · have h1 : ¬ x.f1 = y.f1 := fun h1 => h (s43_eq h0 h1)
      simp [h1]
    · simp [h0]
theorem rd43 (l : List S43) (i : Nat) (h : i < l.length) : rd_T43 l (i : Int) = l[i] := by simp [rd_T43, List.getD_eq_getElem?_getD, h]
theorem equal_l (a b : List S43) (hl : a.length = b.length) (hn : a.length ≤ 1000000) : ∀ (d i : Nat), i + d = a.length → Ev (fun k => api_Val_40.l0 k a b (a.length : Int) (i : Int)) (decide (a.drop i = b.drop i)) := by
  intro d
  induction d with
  | zero =>
    intro i hi
    refine Ev.step (fun k => by rw [api_Val_40.l0]) ?_
    simp only [if_neg (show ¬ (i : Int) < (a.length : Int) by omega)]
    rw [List.drop_eq_nil_of_le (by omega), List.drop_eq_nil_of_le (by omega)]
    exact Ev.now _
  | succ d ih =>
    intro i hi
    have w1 : wrap64 ((i : Int) + 1) = ((i + 1 : Nat) : Int) := wr1 i (by omega)
    refine Ev.step (fun k => by rw [api_Val_40.l0]) ?_
    have ha : i < a.length := by omega
    have hb : i < b.length := by omega
    simp only [if_pos (show (i : Int) < (a.length : Int) by omega), if_pos (show (0 : Int) ≤ (i : Int) by omega), if_pos (show (i : Int) < (b.length : Int) by omega), w1, s43_ne, rd43 a i ha, rd43 b i hb]
    rw [List.drop_eq_getElem_cons ha, List.drop_eq_getElem_cons hb]
    by_cases h : a[i] = b[i]
    · simp only [h, decide_true, Bool.not_true, Bool.false_eq_true, if_false]
      have e : decide (b[i] :: a.drop (i + 1) = b[i] :: b.drop (i + 1)) = decide (a.drop (i + 1) = b.drop (i + 1)) := decide_eq_decide.2 ⟨fun h => by injection h, fun h => by rw [h]⟩
      rw [e]
      exact ih (i + 1) (by omega)
    · have e : decide (a[i] :: a.drop (i + 1) = b[i] :: b.drop (i + 1)) = false := decide_eq_false (by intro hc; injection hc with h1 _; exact h h1)
      rw [e]
      simp only [h, decide_false, Bool.not_false, if_true]
      exact Ev.now _
theorem equal_f (a b : List S43) (hn : a.length ≤ 1000000) : Ev (fun k => api_Val_40.f k a b) (decide (a = b)) := by
  unfold api_Val_40.f
  by_cases h : a.length = b.length
  · simp only [if_pos (show (a.length : Int) = (b.length : Int) by omega)]
    have := equal_l a b h hn _ 0 (Nat.zero_add _)
    simpa using this
  · simp only [if_neg (show ¬ (a.length : Int) = (b.length : Int) by omega)]
    rw [decide_eq_false (fun e => h (by rw [e]))]
    exact Ev.now _
theorem rd_get (pl : List Int) (a : Nat) : rd pl (a : Int) = pl.getD a 0 := by simp [rd]
theorem rdL_get (ks : List Key) (a : Nat) : rd_L3 ks (a : Int) = ks.getD a [] := by simp [rd_L3]
theorem getD_lt_mem (ks : List Key) (a : Nat) (h : a < ks.length) : ks.getD a [] ∈ ks := by simp [List.getD_eq_getElem?_getD, h]
section
variable (g : Nat) (pl : List Int) (ks : List Key) (key : Key) (AP AK A : Option Addr) (cP cK c m d : Nat) (w : World)
/-- The cells of one round at place a, where an entry stands. -/
theorem round_at (hP : Kd.C (Kd.int .i64) w AP pl.length pl) (hK : Kd.C (Kd.slice 43 k43) w AK ks.length ks) (hi : Inv pl ks m) (a : Nat) (ha : a < pl.length) (h0 : pl.getD a 0 ≠ 0) :
    ∃ (jx : Nat) (adP adK : Addr) (Ak : Option Addr) (ck : Nat), pl.getD a 0 = ((jx + 1 : Nat) : Int) ∧ jx < ks.length ∧ jx < 1048576 ∧ AP = some adP ∧ AK = some adK ∧ w.cell? (adP.add a) = some (.int .i64 ((jx + 1 : Nat) : Int)) ∧ w.cell? (adK.add jx) = some (.slice Ak (ks.getD jx []).length ck) ∧ (ks.getD jx []).length ≤ ck ∧ Kd.C k43 w Ak (ks.getD jx []).length (ks.getD jx []) := by
  obtain ⟨r1, r2⟩ := hi.rng _ (getD_mem ha)
  have hm := hi.mle
  have hz := hi.zeros
  obtain ⟨e, _, he, hle⟩ := hi.pow
  have hp : (2 : Nat) ^ e ≤ 2 ^ 20 := Nat.pow_le_pow_right (by decide) he
  have hp2 : (2 : Nat) ^ 20 = 1048576 := by decide
  obtain ⟨adP, e1, hx⟩ := Kd.at_int hP (a : Int) (by omega) (by omega)
  obtain ⟨jx, hj⟩ : ∃ jx : Nat, pl.getD a 0 = ((jx + 1 : Nat) : Int) := ⟨(pl.getD a 0).toNat - 1, by omega⟩
  have hjk : jx < ks.length := by omega
  obtain ⟨adK, Ak, ck, e2, hy, hck, hC⟩ := at_L3 hK (jx : Int) (by omega) (by omega)
  rw [rd_get, hj, Int.toNat_natCast] at hx
  rw [rdL_get, Int.toNat_natCast] at hy
  rw [rdL_get] at hck hC
  exact ⟨jx, adP, adK, Ak, ck, hj, hjk, by omega, e1, e2, hx, hy, hck, hC⟩
set_option maxHeartbeats 8000000 in
set_option maxRecDepth 100000 in
theorem Probe_ (hg : w.heap[g]? = some (.cells #[.slice AP pl.length cP, .slice AK ks.length cK] 60 (0, 0))) (hP : Kd.C (Kd.int .i64) w AP pl.length pl) (hcP : pl.length ≤ cP) (hK : Kd.C (Kd.slice 43 k43) w AK ks.length ks) (hcK : ks.length ≤ cK)
    (hY : Kd.C k43 w A key.length key) (hcY : key.length ≤ c) (hsz : ∀ x ∈ key, x.f1.size ≤ 1000000) (hkl : ∀ k ∈ ks, k.length ≤ 1000000) (hi : Inv pl ks m) (hf : Found pl ks key d) :
    Calls Try.prog 37 #[.pointer (some ⟨g, 0, none⟩), .slice A key.length c] w fun e w' => e = .returned (.int .i64 (((startN key pl.length + d) % pl.length : Nat) : Int)) ∧ Below w.heap.size w w' := by
  have hn := hi.pos
  obtain ⟨e, _, he, hle⟩ := hi.pow
  have hp : (2 : Nat) ^ e ≤ 2 ^ 20 := Nat.pow_le_pow_right (by decide) he
  have hp2 : (2 : Nat) ^ 20 = 1048576 := by decide
  have HG0 : Aside0 (∀ W : World, Below w.heap.size w W → W.cell? ⟨g, 0, none⟩ = some (.slice AP pl.length cP)) := ⟨fun W hW => by have h9 := blk_cell ((hW.block g (blk_lt hg)).trans hg) 0; simpa using h9⟩
  have HG1 : Aside0 (∀ W : World, Below w.heap.size w W → W.cell? ⟨g, 1, none⟩ = some (.slice AK ks.length cK)) := ⟨fun W hW => by have h9 := blk_cell ((hW.block g (blk_lt hg)).trans hg) 1; simpa using h9⟩
  have HRA := Aside0.mk (round_at pl ks AP AK m w hP hK hi)
  have HPP := Aside0.mk hP
  have HY := Aside0.mk hY
  have HKY : Aside0 (∀ W : World, Below w.heap.size w W → Kd.C k43 W A key.length key) := ⟨fun W hW => Kd.C_below hY hW⟩
  have HCY := Aside0.mk hcY
  have HSZ := Aside0.mk hsz
  have HKL := Aside0.mk hkl
  have HF := Aside0.mk hf
  have hmk : wrap64 ((pl.length : Int) - 1) = (pl.length : Int) - 1 := by unfold wrap64; omega
  have HMS : Aside0 (wrap64 (Go.bits BinOp.and IntKind.u64 (hashL key) (IntKind.u64.wrap ((pl.length : Int) - 1))) = ((startN key pl.length : Nat) : Int)) := ⟨by rw [hle]; exact mask_start key e he⟩
  have HMN : Aside0 (∀ a, a < pl.length → Go.bits BinOp.and IntKind.i64 (((a + 1 : Nat) : Int)) ((pl.length : Int) - 1) = (((a + 1) % pl.length : Nat) : Int)) := ⟨fun a ha => by rw [hle] at ha ⊢; exact mask_next a e he ha⟩
  have HN : Aside0 (0 < pl.length ∧ pl.length ≤ 1048576) := ⟨by omega⟩
  have HST : Aside0 (startN key pl.length % pl.length = startN key pl.length) := ⟨Nat.mod_eq_of_lt (Nat.mod_lt _ hn)⟩
  have HB := Aside0.mk (Below.refl w.heap.size w)
  have hx0 := HG0.out _ HB.out
  clear hg hP hcP hK hcK hY hcY hsz hkl hi hf hn he hle hp hp2
  go_enter Try.func37, Try.ntmps37
  go_wp2_with fail
  refine (Hash_ A c key _ (HKY.out _ (by repeat (first | exact HB.out | apply below_alloc | apply pw_below_drewN | apply below_drew1))) HSZ.out).mono ?_
  rintro e2 w1 ⟨rfl, hb1⟩
  have HB1 := Aside0.mk (below_step HB.out hb1)
  have hms := HMS.out
  clear hb1 HB hx0
  go_wp2_with fail
  try rw [hmk]
  try rw [hms]
  clear hms
  go_loopg [6] (d : Nat) (fun kq v6 w' => ∃ i : Nat, v6 = .int .i64 (((startN key pl.length + i) % pl.length : Nat) : Int) ∧ Aside0 (i + kq = d) ∧ Aside0 (Below w.heap.size w w'))
  case atStart => exact ⟨0, by rw [Nat.add_zero, HST.out], ⟨Nat.zero_add _⟩, HB1⟩
  case round =>
    clear HB1
    obtain ⟨i, rfl, HI, HB⟩ := hrel
    have hal : (startN key pl.length + i) % pl.length < pl.length := Nat.mod_lt _ HN.out.1
    have HMQ : Aside0 (((startN key pl.length + i) % pl.length + 1) % pl.length = (startN key pl.length + (i + 1)) % pl.length) := ⟨by rw [Nat.mod_add_mod]; rfl⟩
    have HIT : Aside0 ((i = d → Hit pl ks key ((startN key pl.length + i) % pl.length)) ∧ (i < d → ¬ Hit pl ks key ((startN key pl.length + i) % pl.length))) := ⟨fun e => by rw [e]; exact HF.out.2.1, fun e => HF.out.2.2 i e⟩
    obtain ⟨a, ha⟩ : ∃ a, a = (startN key pl.length + i) % pl.length := ⟨_, rfl⟩
    rw [← ha] at hal HMQ HIT ⊢
    have HAA := Aside0.mk ha
    have HAL := Aside0.mk hal
    have HM1 := Aside0.mk (HMN.out a hal)
    have HA1 : Aside0 (wrap64 ((a : Int) + 1) = ((a + 1 : Nat) : Int)) := ⟨by have := HN.out; unfold wrap64; omega⟩
    have p1 : ((0 : Int) ≤ (a : Int)) = True := eq_true (by omega)
    have q1 : ((a : Int) < (pl.length : Int)) = True := eq_true (by omega)
    have q1n : (a < pl.length) = True := eq_true hal
    have HBR0 : Aside0 (Below w.heap.size w wr.drew) := ⟨below_drew1 HB.out⟩
    have HBR : Aside0 (∀ n, Below w.heap.size w (wr.drew.drewN n)) := ⟨fun n => pw_below_drewN (below_drew1 HB.out) n⟩
    obtain ⟨adP, eP, hxP⟩ := Kd.at_int HPP.out (a : Int) (by omega) (by omega)
    rw [rd_get, Int.toNat_natCast] at hxP
    clear ha
    by_cases h0 : pl.getD a 0 = 0
    · subst eP
      rw [h0] at hxP
      have HPC : Aside0 (∀ W : World, Below w.heap.size w W → W.cell? (adP.add a) = some (.int .i64 0)) := ⟨fun W hW => by rw [hW.cell (World.block_lt_of_cell? w _ hxP)]; exact hxP⟩
      have hid : i = d := Nat.le_antisymm (by have := HI.out; omega) (Nat.le_of_not_lt (fun h => HIT.out.2 h (.inl h0)))
      clear h0 hxP hal
      cases gk with
      | succ k1 => exact absurd HI.out (by omega)
      | zero =>
        clear hid
        go_wp2_with fail
        refine start_ (n := 27) (S := fun w' => w'.cell? ⟨g, 0, none⟩ = some (.slice (some adP) pl.length cP) ∧ w'.cell? (adP.add a) = some (.int .i64 0)) (ds := []) #[false, false, false, false, false, false, false, false, false, false, false, false, false, false, false, false, false, false, false, false, false, false, false, false, false, false, false] (by kernel_rfl) rfl rfl ⟨(HG0.out _ HBR0.out), (HPC.out _ HBR0.out)⟩ (fun hHeld => ?_)
        refine pure_ (i := 0) (N := some 19) (v := ?_) (a' := ?_) #[true, false, false, false, false, false, false, false, false, false, false, false, false, false, false, false, false, false, false, false, false, false, false, false, false, false, false] rfl rfl (by kernel_rfl) (fun _ _ _ h => h) (Or.inl ⟨by rfl, ?_⟩) ?_ ?_
        rotate_left
        · intro w'
          go_simp
          with_reducible rfl
        rotate_left
        · simp only [Act.put, List.setIfInBounds_toArray, List.set_cons_zero, List.set_cons_succ, i64_w, i32_w]
          rfl
        refine pure_ (i := 1) (N := some 20) (v := ?_) (a' := ?_) #[true, true, false, false, false, false, false, false, false, false, false, false, false, false, false, false, false, false, false, false, false, false, false, false, false, false, false] rfl rfl (by kernel_rfl) (fun _ _ _ h => h) (Or.inl ⟨by rfl, ?_⟩) ?_ ?_
        rotate_left
        · intro w'
          go_simp
          with_reducible rfl
        rotate_left
        · simp only [Act.put, List.setIfInBounds_toArray, List.set_cons_zero, List.set_cons_succ, i64_w, i32_w]
          rfl
        refine pure_ (i := 2) (N := some 21) (v := ?_) (a' := ?_) #[true, true, true, false, false, false, false, false, false, false, false, false, false, false, false, false, false, false, false, false, false, false, false, false, false, false, false] rfl rfl (by kernel_rfl) (fun _ _ _ h => h) (Or.inl ⟨by rfl, ?_⟩) ?_ ?_
        rotate_left
        · intro w'
          go_simp
          with_reducible rfl
        rotate_left
        · simp only [Act.put, List.setIfInBounds_toArray, List.set_cons_zero, List.set_cons_succ, i64_w, i32_w]
          rfl
        refine pure_ (i := 4) (N := some 23) (v := ?_) (a' := ?_) #[true, true, true, false, true, false, false, false, false, false, false, false, false, false, false, false, false, false, false, false, false, false, false, false, false, false, false] rfl rfl (by kernel_rfl) (fun _ _ _ h => h) (Or.inl ⟨by rfl, ?_⟩) ?_ ?_
        rotate_left
        · intro w'
          go_simp
          with_reducible rfl
        rotate_left
        · simp only [Act.put, List.setIfInBounds_toArray, List.set_cons_zero, List.set_cons_succ, i64_w, i32_w]
          rfl
        refine take_ (i := 3) (N := some 22) (v := ?_) (a' := ?_) #[true, true, true, true, true, false, false, false, false, false, false, false, false, false, false, false, false, false, false, false, false, false, false, false, false, false, false] rfl rfl (by kernel_rfl) (fun _ _ _ h => h) (Or.inl ⟨by rfl, ?_⟩) hHeld ?_ ?_
        rotate_left
        · rintro w' ⟨s0, s1⟩
          go_simp
          with_reducible rfl
        rotate_left
        · simp only [Act.put, List.setIfInBounds_toArray, List.set_cons_zero, List.set_cons_succ, i64_w, i32_w]
          rfl
        refine pure_ (i := 5) (N := some 24) (v := ?_) (a' := ?_) #[true, true, true, true, true, true, false, false, false, false, false, false, false, false, false, false, false, false, false, false, false, false, false, false, false, false, false] rfl rfl (by kernel_rfl) (fun _ _ _ h => h) (Or.inl ⟨by rfl, ?_⟩) ?_ ?_
        rotate_left
        · intro w'
          go_simp
          with_reducible rfl
        rotate_left
        · simp only [Act.put, List.setIfInBounds_toArray, List.set_cons_zero, List.set_cons_succ, i64_w, i32_w]
          rfl
        refine take_ (i := 6) (N := some 25) (v := ?_) (a' := ?_) #[true, true, true, true, true, true, true, false, false, false, false, false, false, false, false, false, false, false, false, false, false, false, false, false, false, false, false] rfl rfl (by kernel_rfl) (fun _ _ _ h => h) (Or.inl ⟨by rfl, ?_⟩) hHeld ?_ ?_
        rotate_left
        · rintro w' ⟨s0, s1⟩
          go_simp
          with_reducible rfl
        rotate_left
        · simp only [Act.put, List.setIfInBounds_toArray, List.set_cons_zero, List.set_cons_succ, i64_w, i32_w]
          rfl
        refine pure_ (i := 7) (N := some 26) (v := ?_) (a' := ?_) #[true, true, true, true, true, true, true, true, false, false, false, false, false, false, false, false, false, false, false, false, false, false, false, false, false, false, false] rfl rfl (by kernel_rfl) (fun _ _ _ h => h) (Or.inl ⟨by rfl, ?_⟩) ?_ ?_
        rotate_left
        · intro w'
          go_simp
          with_reducible rfl
        rotate_left
        · simp only [Act.put, List.setIfInBounds_toArray, List.set_cons_zero, List.set_cons_succ, i64_w, i32_w]
          rfl
        refine pure_ (i := 8) (N := some 27) (v := ?_) (a' := ?_) #[true, true, true, true, true, true, true, true, true, false, false, false, false, false, false, false, false, false, false, false, false, false, false, false, false, false, false] rfl rfl (by kernel_rfl) (fun _ _ _ h => h) (Or.inl ⟨by rfl, ?_⟩) ?_ ?_
        rotate_left
        · intro w'
          go_simp
          with_reducible rfl
        rotate_left
        · simp only [Act.put, List.setIfInBounds_toArray, List.set_cons_zero, List.set_cons_succ, i64_w, i32_w]
          rfl
        refine pure_ (i := 9) (N := some 28) (v := undef) (a' := ?_) #[true, true, true, true, true, true, true, true, true, true, false, false, false, false, false, false, false, false, false, false, false, false, false, false, false, false, false] rfl rfl (by kernel_rfl) (fun _ _ _ h => h) (Or.inr ⟨by rfl, rfl⟩) ?_ ?_
        rotate_left
        · simp only [Act.put, List.setIfInBounds_toArray, List.set_cons_zero, List.set_cons_succ, i64_w, i32_w]
          rfl
        refine pure_ (i := 10) (N := some 29) (v := undef) (a' := ?_) #[true, true, true, true, true, true, true, true, true, true, true, false, false, false, false, false, false, false, false, false, false, false, false, false, false, false, false] rfl rfl (by kernel_rfl) (fun _ _ _ h => h) (Or.inr ⟨by rfl, rfl⟩) ?_ ?_
        rotate_left
        · simp only [Act.put, List.setIfInBounds_toArray, List.set_cons_zero, List.set_cons_succ, i64_w, i32_w]
          rfl
        refine pure_ (i := 11) (N := some 30) (v := undef) (a' := ?_) #[true, true, true, true, true, true, true, true, true, true, true, true, false, false, false, false, false, false, false, false, false, false, false, false, false, false, false] rfl rfl (by kernel_rfl) (fun _ _ _ h => h) (Or.inr ⟨by rfl, rfl⟩) ?_ ?_
        rotate_left
        · simp only [Act.put, List.setIfInBounds_toArray, List.set_cons_zero, List.set_cons_succ, i64_w, i32_w]
          rfl
        refine pure_ (i := 12) (N := some 31) (v := undef) (a' := ?_) #[true, true, true, true, true, true, true, true, true, true, true, true, true, false, false, false, false, false, false, false, false, false, false, false, false, false, false] rfl rfl (by kernel_rfl) (fun _ _ _ h => h) (Or.inr ⟨by rfl, rfl⟩) ?_ ?_
        rotate_left
        · simp only [Act.put, List.setIfInBounds_toArray, List.set_cons_zero, List.set_cons_succ, i64_w, i32_w]
          rfl
        refine pure_ (i := 13) (N := some 32) (v := undef) (a' := ?_) #[true, true, true, true, true, true, true, true, true, true, true, true, true, true, false, false, false, false, false, false, false, false, false, false, false, false, false] rfl rfl (by kernel_rfl) (fun _ _ _ h => h) (Or.inr ⟨by rfl, rfl⟩) ?_ ?_
        rotate_left
        · simp only [Act.put, List.setIfInBounds_toArray, List.set_cons_zero, List.set_cons_succ, i64_w, i32_w]
          rfl
        refine pure_ (i := 14) (N := some 33) (v := undef) (a' := ?_) #[true, true, true, true, true, true, true, true, true, true, true, true, true, true, true, false, false, false, false, false, false, false, false, false, false, false, false] rfl rfl (by kernel_rfl) (fun _ _ _ h => h) (Or.inr ⟨by rfl, rfl⟩) ?_ ?_
        rotate_left
        · simp only [Act.put, List.setIfInBounds_toArray, List.set_cons_zero, List.set_cons_succ, i64_w, i32_w]
          rfl
        refine pure_ (i := 15) (N := some 34) (v := undef) (a' := ?_) #[true, true, true, true, true, true, true, true, true, true, true, true, true, true, true, true, false, false, false, false, false, false, false, false, false, false, false] rfl rfl (by kernel_rfl) (fun _ _ _ h => h) (Or.inr ⟨by rfl, rfl⟩) ?_ ?_
        rotate_left
        · simp only [Act.put, List.setIfInBounds_toArray, List.set_cons_zero, List.set_cons_succ, i64_w, i32_w]
          rfl
        refine pure_ (i := 16) (N := some 35) (v := undef) (a' := ?_) #[true, true, true, true, true, true, true, true, true, true, true, true, true, true, true, true, true, false, false, false, false, false, false, false, false, false, false] rfl rfl (by kernel_rfl) (fun _ _ _ h => h) (Or.inr ⟨by rfl, rfl⟩) ?_ ?_
        rotate_left
        · simp only [Act.put, List.setIfInBounds_toArray, List.set_cons_zero, List.set_cons_succ, i64_w, i32_w]
          rfl
        refine pure_ (i := 17) (N := some 36) (v := undef) (a' := ?_) #[true, true, true, true, true, true, true, true, true, true, true, true, true, true, true, true, true, true, false, false, false, false, false, false, false, false, false] rfl rfl (by kernel_rfl) (fun _ _ _ h => h) (Or.inr ⟨by rfl, rfl⟩) ?_ ?_
        rotate_left
        · simp only [Act.put, List.setIfInBounds_toArray, List.set_cons_zero, List.set_cons_succ, i64_w, i32_w]
          rfl
        refine pure_ (i := 18) (N := some 37) (v := undef) (a' := ?_) #[true, true, true, true, true, true, true, true, true, true, true, true, true, true, true, true, true, true, true, false, false, false, false, false, false, false, false] rfl rfl (by kernel_rfl) (fun _ _ _ h => h) (Or.inr ⟨by rfl, rfl⟩) ?_ ?_
        rotate_left
        · simp only [Act.put, List.setIfInBounds_toArray, List.set_cons_zero, List.set_cons_succ, i64_w, i32_w]
          rfl
        refine pure_ (i := 19) (N := some 38) (v := undef) (a' := ?_) #[true, true, true, true, true, true, true, true, true, true, true, true, true, true, true, true, true, true, true, true, false, false, false, false, false, false, false] rfl rfl (by kernel_rfl) (fun _ _ _ h => h) (Or.inr ⟨by rfl, rfl⟩) ?_ ?_
        rotate_left
        · simp only [Act.put, List.setIfInBounds_toArray, List.set_cons_zero, List.set_cons_succ, i64_w, i32_w]
          rfl
        refine pure_ (i := 20) (N := some 39) (v := undef) (a' := ?_) #[true, true, true, true, true, true, true, true, true, true, true, true, true, true, true, true, true, true, true, true, true, false, false, false, false, false, false] rfl rfl (by kernel_rfl) (fun _ _ _ h => h) (Or.inr ⟨by rfl, rfl⟩) ?_ ?_
        rotate_left
        · simp only [Act.put, List.setIfInBounds_toArray, List.set_cons_zero, List.set_cons_succ, i64_w, i32_w]
          rfl
        refine pure_ (i := 21) (N := some 40) (v := undef) (a' := ?_) #[true, true, true, true, true, true, true, true, true, true, true, true, true, true, true, true, true, true, true, true, true, true, false, false, false, false, false] rfl rfl (by kernel_rfl) (fun _ _ _ h => h) (Or.inr ⟨by rfl, rfl⟩) ?_ ?_
        rotate_left
        · simp only [Act.put, List.setIfInBounds_toArray, List.set_cons_zero, List.set_cons_succ, i64_w, i32_w]
          rfl
        refine pure_ (i := 22) (N := some 41) (v := undef) (a' := ?_) #[true, true, true, true, true, true, true, true, true, true, true, true, true, true, true, true, true, true, true, true, true, true, true, false, false, false, false] rfl rfl (by kernel_rfl) (fun _ _ _ h => h) (Or.inr ⟨by rfl, rfl⟩) ?_ ?_
        rotate_left
        · simp only [Act.put, List.setIfInBounds_toArray, List.set_cons_zero, List.set_cons_succ, i64_w, i32_w]
          rfl
        refine pure_ (i := 23) (N := some 42) (v := undef) (a' := ?_) #[true, true, true, true, true, true, true, true, true, true, true, true, true, true, true, true, true, true, true, true, true, true, true, true, false, false, false] rfl rfl (by kernel_rfl) (fun _ _ _ h => h) (Or.inr ⟨by rfl, rfl⟩) ?_ ?_
        rotate_left
        · simp only [Act.put, List.setIfInBounds_toArray, List.set_cons_zero, List.set_cons_succ, i64_w, i32_w]
          rfl
        refine pure_ (i := 24) (N := some 43) (v := undef) (a' := ?_) #[true, true, true, true, true, true, true, true, true, true, true, true, true, true, true, true, true, true, true, true, true, true, true, true, true, false, false] rfl rfl (by kernel_rfl) (fun _ _ _ h => h) (Or.inr ⟨by rfl, rfl⟩) ?_ ?_
        rotate_left
        · simp only [Act.put, List.setIfInBounds_toArray, List.set_cons_zero, List.set_cons_succ, i64_w, i32_w]
          rfl
        refine pure_ (i := 25) (N := some 44) (v := undef) (a' := ?_) #[true, true, true, true, true, true, true, true, true, true, true, true, true, true, true, true, true, true, true, true, true, true, true, true, true, true, false] rfl rfl (by kernel_rfl) (fun _ _ _ h => h) (Or.inr ⟨by rfl, rfl⟩) ?_ ?_
        rotate_left
        · simp only [Act.put, List.setIfInBounds_toArray, List.set_cons_zero, List.set_cons_succ, i64_w, i32_w]
          rfl
        refine pure_ (i := 26) (N := some 45) (v := ?_) (a' := ?_) #[true, true, true, true, true, true, true, true, true, true, true, true, true, true, true, true, true, true, true, true, true, true, true, true, true, true, true] rfl rfl (by kernel_rfl) (fun _ _ _ h => h) (Or.inl ⟨by rfl, ?_⟩) ?_ ?_
        rotate_left
        · intro w'
          go_simp
          with_reducible rfl
        rotate_left
        · simp only [Act.put, List.setIfInBounds_toArray, List.set_cons_zero, List.set_cons_succ, i64_w, i32_w]
          rfl
        refine done_ (by kernel_rfl) ?_
        go_wp2_with fail
        go_ret
        exact ⟨by have e1 : i = d := by have := HI.out; omega
                  rw [← e1, ← HAA.out]; rfl, by repeat (first | exact HB.out | apply pw_below_drewN | apply below_drew1)⟩
    · obtain ⟨jx, adP', adK, Ak, ck, hX, hjk, hjx, eP', eK, hxp, hxk, hck, hCK⟩ := HRA.out a hal h0
      cases eP
      cases eP'
      subst eK
      rw [← hX] at hxp
      have HKM := Aside0.mk (HKL.out (ks.getD jx []) (getD_lt_mem ks jx hjk))
      have HHK : Aside0 (ks.getD ((pl.getD a 0).toNat - 1) [] = ks.getD jx []) := ⟨by rw [hX]; rfl⟩
      obtain ⟨X, hXX⟩ : ∃ X, X = pl.getD a 0 := ⟨_, rfl⟩
      rw [← hXX] at hxp hX
      obtain ⟨kk, hkk⟩ : ∃ kk, kk = ks.getD jx [] := ⟨_, rfl⟩
      rw [← hkk] at hxk hck hCK HKM HHK
      have HPC : Aside0 (∀ W : World, Below w.heap.size w W → W.cell? (adP.add a) = some (.int .i64 X)) := ⟨fun W hW => by rw [hW.cell (World.block_lt_of_cell? w _ hxp)]; exact hxp⟩
      have HKC : Aside0 (∀ W : World, Below w.heap.size w W → W.cell? (adK.add jx) = some (.slice Ak kk.length ck)) := ⟨fun W hW => by rw [hW.cell (World.block_lt_of_cell? w _ hxk)]; exact hxk⟩
      have HKK : Aside0 (∀ W : World, Below w.heap.size w W → Kd.C k43 W Ak kk.length kk) := ⟨fun W hW => Kd.C_below hCK hW⟩
      have HCK := Aside0.mk hck
      have tX : decide (0 < X) = true := decide_eq_true (by omega)
      have hwX : wrap64 (X - 1) = (jx : Int) := by unfold wrap64; omega
      have p2 : ((0 : Int) ≤ (jx : Int)) = True := eq_true (by omega)
      have q2 : ((jx : Int) < (ks.length : Int)) = True := eq_true (by omega)
      have q2n : (jx < ks.length) = True := eq_true hjk
      obtain ⟨ke, hke⟩ := (equal_f kk key HKM.out).rounds
      obtain ⟨rr, hrr⟩ : ∃ rr, rr = decide (kk = key) := ⟨_, rfl⟩
      rw [← hrr] at hke
      have HKE := Aside0.mk hke
      have HRR := Aside0.mk hrr
      have HH0 := Aside0.mk h0
      clear h0 hxP hal hxp hxk hck hCK hke hrr hX hXX hkk hjk hjx
      cases gk with
      | zero =>
        have HID : Aside0 (i = d) := ⟨by have := HI.out; omega⟩
        obtain rfl : rr = true := by
          rw [HRR.out]
          rcases HIT.out.1 HID.out with h | h
          · exact absurd h HH0.out
          · exact decide_eq_true (HHK.out.symm.trans h)
        go_wp2_with fail
        refine start_ (n := 27) (S := fun w' => w'.cell? ⟨g, 0, none⟩ = some (.slice (some adP) pl.length cP) ∧ w'.cell? ⟨g, 1, none⟩ = some (.slice (some adK) ks.length cK) ∧ w'.cell? (adP.add a) = some (.int .i64 X) ∧ w'.cell? (adK.add jx) = some (.slice Ak kk.length ck)) (ds := []) #[false, false, false, false, false, false, false, false, false, false, false, false, false, false, false, false, false, false, false, false, false, false, false, false, false, false, false] (by kernel_rfl) rfl rfl ⟨(HG0.out _ HBR0.out), (HG1.out _ HBR0.out), (HPC.out _ HBR0.out), (HKC.out _ HBR0.out)⟩ (fun hHeld => ?_)
        refine pure_ (i := 0) (N := some 19) (v := ?_) (a' := ?_) #[true, false, false, false, false, false, false, false, false, false, false, false, false, false, false, false, false, false, false, false, false, false, false, false, false, false, false] rfl rfl (by kernel_rfl) (fun _ _ _ h => h) (Or.inl ⟨by rfl, ?_⟩) ?_ ?_
        rotate_left
        · intro w'
          go_simp
          with_reducible rfl
        rotate_left
        · simp only [Act.put, List.setIfInBounds_toArray, List.set_cons_zero, List.set_cons_succ, i64_w, i32_w]
          rfl
        refine pure_ (i := 1) (N := some 20) (v := ?_) (a' := ?_) #[true, true, false, false, false, false, false, false, false, false, false, false, false, false, false, false, false, false, false, false, false, false, false, false, false, false, false] rfl rfl (by kernel_rfl) (fun _ _ _ h => h) (Or.inl ⟨by rfl, ?_⟩) ?_ ?_
        rotate_left
        · intro w'
          go_simp
          with_reducible rfl
        rotate_left
        · simp only [Act.put, List.setIfInBounds_toArray, List.set_cons_zero, List.set_cons_succ, i64_w, i32_w]
          rfl
        refine pure_ (i := 2) (N := some 21) (v := ?_) (a' := ?_) #[true, true, true, false, false, false, false, false, false, false, false, false, false, false, false, false, false, false, false, false, false, false, false, false, false, false, false] rfl rfl (by kernel_rfl) (fun _ _ _ h => h) (Or.inl ⟨by rfl, ?_⟩) ?_ ?_
        rotate_left
        · intro w'
          go_simp
          with_reducible rfl
        rotate_left
        · simp only [Act.put, List.setIfInBounds_toArray, List.set_cons_zero, List.set_cons_succ, i64_w, i32_w]
          rfl
        refine pure_ (i := 4) (N := some 23) (v := ?_) (a' := ?_) #[true, true, true, false, true, false, false, false, false, false, false, false, false, false, false, false, false, false, false, false, false, false, false, false, false, false, false] rfl rfl (by kernel_rfl) (fun _ _ _ h => h) (Or.inl ⟨by rfl, ?_⟩) ?_ ?_
        rotate_left
        · intro w'
          go_simp
          with_reducible rfl
        rotate_left
        · simp only [Act.put, List.setIfInBounds_toArray, List.set_cons_zero, List.set_cons_succ, i64_w, i32_w]
          rfl
        refine take_ (i := 3) (N := some 22) (v := ?_) (a' := ?_) #[true, true, true, true, true, false, false, false, false, false, false, false, false, false, false, false, false, false, false, false, false, false, false, false, false, false, false] rfl rfl (by kernel_rfl) (fun _ _ _ h => h) (Or.inl ⟨by rfl, ?_⟩) hHeld ?_ ?_
        rotate_left
        · rintro w' ⟨s0, s1, s2, s3⟩
          go_simp
          with_reducible rfl
        rotate_left
        · simp only [Act.put, List.setIfInBounds_toArray, List.set_cons_zero, List.set_cons_succ, i64_w, i32_w]
          rfl
        refine pure_ (i := 5) (N := some 24) (v := ?_) (a' := ?_) #[true, true, true, true, true, true, false, false, false, false, false, false, false, false, false, false, false, false, false, false, false, false, false, false, false, false, false] rfl rfl (by kernel_rfl) (fun _ _ _ h => h) (Or.inl ⟨by rfl, ?_⟩) ?_ ?_
        rotate_left
        · intro w'
          go_simp
          with_reducible rfl
        rotate_left
        · simp only [Act.put, List.setIfInBounds_toArray, List.set_cons_zero, List.set_cons_succ, i64_w, i32_w]
          rfl
        refine take_ (i := 6) (N := some 25) (v := ?_) (a' := ?_) #[true, true, true, true, true, true, true, false, false, false, false, false, false, false, false, false, false, false, false, false, false, false, false, false, false, false, false] rfl rfl (by kernel_rfl) (fun _ _ _ h => h) (Or.inl ⟨by rfl, ?_⟩) hHeld ?_ ?_
        rotate_left
        · rintro w' ⟨s0, s1, s2, s3⟩
          go_simp
          with_reducible rfl
        rotate_left
        · simp only [Act.put, List.setIfInBounds_toArray, List.set_cons_zero, List.set_cons_succ, i64_w, i32_w]
          rfl
        refine pure_ (i := 7) (N := some 26) (v := ?_) (a' := ?_) #[true, true, true, true, true, true, true, true, false, false, false, false, false, false, false, false, false, false, false, false, false, false, false, false, false, false, false] rfl rfl (by kernel_rfl) (fun _ _ _ h => h) (Or.inl ⟨by rfl, ?_⟩) ?_ ?_
        rotate_left
        · intro w'
          go_simp
          with_reducible rfl
        rotate_left
        · simp only [Act.put, List.setIfInBounds_toArray, List.set_cons_zero, List.set_cons_succ, i64_w, i32_w]
          rfl
        refine pure_ (i := 8) (N := some 27) (v := ?_) (a' := ?_) #[true, true, true, true, true, true, true, true, true, false, false, false, false, false, false, false, false, false, false, false, false, false, false, false, false, false, false] rfl rfl (by kernel_rfl) (fun _ _ _ h => h) (Or.inl ⟨by rfl, ?_⟩) ?_ ?_
        rotate_left
        · intro w'
          go_simp
          with_reducible rfl
        rotate_left
        · simp only [Act.put, List.setIfInBounds_toArray, List.set_cons_zero, List.set_cons_succ, i64_w, i32_w]
          rfl
        refine pure_ (i := 9) (N := some 28) (v := ?_) (a' := ?_) #[true, true, true, true, true, true, true, true, true, true, false, false, false, false, false, false, false, false, false, false, false, false, false, false, false, false, false] rfl rfl (by kernel_rfl) (fun _ _ _ h => h) (Or.inl ⟨by rfl, ?_⟩) ?_ ?_
        rotate_left
        · intro w'
          go_simp
          with_reducible rfl
        rotate_left
        · simp only [Act.put, List.setIfInBounds_toArray, List.set_cons_zero, List.set_cons_succ, i64_w, i32_w]
          rfl
        refine pure_ (i := 10) (N := some 29) (v := ?_) (a' := ?_) #[true, true, true, true, true, true, true, true, true, true, true, false, false, false, false, false, false, false, false, false, false, false, false, false, false, false, false] rfl rfl (by kernel_rfl) (fun _ _ _ h => h) (Or.inl ⟨by rfl, ?_⟩) ?_ ?_
        rotate_left
        · intro w'
          go_simp
          with_reducible rfl
        rotate_left
        · simp only [Act.put, List.setIfInBounds_toArray, List.set_cons_zero, List.set_cons_succ, i64_w, i32_w]
          rfl
        refine pure_ (i := 11) (N := some 30) (v := ?_) (a' := ?_) #[true, true, true, true, true, true, true, true, true, true, true, true, false, false, false, false, false, false, false, false, false, false, false, false, false, false, false] rfl rfl (by kernel_rfl) (fun _ _ _ h => h) (Or.inl ⟨by rfl, ?_⟩) ?_ ?_
        rotate_left
        · intro w'
          go_simp
          with_reducible rfl
        rotate_left
        · simp only [Act.put, List.setIfInBounds_toArray, List.set_cons_zero, List.set_cons_succ, i64_w, i32_w]
          rfl
        refine pure_ (i := 13) (N := some 32) (v := ?_) (a' := ?_) #[true, true, true, true, true, true, true, true, true, true, true, true, false, true, false, false, false, false, false, false, false, false, false, false, false, false, false] rfl rfl (by kernel_rfl) (fun _ _ _ h => h) (Or.inl ⟨by rfl, ?_⟩) ?_ ?_
        rotate_left
        · intro w'
          go_simp
          with_reducible rfl
        rotate_left
        · simp only [Act.put, List.setIfInBounds_toArray, List.set_cons_zero, List.set_cons_succ, i64_w, i32_w]
          rfl
        refine pure_ (i := 14) (N := some 33) (v := ?_) (a' := ?_) #[true, true, true, true, true, true, true, true, true, true, true, true, false, true, true, false, false, false, false, false, false, false, false, false, false, false, false] rfl rfl (by kernel_rfl) (fun _ _ _ h => h) (Or.inl ⟨by rfl, ?_⟩) ?_ ?_
        rotate_left
        · intro w'
          go_simp
          with_reducible rfl
        rotate_left
        · simp only [Act.put, List.setIfInBounds_toArray, List.set_cons_zero, List.set_cons_succ, i64_w, i32_w]
          rfl
        refine pure_ (i := 15) (N := some 34) (v := ?_) (a' := ?_) #[true, true, true, true, true, true, true, true, true, true, true, true, false, true, true, true, false, false, false, false, false, false, false, false, false, false, false] rfl rfl (by kernel_rfl) (fun _ _ _ h => h) (Or.inl ⟨by rfl, ?_⟩) ?_ ?_
        rotate_left
        · intro w'
          go_simp
          with_reducible rfl
        rotate_left
        · simp only [Act.put, List.setIfInBounds_toArray, List.set_cons_zero, List.set_cons_succ, i64_w, i32_w]
          rfl
        refine pure_ (i := 17) (N := some 36) (v := ?_) (a' := ?_) #[true, true, true, true, true, true, true, true, true, true, true, true, false, true, true, true, false, true, false, false, false, false, false, false, false, false, false] rfl rfl (by kernel_rfl) (fun _ _ _ h => h) (Or.inl ⟨by rfl, ?_⟩) ?_ ?_
        rotate_left
        · intro w'
          go_simp
          with_reducible rfl
        rotate_left
        · simp only [Act.put, List.setIfInBounds_toArray, List.set_cons_zero, List.set_cons_succ, i64_w, i32_w]
          rfl
        refine pure_ (i := 23) (N := some 42) (v := ?_) (a' := ?_) #[true, true, true, true, true, true, true, true, true, true, true, true, false, true, true, true, false, true, false, false, false, false, false, true, false, false, false] rfl rfl (by kernel_rfl) (fun _ _ _ h => h) (Or.inl ⟨by rfl, ?_⟩) ?_ ?_
        rotate_left
        · intro w'
          go_simp
          with_reducible rfl
        rotate_left
        · simp only [Act.put, List.setIfInBounds_toArray, List.set_cons_zero, List.set_cons_succ, i64_w, i32_w]
          rfl
        refine take_ (i := 12) (N := some 31) (v := ?_) (a' := ?_) #[true, true, true, true, true, true, true, true, true, true, true, true, true, true, true, true, false, true, false, false, false, false, false, true, false, false, false] rfl rfl (by kernel_rfl) (fun _ _ _ h => h) (Or.inl ⟨by rfl, ?_⟩) hHeld ?_ ?_
        rotate_left
        · rintro w' ⟨s0, s1, s2, s3⟩
          go_simp
          with_reducible rfl
        rotate_left
        · simp only [Act.put, List.setIfInBounds_toArray, List.set_cons_zero, List.set_cons_succ, i64_w, i32_w]
          rfl
        refine take_ (i := 16) (N := some 35) (v := ?_) (a' := ?_) #[true, true, true, true, true, true, true, true, true, true, true, true, true, true, true, true, true, true, false, false, false, false, false, true, false, false, false] rfl rfl (by kernel_rfl) (fun _ _ _ h => h) (Or.inl ⟨by rfl, ?_⟩) hHeld ?_ ?_
        rotate_left
        · rintro w' ⟨s0, s1, s2, s3⟩
          go_simp
          with_reducible rfl
        rotate_left
        · simp only [Act.put, List.setIfInBounds_toArray, List.set_cons_zero, List.set_cons_succ, i64_w, i32_w]
          rfl
        refine pure_ (i := 18) (N := some 37) (v := ?_) (a' := ?_) #[true, true, true, true, true, true, true, true, true, true, true, true, true, true, true, true, true, true, true, false, false, false, false, true, false, false, false] rfl rfl (by kernel_rfl) (fun _ _ _ h => h) (Or.inl ⟨by rfl, ?_⟩) ?_ ?_
        rotate_left
        · intro w'
          go_simp
          with_reducible rfl
        rotate_left
        · simp only [Act.put, List.setIfInBounds_toArray, List.set_cons_zero, List.set_cons_succ, i64_w, i32_w]
          rfl
        refine take_ (i := 19) (N := some 38) (v := ?_) (a' := ?_) #[true, true, true, true, true, true, true, true, true, true, true, true, true, true, true, true, true, true, true, true, false, false, false, true, false, false, false] rfl rfl (by kernel_rfl) (fun _ _ _ h => h) (Or.inl ⟨by rfl, ?_⟩) hHeld ?_ ?_
        rotate_left
        · rintro w' ⟨s0, s1, s2, s3⟩
          go_simp
          with_reducible rfl
        rotate_left
        · simp only [Act.put, List.setIfInBounds_toArray, List.set_cons_zero, List.set_cons_succ, i64_w, i32_w]
          rfl
        refine pure_ (i := 20) (N := some 39) (v := ?_) (a' := ?_) #[true, true, true, true, true, true, true, true, true, true, true, true, true, true, true, true, true, true, true, true, true, false, false, true, false, false, false] rfl rfl (by kernel_rfl) (fun _ _ _ h => h) (Or.inl ⟨by rfl, ?_⟩) ?_ ?_
        rotate_left
        · intro w'
          go_simp
          with_reducible rfl
        rotate_left
        · simp only [Act.put, List.setIfInBounds_toArray, List.set_cons_zero, List.set_cons_succ, i64_w, i32_w]
          rfl
        refine pure_ (i := 21) (N := some 40) (v := ?_) (a' := ?_) #[true, true, true, true, true, true, true, true, true, true, true, true, true, true, true, true, true, true, true, true, true, true, false, true, false, false, false] rfl rfl (by kernel_rfl) (fun _ _ _ h => h) (Or.inl ⟨by rfl, ?_⟩) ?_ ?_
        rotate_left
        · intro w'
          go_simp
          with_reducible rfl
        rotate_left
        · simp only [Act.put, List.setIfInBounds_toArray, List.set_cons_zero, List.set_cons_succ, i64_w, i32_w]
          rfl
        refine take_ (i := 22) (N := some 41) (v := ?_) (a' := ?_) #[true, true, true, true, true, true, true, true, true, true, true, true, true, true, true, true, true, true, true, true, true, true, true, true, false, false, false] rfl rfl (by kernel_rfl) (fun _ _ _ h => h) (Or.inl ⟨by rfl, ?_⟩) hHeld ?_ ?_
        rotate_left
        · rintro w' ⟨s0, s1, s2, s3⟩
          go_simp
          with_reducible rfl
        rotate_left
        · simp only [Act.put, List.setIfInBounds_toArray, List.set_cons_zero, List.set_cons_succ, i64_w, i32_w]
          rfl
        refine one_ (i := 24) (N := some 43) #[true, true, true, true, true, true, true, true, true, true, true, true, true, true, true, true, true, true, true, true, true, true, true, true, true, false, false] rfl rfl (by kernel_rfl) (by decide) (fun K hK => ?_)
        refine goes_ Try.func40 (by kernel_rfl) rfl #[.slice Ak kk.length ck, .slice A key.length c] (by rfl) rfl rfl (by simp only [List.map_toArray, List.map_cons, List.map_nil]; rfl) ?_
        with_reducible refine (api_Val_40.calls ke Ak ck kk A c key true _ (HKK.out _ HBR0.out) HCK.out (HKY.out _ HBR0.out) HCY.out HKE.out).mono ?_
        rintro e w8 ⟨rfl, n8, rfl⟩
        refine ⟨_, rfl, ?_⟩
        refine hK.out _ _ ⟨(HG0.out _ (HBR.out n8)), (HG1.out _ (HBR.out n8)), (HPC.out _ (HBR.out n8)), (HKC.out _ (HBR.out n8))⟩ (fun hHeld => ?_)
        clear hK K
        refine norm_ (a' := ?_) ?_ ?_
        rotate_left
        · show Act.put _ (some 43) _ = _
          simp only [Act.put, List.setIfInBounds_toArray, List.set_cons_zero, List.set_cons_succ, i64_w, i32_w]
          rfl
        refine pure_ (i := 25) (N := some 44) (v := ?_) (a' := ?_) #[true, true, true, true, true, true, true, true, true, true, true, true, true, true, true, true, true, true, true, true, true, true, true, true, true, true, false] rfl rfl (by kernel_rfl) (fun _ _ _ h => h) (Or.inl ⟨by rfl, ?_⟩) ?_ ?_
        rotate_left
        · intro w'
          go_simp
          with_reducible rfl
        rotate_left
        · simp only [Act.put, List.setIfInBounds_toArray, List.set_cons_zero, List.set_cons_succ, i64_w, i32_w]
          rfl
        refine pure_ (i := 26) (N := some 45) (v := ?_) (a' := ?_) #[true, true, true, true, true, true, true, true, true, true, true, true, true, true, true, true, true, true, true, true, true, true, true, true, true, true, true] rfl rfl (by kernel_rfl) (fun _ _ _ h => h) (Or.inl ⟨by rfl, ?_⟩) ?_ ?_
        rotate_left
        · intro w'
          go_simp
          with_reducible rfl
        rotate_left
        · simp only [Act.put, List.setIfInBounds_toArray, List.set_cons_zero, List.set_cons_succ, i64_w, i32_w]
          rfl
        refine done_ (by kernel_rfl) ?_
        go_wp2_with fail
        go_ret
        exact ⟨by rw [← HID.out, ← HAA.out]; rfl, by repeat (first | exact HB.out | apply pw_below_drewN | apply below_drew1)⟩
      | succ k1 =>
        obtain rfl : rr = false := by
          rw [HRR.out]
          exact decide_eq_false (fun h => HIT.out.2 (by have := HI.out; omega) (.inr (HHK.out.trans h)))
        go_wp2_with fail
        refine start_ (n := 27) (S := fun w' => w'.cell? ⟨g, 0, none⟩ = some (.slice (some adP) pl.length cP) ∧ w'.cell? ⟨g, 1, none⟩ = some (.slice (some adK) ks.length cK) ∧ w'.cell? (adP.add a) = some (.int .i64 X) ∧ w'.cell? (adK.add jx) = some (.slice Ak kk.length ck)) (ds := []) #[false, false, false, false, false, false, false, false, false, false, false, false, false, false, false, false, false, false, false, false, false, false, false, false, false, false, false] (by kernel_rfl) rfl rfl ⟨(HG0.out _ HBR0.out), (HG1.out _ HBR0.out), (HPC.out _ HBR0.out), (HKC.out _ HBR0.out)⟩ (fun hHeld => ?_)
        refine pure_ (i := 0) (N := some 19) (v := ?_) (a' := ?_) #[true, false, false, false, false, false, false, false, false, false, false, false, false, false, false, false, false, false, false, false, false, false, false, false, false, false, false] rfl rfl (by kernel_rfl) (fun _ _ _ h => h) (Or.inl ⟨by rfl, ?_⟩) ?_ ?_
        rotate_left
        · intro w'
          go_simp
          with_reducible rfl
        rotate_left
        · simp only [Act.put, List.setIfInBounds_toArray, List.set_cons_zero, List.set_cons_succ, i64_w, i32_w]
          rfl
        refine pure_ (i := 1) (N := some 20) (v := ?_) (a' := ?_) #[true, true, false, false, false, false, false, false, false, false, false, false, false, false, false, false, false, false, false, false, false, false, false, false, false, false, false] rfl rfl (by kernel_rfl) (fun _ _ _ h => h) (Or.inl ⟨by rfl, ?_⟩) ?_ ?_
        rotate_left
        · intro w'
          go_simp
          with_reducible rfl
        rotate_left
        · simp only [Act.put, List.setIfInBounds_toArray, List.set_cons_zero, List.set_cons_succ, i64_w, i32_w]
          rfl
        refine pure_ (i := 2) (N := some 21) (v := ?_) (a' := ?_) #[true, true, true, false, false, false, false, false, false, false, false, false, false, false, false, false, false, false, false, false, false, false, false, false, false, false, false] rfl rfl (by kernel_rfl) (fun _ _ _ h => h) (Or.inl ⟨by rfl, ?_⟩) ?_ ?_
        rotate_left
        · intro w'
          go_simp
          with_reducible rfl
        rotate_left
        · simp only [Act.put, List.setIfInBounds_toArray, List.set_cons_zero, List.set_cons_succ, i64_w, i32_w]
          rfl
        refine pure_ (i := 4) (N := some 23) (v := ?_) (a' := ?_) #[true, true, true, false, true, false, false, false, false, false, false, false, false, false, false, false, false, false, false, false, false, false, false, false, false, false, false] rfl rfl (by kernel_rfl) (fun _ _ _ h => h) (Or.inl ⟨by rfl, ?_⟩) ?_ ?_
        rotate_left
        · intro w'
          go_simp
          with_reducible rfl
        rotate_left
        · simp only [Act.put, List.setIfInBounds_toArray, List.set_cons_zero, List.set_cons_succ, i64_w, i32_w]
          rfl
        refine take_ (i := 3) (N := some 22) (v := ?_) (a' := ?_) #[true, true, true, true, true, false, false, false, false, false, false, false, false, false, false, false, false, false, false, false, false, false, false, false, false, false, false] rfl rfl (by kernel_rfl) (fun _ _ _ h => h) (Or.inl ⟨by rfl, ?_⟩) hHeld ?_ ?_
        rotate_left
        · rintro w' ⟨s0, s1, s2, s3⟩
          go_simp
          with_reducible rfl
        rotate_left
        · simp only [Act.put, List.setIfInBounds_toArray, List.set_cons_zero, List.set_cons_succ, i64_w, i32_w]
          rfl
        refine pure_ (i := 5) (N := some 24) (v := ?_) (a' := ?_) #[true, true, true, true, true, true, false, false, false, false, false, false, false, false, false, false, false, false, false, false, false, false, false, false, false, false, false] rfl rfl (by kernel_rfl) (fun _ _ _ h => h) (Or.inl ⟨by rfl, ?_⟩) ?_ ?_
        rotate_left
        · intro w'
          go_simp
          with_reducible rfl
        rotate_left
        · simp only [Act.put, List.setIfInBounds_toArray, List.set_cons_zero, List.set_cons_succ, i64_w, i32_w]
          rfl
        refine take_ (i := 6) (N := some 25) (v := ?_) (a' := ?_) #[true, true, true, true, true, true, true, false, false, false, false, false, false, false, false, false, false, false, false, false, false, false, false, false, false, false, false] rfl rfl (by kernel_rfl) (fun _ _ _ h => h) (Or.inl ⟨by rfl, ?_⟩) hHeld ?_ ?_
        rotate_left
        · rintro w' ⟨s0, s1, s2, s3⟩
          go_simp
          with_reducible rfl
        rotate_left
        · simp only [Act.put, List.setIfInBounds_toArray, List.set_cons_zero, List.set_cons_succ, i64_w, i32_w]
          rfl
        refine pure_ (i := 7) (N := some 26) (v := ?_) (a' := ?_) #[true, true, true, true, true, true, true, true, false, false, false, false, false, false, false, false, false, false, false, false, false, false, false, false, false, false, false] rfl rfl (by kernel_rfl) (fun _ _ _ h => h) (Or.inl ⟨by rfl, ?_⟩) ?_ ?_
        rotate_left
        · intro w'
          go_simp
          with_reducible rfl
        rotate_left
        · simp only [Act.put, List.setIfInBounds_toArray, List.set_cons_zero, List.set_cons_succ, i64_w, i32_w]
          rfl
        refine pure_ (i := 8) (N := some 27) (v := ?_) (a' := ?_) #[true, true, true, true, true, true, true, true, true, false, false, false, false, false, false, false, false, false, false, false, false, false, false, false, false, false, false] rfl rfl (by kernel_rfl) (fun _ _ _ h => h) (Or.inl ⟨by rfl, ?_⟩) ?_ ?_
        rotate_left
        · intro w'
          go_simp
          with_reducible rfl
        rotate_left
        · simp only [Act.put, List.setIfInBounds_toArray, List.set_cons_zero, List.set_cons_succ, i64_w, i32_w]
          rfl
        refine pure_ (i := 9) (N := some 28) (v := ?_) (a' := ?_) #[true, true, true, true, true, true, true, true, true, true, false, false, false, false, false, false, false, false, false, false, false, false, false, false, false, false, false] rfl rfl (by kernel_rfl) (fun _ _ _ h => h) (Or.inl ⟨by rfl, ?_⟩) ?_ ?_
        rotate_left
        · intro w'
          go_simp
          with_reducible rfl
        rotate_left
        · simp only [Act.put, List.setIfInBounds_toArray, List.set_cons_zero, List.set_cons_succ, i64_w, i32_w]
          rfl
        refine pure_ (i := 10) (N := some 29) (v := ?_) (a' := ?_) #[true, true, true, true, true, true, true, true, true, true, true, false, false, false, false, false, false, false, false, false, false, false, false, false, false, false, false] rfl rfl (by kernel_rfl) (fun _ _ _ h => h) (Or.inl ⟨by rfl, ?_⟩) ?_ ?_
        rotate_left
        · intro w'
          go_simp
          with_reducible rfl
        rotate_left
        · simp only [Act.put, List.setIfInBounds_toArray, List.set_cons_zero, List.set_cons_succ, i64_w, i32_w]
          rfl
        refine pure_ (i := 11) (N := some 30) (v := ?_) (a' := ?_) #[true, true, true, true, true, true, true, true, true, true, true, true, false, false, false, false, false, false, false, false, false, false, false, false, false, false, false] rfl rfl (by kernel_rfl) (fun _ _ _ h => h) (Or.inl ⟨by rfl, ?_⟩) ?_ ?_
        rotate_left
        · intro w'
          go_simp
          with_reducible rfl
        rotate_left
        · simp only [Act.put, List.setIfInBounds_toArray, List.set_cons_zero, List.set_cons_succ, i64_w, i32_w]
          rfl
        refine pure_ (i := 13) (N := some 32) (v := ?_) (a' := ?_) #[true, true, true, true, true, true, true, true, true, true, true, true, false, true, false, false, false, false, false, false, false, false, false, false, false, false, false] rfl rfl (by kernel_rfl) (fun _ _ _ h => h) (Or.inl ⟨by rfl, ?_⟩) ?_ ?_
        rotate_left
        · intro w'
          go_simp
          with_reducible rfl
        rotate_left
        · simp only [Act.put, List.setIfInBounds_toArray, List.set_cons_zero, List.set_cons_succ, i64_w, i32_w]
          rfl
        refine pure_ (i := 14) (N := some 33) (v := ?_) (a' := ?_) #[true, true, true, true, true, true, true, true, true, true, true, true, false, true, true, false, false, false, false, false, false, false, false, false, false, false, false] rfl rfl (by kernel_rfl) (fun _ _ _ h => h) (Or.inl ⟨by rfl, ?_⟩) ?_ ?_
        rotate_left
        · intro w'
          go_simp
          with_reducible rfl
        rotate_left
        · simp only [Act.put, List.setIfInBounds_toArray, List.set_cons_zero, List.set_cons_succ, i64_w, i32_w]
          rfl
        refine pure_ (i := 15) (N := some 34) (v := ?_) (a' := ?_) #[true, true, true, true, true, true, true, true, true, true, true, true, false, true, true, true, false, false, false, false, false, false, false, false, false, false, false] rfl rfl (by kernel_rfl) (fun _ _ _ h => h) (Or.inl ⟨by rfl, ?_⟩) ?_ ?_
        rotate_left
        · intro w'
          go_simp
          with_reducible rfl
        rotate_left
        · simp only [Act.put, List.setIfInBounds_toArray, List.set_cons_zero, List.set_cons_succ, i64_w, i32_w]
          rfl
        refine pure_ (i := 17) (N := some 36) (v := ?_) (a' := ?_) #[true, true, true, true, true, true, true, true, true, true, true, true, false, true, true, true, false, true, false, false, false, false, false, false, false, false, false] rfl rfl (by kernel_rfl) (fun _ _ _ h => h) (Or.inl ⟨by rfl, ?_⟩) ?_ ?_
        rotate_left
        · intro w'
          go_simp
          with_reducible rfl
        rotate_left
        · simp only [Act.put, List.setIfInBounds_toArray, List.set_cons_zero, List.set_cons_succ, i64_w, i32_w]
          rfl
        refine pure_ (i := 23) (N := some 42) (v := ?_) (a' := ?_) #[true, true, true, true, true, true, true, true, true, true, true, true, false, true, true, true, false, true, false, false, false, false, false, true, false, false, false] rfl rfl (by kernel_rfl) (fun _ _ _ h => h) (Or.inl ⟨by rfl, ?_⟩) ?_ ?_
        rotate_left
        · intro w'
          go_simp
          with_reducible rfl
        rotate_left
        · simp only [Act.put, List.setIfInBounds_toArray, List.set_cons_zero, List.set_cons_succ, i64_w, i32_w]
          rfl
        refine take_ (i := 12) (N := some 31) (v := ?_) (a' := ?_) #[true, true, true, true, true, true, true, true, true, true, true, true, true, true, true, true, false, true, false, false, false, false, false, true, false, false, false] rfl rfl (by kernel_rfl) (fun _ _ _ h => h) (Or.inl ⟨by rfl, ?_⟩) hHeld ?_ ?_
        rotate_left
        · rintro w' ⟨s0, s1, s2, s3⟩
          go_simp
          with_reducible rfl
        rotate_left
        · simp only [Act.put, List.setIfInBounds_toArray, List.set_cons_zero, List.set_cons_succ, i64_w, i32_w]
          rfl
        refine take_ (i := 16) (N := some 35) (v := ?_) (a' := ?_) #[true, true, true, true, true, true, true, true, true, true, true, true, true, true, true, true, true, true, false, false, false, false, false, true, false, false, false] rfl rfl (by kernel_rfl) (fun _ _ _ h => h) (Or.inl ⟨by rfl, ?_⟩) hHeld ?_ ?_
        rotate_left
        · rintro w' ⟨s0, s1, s2, s3⟩
          go_simp
          with_reducible rfl
        rotate_left
        · simp only [Act.put, List.setIfInBounds_toArray, List.set_cons_zero, List.set_cons_succ, i64_w, i32_w]
          rfl
        refine pure_ (i := 18) (N := some 37) (v := ?_) (a' := ?_) #[true, true, true, true, true, true, true, true, true, true, true, true, true, true, true, true, true, true, true, false, false, false, false, true, false, false, false] rfl rfl (by kernel_rfl) (fun _ _ _ h => h) (Or.inl ⟨by rfl, ?_⟩) ?_ ?_
        rotate_left
        · intro w'
          go_simp
          with_reducible rfl
        rotate_left
        · simp only [Act.put, List.setIfInBounds_toArray, List.set_cons_zero, List.set_cons_succ, i64_w, i32_w]
          rfl
        refine take_ (i := 19) (N := some 38) (v := ?_) (a' := ?_) #[true, true, true, true, true, true, true, true, true, true, true, true, true, true, true, true, true, true, true, true, false, false, false, true, false, false, false] rfl rfl (by kernel_rfl) (fun _ _ _ h => h) (Or.inl ⟨by rfl, ?_⟩) hHeld ?_ ?_
        rotate_left
        · rintro w' ⟨s0, s1, s2, s3⟩
          go_simp
          with_reducible rfl
        rotate_left
        · simp only [Act.put, List.setIfInBounds_toArray, List.set_cons_zero, List.set_cons_succ, i64_w, i32_w]
          rfl
        refine pure_ (i := 20) (N := some 39) (v := ?_) (a' := ?_) #[true, true, true, true, true, true, true, true, true, true, true, true, true, true, true, true, true, true, true, true, true, false, false, true, false, false, false] rfl rfl (by kernel_rfl) (fun _ _ _ h => h) (Or.inl ⟨by rfl, ?_⟩) ?_ ?_
        rotate_left
        · intro w'
          go_simp
          with_reducible rfl
        rotate_left
        · simp only [Act.put, List.setIfInBounds_toArray, List.set_cons_zero, List.set_cons_succ, i64_w, i32_w]
          rfl
        refine pure_ (i := 21) (N := some 40) (v := ?_) (a' := ?_) #[true, true, true, true, true, true, true, true, true, true, true, true, true, true, true, true, true, true, true, true, true, true, false, true, false, false, false] rfl rfl (by kernel_rfl) (fun _ _ _ h => h) (Or.inl ⟨by rfl, ?_⟩) ?_ ?_
        rotate_left
        · intro w'
          go_simp
          with_reducible rfl
        rotate_left
        · simp only [Act.put, List.setIfInBounds_toArray, List.set_cons_zero, List.set_cons_succ, i64_w, i32_w]
          rfl
        refine take_ (i := 22) (N := some 41) (v := ?_) (a' := ?_) #[true, true, true, true, true, true, true, true, true, true, true, true, true, true, true, true, true, true, true, true, true, true, true, true, false, false, false] rfl rfl (by kernel_rfl) (fun _ _ _ h => h) (Or.inl ⟨by rfl, ?_⟩) hHeld ?_ ?_
        rotate_left
        · rintro w' ⟨s0, s1, s2, s3⟩
          go_simp
          with_reducible rfl
        rotate_left
        · simp only [Act.put, List.setIfInBounds_toArray, List.set_cons_zero, List.set_cons_succ, i64_w, i32_w]
          rfl
        refine one_ (i := 24) (N := some 43) #[true, true, true, true, true, true, true, true, true, true, true, true, true, true, true, true, true, true, true, true, true, true, true, true, true, false, false] rfl rfl (by kernel_rfl) (by decide) (fun K hK => ?_)
        refine goes_ Try.func40 (by kernel_rfl) rfl #[.slice Ak kk.length ck, .slice A key.length c] (by rfl) rfl rfl (by simp only [List.map_toArray, List.map_cons, List.map_nil]; rfl) ?_
        with_reducible refine (api_Val_40.calls ke Ak ck kk A c key false _ (HKK.out _ HBR0.out) HCK.out (HKY.out _ HBR0.out) HCY.out HKE.out).mono ?_
        rintro e w8 ⟨rfl, n8, rfl⟩
        refine ⟨_, rfl, ?_⟩
        refine hK.out _ _ ⟨(HG0.out _ (HBR.out n8)), (HG1.out _ (HBR.out n8)), (HPC.out _ (HBR.out n8)), (HKC.out _ (HBR.out n8))⟩ (fun hHeld => ?_)
        clear hK K
        refine norm_ (a' := ?_) ?_ ?_
        rotate_left
        · show Act.put _ (some 43) _ = _
          simp only [Act.put, List.setIfInBounds_toArray, List.set_cons_zero, List.set_cons_succ, i64_w, i32_w]
          rfl
        refine pure_ (i := 25) (N := some 44) (v := ?_) (a' := ?_) #[true, true, true, true, true, true, true, true, true, true, true, true, true, true, true, true, true, true, true, true, true, true, true, true, true, true, false] rfl rfl (by kernel_rfl) (fun _ _ _ h => h) (Or.inl ⟨by rfl, ?_⟩) ?_ ?_
        rotate_left
        · intro w'
          go_simp
          with_reducible rfl
        rotate_left
        · simp only [Act.put, List.setIfInBounds_toArray, List.set_cons_zero, List.set_cons_succ, i64_w, i32_w]
          rfl
        refine pure_ (i := 26) (N := some 45) (v := ?_) (a' := ?_) #[true, true, true, true, true, true, true, true, true, true, true, true, true, true, true, true, true, true, true, true, true, true, true, true, true, true, true] rfl rfl (by kernel_rfl) (fun _ _ _ h => h) (Or.inl ⟨by rfl, ?_⟩) ?_ ?_
        rotate_left
        · intro w'
          go_simp
          with_reducible rfl
        rotate_left
        · simp only [Act.put, List.setIfInBounds_toArray, List.set_cons_zero, List.set_cons_succ, i64_w, i32_w]
          rfl
        refine done_ (by kernel_rfl) ?_
        have ha1 := HA1.out
        have hm1 := HM1.out
        go_wp2_with fail
        go_roundg k1
        case measure => omega
        case rel => exact ⟨i + 1, by rw [← HMQ.out, ← HM1.out]; first | rfl | (rw [HA1.out]), ⟨by have := HI.out; omega⟩, ⟨by repeat (first | exact HB.out | apply pw_below_drewN | apply below_drew1)⟩⟩
end
end Go.Proofs.Ytcbjkejboegmlaa.HW
end
section
/- group.table: grow, number. -/
set_option linter.unusedVariables false
set_option linter.unusedSimpArgs false
namespace Go.Proofs.Ytcbjkejboegmlaa.HW
open Go.RowKit Go.Proofs.Ytcbjkejboegmlaa.P Go.Proofs.Ytcbjkejboegmlaa.HP Go.Proofs.YtcbjkejboegmlaaW.PrintWords Go.Proofs.YtcbjkejboegmlaaW.PrintLast Go.Proofs.YtcbjkejboegmlaaW.PrintMore
attribute [local go_sem] max2_int min2_int max_two min_two max_three min_three max_four min_four
/-- A table in memory: its blocks are ok. -/
def Tab (lo : Nat) (ok : Nat → Prop) (w : World) (g : Nat) (pl : List Int) (ks : List Key) : Prop :=
  lo ≤ g ∧ ok g ∧ ∃ vP vK : Value, w.heap[g]? = some (.cells #[vP, vK] 60 (0, 0)) ∧ Kd.R (Kd.int .i64) 3 w lo ok vP pl ∧ Kd.R (Kd.slice 43 k43) 38 w lo ok vK ks
/-- Nothing below lo has turned, and of the blocks that were there none that is not ok. -/
structure Fr (lo : Nat) (ok : Nat → Prop) (w w' : World) : Prop where
  below : Below lo w w'
  rest : ∀ k, k < w.heap.size → ¬ ok k → w'.heap[k]? = w.heap[k]?
theorem Fr.refl (lo : Nat) (ok : Nat → Prop) (w : World) : Fr lo ok w w := ⟨Below.refl _ _, fun _ _ _ => rfl⟩
theorem Fr.trans {lo : Nat} {ok : Nat → Prop} {a b c : World} (h : Fr lo ok a b) (k : Fr lo ok b c) : Fr lo ok a c :=
  ⟨h.below.trans k.below, fun i hi ho => (k.rest i (by have := h.below.size; omega) ho).trans (h.rest i hi ho)⟩
theorem Fr.of_below {lo : Nat} {ok : Nat → Prop} {w w' : World} (h : Below w.heap.size w w') (hlo : lo ≤ w.heap.size) : Fr lo ok w w' := ⟨h.mono hlo, fun k hk _ => h.block k hk⟩
theorem Fr.set {lo g j : Nat} {ok : Nat → Prop} {w w' : World} {v : Value} (h : Fr lo ok w w') (hg : ok g) (hlo : lo ≤ g) : Fr lo ok w (w'.setCell ⟨g, j, none⟩ v) :=
  ⟨h.below.setCell hlo _, fun k hk ho => (Below.heap_setCell w' ⟨g, j, none⟩ v k (fun e => ho (by rw [e]; exact hg))).trans (h.rest k hk ho)⟩
theorem Tab.below {lo : Nat} {ok : Nat → Prop} {w w' : World} {g : Nat} {pl : List Int} {ks : List Key} (h : Tab lo ok w g pl ks) (hb : Below w.heap.size w w') : Tab lo ok w' g pl ks := by
  obtain ⟨h1, h2, vP, vK, hg, hP, hK⟩ := h
  exact ⟨h1, h2, vP, vK, (hb.block g (blk_lt hg)).trans hg, Kd.R_below hP hb, Kd.R_below hK hb⟩
theorem blk_putj {W : World} {g : Nat} {cs : Array Value} {t : TypeId} (h : W.heap[g]? = some (.cells cs t (0, 0))) (j : Nat) (v : Value) : (W.setCell ⟨g, j, none⟩ v).heap[g]? = some (.cells (cs.setIfInBounds j v) t (0, 0)) := by
  unfold World.setCell
  simp [h, Array.getElem?_modify]
theorem blk_other {W : World} {g g2 t : Nat} {cs : Array Value} (h2 : W.heap[g2]? = some (.cells cs t (0, 0))) {o : Obj} (h : W.heap[g]? = some o) (hne : ∀ cs', o ≠ .cells cs' t (0, 0)) (j : Nat) (v : Value) : (W.setCell ⟨g2, j, none⟩ v).heap[g]? = some o :=
  (Below.heap_setCell W ⟨g2, j, none⟩ v g (fun e => by
    have e : g = g2 := e
    subst e
    rw [h] at h2
    injection h2 with h2
    exact hne cs h2)).trans h
def Distinct (ks : List Key) : Prop := ∀ i j, i < j → j < ks.length → ks.getD i [] ≠ ks.getD j []
def InvT (pl : List Int) (ks : List Key) : Prop := Distinct ks ∧ ((pl = [] ∧ ks = []) ∨ (Inv pl ks ks.length ∧ 2 * ks.length ≤ pl.length))
theorem pow_small {e : Nat} (h : 2 ^ e < 2048) : e < 11 := by
  rcases Nat.lt_or_ge e 11 with h1 | h1
  · exact h1
  · have h2 := Nat.pow_le_pow_right (n := 2) (by decide) h1
    have h3 : (2 : Nat) ^ 11 = 2048 := by decide
    omega
/-- How many places a table has that grows. -/
theorem grow_plain {pl : List Int} {ks : List Key} (hi : InvT pl ks) (hm : ks.length ≤ 1000) (hs : ¬ 2 * (ks.length + 1) ≤ pl.length) :
    ∃ e N, 2 ≤ e ∧ e ≤ 20 ∧ N = 2 ^ e ∧ N = (if 4 < 2 * pl.length then 2 * pl.length else 4) ∧ 2 * (ks.length + 1) ≤ N ∧ N ≤ 4096 ∧ pl.length ≤ 2002 := by
  rcases hi.2 with ⟨rfl, rfl⟩ | ⟨h, hhalf⟩
  · exact ⟨2, 4, by omega, by omega, by decide, by simp, by simp, by omega, by simp⟩
  · obtain ⟨e, h2, _, he⟩ := h.pow
    have h4 := Nat.pow_le_pow_right (n := 2) (by decide) h2
    have hz := h.zeros
    have hc := List.countP_le_length (p := fun x : Int => decide (x = 0)) (l := pl)
    have h11 := pow_small (e := e) (by omega)
    refine ⟨e + 1, 2 * pl.length, by omega, by omega, by rw [he, Nat.pow_succ, Nat.mul_comm], by rw [if_pos (by omega)], ?_, ?_, by omega⟩
    · omega
    · omega
set_option maxHeartbeats 8000000 in
set_option maxRecDepth 100000 in
theorem Grow_ (lo g : Nat) (ok : Nat → Prop) (pl : List Int) (ks : List Key) (w : World) (hT : Tab lo ok w g pl ks) (hlo : lo ≤ w.heap.size) (hok : ∀ k, w.heap.size ≤ k → ok k) (hi : InvT pl ks) (hks : ks.length ≤ 1000) (hsz : ∀ k ∈ ks, k.length ≤ 1000000 ∧ ∀ x ∈ k, x.f1.size ≤ 1000000) :
    Calls Try.prog 36 #[.pointer (some ⟨g, 0, none⟩)] w fun e w' => e = .returned (.tuple #[]) ∧ ∃ pl', Tab lo ok w' g pl' ks ∧ Inv pl' ks ks.length ∧ 2 * (ks.length + 1) ≤ pl'.length ∧ Fr lo ok w w' := by
  have HT := Aside0.mk hT
  obtain ⟨hg1, hg2, vP, vK, hg, hP, hK⟩ := hT
  obtain ⟨AP, cP, rfl, hcP, hCP⟩ := Kd.R_reads hP
  obtain ⟨AK, cK, rfl, hcK, hCK⟩ := Kd.R_reads hK
  have HB := Aside0.mk (Below.refl w.heap.size w)
  have HLO := Aside0.mk hlo
  have HOK := Aside0.mk hok
  have hc0 := blk_cell hg 0
  have hc1 := blk_cell hg 1
  simp only [List.getElem?_toArray, List.getElem?_cons_zero, List.getElem?_cons_succ] at hc0 hc1
  have HG0 : Aside0 (w.drew.cell? ⟨g, 0, none⟩ = some (.slice AP pl.length cP)) := ⟨hc0⟩
  have HG1 : Aside0 (w.drew.cell? ⟨g, 1, none⟩ = some (.slice AK ks.length cK)) := ⟨hc1⟩
  have HKS := Aside0.mk hks
  have HSZ := Aside0.mk hsz
  have HI := Aside0.mk hi
  have HGB := Aside0.mk hg
  have HCK := Aside0.mk hCK
  have HLC := Aside0.mk hcK
  have hf0 : w.frozen? ⟨g, 0, none⟩ = false := blk_frozen hg _
  have HGG := Aside0.mk (And.intro hg1 hg2)
  have HRK := Aside0.mk hK
  obtain ⟨M1, hM1⟩ : ∃ M1 : Int, M1 = ((ks.length + 1 : Nat) : Int) := ⟨_, rfl⟩
  obtain ⟨M2, hM2⟩ : ∃ M2 : Int, M2 = ((2 * (ks.length + 1) : Nat) : Int) := ⟨_, rfl⟩
  have hw1 : wrap64 ((ks.length : Int) + 1) = M1 := by rw [hM1]; unfold wrap64; omega
  have hw2 : wrap64 (2 * M1) = M2 := by rw [hM1, hM2]; unfold wrap64; omega
  by_cases hs : 2 * (ks.length + 1) ≤ pl.length
  · have t1 : decide (M2 ≤ (pl.length : Int)) = true := decide_eq_true (by omega)
    clear hg hP hK hCP hCK hM1 hM2 hlo hok hks hsz hi hc0 hc1 hg1 hg2 hcP hcK
    go_enter Try.func36, Try.ntmps36
    go_wp2_with fail
    refine start_ (n := 13) (S := fun w' => w'.cell? ⟨g, 0, none⟩ = some (.slice AP pl.length cP) ∧ w'.cell? ⟨g, 1, none⟩ = some (.slice AK ks.length cK)) (ds := []) #[false, false, false, false, false, false, false, false, false, false, false, false, false] (by kernel_rfl) rfl rfl ⟨HG0.out, HG1.out⟩ (fun hHeld => ?_)
    refine pure_ (i := 0) (N := some 4) (v := ?_) (a' := ?_) #[true, false, false, false, false, false, false, false, false, false, false, false, false] rfl rfl (by kernel_rfl) (fun _ _ _ h => h) (Or.inl ⟨by rfl, ?_⟩) ?_ ?_
    rotate_left
    · intro w'
      go_simp
      with_reducible rfl
    rotate_left
    · simp only [Act.put, List.setIfInBounds_toArray, List.set_cons_zero, List.set_cons_succ, i64_w, i32_w]
      rfl
    refine pure_ (i := 1) (N := some 5) (v := ?_) (a' := ?_) #[true, true, false, false, false, false, false, false, false, false, false, false, false] rfl rfl (by kernel_rfl) (fun _ _ _ h => h) (Or.inl ⟨by rfl, ?_⟩) ?_ ?_
    rotate_left
    · intro w'
      go_simp
      with_reducible rfl
    rotate_left
    · simp only [Act.put, List.setIfInBounds_toArray, List.set_cons_zero, List.set_cons_succ, i64_w, i32_w]
      rfl
    refine pure_ (i := 2) (N := some 6) (v := ?_) (a' := ?_) #[true, true, true, false, false, false, false, false, false, false, false, false, false] rfl rfl (by kernel_rfl) (fun _ _ _ h => h) (Or.inl ⟨by rfl, ?_⟩) ?_ ?_
    rotate_left
    · intro w'
      go_simp
      with_reducible rfl
    rotate_left
    · simp only [Act.put, List.setIfInBounds_toArray, List.set_cons_zero, List.set_cons_succ, i64_w, i32_w]
      rfl
    refine pure_ (i := 7) (N := some 11) (v := ?_) (a' := ?_) #[true, true, true, false, false, false, false, true, false, false, false, false, false] rfl rfl (by kernel_rfl) (fun _ _ _ h => h) (Or.inl ⟨by rfl, ?_⟩) ?_ ?_
    rotate_left
    · intro w'
      go_simp
      with_reducible rfl
    rotate_left
    · simp only [Act.put, List.setIfInBounds_toArray, List.set_cons_zero, List.set_cons_succ, i64_w, i32_w]
      rfl
    refine pure_ (i := 8) (N := some 12) (v := ?_) (a' := ?_) #[true, true, true, false, false, false, false, true, true, false, false, false, false] rfl rfl (by kernel_rfl) (fun _ _ _ h => h) (Or.inl ⟨by rfl, ?_⟩) ?_ ?_
    rotate_left
    · intro w'
      go_simp
      with_reducible rfl
    rotate_left
    · simp only [Act.put, List.setIfInBounds_toArray, List.set_cons_zero, List.set_cons_succ, i64_w, i32_w]
      rfl
    refine pure_ (i := 9) (N := some 13) (v := ?_) (a' := ?_) #[true, true, true, false, false, false, false, true, true, true, false, false, false] rfl rfl (by kernel_rfl) (fun _ _ _ h => h) (Or.inl ⟨by rfl, ?_⟩) ?_ ?_
    rotate_left
    · intro w'
      go_simp
      with_reducible rfl
    rotate_left
    · simp only [Act.put, List.setIfInBounds_toArray, List.set_cons_zero, List.set_cons_succ, i64_w, i32_w]
      rfl
    refine take_ (i := 3) (N := some 7) (v := ?_) (a' := ?_) #[true, true, true, true, false, false, false, true, true, true, false, false, false] rfl rfl (by kernel_rfl) (fun _ _ _ h => h) (Or.inl ⟨by rfl, ?_⟩) hHeld ?_ ?_
    rotate_left
    · rintro w' ⟨s0, s1⟩
      go_simp
      with_reducible rfl
    rotate_left
    · simp only [Act.put, List.setIfInBounds_toArray, List.set_cons_zero, List.set_cons_succ, i64_w, i32_w]
      rfl
    refine pure_ (i := 4) (N := some 8) (v := ?_) (a' := ?_) #[true, true, true, true, true, false, false, true, true, true, false, false, false] rfl rfl (by kernel_rfl) (fun _ _ _ h => h) (Or.inl ⟨by rfl, ?_⟩) ?_ ?_
    rotate_left
    · intro w'
      go_simp
      with_reducible rfl
    rotate_left
    · simp only [Act.put, List.setIfInBounds_toArray, List.set_cons_zero, List.set_cons_succ, i64_w, i32_w]
      rfl
    refine pure_ (i := 5) (N := some 9) (v := ?_) (a' := ?_) #[true, true, true, true, true, true, false, true, true, true, false, false, false] rfl rfl (by kernel_rfl) (fun _ _ _ h => h) (Or.inl ⟨by rfl, ?_⟩) ?_ ?_
    rotate_left
    · intro w'
      go_simp
      with_reducible rfl
    rotate_left
    · simp only [Act.put, List.setIfInBounds_toArray, List.set_cons_zero, List.set_cons_succ, i64_w, i32_w]
      rfl
    refine pure_ (i := 6) (N := some 10) (v := ?_) (a' := ?_) #[true, true, true, true, true, true, true, true, true, true, false, false, false] rfl rfl (by kernel_rfl) (fun _ _ _ h => h) (Or.inl ⟨by rfl, ?_⟩) ?_ ?_
    rotate_left
    · intro w'
      go_simp
      with_reducible rfl
    rotate_left
    · simp only [Act.put, List.setIfInBounds_toArray, List.set_cons_zero, List.set_cons_succ, i64_w, i32_w]
      rfl
    refine take_ (i := 10) (N := some 14) (v := ?_) (a' := ?_) #[true, true, true, true, true, true, true, true, true, true, true, false, false] rfl rfl (by kernel_rfl) (fun _ _ _ h => h) (Or.inl ⟨by rfl, ?_⟩) hHeld ?_ ?_
    rotate_left
    · rintro w' ⟨s0, s1⟩
      go_simp
      with_reducible rfl
    rotate_left
    · simp only [Act.put, List.setIfInBounds_toArray, List.set_cons_zero, List.set_cons_succ, i64_w, i32_w]
      rfl
    refine pure_ (i := 11) (N := some 15) (v := ?_) (a' := ?_) #[true, true, true, true, true, true, true, true, true, true, true, true, false] rfl rfl (by kernel_rfl) (fun _ _ _ h => h) (Or.inl ⟨by rfl, ?_⟩) ?_ ?_
    rotate_left
    · intro w'
      go_simp
      with_reducible rfl
    rotate_left
    · simp only [Act.put, List.setIfInBounds_toArray, List.set_cons_zero, List.set_cons_succ, i64_w, i32_w]
      rfl
    refine pure_ (i := 12) (N := some 16) (v := ?_) (a' := ?_) #[true, true, true, true, true, true, true, true, true, true, true, true, true] rfl rfl (by kernel_rfl) (fun _ _ _ h => h) (Or.inl ⟨by rfl, ?_⟩) ?_ ?_
    rotate_left
    · intro w'
      go_simp
      with_reducible rfl
    rotate_left
    · simp only [Act.put, List.setIfInBounds_toArray, List.set_cons_zero, List.set_cons_succ, i64_w, i32_w]
      rfl
    refine done_ (by kernel_rfl) ?_
    go_wp2_with fail
    refine bodyPost_ret (results_none rfl _ _ _) rfl ⟨rfl, pl, ?_, ?_, hs, Fr.of_below (by repeat (first | exact HB.out | apply pw_below_drewN | apply below_drew1)) HLO.out⟩
    · exact Tab.below HT.out (by repeat (first | exact HB.out | apply pw_below_drewN | apply below_drew1))
    · rcases HI.out.2 with ⟨h1, h2⟩ | ⟨h, _⟩
      · rw [h1] at hs; simp at hs
      · exact h
  · obtain ⟨e, N, he2, he20, hN, hNi, hN2, hNb, hpl⟩ := grow_plain hi hks hs
    obtain ⟨N2, hN2'⟩ : ∃ N2 : Int, N2 = ((2 * pl.length : Nat) : Int) := ⟨_, rfl⟩
    have t1 : decide (M2 ≤ (pl.length : Int)) = false := decide_eq_false (by omega)
    have hw3 : wrap64 (2 * (pl.length : Int)) = N2 := by rw [hN2']; unfold wrap64; omega
    have hmx : (if (4 : Int) < N2 then N2 else 4) = (N : Int) := by rw [hN2', hNi]; split <;> split <;> omega
    have HNB : Aside0 (N ≤ 4096) := ⟨hNb⟩
    have HNP : Aside0 (0 < N) := ⟨by omega⟩
    have HNE := Aside0.mk hN
    have HE := Aside0.mk (And.intro he2 he20)
    have HN2 := Aside0.mk hN2
    clear hg hP hK hCP hCK hM1 hM2 hlo hok hks hsz hi hg1 hg2 hcP hcK hs he2 he20 hN hNi hN2 hNb hpl hN2'
    go_enter Try.func36, Try.ntmps36
    go_wp2_with fail
    refine start_ (n := 13) (S := fun w' => w'.cell? ⟨g, 0, none⟩ = some (.slice AP pl.length cP) ∧ w'.cell? ⟨g, 1, none⟩ = some (.slice AK ks.length cK)) (ds := []) #[false, false, false, false, false, false, false, false, false, false, false, false, false] (by kernel_rfl) rfl rfl ⟨HG0.out, HG1.out⟩ (fun hHeld => ?_)
    refine pure_ (i := 0) (N := some 4) (v := ?_) (a' := ?_) #[true, false, false, false, false, false, false, false, false, false, false, false, false] rfl rfl (by kernel_rfl) (fun _ _ _ h => h) (Or.inl ⟨by rfl, ?_⟩) ?_ ?_
    rotate_left
    · intro w'
      go_simp
      with_reducible rfl
    rotate_left
    · simp only [Act.put, List.setIfInBounds_toArray, List.set_cons_zero, List.set_cons_succ, i64_w, i32_w]
      rfl
    refine pure_ (i := 1) (N := some 5) (v := ?_) (a' := ?_) #[true, true, false, false, false, false, false, false, false, false, false, false, false] rfl rfl (by kernel_rfl) (fun _ _ _ h => h) (Or.inl ⟨by rfl, ?_⟩) ?_ ?_
    rotate_left
    · intro w'
      go_simp
      with_reducible rfl
    rotate_left
    · simp only [Act.put, List.setIfInBounds_toArray, List.set_cons_zero, List.set_cons_succ, i64_w, i32_w]
      rfl
    refine pure_ (i := 2) (N := some 6) (v := ?_) (a' := ?_) #[true, true, true, false, false, false, false, false, false, false, false, false, false] rfl rfl (by kernel_rfl) (fun _ _ _ h => h) (Or.inl ⟨by rfl, ?_⟩) ?_ ?_
    rotate_left
    · intro w'
      go_simp
      with_reducible rfl
    rotate_left
    · simp only [Act.put, List.setIfInBounds_toArray, List.set_cons_zero, List.set_cons_succ, i64_w, i32_w]
      rfl
    refine pure_ (i := 7) (N := some 11) (v := ?_) (a' := ?_) #[true, true, true, false, false, false, false, true, false, false, false, false, false] rfl rfl (by kernel_rfl) (fun _ _ _ h => h) (Or.inl ⟨by rfl, ?_⟩) ?_ ?_
    rotate_left
    · intro w'
      go_simp
      with_reducible rfl
    rotate_left
    · simp only [Act.put, List.setIfInBounds_toArray, List.set_cons_zero, List.set_cons_succ, i64_w, i32_w]
      rfl
    refine pure_ (i := 8) (N := some 12) (v := ?_) (a' := ?_) #[true, true, true, false, false, false, false, true, true, false, false, false, false] rfl rfl (by kernel_rfl) (fun _ _ _ h => h) (Or.inl ⟨by rfl, ?_⟩) ?_ ?_
    rotate_left
    · intro w'
      go_simp
      with_reducible rfl
    rotate_left
    · simp only [Act.put, List.setIfInBounds_toArray, List.set_cons_zero, List.set_cons_succ, i64_w, i32_w]
      rfl
    refine pure_ (i := 9) (N := some 13) (v := ?_) (a' := ?_) #[true, true, true, false, false, false, false, true, true, true, false, false, false] rfl rfl (by kernel_rfl) (fun _ _ _ h => h) (Or.inl ⟨by rfl, ?_⟩) ?_ ?_
    rotate_left
    · intro w'
      go_simp
      with_reducible rfl
    rotate_left
    · simp only [Act.put, List.setIfInBounds_toArray, List.set_cons_zero, List.set_cons_succ, i64_w, i32_w]
      rfl
    refine take_ (i := 3) (N := some 7) (v := ?_) (a' := ?_) #[true, true, true, true, false, false, false, true, true, true, false, false, false] rfl rfl (by kernel_rfl) (fun _ _ _ h => h) (Or.inl ⟨by rfl, ?_⟩) hHeld ?_ ?_
    rotate_left
    · rintro w' ⟨s0, s1⟩
      go_simp
      with_reducible rfl
    rotate_left
    · simp only [Act.put, List.setIfInBounds_toArray, List.set_cons_zero, List.set_cons_succ, i64_w, i32_w]
      rfl
    refine pure_ (i := 4) (N := some 8) (v := ?_) (a' := ?_) #[true, true, true, true, true, false, false, true, true, true, false, false, false] rfl rfl (by kernel_rfl) (fun _ _ _ h => h) (Or.inl ⟨by rfl, ?_⟩) ?_ ?_
    rotate_left
    · intro w'
      go_simp
      with_reducible rfl
    rotate_left
    · simp only [Act.put, List.setIfInBounds_toArray, List.set_cons_zero, List.set_cons_succ, i64_w, i32_w]
      rfl
    refine pure_ (i := 5) (N := some 9) (v := ?_) (a' := ?_) #[true, true, true, true, true, true, false, true, true, true, false, false, false] rfl rfl (by kernel_rfl) (fun _ _ _ h => h) (Or.inl ⟨by rfl, ?_⟩) ?_ ?_
    rotate_left
    · intro w'
      go_simp
      with_reducible rfl
    rotate_left
    · simp only [Act.put, List.setIfInBounds_toArray, List.set_cons_zero, List.set_cons_succ, i64_w, i32_w]
      rfl
    refine pure_ (i := 6) (N := some 10) (v := ?_) (a' := ?_) #[true, true, true, true, true, true, true, true, true, true, false, false, false] rfl rfl (by kernel_rfl) (fun _ _ _ h => h) (Or.inl ⟨by rfl, ?_⟩) ?_ ?_
    rotate_left
    · intro w'
      go_simp
      with_reducible rfl
    rotate_left
    · simp only [Act.put, List.setIfInBounds_toArray, List.set_cons_zero, List.set_cons_succ, i64_w, i32_w]
      rfl
    refine take_ (i := 10) (N := some 14) (v := ?_) (a' := ?_) #[true, true, true, true, true, true, true, true, true, true, true, false, false] rfl rfl (by kernel_rfl) (fun _ _ _ h => h) (Or.inl ⟨by rfl, ?_⟩) hHeld ?_ ?_
    rotate_left
    · rintro w' ⟨s0, s1⟩
      go_simp
      with_reducible rfl
    rotate_left
    · simp only [Act.put, List.setIfInBounds_toArray, List.set_cons_zero, List.set_cons_succ, i64_w, i32_w]
      rfl
    refine pure_ (i := 11) (N := some 15) (v := ?_) (a' := ?_) #[true, true, true, true, true, true, true, true, true, true, true, true, false] rfl rfl (by kernel_rfl) (fun _ _ _ h => h) (Or.inl ⟨by rfl, ?_⟩) ?_ ?_
    rotate_left
    · intro w'
      go_simp
      with_reducible rfl
    rotate_left
    · simp only [Act.put, List.setIfInBounds_toArray, List.set_cons_zero, List.set_cons_succ, i64_w, i32_w]
      rfl
    refine pure_ (i := 12) (N := some 16) (v := ?_) (a' := ?_) #[true, true, true, true, true, true, true, true, true, true, true, true, true] rfl rfl (by kernel_rfl) (fun _ _ _ h => h) (Or.inl ⟨by rfl, ?_⟩) ?_ ?_
    rotate_left
    · intro w'
      go_simp
      with_reducible rfl
    rotate_left
    · simp only [Act.put, List.setIfInBounds_toArray, List.set_cons_zero, List.set_cons_succ, i64_w, i32_w]
      rfl
    refine done_ (by kernel_rfl) ?_
    go_wp2_with (first | ((with_reducible refine gate_dst (N := 25) rfl ?_); refine Kd.R_make (Kd.int .i64) (w0 := w) lo 3 rfl (N := 25) rfl 23 _ _ rfl (N : Int) rfl rfl Try.underlying23 (.int .i64 0) 8 infoI rfl (by decide) (by omega) 0 (ok := ok) (okp := ok) rfl (fun _ hk => hk) ?mk (by omega) ?ml ?mb ?ms ?_; (case mk => exact HOK.out _ (Nat.le_refl _)); (case ml => have := HNB.out; omega); (case mb => exact (below_drew1 HB.out).mono HLO.out); (case ms => exact HLO.out); intro v25 w25 ho hb hg hat; rw [Int.toNat_natCast] at ho; obtain ⟨gP, cP2, e25, gb25, gl25, cl25, hcl25⟩ := Kd.R_form ho (by rw [List.length_replicate]; exact HNP.out); subst e25; rw [List.length_replicate] at ho ⊢; have hgb := (hg.block g (blk_lt HGB.out) (by simp)).trans HGB.out; have hcg0 := blk_cell hgb 0; have hcg1 := blk_cell hgb 1; simp only [List.getElem?_toArray, List.getElem?_cons_zero, List.getElem?_cons_succ] at hcg0 hcg1; have hfg0 : w25.frozen? ⟨g, 0, none⟩ = false := blk_frozen hgb _; have HGB25 := Aside0.mk hgb; have HO25 := Aside0.mk ho; have HB25 := Aside0.mk hb; have HGR := Aside0.mk hg; have HAT := Aside0.mk hat; have HGP := Aside0.mk (And.intro gb25 gl25); have HCL := Aside0.mk hcl25; clear hgb ho hb hg hat gb25 gl25 hcl25))
    obtain ⟨u, hu⟩ : ∃ U, U = w25.setCell ⟨g, 0, none⟩ (.slice (some ⟨gP, 0, none⟩) N cP2) := ⟨_, rfl⟩
    rw [← hu]
    have hgu : u.heap[g]? = some (.cells #[.slice (some ⟨gP, 0, none⟩) (List.replicate N (0 : Int)).length cP2, .slice AK ks.length cK] 60 (0, 0)) := by rw [hu, List.length_replicate]; exact blk_putj HGB25.out 0 _
    have hPu : Kd.R (Kd.int .i64) 3 u lo ok (.slice (some ⟨gP, 0, none⟩) (List.replicate N (0 : Int)).length cP2) (List.replicate N (0 : Int)) := by rw [hu, List.length_replicate]; exact Kd.R_set HO25.out HGB25.out (by decide) 0 _
    have hKu : Kd.R (Kd.slice 43 k43) 38 u lo ok (.slice AK ks.length cK) ks := by rw [hu]; exact Kd.R_set (Kd.R_grown (Kd.R_drew HRK.out) HGR.out (fun _ _ => by simp)) HGB25.out (by decide) 0 _
    have hFu : Fr lo ok w u := by rw [hu]; exact Fr.set ⟨HB25.out, fun k hk _ => HGR.out.block k hk (by simp)⟩ HGG.out.2 HGG.out.1
    have HGU := Aside0.mk hgu
    have HPU := Aside0.mk hPu
    have HKU := Aside0.mk hKu
    have HFU := Aside0.mk hFu
    have HIU : Aside0 (Inv (List.replicate N (0 : Int)) ks 0) := ⟨by rw [HNE.out]; exact Inv.empty ks e HE.out.1 HE.out.2⟩
    clear hu hgu hPu hKu hFu hcg0 hcg1 hfg0 HO25 HB25 HGR HGB25 HAT hf0 hc0 hc1 HG0 HG1 hw1 hw2 hw3 hmx t1 HB
    go_loopg [33] (ks.length : Nat) (fun kq v33 w' => ∃ (i : Nat) (pl' : List Int), v33 = .int .i64 (i : Int) ∧ Aside0 (i + kq = ks.length) ∧ Aside0 (pl'.length = N) ∧ Aside0 (Inv pl' ks i) ∧ Aside0 (w'.heap[g]? = some (.cells #[.slice (some ⟨gP, 0, none⟩) pl'.length cP2, .slice AK ks.length cK] 60 (0, 0))) ∧ Aside0 (Kd.R (Kd.int .i64) 3 w' lo ok (.slice (some ⟨gP, 0, none⟩) pl'.length cP2) pl') ∧ Aside0 (Kd.R (Kd.slice 43 k43) 38 w' lo ok (.slice AK ks.length cK) ks) ∧ Aside0 (Fr lo ok w w'))
    case atStart => exact ⟨0, _, rfl, ⟨by omega⟩, ⟨by simp⟩, HIU, HGU, HPU, HKU, HFU⟩
    case round =>
      clear HIU HGU HPU HKU HFU
      obtain ⟨i, pl', rfl, HJ, HPN, HIV, HG, HP, HK, HF⟩ := hrel
      cases gk with
      | zero =>
        have c_ : ¬ (i : Int) < (ks.length : Int) := by have := HJ.out; omega
        have cb : decide ((i : Int) < (ks.length : Int)) = false := decide_eq_false c_
        have cb2 : decide (i < ks.length) = false := decide_eq_false (by omega)
        clear c_
        go_wp2_with fail
        refine bodyPost_end (results_none rfl _ _ _) rfl ⟨rfl, pl', ⟨HGG.out.1, HGG.out.2, _, _, HG.out, HP.out, HK.out⟩, ?_, by rw [HPN.out]; exact HN2.out, HF.out⟩
        have e1 : i = ks.length := by have := HJ.out; omega
        rw [← e1]
        exact HIV.out
      | succ k1 =>
        have c_ : (i : Int) < (ks.length : Int) := by have := HJ.out; omega
        have cn : i < ks.length := by omega
        have cb : decide ((i : Int) < (ks.length : Int)) = true := decide_eq_true c_
        have cb2 : decide (i < ks.length) = true := decide_eq_true cn
        have p0 : ((0 : Int) ≤ (i : Int)) = True := eq_true (by omega)
        have q0 : ((i : Int) < (ks.length : Int)) = True := eq_true c_
        have q0n : (i < ks.length) = True := eq_true cn
        obtain ⟨AK', cK', eK, hcK', hCK'⟩ := Kd.R_reads HK.out
        injection eK with eK1 _ eK2
        subst eK1 eK2
        obtain ⟨adK, Ak, ck, eA, hy, hck, hCk⟩ := at_L3 hCK' (i : Int) (by omega) c_
        subst eA
        rw [rdL_get, Int.toNat_natCast] at hy
        rw [rdL_get] at hck hCk
        have hN3 := HNB.out
        have hpn := HPN.out
        obtain ⟨d, hfd, hor⟩ := HIV.out.probe (by have := HN2.out; omega) (ks.getD i [])
        rcases hor with ⟨j, hj, hje, _⟩ | ⟨hnew, hz⟩
        · exact absurd hje (HI.out.1 j i hj cn)
        have hen := HIV.out.enter cn hfd hnew hz
        have hpos := HIV.out.pos
        have hal : (startN (ks.getD i []) pl'.length + d) % pl'.length < pl'.length := Nat.mod_lt _ hpos
        have hks9 := HSZ.out (ks.getD i []) (getD_lt_mem ks i cn)
        obtain ⟨CP', cP', eP, hcP', hCP'⟩ := Kd.R_reads HP.out
        injection eP with eP1 _ eP2
        subst eP1 eP2
        have HPR := Aside0.mk (Probe_ g pl' ks (ks.getD i []) (some ⟨gP, 0, none⟩) (some adK) Ak cP2 cK ck i d wr.drew HG.out (Kd.C_below hCP' (below_drew1 (Below.refl _ _))) hcP' (Kd.C_below hCK' (below_drew1 (Below.refl _ _))) hcK' (Kd.C_below hCk (below_drew1 (Below.refl _ _))) hck hks9.2 (fun k hk => (HSZ.out k hk).1) HIV.out hfd)
        obtain ⟨a, ha⟩ : ∃ a, a = (startN (ks.getD i []) pl'.length + d) % pl'.length := ⟨_, rfl⟩
        have HAE := Aside0.mk ha.symm
        rw [← ha] at hal hen
        have HAL := Aside0.mk hal
        have HEN := Aside0.mk hen
        obtain ⟨key, hkey⟩ : ∃ key, key = ks.getD i [] := ⟨_, rfl⟩
        rw [← hkey] at hy HPR HAE
        have HGC : Aside0 (∀ W : World, Below wr.heap.size wr W → W.cell? ⟨g, 0, none⟩ = some (.slice (some ⟨gP, 0, none⟩) pl'.length cP2)) := ⟨fun W hW => by have h9 := blk_cell ((hW.block g (blk_lt HG.out)).trans HG.out) 0; simpa using h9⟩
        have p1 : ((0 : Int) ≤ (a : Int)) = True := eq_true (by omega)
        have q1 : ((a : Int) < (pl'.length : Int)) = True := eq_true (by omega)
        have q1n : (a < pl'.length) = True := eq_true hal
        have hi1 : wrap64 ((i : Int) + 1) = ((i + 1 : Nat) : Int) := by unfold wrap64; have := HKS.out; omega
        have HI1 := Aside0.mk hi1
        clear c_ hcK' hCK' hck hCk hN3 hpn hfd hnew hz hen hpos hal hks9 hcP' hCP' ha hkey
        go_wp2_with fail
        refine start_ (n := 11) (S := fun w' => w'.cell? ⟨g, 0, none⟩ = some (.slice (some ⟨gP, 0, none⟩) pl'.length cP2)) (ds := [10]) #[false, false, false, false, false, false, false, false, false, false, false] (by kernel_rfl) rfl rfl ((HGC.out _ (below_drew1 (Below.refl wr.heap.size wr)))) (fun hHeld => ?_)
        refine pure_ (i := 0) (N := some 38) (v := ?_) (a' := ?_) #[true, false, false, false, false, false, false, false, false, false, false] rfl rfl (by kernel_rfl) (fun _ _ _ h => h) (Or.inl ⟨by rfl, ?_⟩) ?_ ?_
        rotate_left
        · intro w'
          go_simp
          with_reducible rfl
        rotate_left
        · simp only [Act.put, List.setIfInBounds_toArray, List.set_cons_zero, List.set_cons_succ, i64_w, i32_w]
          rfl
        refine pure_ (i := 1) (N := some 39) (v := ?_) (a' := ?_) #[true, true, false, false, false, false, false, false, false, false, false] rfl rfl (by kernel_rfl) (fun _ _ _ h => h) (Or.inl ⟨by rfl, ?_⟩) ?_ ?_
        rotate_left
        · intro w'
          go_simp
          with_reducible rfl
        rotate_left
        · simp only [Act.put, List.setIfInBounds_toArray, List.set_cons_zero, List.set_cons_succ, i64_w, i32_w]
          rfl
        refine pure_ (i := 2) (N := some 40) (v := ?_) (a' := ?_) #[true, true, true, false, false, false, false, false, false, false, false] rfl rfl (by kernel_rfl) (fun _ _ _ h => h) (Or.inl ⟨by rfl, ?_⟩) ?_ ?_
        rotate_left
        · intro w'
          go_simp
          with_reducible rfl
        rotate_left
        · simp only [Act.put, List.setIfInBounds_toArray, List.set_cons_zero, List.set_cons_succ, i64_w, i32_w]
          rfl
        refine pure_ (i := 4) (N := some 42) (v := ?_) (a' := ?_) #[true, true, true, false, true, false, false, false, false, false, false] rfl rfl (by kernel_rfl) (fun _ _ _ h => h) (Or.inl ⟨by rfl, ?_⟩) ?_ ?_
        rotate_left
        · intro w'
          go_simp
          with_reducible rfl
        rotate_left
        · simp only [Act.put, List.setIfInBounds_toArray, List.set_cons_zero, List.set_cons_succ, i64_w, i32_w]
          rfl
        refine pure_ (i := 5) (N := some 43) (v := ?_) (a' := ?_) #[true, true, true, false, true, true, false, false, false, false, false] rfl rfl (by kernel_rfl) (fun _ _ _ h => h) (Or.inl ⟨by rfl, ?_⟩) ?_ ?_
        rotate_left
        · intro w'
          go_simp
          with_reducible rfl
        rotate_left
        · simp only [Act.put, List.setIfInBounds_toArray, List.set_cons_zero, List.set_cons_succ, i64_w, i32_w]
          rfl
        refine pure_ (i := 7) (N := some 45) (v := ?_) (a' := ?_) #[true, true, true, false, true, true, false, true, false, false, false] rfl rfl (by kernel_rfl) (fun _ _ _ h => h) (Or.inl ⟨by rfl, ?_⟩) ?_ ?_
        rotate_left
        · intro w'
          go_simp
          with_reducible rfl
        rotate_left
        · simp only [Act.put, List.setIfInBounds_toArray, List.set_cons_zero, List.set_cons_succ, i64_w, i32_w]
          rfl
        refine pure_ (i := 8) (N := some 46) (v := ?_) (a' := ?_) #[true, true, true, false, true, true, false, true, true, false, false] rfl rfl (by kernel_rfl) (fun _ _ _ h => h) (Or.inl ⟨by rfl, ?_⟩) ?_ ?_
        rotate_left
        · intro w'
          go_simp
          with_reducible rfl
        rotate_left
        · simp only [Act.put, List.setIfInBounds_toArray, List.set_cons_zero, List.set_cons_succ, i64_w, i32_w]
          rfl
        refine take_ (i := 3) (N := some 41) (v := ?_) (a' := ?_) #[true, true, true, true, true, true, false, true, true, false, false] rfl rfl (by kernel_rfl) (fun _ _ _ h => h) (Or.inl ⟨by rfl, ?_⟩) hHeld ?_ ?_
        rotate_left
        · intro w' s0
          go_simp
          with_reducible rfl
        rotate_left
        · simp only [Act.put, List.setIfInBounds_toArray, List.set_cons_zero, List.set_cons_succ, i64_w, i32_w]
          rfl
        refine one_ (i := 6) (N := some 44) #[true, true, true, true, true, true, true, true, true, false, false] rfl rfl (by kernel_rfl) (by decide) (fun K hK => ?_)
        refine goes_ Try.func37 (by kernel_rfl) rfl #[.pointer (some ⟨g, 0, none⟩), .slice Ak (List.length key) ck] (by rfl) rfl rfl (by simp only [List.map_toArray, List.map_cons, List.map_nil]; rfl) ?_
        with_reducible refine (HPR.out).mono ?_
        rintro e w8 ⟨rfl, hb8⟩
        refine ⟨_, rfl, ?_⟩
        have HB8 := Aside0.mk (below_step (below_drew1 (Below.refl wr.heap.size wr)) hb8)
        have HP8 := Aside0.mk (Kd.R_below HP.out HB8.out)
        obtain ⟨hs8, hf8⟩ := Kd.R_celln (0 : Int) HP8.out (a : Int) (by omega) (by have := HAL.out; omega)
        rw [Int.toNat_natCast] at hs8 hf8
        rw [HAE.out]
        clear hb8
        refine hK.out _ _ ((HGC.out _ HB8.out)) (fun hHeld => ?_)
        clear hK K
        refine norm_ (a' := ?_) ?_ ?_
        rotate_left
        · show Act.put _ (some 44) _ = _
          simp only [Act.put, List.setIfInBounds_toArray, List.set_cons_zero, List.set_cons_succ, i64_w, i32_w]
          rfl
        refine pure_ (i := 9) (N := some 47) (v := ?_) (a' := ?_) #[true, true, true, true, true, true, true, true, true, true, false] rfl rfl (by kernel_rfl) (fun _ _ _ h => h) (Or.inl ⟨by rfl, ?_⟩) ?_ ?_
        rotate_left
        · intro w'
          go_simp
          with_reducible rfl
        rotate_left
        · simp only [Act.put, List.setIfInBounds_toArray, List.set_cons_zero, List.set_cons_succ, i64_w, i32_w]
          rfl
        refine last_ (i := 10) (N := none) #[true, true, true, true, true, true, true, true, true, true, true] rfl rfl (by kernel_rfl) (by decide) (fun K hK => ?_)
        refine skip_ (w1 := ?_) (by rfl) rfl ?_ ?_
        rotate_left
        · go_simp
          rfl
        refine hK.out _ _ ?_
        clear hK K
        refine done_ (by kernel_rfl) ?_
        go_wp2_with fail
        obtain ⟨gP', cP', eP, gb8, gl8, cells8, hc8⟩ := Kd.R_form HP8.out (by have := HAL.out; omega)
        injection eP with eP1 _ eP2
        injection eP1 with eP1
        injection eP1 with eP1
        subst eP1 eP2
        have HC8 := Aside0.mk hc8
        have HG8 := Aside0.mk ((HB8.out.block g (blk_lt HG.out)).trans HG.out)
        have HK8 := Aside0.mk (Kd.R_below HK.out HB8.out)
        have HF8 := Aside0.mk (HF.out.trans (Fr.of_below HB8.out (Nat.le_trans HLO.out HF.out.below.size)))
        have HGB8 := Aside0.mk gb8
        clear hc8 gb8 gl8
        go_roundg k1
        case measure => omega
        case rel =>
          refine ⟨i + 1, pl'.set a ((i + 1 : Nat) : Int), by first | rfl | (rw [HI1.out]), ⟨by have := HJ.out; omega⟩, ⟨by rw [List.length_set]; exact HPN.out⟩, HEN, ⟨?_⟩, ⟨?_⟩, ⟨?_⟩, ⟨?_⟩⟩
          · rw [List.length_set]
            exact blk_other HC8.out HG8.out (fun cs' e => by injection e with _ e; exact absurd e (by decide)) a _
          · rw [List.length_set]
            have h9 := (Kd.R_putg HP8.out (a : Int) ((i + 1 : Nat) : Int)).1
            rw [Int.toNat_natCast] at h9
            exact h9
          · exact Kd.R_set HK8.out HC8.out (by decide) a _
          · exact HF8.out.set (HP8.out.1 gP rfl) HGB8.out
end Go.Proofs.Ytcbjkejboegmlaa.HW
end
section
/- group.table: number. -/
set_option linter.unusedVariables false
set_option linter.unusedSimpArgs false
namespace Go.Proofs.Ytcbjkejboegmlaa.HW
open Go.RowKit Go.Proofs.Ytcbjkejboegmlaa.P Go.Proofs.Ytcbjkejboegmlaa.HP Go.Proofs.YtcbjkejboegmlaaW.PrintWords Go.Proofs.YtcbjkejboegmlaaW.PrintLast Go.Proofs.YtcbjkejboegmlaaW.PrintMore
attribute [local go_sem] max2_int min2_int max_two min_two max_three min_three max_four min_four
theorem Inv.slot {pl : List Int} {ks : List Key} {m : Nat} (h : Inv pl ks m) {a : Nat} (ha : a < pl.length) : rdOf (0 : Int) pl (a : Int) = pl.getD a 0 := by simp [rdOf]
theorem distinct_more {ks : List Key} {key : Key} (h : Distinct ks) (hn : ∀ j, j < ks.length → ks.getD j [] ≠ key) : Distinct (ks ++ [key]) := by
  intro i j hij hj
  rw [List.length_append, List.length_singleton] at hj
  rcases Nat.lt_or_ge j ks.length with h1 | h1
  · rw [getD_app (by omega), getD_app h1]
    exact h i j hij h1
  · obtain rfl : j = ks.length := by omega
    rw [getD_app hij, show (ks ++ [key]).getD ks.length [] = key by simp [List.getD_eq_getElem?_getD]]
    exact hn i hij
theorem getD_last (ks : List Key) (key : Key) : (ks ++ [key]).getD ks.length [] = key := by simp [List.getD_eq_getElem?_getD]
set_option maxHeartbeats 8000000 in
set_option maxRecDepth 100000 in
theorem Number_ (lo g : Nat) (ok okk : Nat → Prop) (pl : List Int) (ks : List Key) (vk : Value) (key : Key) (w : World) (hT : Tab lo ok w g pl ks) (hlo : lo ≤ w.heap.size) (hok : ∀ k, w.heap.size ≤ k → ok k) (hi : InvT pl ks) (hks : ks.length ≤ 1000) (hsz : ∀ k ∈ ks, k.length ≤ 1000000 ∧ ∀ x ∈ k, x.f1.size ≤ 1000000)
    (hY : Kd.R k43 43 w lo okk vk key) (hno : ∀ k, okk k → ¬ ok k) (hkl : key.length ≤ 1000000 ∧ ∀ x ∈ key, x.f1.size ≤ 1000000) :
    Calls Try.prog 30 #[.pointer (some ⟨g, 0, none⟩), vk] w fun e w' => ∃ (r : Nat) (pl' : List Int) (ks' : List Key), e = .returned (.int .i64 (r : Int)) ∧ r < ks'.length ∧ ks'.getD r [] = key ∧ (ks' = ks ∨ ks' = ks ++ [key]) ∧ InvT pl' ks' ∧ Tab lo (fun k => ok k ∨ okk k) w' g pl' ks' ∧ Fr lo ok w w' := by
  obtain ⟨Ak, ck, rfl, hck, hCk⟩ := Kd.R_reads hY
  have HLO := Aside0.mk hlo
  have HOK := Aside0.mk hok
  have HI := Aside0.mk hi
  have HKS := Aside0.mk hks
  have HSZ := Aside0.mk hsz
  have HY := Aside0.mk hY
  have HNO := Aside0.mk hno
  have HKL := Aside0.mk hkl
  have HCK := Aside0.mk hck
  have HGW := Aside0.mk (Grow_ lo g ok pl ks w hT hlo hok hi hks hsz)
  clear hck hCk hT hlo hok hi hks hsz hY hno hkl
  go_enter Try.func30, Try.ntmps30
  go_wp2_with fail
  refine HGW.out.mono ?_
  rintro e w1 ⟨rfl, pl1, hT1, hI1, hN1, hF1⟩
  have hY1 : Kd.R k43 43 w1 lo okk (.slice Ak (List.length key) ck) key := Kd.R_step HY.out (fun k hk hlt => hF1.rest k hlt (HNO.out k hk))
  obtain ⟨hg1, hg2, vP, vK, hg, hP, hK⟩ := hT1
  have hpos := hI1.pos
  obtain ⟨AP, cP, rfl, hcP, hCP⟩ := Kd.R_reads hP
  obtain ⟨gP, cP', eP, gb8, gl8, cells8, hc8⟩ := Kd.R_form hP hpos
  injection eP with eP1 _ eP2
  subst eP1 eP2
  obtain ⟨AK, cK, rfl, hcK, hCK⟩ := Kd.R_reads hK
  obtain ⟨Ak', ck', ek, hck, hCk⟩ := Kd.R_reads hY1
  injection ek with ek1 _ ek2
  subst ek1 ek2
  obtain ⟨d, hfd, hor⟩ := hI1.probe (by omega) key
  have hal : (startN key pl1.length + d) % pl1.length < pl1.length := Nat.mod_lt _ hpos
  have HPR := Aside0.mk (Probe_ g pl1 ks key (some ⟨gP, 0, none⟩) AK Ak cP cK ck ks.length d w1 hg hCP hcP hCK hcK hCk hck HKL.out.2 (fun k hk => (HSZ.out k hk).1) hI1 hfd)
  have HF1 := Aside0.mk hF1
  have HI1 := Aside0.mk hI1
  have HN1 := Aside0.mk hN1
  have HFD := Aside0.mk hfd
  obtain ⟨a, ha⟩ : ∃ a, a = (startN key pl1.length + d) % pl1.length := ⟨_, rfl⟩
  have HAE := Aside0.mk ha
  rw [← ha] at hal hor HPR
  have HAL := Aside0.mk hal
  have HGG := Aside0.mk (And.intro hg1 hg2)
  have HG1 := Aside0.mk hg
  have HP1 := Aside0.mk hP
  have HK1 := Aside0.mk hK
  have HY1 := Aside0.mk hY1
  have HC1 := Aside0.mk hc8
  have HGP := Aside0.mk gb8
  clear HGW hY1 hg1 hg2 hg hP hK hpos hcP hCP hcK hCK hck hCk hF1 hI1 hN1 hfd gb8 gl8 hc8 ha
  go_wp2_with fail
  refine HPR.out.mono ?_
  rintro e w2 ⟨rfl, hb2⟩
  have HB2 := Aside0.mk hb2
  have HGB2 := Aside0.mk ((hb2.block g (blk_lt HG1.out)).trans HG1.out)
  have HK2 := Aside0.mk (Kd.R_below HK1.out hb2)
  have HP2 := Aside0.mk (Kd.R_below HP1.out hb2)
  have HY2 := Aside0.mk (Kd.R_below HY1.out hb2)
  have HC2 := Aside0.mk ((hb2.block gP (blk_lt HC1.out)).trans HC1.out)
  have HF2 := Aside0.mk (HF1.out.trans (Fr.of_below hb2 (Nat.le_trans HLO.out HF1.out.below.size)))
  have hcg0 := blk_cell HGB2.out 0
  have hcg1 := blk_cell HGB2.out 1
  simp only [List.getElem?_toArray, List.getElem?_cons_zero, List.getElem?_cons_succ] at hcg0 hcg1
  obtain ⟨hs2, hf2⟩ := Kd.R_celln (0 : Int) HP2.out (a : Int) (by omega) (by omega)
  rw [Int.toNat_natCast, HI1.out.slot hal] at hs2
  rw [Int.toNat_natCast] at hf2
  have p1 : ((0 : Int) ≤ (a : Int)) = True := eq_true (by omega)
  have q1 : ((a : Int) < (pl1.length : Int)) = True := eq_true (by omega)
  have q1n : (a < pl1.length) = True := eq_true hal
  clear hb2 HB2 HK1 HP1 HY1 HC1 HPR hal hf2
  rcases hor with ⟨j, hj, hje, hz⟩ | ⟨hnew, hz⟩
  · rw [hz] at hs2
    obtain ⟨X, hX⟩ : ∃ X : Int, X = ((j + 1 : Nat) : Int) := ⟨_, rfl⟩
    rw [← hX] at hs2
    have t0 : (X == 0) = false := beq_eq_false_iff_ne.2 (by omega)
    have hwX : wrap64 (X - 1) = (j : Int) := by rw [hX]; unfold wrap64; have := HKS.out; omega
    have HJ := Aside0.mk (And.intro hj hje)
    clear hX hj hje hz
    go_wp2_with fail
    go_ret
    exact ⟨j, pl1, ks, by rw [hwX]; rfl, HJ.out.1, HJ.out.2, .inl rfl, ⟨HI.out.1, .inr ⟨HI1.out, by have := HN1.out; omega⟩⟩, ⟨HGG.out.1, .inl HGG.out.2, _, _, HGB2.out, Kd.R_mono HP2.out (fun k hk => .inl hk), Kd.R_mono HK2.out (fun k hk => .inl hk)⟩, HF2.out⟩
  · rw [hz] at hs2
    have HNEW := Aside0.mk hnew
    have HZ := Aside0.mk hz
    clear hnew hz
    go_wp2_with (first | ((with_reducible refine gate_builtin (b := .append) (xs := #[.tmp 23, .tmp 25]) rfl ?_); at_builtin; refine Kd.R_append (Kd.slice 43 k43) (w0 := w) lo rfl (.tmp 23) (.tmp 25) 22 38 (.slice none 0 0) 24 rfl Try.underlying22 info38 rfl (by decide) (by omega) (.slice AK ks.length cK) ks key [.slice Ak (List.length key) ck] (fun k => ok k ∨ okk k) okk rfl rfl ?aP ?aK ?aF ?aO ?aB ?aS ?aL ?_; (case aP => exact ⟨_, rfl, HY2.out⟩); (case aK => exact (fun k hk => ⟨.inr hk, fun e => HNO.out k hk (HK2.out.1 k e.symm)⟩)); (case aF => exact (fun k hk => .inl (HOK.out k (by have := HF2.out.below.size; omega)))); (case aO => exact Kd.R_mono HK2.out (fun k hk => .inl hk)); (case aB => exact HF2.out.below); (case aS => have h9 := HF2.out.below.size; have h8 := HLO.out; omega); (case aL => have := HKS.out; omega); intro v3 w3 ho hb hg hat; obtain ⟨Ao, co, eo⟩ := Kd.R_slice ho; rw [show (ks ++ [key]).length = ks.length + 1 by simp] at eo; subst eo; have hgb := (hg.block g (blk_lt HGB2.out) (Kd.R_ne HK2.out HGB2.out (by decide))).trans HGB2.out; have hcg1' := blk_cell hgb 1; simp only [List.getElem?_toArray, List.getElem?_cons_zero, List.getElem?_cons_succ] at hcg1'; have hfg1' : w3.frozen? ⟨g, 1, none⟩ = false := blk_frozen hgb _; have HGB3 := Aside0.mk hgb; have HO3 := Aside0.mk ho; have HB3 := Aside0.mk hb; have HGR3 := Aside0.mk hg; clear hgb ho hb hg hat))
    obtain ⟨u, hu⟩ : ∃ U, U = w3.setCell ⟨g, 1, none⟩ (.slice Ao (ks.length + 1) co) := ⟨_, rfl⟩
    rw [← hu]
    have hgu : u.heap[g]? = some (.cells #[.slice (some ⟨gP, 0, none⟩) pl1.length cP, .slice Ao (ks.length + 1) co] 60 (0, 0)) := by rw [hu]; exact blk_putj HGB3.out 1 _
    have hP3 : Kd.R (Kd.int .i64) 3 w3 lo ok (.slice (some ⟨gP, 0, none⟩) pl1.length cP) pl1 := Kd.R_mono (Kd.R_grown (Kd.R_apart' HP2.out (Kd.R_typed HK2.out) (by decide)) HGR3.out (fun k hk => hk.2)) (fun k hk => hk.1)
    have hPu : Kd.R (Kd.int .i64) 3 u lo ok (.slice (some ⟨gP, 0, none⟩) pl1.length cP) pl1 := by rw [hu]; exact Kd.R_set hP3 HGB3.out (by decide) 1 _
    have hKu : Kd.R (Kd.slice 43 k43) 38 u lo (fun k => ok k ∨ okk k) (.slice Ao (ks.length + 1) co) (ks ++ [key]) := by rw [hu]; exact Kd.R_set HO3.out HGB3.out (by decide) 1 _
    have hCu : ∃ cs, u.heap[gP]? = some (.cells cs 3 (0, 0)) := by
      obtain ⟨_, _, e9, _, _, cs, hcs⟩ := Kd.R_form hPu (by have := HAL.out; omega)
      injection e9 with e9 _ _
      injection e9 with e9
      injection e9 with e9
      exact ⟨cs, by rw [e9]; exact hcs⟩
    obtain ⟨csu, hcsu⟩ := hCu
    have hFu : Fr lo ok w u := by
      rw [hu]
      exact Fr.set ⟨HB3.out, fun k hk ho => (HGR3.out.block k (by have := HF2.out.below.size; omega) (fun e => ho (HK2.out.1 k e.symm))).trans (HF2.out.rest k hk ho)⟩ HGG.out.2 HGG.out.1
    obtain ⟨hs3, hf3⟩ := Kd.R_celln (0 : Int) hPu (a : Int) (by omega) (by have := HAL.out; omega)
    rw [Int.toNat_natCast, HI1.out.slot HAL.out, HZ.out] at hs3
    rw [Int.toNat_natCast] at hf3
    have hs3 : u.drew.cell? ⟨gP, a, none⟩ = some (.int .i64 0) := hs3
    have hf3 : u.drew.frozen? ⟨gP, a, none⟩ = false := hf3
    have hg0 := blk_cell hgu 0
    have hg1 := blk_cell hgu 1
    simp only [List.getElem?_toArray, List.getElem?_cons_zero, List.getElem?_cons_succ] at hg0 hg1
    have HC30 : Aside0 (u.drew.cell? ⟨g, 0, none⟩ = some (.slice (some ⟨gP, 0, none⟩) pl1.length cP)) := ⟨hg0⟩
    have HC31 : Aside0 (u.drew.cell? ⟨g, 1, none⟩ = some (.slice Ao (ks.length + 1) co)) := ⟨hg1⟩
    have HGU := Aside0.mk hgu
    have HPU := Aside0.mk hPu
    have HKU := Aside0.mk hKu
    have HFU := Aside0.mk hFu
    have HCU := Aside0.mk hcsu
    clear hu hgu hP3 hPu hKu hFu hcsu hg0 hg1 hcg0 hcg1 hs2 hcg1' hfg1' HGB3 HO3 HB3 HGR3
    refine start_ (n := 12) (S := fun w' => w'.cell? ⟨g, 0, none⟩ = some (.slice (some ⟨gP, 0, none⟩) pl1.length cP) ∧ w'.cell? ⟨g, 1, none⟩ = some (.slice Ao (ks.length + 1) co)) (ds := [11]) #[false, false, false, false, false, false, false, false, false, false, false, false] (by kernel_rfl) rfl rfl ⟨HC30.out, HC31.out⟩ (fun hHeld => ?_)
    refine pure_ (i := 0) (N := some 29) (v := ?_) (a' := ?_) #[true, false, false, false, false, false, false, false, false, false, false, false] rfl rfl (by kernel_rfl) (fun _ _ _ h => h) (Or.inl ⟨by rfl, ?_⟩) ?_ ?_
    rotate_left
    · intro w'
      go_simp
      with_reducible rfl
    rotate_left
    · simp only [Act.put, List.setIfInBounds_toArray, List.set_cons_zero, List.set_cons_succ, i64_w, i32_w]
      rfl
    refine pure_ (i := 1) (N := some 30) (v := ?_) (a' := ?_) #[true, true, false, false, false, false, false, false, false, false, false, false] rfl rfl (by kernel_rfl) (fun _ _ _ h => h) (Or.inl ⟨by rfl, ?_⟩) ?_ ?_
    rotate_left
    · intro w'
      go_simp
      with_reducible rfl
    rotate_left
    · simp only [Act.put, List.setIfInBounds_toArray, List.set_cons_zero, List.set_cons_succ, i64_w, i32_w]
      rfl
    refine pure_ (i := 2) (N := some 31) (v := ?_) (a' := ?_) #[true, true, true, false, false, false, false, false, false, false, false, false] rfl rfl (by kernel_rfl) (fun _ _ _ h => h) (Or.inl ⟨by rfl, ?_⟩) ?_ ?_
    rotate_left
    · intro w'
      go_simp
      with_reducible rfl
    rotate_left
    · simp only [Act.put, List.setIfInBounds_toArray, List.set_cons_zero, List.set_cons_succ, i64_w, i32_w]
      rfl
    refine pure_ (i := 4) (N := some 33) (v := ?_) (a' := ?_) #[true, true, true, false, true, false, false, false, false, false, false, false] rfl rfl (by kernel_rfl) (fun _ _ _ h => h) (Or.inl ⟨by rfl, ?_⟩) ?_ ?_
    rotate_left
    · intro w'
      go_simp
      with_reducible rfl
    rotate_left
    · simp only [Act.put, List.setIfInBounds_toArray, List.set_cons_zero, List.set_cons_succ, i64_w, i32_w]
      rfl
    refine pure_ (i := 5) (N := some 34) (v := ?_) (a' := ?_) #[true, true, true, false, true, true, false, false, false, false, false, false] rfl rfl (by kernel_rfl) (fun _ _ _ h => h) (Or.inl ⟨by rfl, ?_⟩) ?_ ?_
    rotate_left
    · intro w'
      go_simp
      with_reducible rfl
    rotate_left
    · simp only [Act.put, List.setIfInBounds_toArray, List.set_cons_zero, List.set_cons_succ, i64_w, i32_w]
      rfl
    refine pure_ (i := 6) (N := some 35) (v := ?_) (a' := ?_) #[true, true, true, false, true, true, true, false, false, false, false, false] rfl rfl (by kernel_rfl) (fun _ _ _ h => h) (Or.inl ⟨by rfl, ?_⟩) ?_ ?_
    rotate_left
    · intro w'
      go_simp
      with_reducible rfl
    rotate_left
    · simp only [Act.put, List.setIfInBounds_toArray, List.set_cons_zero, List.set_cons_succ, i64_w, i32_w]
      rfl
    refine pure_ (i := 7) (N := some 36) (v := ?_) (a' := ?_) #[true, true, true, false, true, true, true, true, false, false, false, false] rfl rfl (by kernel_rfl) (fun _ _ _ h => h) (Or.inl ⟨by rfl, ?_⟩) ?_ ?_
    rotate_left
    · intro w'
      go_simp
      with_reducible rfl
    rotate_left
    · simp only [Act.put, List.setIfInBounds_toArray, List.set_cons_zero, List.set_cons_succ, i64_w, i32_w]
      rfl
    refine take_ (i := 3) (N := some 32) (v := ?_) (a' := ?_) #[true, true, true, true, true, true, true, true, false, false, false, false] rfl rfl (by kernel_rfl) (fun _ _ _ h => h) (Or.inl ⟨by rfl, ?_⟩) hHeld ?_ ?_
    rotate_left
    · rintro w' ⟨s0, s1⟩
      go_simp
      with_reducible rfl
    rotate_left
    · simp only [Act.put, List.setIfInBounds_toArray, List.set_cons_zero, List.set_cons_succ, i64_w, i32_w]
      rfl
    refine take_ (i := 8) (N := some 37) (v := ?_) (a' := ?_) #[true, true, true, true, true, true, true, true, true, false, false, false] rfl rfl (by kernel_rfl) (fun _ _ _ h => h) (Or.inl ⟨by rfl, ?_⟩) hHeld ?_ ?_
    rotate_left
    · rintro w' ⟨s0, s1⟩
      go_simp
      with_reducible rfl
    rotate_left
    · simp only [Act.put, List.setIfInBounds_toArray, List.set_cons_zero, List.set_cons_succ, i64_w, i32_w]
      rfl
    refine pure_ (i := 9) (N := some 38) (v := ?_) (a' := ?_) #[true, true, true, true, true, true, true, true, true, true, false, false] rfl rfl (by kernel_rfl) (fun _ _ _ h => h) (Or.inl ⟨by rfl, ?_⟩) ?_ ?_
    rotate_left
    · intro w'
      go_simp
      with_reducible rfl
    rotate_left
    · simp only [Act.put, List.setIfInBounds_toArray, List.set_cons_zero, List.set_cons_succ, i64_w, i32_w]
      rfl
    refine pure_ (i := 10) (N := some 39) (v := ?_) (a' := ?_) #[true, true, true, true, true, true, true, true, true, true, true, false] rfl rfl (by kernel_rfl) (fun _ _ _ h => h) (Or.inl ⟨by rfl, ?_⟩) ?_ ?_
    rotate_left
    · intro w'
      go_simp
      with_reducible rfl
    rotate_left
    · simp only [Act.put, List.setIfInBounds_toArray, List.set_cons_zero, List.set_cons_succ, i64_w, i32_w]
      rfl
    refine last_ (i := 11) (N := none) #[true, true, true, true, true, true, true, true, true, true, true, true] rfl rfl (by kernel_rfl) (by decide) (fun K hK => ?_)
    refine skip_ (w1 := ?_) (by rfl) rfl ?_ ?_
    rotate_left
    · go_simp
      rfl
    refine hK.out _ _ ?_
    clear hK K
    refine done_ (by kernel_rfl) ?_
    obtain ⟨X, hX⟩ : ∃ X : Int, X = (ks.length : Int) + 1 := ⟨_, rfl⟩
    rw [← hX]
    obtain ⟨v, hv⟩ : ∃ U, U = u.setCell ⟨gP, a, none⟩ (.int .i64 X) := ⟨_, rfl⟩
    rw [← hv]
    have hg4 : v.heap[g]? = some (.cells #[.slice (some ⟨gP, 0, none⟩) pl1.length cP, .slice Ao (ks.length + 1) co] 60 (0, 0)) := by rw [hv]; exact blk_other HCU.out HGU.out (fun cs' e => by injection e with _ e; exact absurd e (by decide)) a _
    have hP4 : Kd.R (Kd.int .i64) 3 v lo ok (.slice (some ⟨gP, 0, none⟩) pl1.length cP) (pl1.set a X) := by
      have h9 := (Kd.R_putg HPU.out (a : Int) X).1
      rw [Int.toNat_natCast] at h9
      rw [hv]
      exact h9
    have hK4 : Kd.R (Kd.slice 43 k43) 38 v lo (fun k => ok k ∨ okk k) (.slice Ao (ks.length + 1) co) (ks ++ [key]) := by rw [hv]; exact Kd.R_set HKU.out HCU.out (by decide) a _
    have hF4 : Fr lo ok w v := by rw [hv]; exact HFU.out.set (HPU.out.1 gP rfl) HGP.out
    obtain ⟨hs4, _⟩ := Kd.R_celln (0 : Int) hP4 (a : Int) (by omega) (by have := HAL.out; omega)
    rw [Int.toNat_natCast, show rdOf (0 : Int) (pl1.set a X) (a : Int) = X from by rw [show rdOf (0 : Int) (pl1.set a X) (a : Int) = (pl1.set a X).getD a 0 by simp [rdOf]]; exact getD_set_eq X HAL.out] at hs4
    have hg0 := blk_cell hg4 0
    simp only [List.getElem?_toArray, List.getElem?_cons_zero, List.getElem?_cons_succ] at hg0
    have hwX : wrap64 (X - 1) = (ks.length : Int) := by rw [hX]; unfold wrap64; have := HKS.out; omega
    have hen := (HI1.out.more key).enter (d := d) (by simp) (by rw [getD_last]; exact HI1.out.found_more key key d HFD.out) (by intro j hj; rw [getD_last, getD_app hj]; exact HNEW.out j hj) (by rw [getD_last, ← HAE.out]; exact HZ.out)
    rw [getD_last, ← HAE.out, show ((ks.length + 1 : Nat) : Int) = X by rw [hX]; omega] at hen
    have HEN := Aside0.mk hen
    have HG4 := Aside0.mk hg4
    have HP4 := Aside0.mk hP4
    have HK4 := Aside0.mk hK4
    have HF4 := Aside0.mk hF4
    clear hv hX hg4 hP4 hK4 hF4 hen hs3 hf3 HC30 HC31 HGU HPU HKU HFU HCU
    go_wp2_with fail
    go_ret
    refine ⟨ks.length, pl1.set a X, ks ++ [key], by rw [hwX]; rfl, by simp, getD_last ks key, .inr rfl, ⟨distinct_more HI.out.1 HNEW.out, .inr ⟨?_, ?_⟩⟩, ⟨HGG.out.1, .inl HGG.out.2, .slice (some ⟨gP, 0, none⟩) pl1.length cP, .slice Ao (ks.length + 1) co, HG4.out, Kd.R_drew (Kd.R_mono HP4.out (fun k hk => .inl hk)), Kd.R_drew HK4.out⟩, ⟨below_drew HF4.out.below, HF4.out.rest⟩⟩
    · rw [List.length_append, List.length_singleton]
      exact HEN.out
    · rw [List.length_append, List.length_singleton, List.length_set]
      exact HN1.out
end Go.Proofs.Ytcbjkejboegmlaa.HW
end
