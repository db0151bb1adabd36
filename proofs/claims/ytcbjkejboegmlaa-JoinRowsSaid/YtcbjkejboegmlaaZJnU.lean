import Derived.Test.YtcbjkejboegmlaaZJnT
/- group.table: grow, number. -/
set_option linter.unusedVariables false
set_option linter.unusedSimpArgs false
namespace Go.Proofs.Ytcbjkejboegmlaa.HW
open Go.RowKit Go.Proofs.Ytcbjkejboegmlaa.P Go.Proofs.Ytcbjkejboegmlaa.HP Go.Proofs.YtcbjkejboegmlaaW.PrintWords Go.Proofs.YtcbjkejboegmlaaW.PrintLast Go.Proofs.YtcbjkejboegmlaaW.PrintMore
attribute [local go_sem] max2_int min2_int max_two min_two max_three min_three max_four min_four
/-- A table in memory: its blocks are ok. -/
def Tab (lo : Nat) (ok : Nat → Prop) (w : World) (g : Nat) (pl : List Int) (ks : List Key) : Prop :=
  lo ≤ g ∧ ok g ∧ ∃ vP vK : Value, w.heap[g]? = some (.cells #[vP, vK] 60 (0, 0)) ∧ Kd.R (Kd.int .i64) 3 w lo ok vP pl ∧ Kd.R (Kd.slice 43 k43) 38 w lo ok vK ks
/-- Nothing below lo has turned, and of the blocks that were there none that is not ok. -/
structure Fr (lo : Nat) (ok : Nat → Prop) (w w' : World) : Prop where
  below : Below lo w w'
  rest : ∀ k, k < w.heap.size → ¬ ok k → w'.heap[k]? = w.heap[k]?
theorem Fr.refl (lo : Nat) (ok : Nat → Prop) (w : World) : Fr lo ok w w := ⟨Below.refl _ _, fun _ _ _ => rfl⟩
theorem Fr.trans {lo : Nat} {ok : Nat → Prop} {a b c : World} (h : Fr lo ok a b) (k : Fr lo ok b c) : Fr lo ok a c :=
  ⟨h.below.trans k.below, fun i hi ho => (k.rest i (by have := h.below.size; omega) ho).trans (h.rest i hi ho)⟩
theorem Fr.of_below {lo : Nat} {ok : Nat → Prop} {w w' : World} (h : Below w.heap.size w w') (hlo : lo ≤ w.heap.size) : Fr lo ok w w' := ⟨h.mono hlo, fun k hk _ => h.block k hk⟩
theorem Fr.set {lo g j : Nat} {ok : Nat → Prop} {w w' : World} {v : Value} (h : Fr lo ok w w') (hg : ok g) (hlo : lo ≤ g) : Fr lo ok w (w'.setCell ⟨g, j, none⟩ v) :=
  ⟨h.below.setCell hlo _, fun k hk ho => (Below.heap_setCell w' ⟨g, j, none⟩ v k (fun e => ho (by rw [e]; exact hg))).trans (h.rest k hk ho)⟩
theorem Tab.below {lo : Nat} {ok : Nat → Prop} {w w' : World} {g : Nat} {pl : List Int} {ks : List Key} (h : Tab lo ok w g pl ks) (hb : Below w.heap.size w w') : Tab lo ok w' g pl ks := by
  obtain ⟨h1, h2, vP, vK, hg, hP, hK⟩ := h
  exact ⟨h1, h2, vP, vK, (hb.block g (blk_lt hg)).trans hg, Kd.R_below hP hb, Kd.R_below hK hb⟩
theorem blk_putj {W : World} {g : Nat} {cs : Array Value} {t : TypeId} (h : W.heap[g]? = some (.cells cs t (0, 0))) (j : Nat) (v : Value) : (W.setCell ⟨g, j, none⟩ v).heap[g]? = some (.cells (cs.setIfInBounds j v) t (0, 0)) := by
  unfold World.setCell
  simp [h, Array.getElem?_modify]
theorem blk_other {W : World} {g g2 t : Nat} {cs : Array Value} (h2 : W.heap[g2]? = some (.cells cs t (0, 0))) {o : Obj} (h : W.heap[g]? = some o) (hne : ∀ cs', o ≠ .cells cs' t (0, 0)) (j : Nat) (v : Value) : (W.setCell ⟨g2, j, none⟩ v).heap[g]? = some o :=
  (Below.heap_setCell W ⟨g2, j, none⟩ v g (fun e => by
    have e : g = g2 := e
    subst e
    rw [h] at h2
    injection h2 with h2
    exact hne cs h2)).trans h
def Distinct (ks : List Key) : Prop := ∀ i j, i < j → j < ks.length → ks.getD i [] ≠ ks.getD j []
def InvT (pl : List Int) (ks : List Key) : Prop := Distinct ks ∧ ((pl = [] ∧ ks = []) ∨ (Inv pl ks ks.length ∧ 2 * ks.length ≤ pl.length))
theorem pow_small {e : Nat} (h : 2 ^ e < 2048) : e < 11 := by
  rcases Nat.lt_or_ge e 11 with h1 | h1
  · exact h1
  · have h2 := Nat.pow_le_pow_right (n := 2) (by decide) h1
    have h3 : (2 : Nat) ^ 11 = 2048 := by decide
    omega
/-- How many places a table has that grows. -/
theorem grow_plain {pl : List Int} {ks : List Key} (hi : InvT pl ks) (hm : ks.length ≤ 1000) (hs : ¬ 2 * (ks.length + 1) ≤ pl.length) :
    ∃ e N, 2 ≤ e ∧ e ≤ 20 ∧ N = 2 ^ e ∧ N = (if 4 < 2 * pl.length then 2 * pl.length else 4) ∧ 2 * (ks.length + 1) ≤ N ∧ N ≤ 4096 ∧ pl.length ≤ 2002 := by
  rcases hi.2 with ⟨rfl, rfl⟩ | ⟨h, hhalf⟩
  · exact ⟨2, 4, by omega, by omega, by decide, by simp, by simp, by omega, by simp⟩
  · obtain ⟨e, h2, _, he⟩ := h.pow
    have h4 := Nat.pow_le_pow_right (n := 2) (by decide) h2
    have hz := h.zeros
    have hc := List.countP_le_length (p := fun x : Int => decide (x = 0)) (l := pl)
    have h11 := pow_small (e := e) (by omega)
    refine ⟨e + 1, 2 * pl.length, by omega, by omega, by rw [he, Nat.pow_succ, Nat.mul_comm], by rw [if_pos (by omega)], ?_, ?_, by omega⟩
    · omega
    · omega
set_option maxHeartbeats 8000000 in
set_option maxRecDepth 100000 in
theorem Grow_ (lo g : Nat) (ok : Nat → Prop) (pl : List Int) (ks : List Key) (w : World) (hT : Tab lo ok w g pl ks) (hlo : lo ≤ w.heap.size) (hok : ∀ k, w.heap.size ≤ k → ok k) (hi : InvT pl ks) (hks : ks.length ≤ 1000) (hsz : ∀ k ∈ ks, k.length ≤ 1000000 ∧ ∀ x ∈ k, x.f1.size ≤ 1000000) :
    Calls Try.prog 36 #[.pointer (some ⟨g, 0, none⟩)] w fun e w' => e = .returned (.tuple #[]) ∧ ∃ pl', Tab lo ok w' g pl' ks ∧ Inv pl' ks ks.length ∧ 2 * (ks.length + 1) ≤ pl'.length ∧ Fr lo ok w w' := by
  have HT := Aside0.mk hT
  obtain ⟨hg1, hg2, vP, vK, hg, hP, hK⟩ := hT
  obtain ⟨AP, cP, rfl, hcP, hCP⟩ := Kd.R_reads hP
  obtain ⟨AK, cK, rfl, hcK, hCK⟩ := Kd.R_reads hK
  have HB := Aside0.mk (Below.refl w.heap.size w)
  have HLO := Aside0.mk hlo
  have HOK := Aside0.mk hok
  have hc0 := blk_cell hg 0
  have hc1 := blk_cell hg 1
  simp only [List.getElem?_toArray, List.getElem?_cons_zero, List.getElem?_cons_succ] at hc0 hc1
  have HG0 : Aside0 (w.drew.cell? ⟨g, 0, none⟩ = some (.slice AP pl.length cP)) := ⟨hc0⟩
  have HG1 : Aside0 (w.drew.cell? ⟨g, 1, none⟩ = some (.slice AK ks.length cK)) := ⟨hc1⟩
  have HKS := Aside0.mk hks
  have HSZ := Aside0.mk hsz
  have HI := Aside0.mk hi
  have HGB := Aside0.mk hg
  have HCK := Aside0.mk hCK
  have HLC := Aside0.mk hcK
  have hf0 : w.frozen? ⟨g, 0, none⟩ = false := blk_frozen hg _
  have HGG := Aside0.mk (And.intro hg1 hg2)
  have HRK := Aside0.mk hK
  obtain ⟨M1, hM1⟩ : ∃ M1 : Int, M1 = ((ks.length + 1 : Nat) : Int) := ⟨_, rfl⟩
  obtain ⟨M2, hM2⟩ : ∃ M2 : Int, M2 = ((2 * (ks.length + 1) : Nat) : Int) := ⟨_, rfl⟩
  have hw1 : wrap64 ((ks.length : Int) + 1) = M1 := by rw [hM1]; unfold wrap64; omega
  have hw2 : wrap64 (2 * M1) = M2 := by rw [hM1, hM2]; unfold wrap64; omega
  by_cases hs : 2 * (ks.length + 1) ≤ pl.length
  · have t1 : decide (M2 ≤ (pl.length : Int)) = true := decide_eq_true (by omega)
    clear hg hP hK hCP hCK hM1 hM2 hlo hok hks hsz hi hc0 hc1 hg1 hg2 hcP hcK
    go_enter Try.func36, Try.ntmps36
    go_wp2_with fail
    refine start_ (n := 13) (S := fun w' => w'.cell? ⟨g, 0, none⟩ = some (.slice AP pl.length cP) ∧ w'.cell? ⟨g, 1, none⟩ = some (.slice AK ks.length cK)) (ds := []) #[false, false, false, false, false, false, false, false, false, false, false, false, false] (by kernel_rfl) rfl rfl ⟨HG0.out, HG1.out⟩ (fun hHeld => ?_)
    refine pure_ (i := 0) (N := some 4) (v := ?_) (a' := ?_) #[true, false, false, false, false, false, false, false, false, false, false, false, false] rfl rfl (by kernel_rfl) (fun _ _ _ h => h) (Or.inl ⟨by rfl, ?_⟩) ?_ ?_
    rotate_left
    · intro w'
      go_simp
      with_reducible rfl
    rotate_left
    · simp only [Act.put, List.setIfInBounds_toArray, List.set_cons_zero, List.set_cons_succ, i64_w, i32_w]
      rfl
    refine pure_ (i := 1) (N := some 5) (v := ?_) (a' := ?_) #[true, true, false, false, false, false, false, false, false, false, false, false, false] rfl rfl (by kernel_rfl) (fun _ _ _ h => h) (Or.inl ⟨by rfl, ?_⟩) ?_ ?_
    rotate_left
    · intro w'
      go_simp
      with_reducible rfl
    rotate_left
    · simp only [Act.put, List.setIfInBounds_toArray, List.set_cons_zero, List.set_cons_succ, i64_w, i32_w]
      rfl
    refine pure_ (i := 2) (N := some 6) (v := ?_) (a' := ?_) #[true, true, true, false, false, false, false, false, false, false, false, false, false] rfl rfl (by kernel_rfl) (fun _ _ _ h => h) (Or.inl ⟨by rfl, ?_⟩) ?_ ?_
    rotate_left
    · intro w'
      go_simp
      with_reducible rfl
    rotate_left
    · simp only [Act.put, List.setIfInBounds_toArray, List.set_cons_zero, List.set_cons_succ, i64_w, i32_w]
      rfl
    refine pure_ (i := 7) (N := some 11) (v := ?_) (a' := ?_) #[true, true, true, false, false, false, false, true, false, false, false, false, false] rfl rfl (by kernel_rfl) (fun _ _ _ h => h) (Or.inl ⟨by rfl, ?_⟩) ?_ ?_
    rotate_left
    · intro w'
      go_simp
      with_reducible rfl
    rotate_left
    · simp only [Act.put, List.setIfInBounds_toArray, List.set_cons_zero, List.set_cons_succ, i64_w, i32_w]
      rfl
    refine pure_ (i := 8) (N := some 12) (v := ?_) (a' := ?_) #[true, true, true, false, false, false, false, true, true, false, false, false, false] rfl rfl (by kernel_rfl) (fun _ _ _ h => h) (Or.inl ⟨by rfl, ?_⟩) ?_ ?_
    rotate_left
    · intro w'
      go_simp
      with_reducible rfl
    rotate_left
    · simp only [Act.put, List.setIfInBounds_toArray, List.set_cons_zero, List.set_cons_succ, i64_w, i32_w]
      rfl
    refine pure_ (i := 9) (N := some 13) (v := ?_) (a' := ?_) #[true, true, true, false, false, false, false, true, true, true, false, false, false] rfl rfl (by kernel_rfl) (fun _ _ _ h => h) (Or.inl ⟨by rfl, ?_⟩) ?_ ?_
    rotate_left
    · intro w'
      go_simp
      with_reducible rfl
    rotate_left
    · simp only [Act.put, List.setIfInBounds_toArray, List.set_cons_zero, List.set_cons_succ, i64_w, i32_w]
      rfl
    refine take_ (i := 3) (N := some 7) (v := ?_) (a' := ?_) #[true, true, true, true, false, false, false, true, true, true, false, false, false] rfl rfl (by kernel_rfl) (fun _ _ _ h => h) (Or.inl ⟨by rfl, ?_⟩) hHeld ?_ ?_
    rotate_left
    · rintro w' ⟨s0, s1⟩
      go_simp
      with_reducible rfl
    rotate_left
    · simp only [Act.put, List.setIfInBounds_toArray, List.set_cons_zero, List.set_cons_succ, i64_w, i32_w]
      rfl
    refine pure_ (i := 4) (N := some 8) (v := ?_) (a' := ?_) #[true, true, true, true, true, false, false, true, true, true, false, false, false] rfl rfl (by kernel_rfl) (fun _ _ _ h => h) (Or.inl ⟨by rfl, ?_⟩) ?_ ?_
    rotate_left
    · intro w'
      go_simp
      with_reducible rfl
    rotate_left
    · simp only [Act.put, List.setIfInBounds_toArray, List.set_cons_zero, List.set_cons_succ, i64_w, i32_w]
      rfl
    refine pure_ (i := 5) (N := some 9) (v := ?_) (a' := ?_) #[true, true, true, true, true, true, false, true, true, true, false, false, false] rfl rfl (by kernel_rfl) (fun _ _ _ h => h) (Or.inl ⟨by rfl, ?_⟩) ?_ ?_
    rotate_left
    · intro w'
      go_simp
      with_reducible rfl
    rotate_left
    · simp only [Act.put, List.setIfInBounds_toArray, List.set_cons_zero, List.set_cons_succ, i64_w, i32_w]
      rfl
    refine pure_ (i := 6) (N := some 10) (v := ?_) (a' := ?_) #[true, true, true, true, true, true, true, true, true, true, false, false, false] rfl rfl (by kernel_rfl) (fun _ _ _ h => h) (Or.inl ⟨by rfl, ?_⟩) ?_ ?_
    rotate_left
    · intro w'
      go_simp
      with_reducible rfl
    rotate_left
    · simp only [Act.put, List.setIfInBounds_toArray, List.set_cons_zero, List.set_cons_succ, i64_w, i32_w]
      rfl
    refine take_ (i := 10) (N := some 14) (v := ?_) (a' := ?_) #[true, true, true, true, true, true, true, true, true, true, true, false, false] rfl rfl (by kernel_rfl) (fun _ _ _ h => h) (Or.inl ⟨by rfl, ?_⟩) hHeld ?_ ?_
    rotate_left
    · rintro w' ⟨s0, s1⟩
      go_simp
      with_reducible rfl
    rotate_left
    · simp only [Act.put, List.setIfInBounds_toArray, List.set_cons_zero, List.set_cons_succ, i64_w, i32_w]
      rfl
    refine pure_ (i := 11) (N := some 15) (v := ?_) (a' := ?_) #[true, true, true, true, true, true, true, true, true, true, true, true, false] rfl rfl (by kernel_rfl) (fun _ _ _ h => h) (Or.inl ⟨by rfl, ?_⟩) ?_ ?_
    rotate_left
    · intro w'
      go_simp
      with_reducible rfl
    rotate_left
    · simp only [Act.put, List.setIfInBounds_toArray, List.set_cons_zero, List.set_cons_succ, i64_w, i32_w]
      rfl
    refine pure_ (i := 12) (N := some 16) (v := ?_) (a' := ?_) #[true, true, true, true, true, true, true, true, true, true, true, true, true] rfl rfl (by kernel_rfl) (fun _ _ _ h => h) (Or.inl ⟨by rfl, ?_⟩) ?_ ?_
    rotate_left
    · intro w'
      go_simp
      with_reducible rfl
    rotate_left
    · simp only [Act.put, List.setIfInBounds_toArray, List.set_cons_zero, List.set_cons_succ, i64_w, i32_w]
      rfl
    refine done_ (by kernel_rfl) ?_
    go_wp2_with fail
    refine bodyPost_ret (results_none rfl _ _ _) rfl ⟨rfl, pl, ?_, ?_, hs, Fr.of_below (by repeat (first | exact HB.out | apply pw_below_drewN | apply below_drew1)) HLO.out⟩
    · exact Tab.below HT.out (by repeat (first | exact HB.out | apply pw_below_drewN | apply below_drew1))
    · rcases HI.out.2 with ⟨h1, h2⟩ | ⟨h, _⟩
      · rw [h1] at hs; simp at hs
      · exact h
  · obtain ⟨e, N, he2, he20, hN, hNi, hN2, hNb, hpl⟩ := grow_plain hi hks hs
    obtain ⟨N2, hN2'⟩ : ∃ N2 : Int, N2 = ((2 * pl.length : Nat) : Int) := ⟨_, rfl⟩
    have t1 : decide (M2 ≤ (pl.length : Int)) = false := decide_eq_false (by omega)
    have hw3 : wrap64 (2 * (pl.length : Int)) = N2 := by rw [hN2']; unfold wrap64; omega
    have hmx : (if (4 : Int) < N2 then N2 else 4) = (N : Int) := by rw [hN2', hNi]; split <;> split <;> omega
    have HNB : Aside0 (N ≤ 4096) := ⟨hNb⟩
    have HNP : Aside0 (0 < N) := ⟨by omega⟩
    have HNE := Aside0.mk hN
    have HE := Aside0.mk (And.intro he2 he20)
    have HN2 := Aside0.mk hN2
    clear hg hP hK hCP hCK hM1 hM2 hlo hok hks hsz hi hg1 hg2 hcP hcK hs he2 he20 hN hNi hN2 hNb hpl hN2'
    go_enter Try.func36, Try.ntmps36
    go_wp2_with fail
    refine start_ (n := 13) (S := fun w' => w'.cell? ⟨g, 0, none⟩ = some (.slice AP pl.length cP) ∧ w'.cell? ⟨g, 1, none⟩ = some (.slice AK ks.length cK)) (ds := []) #[false, false, false, false, false, false, false, false, false, false, false, false, false] (by kernel_rfl) rfl rfl ⟨HG0.out, HG1.out⟩ (fun hHeld => ?_)
    refine pure_ (i := 0) (N := some 4) (v := ?_) (a' := ?_) #[true, false, false, false, false, false, false, false, false, false, false, false, false] rfl rfl (by kernel_rfl) (fun _ _ _ h => h) (Or.inl ⟨by rfl, ?_⟩) ?_ ?_
    rotate_left
    · intro w'
      go_simp
      with_reducible rfl
    rotate_left
    · simp only [Act.put, List.setIfInBounds_toArray, List.set_cons_zero, List.set_cons_succ, i64_w, i32_w]
      rfl
    refine pure_ (i := 1) (N := some 5) (v := ?_) (a' := ?_) #[true, true, false, false, false, false, false, false, false, false, false, false, false] rfl rfl (by kernel_rfl) (fun _ _ _ h => h) (Or.inl ⟨by rfl, ?_⟩) ?_ ?_
    rotate_left
    · intro w'
      go_simp
      with_reducible rfl
    rotate_left
    · simp only [Act.put, List.setIfInBounds_toArray, List.set_cons_zero, List.set_cons_succ, i64_w, i32_w]
      rfl
    refine pure_ (i := 2) (N := some 6) (v := ?_) (a' := ?_) #[true, true, true, false, false, false, false, false, false, false, false, false, false] rfl rfl (by kernel_rfl) (fun _ _ _ h => h) (Or.inl ⟨by rfl, ?_⟩) ?_ ?_
    rotate_left
    · intro w'
      go_simp
      with_reducible rfl
    rotate_left
    · simp only [Act.put, List.setIfInBounds_toArray, List.set_cons_zero, List.set_cons_succ, i64_w, i32_w]
      rfl
    refine pure_ (i := 7) (N := some 11) (v := ?_) (a' := ?_) #[true, true, true, false, false, false, false, true, false, false, false, false, false] rfl rfl (by kernel_rfl) (fun _ _ _ h => h) (Or.inl ⟨by rfl, ?_⟩) ?_ ?_
    rotate_left
    · intro w'
      go_simp
      with_reducible rfl
    rotate_left
    · simp only [Act.put, List.setIfInBounds_toArray, List.set_cons_zero, List.set_cons_succ, i64_w, i32_w]
      rfl
    refine pure_ (i := 8) (N := some 12) (v := ?_) (a' := ?_) #[true, true, true, false, false, false, false, true, true, false, false, false, false] rfl rfl (by kernel_rfl) (fun _ _ _ h => h) (Or.inl ⟨by rfl, ?_⟩) ?_ ?_
    rotate_left
    · intro w'
      go_simp
      with_reducible rfl
    rotate_left
    · simp only [Act.put, List.setIfInBounds_toArray, List.set_cons_zero, List.set_cons_succ, i64_w, i32_w]
      rfl
    refine pure_ (i := 9) (N := some 13) (v := ?_) (a' := ?_) #[true, true, true, false, false, false, false, true, true, true, false, false, false] rfl rfl (by kernel_rfl) (fun _ _ _ h => h) (Or.inl ⟨by rfl, ?_⟩) ?_ ?_
    rotate_left
    · intro w'
      go_simp
      with_reducible rfl
    rotate_left
    · simp only [Act.put, List.setIfInBounds_toArray, List.set_cons_zero, List.set_cons_succ, i64_w, i32_w]
      rfl
    refine take_ (i := 3) (N := some 7) (v := ?_) (a' := ?_) #[true, true, true, true, false, false, false, true, true, true, false, false, false] rfl rfl (by kernel_rfl) (fun _ _ _ h => h) (Or.inl ⟨by rfl, ?_⟩) hHeld ?_ ?_
    rotate_left
    · rintro w' ⟨s0, s1⟩
      go_simp
      with_reducible rfl
    rotate_left
    · simp only [Act.put, List.setIfInBounds_toArray, List.set_cons_zero, List.set_cons_succ, i64_w, i32_w]
      rfl
    refine pure_ (i := 4) (N := some 8) (v := ?_) (a' := ?_) #[true, true, true, true, true, false, false, true, true, true, false, false, false] rfl rfl (by kernel_rfl) (fun _ _ _ h => h) (Or.inl ⟨by rfl, ?_⟩) ?_ ?_
    rotate_left
    · intro w'
      go_simp
      with_reducible rfl
    rotate_left
    · simp only [Act.put, List.setIfInBounds_toArray, List.set_cons_zero, List.set_cons_succ, i64_w, i32_w]
      rfl
    refine pure_ (i := 5) (N := some 9) (v := ?_) (a' := ?_) #[true, true, true, true, true, true, false, true, true, true, false, false, false] rfl rfl (by kernel_rfl) (fun _ _ _ h => h) (Or.inl ⟨by rfl, ?_⟩) ?_ ?_
    rotate_left
    · intro w'
      go_simp
      with_reducible rfl
    rotate_left
    · simp only [Act.put, List.setIfInBounds_toArray, List.set_cons_zero, List.set_cons_succ, i64_w, i32_w]
      rfl
    refine pure_ (i := 6) (N := some 10) (v := ?_) (a' := ?_) #[true, true, true, true, true, true, true, true, true, true, false, false, false] rfl rfl (by kernel_rfl) (fun _ _ _ h => h) (Or.inl ⟨by rfl, ?_⟩) ?_ ?_
    rotate_left
    · intro w'
      go_simp
      with_reducible rfl
    rotate_left
    · simp only [Act.put, List.setIfInBounds_toArray, List.set_cons_zero, List.set_cons_succ, i64_w, i32_w]
      rfl
    refine take_ (i := 10) (N := some 14) (v := ?_) (a' := ?_) #[true, true, true, true, true, true, true, true, true, true, true, false, false] rfl rfl (by kernel_rfl) (fun _ _ _ h => h) (Or.inl ⟨by rfl, ?_⟩) hHeld ?_ ?_
    rotate_left
    · rintro w' ⟨s0, s1⟩
      go_simp
      with_reducible rfl
    rotate_left
    · simp only [Act.put, List.setIfInBounds_toArray, List.set_cons_zero, List.set_cons_succ, i64_w, i32_w]
      rfl
    refine pure_ (i := 11) (N := some 15) (v := ?_) (a' := ?_) #[true, true, true, true, true, true, true, true, true, true, true, true, false] rfl rfl (by kernel_rfl) (fun _ _ _ h => h) (Or.inl ⟨by rfl, ?_⟩) ?_ ?_
    rotate_left
    · intro w'
      go_simp
      with_reducible rfl
    rotate_left
    · simp only [Act.put, List.setIfInBounds_toArray, List.set_cons_zero, List.set_cons_succ, i64_w, i32_w]
      rfl
    refine pure_ (i := 12) (N := some 16) (v := ?_) (a' := ?_) #[true, true, true, true, true, true, true, true, true, true, true, true, true] rfl rfl (by kernel_rfl) (fun _ _ _ h => h) (Or.inl ⟨by rfl, ?_⟩) ?_ ?_
    rotate_left
    · intro w'
      go_simp
      with_reducible rfl
    rotate_left
    · simp only [Act.put, List.setIfInBounds_toArray, List.set_cons_zero, List.set_cons_succ, i64_w, i32_w]
      rfl
    refine done_ (by kernel_rfl) ?_
    go_wp2_with (first | ((with_reducible refine gate_dst (N := 25) rfl ?_); refine Kd.R_make (Kd.int .i64) (w0 := w) lo 3 rfl (N := 25) rfl 23 _ _ rfl (N : Int) rfl rfl Try.underlying23 (.int .i64 0) 8 infoI rfl (by decide) (by omega) 0 (ok := ok) (okp := ok) rfl (fun _ hk => hk) ?mk (by omega) ?ml ?mb ?ms ?_; (case mk => exact HOK.out _ (Nat.le_refl _)); (case ml => have := HNB.out; omega); (case mb => exact (below_drew1 HB.out).mono HLO.out); (case ms => exact HLO.out); intro v25 w25 ho hb hg hat; rw [Int.toNat_natCast] at ho; obtain ⟨gP, cP2, e25, gb25, gl25, cl25, hcl25⟩ := Kd.R_form ho (by rw [List.length_replicate]; exact HNP.out); subst e25; rw [List.length_replicate] at ho ⊢; have hgb := (hg.block g (blk_lt HGB.out) (by simp)).trans HGB.out; have hcg0 := blk_cell hgb 0; have hcg1 := blk_cell hgb 1; simp only [List.getElem?_toArray, List.getElem?_cons_zero, List.getElem?_cons_succ] at hcg0 hcg1; have hfg0 : w25.frozen? ⟨g, 0, none⟩ = false := blk_frozen hgb _; have HGB25 := Aside0.mk hgb; have HO25 := Aside0.mk ho; have HB25 := Aside0.mk hb; have HGR := Aside0.mk hg; have HAT := Aside0.mk hat; have HGP := Aside0.mk (And.intro gb25 gl25); have HCL := Aside0.mk hcl25; clear hgb ho hb hg hat gb25 gl25 hcl25))
    obtain ⟨u, hu⟩ : ∃ U, U = w25.setCell ⟨g, 0, none⟩ (.slice (some ⟨gP, 0, none⟩) N cP2) := ⟨_, rfl⟩
    rw [← hu]
    have hgu : u.heap[g]? = some (.cells #[.slice (some ⟨gP, 0, none⟩) (List.replicate N (0 : Int)).length cP2, .slice AK ks.length cK] 60 (0, 0)) := by rw [hu, List.length_replicate]; exact blk_putj HGB25.out 0 _
    have hPu : Kd.R (Kd.int .i64) 3 u lo ok (.slice (some ⟨gP, 0, none⟩) (List.replicate N (0 : Int)).length cP2) (List.replicate N (0 : Int)) := by rw [hu, List.length_replicate]; exact Kd.R_set HO25.out HGB25.out (by decide) 0 _
    have hKu : Kd.R (Kd.slice 43 k43) 38 u lo ok (.slice AK ks.length cK) ks := by rw [hu]; exact Kd.R_set (Kd.R_grown (Kd.R_drew HRK.out) HGR.out (fun _ _ => by simp)) HGB25.out (by decide) 0 _
    have hFu : Fr lo ok w u := by rw [hu]; exact Fr.set ⟨HB25.out, fun k hk _ => HGR.out.block k hk (by simp)⟩ HGG.out.2 HGG.out.1
    have HGU := Aside0.mk hgu
    have HPU := Aside0.mk hPu
    have HKU := Aside0.mk hKu
    have HFU := Aside0.mk hFu
    have HIU : Aside0 (Inv (List.replicate N (0 : Int)) ks 0) := ⟨by rw [HNE.out]; exact Inv.empty ks e HE.out.1 HE.out.2⟩
    clear hu hgu hPu hKu hFu hcg0 hcg1 hfg0 HO25 HB25 HGR HGB25 HAT hf0 hc0 hc1 HG0 HG1 hw1 hw2 hw3 hmx t1 HB
    go_loopg [33] (ks.length : Nat) (fun kq v33 w' => ∃ (i : Nat) (pl' : List Int), v33 = .int .i64 (i : Int) ∧ Aside0 (i + kq = ks.length) ∧ Aside0 (pl'.length = N) ∧ Aside0 (Inv pl' ks i) ∧ Aside0 (w'.heap[g]? = some (.cells #[.slice (some ⟨gP, 0, none⟩) pl'.length cP2, .slice AK ks.length cK] 60 (0, 0))) ∧ Aside0 (Kd.R (Kd.int .i64) 3 w' lo ok (.slice (some ⟨gP, 0, none⟩) pl'.length cP2) pl') ∧ Aside0 (Kd.R (Kd.slice 43 k43) 38 w' lo ok (.slice AK ks.length cK) ks) ∧ Aside0 (Fr lo ok w w'))
    case atStart => exact ⟨0, _, rfl, ⟨by omega⟩, ⟨by simp⟩, HIU, HGU, HPU, HKU, HFU⟩
    case round =>
      clear HIU HGU HPU HKU HFU
      obtain ⟨i, pl', rfl, HJ, HPN, HIV, HG, HP, HK, HF⟩ := hrel
      cases gk with
      | zero =>
        have c_ : ¬ (i : Int) < (ks.length : Int) := by have := HJ.out; omega
        have cb : decide ((i : Int) < (ks.length : Int)) = false := decide_eq_false c_
        have cb2 : decide (i < ks.length) = false := decide_eq_false (by omega)
        clear c_
        go_wp2_with fail
        refine bodyPost_end (results_none rfl _ _ _) rfl ⟨rfl, pl', ⟨HGG.out.1, HGG.out.2, _, _, HG.out, HP.out, HK.out⟩, ?_, by rw [HPN.out]; exact HN2.out, HF.out⟩
        have e1 : i = ks.length := by have := HJ.out; omega
        rw [← e1]
        exact HIV.out
      | succ k1 =>
        have c_ : (i : Int) < (ks.length : Int) := by have := HJ.out; omega
        have cn : i < ks.length := by omega
        have cb : decide ((i : Int) < (ks.length : Int)) = true := decide_eq_true c_
        have cb2 : decide (i < ks.length) = true := decide_eq_true cn
        have p0 : ((0 : Int) ≤ (i : Int)) = True := eq_true (by omega)
        have q0 : ((i : Int) < (ks.length : Int)) = True := eq_true c_
        have q0n : (i < ks.length) = True := eq_true cn
        obtain ⟨AK', cK', eK, hcK', hCK'⟩ := Kd.R_reads HK.out
        injection eK with eK1 _ eK2
        subst eK1 eK2
        obtain ⟨adK, Ak, ck, eA, hy, hck, hCk⟩ := at_L3 hCK' (i : Int) (by omega) c_
        subst eA
        rw [rdL_get, Int.toNat_natCast] at hy
        rw [rdL_get] at hck hCk
        have hN3 := HNB.out
        have hpn := HPN.out
        obtain ⟨d, hfd, hor⟩ := HIV.out.probe (by have := HN2.out; omega) (ks.getD i [])
        rcases hor with ⟨j, hj, hje, _⟩ | ⟨hnew, hz⟩
        · exact absurd hje (HI.out.1 j i hj cn)
        have hen := HIV.out.enter cn hfd hnew hz
        have hpos := HIV.out.pos
        have hal : (startN (ks.getD i []) pl'.length + d) % pl'.length < pl'.length := Nat.mod_lt _ hpos
        have hks9 := HSZ.out (ks.getD i []) (getD_lt_mem ks i cn)
        obtain ⟨CP', cP', eP, hcP', hCP'⟩ := Kd.R_reads HP.out
        injection eP with eP1 _ eP2
        subst eP1 eP2
        have HPR := Aside0.mk (Probe_ g pl' ks (ks.getD i []) (some ⟨gP, 0, none⟩) (some adK) Ak cP2 cK ck i d wr.drew HG.out (Kd.C_below hCP' (below_drew1 (Below.refl _ _))) hcP' (Kd.C_below hCK' (below_drew1 (Below.refl _ _))) hcK' (Kd.C_below hCk (below_drew1 (Below.refl _ _))) hck hks9.2 (fun k hk => (HSZ.out k hk).1) HIV.out hfd)
        obtain ⟨a, ha⟩ : ∃ a, a = (startN (ks.getD i []) pl'.length + d) % pl'.length := ⟨_, rfl⟩
        have HAE := Aside0.mk ha.symm
        rw [← ha] at hal hen
        have HAL := Aside0.mk hal
        have HEN := Aside0.mk hen
        obtain ⟨key, hkey⟩ : ∃ key, key = ks.getD i [] := ⟨_, rfl⟩
        rw [← hkey] at hy HPR HAE
        have HGC : Aside0 (∀ W : World, Below wr.heap.size wr W → W.cell? ⟨g, 0, none⟩ = some (.slice (some ⟨gP, 0, none⟩) pl'.length cP2)) := ⟨fun W hW => by have h9 := blk_cell ((hW.block g (blk_lt HG.out)).trans HG.out) 0; simpa using h9⟩
        have p1 : ((0 : Int) ≤ (a : Int)) = True := eq_true (by omega)
        have q1 : ((a : Int) < (pl'.length : Int)) = True := eq_true (by omega)
        have q1n : (a < pl'.length) = True := eq_true hal
        have hi1 : wrap64 ((i : Int) + 1) = ((i + 1 : Nat) : Int) := by unfold wrap64; have := HKS.out; omega
        have HI1 := Aside0.mk hi1
        clear c_ hcK' hCK' hck hCk hN3 hpn hfd hnew hz hen hpos hal hks9 hcP' hCP' ha hkey
        go_wp2_with fail
        refine start_ (n := 11) (S := fun w' => w'.cell? ⟨g, 0, none⟩ = some (.slice (some ⟨gP, 0, none⟩) pl'.length cP2)) (ds := [10]) #[false, false, false, false, false, false, false, false, false, false, false] (by kernel_rfl) rfl rfl ((HGC.out _ (below_drew1 (Below.refl wr.heap.size wr)))) (fun hHeld => ?_)
        refine pure_ (i := 0) (N := some 38) (v := ?_) (a' := ?_) #[true, false, false, false, false, false, false, false, false, false, false] rfl rfl (by kernel_rfl) (fun _ _ _ h => h) (Or.inl ⟨by rfl, ?_⟩) ?_ ?_
        rotate_left
        · intro w'
          go_simp
          with_reducible rfl
        rotate_left
        · simp only [Act.put, List.setIfInBounds_toArray, List.set_cons_zero, List.set_cons_succ, i64_w, i32_w]
          rfl
        refine pure_ (i := 1) (N := some 39) (v := ?_) (a' := ?_) #[true, true, false, false, false, false, false, false, false, false, false] rfl rfl (by kernel_rfl) (fun _ _ _ h => h) (Or.inl ⟨by rfl, ?_⟩) ?_ ?_
        rotate_left
        · intro w'
          go_simp
          with_reducible rfl
        rotate_left
        · simp only [Act.put, List.setIfInBounds_toArray, List.set_cons_zero, List.set_cons_succ, i64_w, i32_w]
          rfl
        refine pure_ (i := 2) (N := some 40) (v := ?_) (a' := ?_) #[true, true, true, false, false, false, false, false, false, false, false] rfl rfl (by kernel_rfl) (fun _ _ _ h => h) (Or.inl ⟨by rfl, ?_⟩) ?_ ?_
        rotate_left
        · intro w'
          go_simp
          with_reducible rfl
        rotate_left
        · simp only [Act.put, List.setIfInBounds_toArray, List.set_cons_zero, List.set_cons_succ, i64_w, i32_w]
          rfl
        refine pure_ (i := 4) (N := some 42) (v := ?_) (a' := ?_) #[true, true, true, false, true, false, false, false, false, false, false] rfl rfl (by kernel_rfl) (fun _ _ _ h => h) (Or.inl ⟨by rfl, ?_⟩) ?_ ?_
        rotate_left
        · intro w'
          go_simp
          with_reducible rfl
        rotate_left
        · simp only [Act.put, List.setIfInBounds_toArray, List.set_cons_zero, List.set_cons_succ, i64_w, i32_w]
          rfl
        refine pure_ (i := 5) (N := some 43) (v := ?_) (a' := ?_) #[true, true, true, false, true, true, false, false, false, false, false] rfl rfl (by kernel_rfl) (fun _ _ _ h => h) (Or.inl ⟨by rfl, ?_⟩) ?_ ?_
        rotate_left
        · intro w'
          go_simp
          with_reducible rfl
        rotate_left
        · simp only [Act.put, List.setIfInBounds_toArray, List.set_cons_zero, List.set_cons_succ, i64_w, i32_w]
          rfl
        refine pure_ (i := 7) (N := some 45) (v := ?_) (a' := ?_) #[true, true, true, false, true, true, false, true, false, false, false] rfl rfl (by kernel_rfl) (fun _ _ _ h => h) (Or.inl ⟨by rfl, ?_⟩) ?_ ?_
        rotate_left
        · intro w'
          go_simp
          with_reducible rfl
        rotate_left
        · simp only [Act.put, List.setIfInBounds_toArray, List.set_cons_zero, List.set_cons_succ, i64_w, i32_w]
          rfl
        refine pure_ (i := 8) (N := some 46) (v := ?_) (a' := ?_) #[true, true, true, false, true, true, false, true, true, false, false] rfl rfl (by kernel_rfl) (fun _ _ _ h => h) (Or.inl ⟨by rfl, ?_⟩) ?_ ?_
        rotate_left
        · intro w'
          go_simp
          with_reducible rfl
        rotate_left
        · simp only [Act.put, List.setIfInBounds_toArray, List.set_cons_zero, List.set_cons_succ, i64_w, i32_w]
          rfl
        refine take_ (i := 3) (N := some 41) (v := ?_) (a' := ?_) #[true, true, true, true, true, true, false, true, true, false, false] rfl rfl (by kernel_rfl) (fun _ _ _ h => h) (Or.inl ⟨by rfl, ?_⟩) hHeld ?_ ?_
        rotate_left
        · intro w' s0
          go_simp
          with_reducible rfl
        rotate_left
        · simp only [Act.put, List.setIfInBounds_toArray, List.set_cons_zero, List.set_cons_succ, i64_w, i32_w]
          rfl
        refine one_ (i := 6) (N := some 44) #[true, true, true, true, true, true, true, true, true, false, false] rfl rfl (by kernel_rfl) (by decide) (fun K hK => ?_)
        refine goes_ Try.func37 (by kernel_rfl) rfl #[.pointer (some ⟨g, 0, none⟩), .slice Ak (List.length key) ck] (by rfl) rfl rfl (by simp only [List.map_toArray, List.map_cons, List.map_nil]; rfl) ?_
        with_reducible refine (HPR.out).mono ?_
        rintro e w8 ⟨rfl, hb8⟩
        refine ⟨_, rfl, ?_⟩
        have HB8 := Aside0.mk (below_step (below_drew1 (Below.refl wr.heap.size wr)) hb8)
        have HP8 := Aside0.mk (Kd.R_below HP.out HB8.out)
        obtain ⟨hs8, hf8⟩ := Kd.R_celln (0 : Int) HP8.out (a : Int) (by omega) (by have := HAL.out; omega)
        rw [Int.toNat_natCast] at hs8 hf8
        rw [HAE.out]
        clear hb8
        refine hK.out _ _ ((HGC.out _ HB8.out)) (fun hHeld => ?_)
        clear hK K
        refine norm_ (a' := ?_) ?_ ?_
        rotate_left
        · show Act.put _ (some 44) _ = _
          simp only [Act.put, List.setIfInBounds_toArray, List.set_cons_zero, List.set_cons_succ, i64_w, i32_w]
          rfl
        refine pure_ (i := 9) (N := some 47) (v := ?_) (a' := ?_) #[true, true, true, true, true, true, true, true, true, true, false] rfl rfl (by kernel_rfl) (fun _ _ _ h => h) (Or.inl ⟨by rfl, ?_⟩) ?_ ?_
        rotate_left
        · intro w'
          go_simp
          with_reducible rfl
        rotate_left
        · simp only [Act.put, List.setIfInBounds_toArray, List.set_cons_zero, List.set_cons_succ, i64_w, i32_w]
          rfl
        refine last_ (i := 10) (N := none) #[true, true, true, true, true, true, true, true, true, true, true] rfl rfl (by kernel_rfl) (by decide) (fun K hK => ?_)
        refine skip_ (w1 := ?_) (by rfl) rfl ?_ ?_
        rotate_left
        · go_simp
          rfl
        refine hK.out _ _ ?_
        clear hK K
        refine done_ (by kernel_rfl) ?_
        go_wp2_with fail
        obtain ⟨gP', cP', eP, gb8, gl8, cells8, hc8⟩ := Kd.R_form HP8.out (by have := HAL.out; omega)
        injection eP with eP1 _ eP2
        injection eP1 with eP1
        injection eP1 with eP1
        subst eP1 eP2
        have HC8 := Aside0.mk hc8
        have HG8 := Aside0.mk ((HB8.out.block g (blk_lt HG.out)).trans HG.out)
        have HK8 := Aside0.mk (Kd.R_below HK.out HB8.out)
        have HF8 := Aside0.mk (HF.out.trans (Fr.of_below HB8.out (Nat.le_trans HLO.out HF.out.below.size)))
        have HGB8 := Aside0.mk gb8
        clear hc8 gb8 gl8
        go_roundg k1
        case measure => omega
        case rel =>
          refine ⟨i + 1, pl'.set a ((i + 1 : Nat) : Int), by first | rfl | (rw [HI1.out]), ⟨by have := HJ.out; omega⟩, ⟨by rw [List.length_set]; exact HPN.out⟩, HEN, ⟨?_⟩, ⟨?_⟩, ⟨?_⟩, ⟨?_⟩⟩
          · rw [List.length_set]
            exact blk_other HC8.out HG8.out (fun cs' e => by injection e with _ e; exact absurd e (by decide)) a _
          · rw [List.length_set]
            have h9 := (Kd.R_putg HP8.out (a : Int) ((i + 1 : Nat) : Int)).1
            rw [Int.toNat_natCast] at h9
            exact h9
          · exact Kd.R_set HK8.out HC8.out (by decide) a _
          · exact HF8.out.set (HP8.out.1 gP rfl) HGB8.out
end Go.Proofs.Ytcbjkejboegmlaa.HW
