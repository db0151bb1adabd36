/- The heap's long and Get, of any number of buffers. -/
import Derived.Test.YtpbplflocdhahaaHeapR
set_option linter.unusedVariables false
set_option linter.unusedSimpArgs false
namespace Go.Proofs.Ytpbplflocdhahaa.HW
open Go.RowKit Go.Proofs.Ytpbplflocdhahaa.P Go.Proofs.Ytpbplflocdhahaa.HP Go.Proofs.YtpbplflocdhahaaW.PrintWords Go.Proofs.YtpbplflocdhahaaW.PrintLast Go.Proofs.YtpbplflocdhahaaW.PrintMore
attribute [local go_sem] max2_int min2_int max_two min_two max_three min_three max_four min_four
/-- The first four bytes that a view tells. -/
def pvw (a : List Int) : ByteArray := strOfNums ((a.drop 4).take (if le4v a < 4 then (le4v a).toNat else 4))
set_option maxHeartbeats 8000000 in
set_option maxRecDepth 100000 in
theorem HM.long_fit {lo g : Nat} {Bs : List (List Int)} {size m : Int} (a : List Int) (n : Nat) (w : World) (h : HM lo w g Bs size m) (ha : a.length = 16) (hab : isB a) (hn : le4v a = (n : Int)) (h12 : 12 < n) (hn4 : n ≤ 4096) (q at_ : Nat) (b : List Int) (hbq : Bs[q]? = some b) (hp8 : le4v (a.drop 8) = (q : Int)) (hp12 : le4v (a.drop 12) = (at_ : Int)) (h65 : at_ ≤ 65536) (hnb : Bs.length ≤ 100000) (hfit : at_ + n ≤ b.length) (hbl : b.length ≤ 100000) (hp9 : Bool) (hpx : strings_HasPrefix.f (strOfNums ((b.drop at_).take n)) (pvw a) = some hp9) :
    Calls Try.prog 27 #[.pointer (some ⟨g, 0, none⟩), .agg (cel a)] w fun e w' => ∃ (A' : Option Addr) (c' : Nat), e = .returned (.tuple #[.slice A' ((b.drop at_).take n).length c', .bool hp9]) ∧ ((b.drop at_).take n).length ≤ c' ∧ Kd.C (Kd.int .u8) w' A' ((b.drop at_).take n).length ((b.drop at_).take n) ∧ Below w.heap.size w w' := by
  have HLn := Aside0.mk (fun w => view_Len.calls a w ha hab)
  have HPr := Aside0.mk (fun w => view_Prefix.calls a w ha hab)
  have HPl := Aside0.mk (fun w => view_Place.calls a w ha hab)
  rw [hn] at HLn HPl
  rw [if_neg (by omega), if_neg (by omega), hp8, hp12] at HPl
  obtain ⟨P9, hP9⟩ : ∃ P, P = pvw a := ⟨_, rfl⟩
  rw [show strOfNums ((a.drop 4).take (if le4v a < 4 then (le4v a).toNat else 4)) = P9 from hP9.symm] at HPr
  obtain ⟨C, hC⟩ : ∃ C, C = cel a := ⟨_, rfl⟩
  have HSC : Aside0 (C.size = 16) := ⟨by rw [hC, cel_size, ha]⟩
  rw [← hC] at HLn HPr HPl ⊢
  obtain ⟨gb, cb, c, A, xs, hp⟩ := h.parts q b hbq
  have hqn : q < xs.length := (List.getElem?_eq_some_iff.1 hp.hq).1
  have hnl : xs.length ≤ 100000 := by rw [hp.hl]; exact hnb
  have HX0 : Aside0 (∀ W : World, Below w.heap.size w W → W.cell? ⟨g, 0, none⟩ = some (.slice (some ⟨gb, 0, none⟩) xs.length cb)) := ⟨fun W hW => blk_cell ((hW.block _ (blk_lt hp.hg)).trans hp.hg) 0⟩
  have HX1 : Aside0 (∀ W : World, Below w.heap.size w W → W.cell? ⟨gb, q, none⟩ = some (.slice A b.length c)) := ⟨fun W hW => by have hl := World.block_lt_of_cell? _ _ hp.cell; rw [← hp.cell]; unfold World.cell?; rw [hW.block _ hl]⟩
  obtain ⟨nb, hnbe⟩ : ∃ nb, nb = xs.length := ⟨_, rfl⟩
  rw [← hnbe] at HX0 hqn hnl
  have p3 : ((0 : Int) ≤ (q : Int)) = True := eq_true (by omega)
  have q3 : ((q : Int) < (nb : Int)) = True := eq_true (by omega)
  have q3n : (q < nb) = True := eq_true hqn
  have tge : decide ((nb : Int) ≤ (q : Int)) = false := decide_eq_false (by omega)
  have tgen : decide (nb ≤ q) = false := decide_eq_false (by omega)
  have HR0 := Aside0.mk hp.hr
  rw [← hP9] at hpx
  obtain ⟨A9, c9, hc9, hcut, hcs⟩ := cut_seg A c b hp.hc at_ n hfit
  obtain ⟨bs, hbse⟩ : ∃ bs, bs = (b.drop at_).take n := ⟨_, rfl⟩
  rw [← hbse] at hc9 hcut hcs hpx ⊢
  have HCS := Aside0.mk hcs
  have HC9 := Aside0.mk hc9
  obtain ⟨s, hse⟩ : ∃ s, s = strOfNums bs := ⟨_, rfl⟩
  rw [← hse] at hpx
  have HPX := Aside0.mk hpx
  have HCV : Aside0 (∀ W : World, Below w.heap.size w W → (convert 36 9 (.slice A9 bs.length c9)).run Try.prog W = .ok (.string s) W) := ⟨fun W hW => by
    have := Kd.C_string (P := Try.prog) (c := c9) Try.underlying36 Try.underlying5 Try.underlying9 (hcs W (Kd.C_below hp.hr hW))
    rw [this, hse]⟩
  have tn : decide ((b.length : Int) < (at_ : Int) + (n : Int)) = false := decide_eq_false (by omega)
  have hwn : wrap64 ((at_ : Int) + (n : Int)) = (at_ : Int) + (n : Int) := wsum at_ n (Nat.le_trans (Nat.add_le_add h65 hn4) (by decide))
  clear h ha hab hn h12 hn4 hbq hp8 hp12 h65 hnb hfit hbl hpx hP9 hC hp hqn hnl hnbe hc9 hcs hbse hse
  have HC0 := Aside0.mk (blk_new w (.cells C 28))
  have HB0 := Aside0.mk (below_alloc (Below.refl w.heap.size w) (.cells C 28))
  go_enter Try.func27, Try.ntmps27
  go_wp2_with (first | ((with_reducible refine gate_dst (N := 10) rfl ?_); refine wpList_load_row rfl 28 _ rfl w.heap.size (by rfl) 28 C (0, 0) _ HC0.out Try.underlying28 rfl (by rw [info16, HSC.out]) ?_))
  refine (HPl.out _).mono ?_
  rintro e w1 ⟨rfl, hb⟩
  have HC1 := Aside0.mk ((hb.block _ (blk_lt HC0.out)).trans HC0.out)
  have HB1 := Aside0.mk (below_step HB0.out hb)
  clear hb
  go_wp2_with fail
  have HC1d : Aside0 (w1.drew.heap[w.heap.size]? = some (.cells C 28 (0, 0))) := ⟨HC1.out⟩
  have HB1d := Aside0.mk (below_drew1 HB1.out)
  refine start_ (n := 22) (S := fun w' => (loadVar 28 ⟨w.heap.size, 0, none⟩).run Try.prog w' = .ok (.agg C) w' ∧ w'.cell? ⟨g, 0, none⟩ = some (.slice (some ⟨gb, 0, none⟩) nb cb) ∧ w'.cell? ⟨gb, q, none⟩ = some (.slice A b.length c)) (ds := []) #[false, false, false, false, false, false, false, false, false, false, false, false, false, false, false, false, false, false, false, false, false, false] (by kernel_rfl) rfl rfl ⟨(load16 HC1d.out HSC.out), (HX0.out _ HB1d.out), (HX1.out _ HB1d.out)⟩ (fun hHeld => ?_)
  refine pure_ (i := 0) (N := some 14) (v := ?_) (a' := ?_) #[true, false, false, false, false, false, false, false, false, false, false, false, false, false, false, false, false, false, false, false, false, false] rfl rfl (by kernel_rfl) (fun _ _ _ h => h) (Or.inl ⟨by rfl, ?_⟩) ?_ ?_
  rotate_left
  · intro w'
    go_simp
    with_reducible rfl
  rotate_left
  · simp only [Act.put, List.setIfInBounds_toArray, List.set_cons_zero, List.set_cons_succ, i64_w, i32_w]
    rfl
  refine pure_ (i := 1) (N := some 15) (v := ?_) (a' := ?_) #[true, true, false, false, false, false, false, false, false, false, false, false, false, false, false, false, false, false, false, false, false, false] rfl rfl (by kernel_rfl) (fun _ _ _ h => h) (Or.inl ⟨by rfl, ?_⟩) ?_ ?_
  rotate_left
  · intro w'
    go_simp
    with_reducible rfl
  rotate_left
  · simp only [Act.put, List.setIfInBounds_toArray, List.set_cons_zero, List.set_cons_succ, i64_w, i32_w]
    rfl
  refine pure_ (i := 2) (N := some 16) (v := ?_) (a' := ?_) #[true, true, true, false, false, false, false, false, false, false, false, false, false, false, false, false, false, false, false, false, false, false] rfl rfl (by kernel_rfl) (fun _ _ _ h => h) (Or.inl ⟨by rfl, ?_⟩) ?_ ?_
  rotate_left
  · intro w'
    go_simp
    with_reducible rfl
  rotate_left
  · simp only [Act.put, List.setIfInBounds_toArray, List.set_cons_zero, List.set_cons_succ, i64_w, i32_w]
    rfl
  refine pure_ (i := 3) (N := some 17) (v := ?_) (a' := ?_) #[true, true, true, true, false, false, false, false, false, false, false, false, false, false, false, false, false, false, false, false, false, false] rfl rfl (by kernel_rfl) (fun _ _ _ h => h) (Or.inl ⟨by rfl, ?_⟩) ?_ ?_
  rotate_left
  · intro w'
    go_simp
    with_reducible rfl
  rotate_left
  · simp only [Act.put, List.setIfInBounds_toArray, List.set_cons_zero, List.set_cons_succ, i64_w, i32_w]
    rfl
  refine take_ (i := 4) (N := some 18) (v := ?_) (a' := ?_) #[true, true, true, true, true, false, false, false, false, false, false, false, false, false, false, false, false, false, false, false, false, false] rfl rfl (by kernel_rfl) (fun _ _ _ h => h) (Or.inl ⟨by rfl, ?_⟩) hHeld ?_ ?_
  rotate_left
  · rintro w' ⟨s0, s1, s2⟩
    go_simp
    with_reducible rfl
  rotate_left
  · simp only [Act.put, List.setIfInBounds_toArray, List.set_cons_zero, List.set_cons_succ, i64_w, i32_w]
    rfl
  refine pure_ (i := 5) (N := some 19) (v := ?_) (a' := ?_) #[true, true, true, true, true, true, false, false, false, false, false, false, false, false, false, false, false, false, false, false, false, false] rfl rfl (by kernel_rfl) (fun _ _ _ h => h) (Or.inl ⟨by rfl, ?_⟩) ?_ ?_
  rotate_left
  · intro w'
    go_simp
    with_reducible rfl
  rotate_left
  · simp only [Act.put, List.setIfInBounds_toArray, List.set_cons_zero, List.set_cons_succ, i64_w, i32_w]
    rfl
  refine pure_ (i := 6) (N := some 20) (v := ?_) (a' := ?_) #[true, true, true, true, true, true, true, false, false, false, false, false, false, false, false, false, false, false, false, false, false, false] rfl rfl (by kernel_rfl) (fun _ _ _ h => h) (Or.inl ⟨by rfl, ?_⟩) ?_ ?_
  rotate_left
  · intro w'
    go_simp
    with_reducible rfl
  rotate_left
  · simp only [Act.put, List.setIfInBounds_toArray, List.set_cons_zero, List.set_cons_succ, i64_w, i32_w]
    rfl
  refine pure_ (i := 7) (N := some 21) (v := ?_) (a' := ?_) #[true, true, true, true, true, true, true, true, false, false, false, false, false, false, false, false, false, false, false, false, false, false] rfl rfl (by kernel_rfl) (fun _ _ _ h => h) (Or.inl ⟨by rfl, ?_⟩) ?_ ?_
  rotate_left
  · intro w'
    go_simp
    with_reducible rfl
  rotate_left
  · simp only [Act.put, List.setIfInBounds_toArray, List.set_cons_zero, List.set_cons_succ, i64_w, i32_w]
    rfl
  refine pure_ (i := 8) (N := some 22) (v := ?_) (a' := ?_) #[true, true, true, true, true, true, true, true, true, false, false, false, false, false, false, false, false, false, false, false, false, false] rfl rfl (by kernel_rfl) (fun _ _ _ h => h) (Or.inl ⟨by rfl, ?_⟩) ?_ ?_
  rotate_left
  · intro w'
    go_simp
    with_reducible rfl
  rotate_left
  · simp only [Act.put, List.setIfInBounds_toArray, List.set_cons_zero, List.set_cons_succ, i64_w, i32_w]
    rfl
  refine pure_ (i := 12) (N := some 26) (v := ?_) (a' := ?_) #[true, true, true, true, true, true, true, true, true, false, false, false, true, false, false, false, false, false, false, false, false, false] rfl rfl (by kernel_rfl) (fun _ _ _ h => h) (Or.inl ⟨by rfl, ?_⟩) ?_ ?_
  rotate_left
  · intro w'
    go_simp
    with_reducible rfl
  rotate_left
  · simp only [Act.put, List.setIfInBounds_toArray, List.set_cons_zero, List.set_cons_succ, i64_w, i32_w]
    rfl
  refine pure_ (i := 13) (N := some 27) (v := ?_) (a' := ?_) #[true, true, true, true, true, true, true, true, true, false, false, false, true, true, false, false, false, false, false, false, false, false] rfl rfl (by kernel_rfl) (fun _ _ _ h => h) (Or.inl ⟨by rfl, ?_⟩) ?_ ?_
  rotate_left
  · intro w'
    go_simp
    with_reducible rfl
  rotate_left
  · simp only [Act.put, List.setIfInBounds_toArray, List.set_cons_zero, List.set_cons_succ, i64_w, i32_w]
    rfl
  refine pure_ (i := 14) (N := some 28) (v := ?_) (a' := ?_) #[true, true, true, true, true, true, true, true, true, false, false, false, true, true, true, false, false, false, false, false, false, false] rfl rfl (by kernel_rfl) (fun _ _ _ h => h) (Or.inl ⟨by rfl, ?_⟩) ?_ ?_
  rotate_left
  · intro w'
    go_simp
    with_reducible rfl
  rotate_left
  · simp only [Act.put, List.setIfInBounds_toArray, List.set_cons_zero, List.set_cons_succ, i64_w, i32_w]
    rfl
  refine pure_ (i := 16) (N := some 30) (v := ?_) (a' := ?_) #[true, true, true, true, true, true, true, true, true, false, false, false, true, true, true, false, true, false, false, false, false, false] rfl rfl (by kernel_rfl) (fun _ _ _ h => h) (Or.inl ⟨by rfl, ?_⟩) ?_ ?_
  rotate_left
  · intro w'
    go_simp
    with_reducible rfl
  rotate_left
  · simp only [Act.put, List.setIfInBounds_toArray, List.set_cons_zero, List.set_cons_succ, i64_w, i32_w]
    rfl
  refine take_ (i := 9) (N := some 23) (v := ?_) (a' := ?_) #[true, true, true, true, true, true, true, true, true, true, false, false, true, true, true, false, true, false, false, false, false, false] rfl rfl (by kernel_rfl) (fun _ _ _ h => h) (Or.inl ⟨by rfl, ?_⟩) hHeld ?_ ?_
  rotate_left
  · rintro w' ⟨s0, s1, s2⟩
    refine Eq.trans (load_exec (by rfl) (by rfl) s0) ?_
    with_reducible rfl
  rotate_left
  · simp only [Act.put, List.setIfInBounds_toArray, List.set_cons_zero, List.set_cons_succ, i64_w, i32_w]
    rfl
  refine take_ (i := 15) (N := some 29) (v := ?_) (a' := ?_) #[true, true, true, true, true, true, true, true, true, true, false, false, true, true, true, true, true, false, false, false, false, false] rfl rfl (by kernel_rfl) (fun _ _ _ h => h) (Or.inl ⟨by rfl, ?_⟩) hHeld ?_ ?_
  rotate_left
  · rintro w' ⟨s0, s1, s2⟩
    go_simp
    with_reducible rfl
  rotate_left
  · simp only [Act.put, List.setIfInBounds_toArray, List.set_cons_zero, List.set_cons_succ, i64_w, i32_w]
    rfl
  refine pure_ (i := 17) (N := some 31) (v := ?_) (a' := ?_) #[true, true, true, true, true, true, true, true, true, true, false, false, true, true, true, true, true, true, false, false, false, false] rfl rfl (by kernel_rfl) (fun _ _ _ h => h) (Or.inl ⟨by rfl, ?_⟩) ?_ ?_
  rotate_left
  · intro w'
    go_simp
    with_reducible rfl
  rotate_left
  · simp only [Act.put, List.setIfInBounds_toArray, List.set_cons_zero, List.set_cons_succ, i64_w, i32_w]
    rfl
  refine take_ (i := 18) (N := some 32) (v := ?_) (a' := ?_) #[true, true, true, true, true, true, true, true, true, true, false, false, true, true, true, true, true, true, true, false, false, false] rfl rfl (by kernel_rfl) (fun _ _ _ h => h) (Or.inl ⟨by rfl, ?_⟩) hHeld ?_ ?_
  rotate_left
  · rintro w' ⟨s0, s1, s2⟩
    go_simp
    with_reducible rfl
  rotate_left
  · simp only [Act.put, List.setIfInBounds_toArray, List.set_cons_zero, List.set_cons_succ, i64_w, i32_w]
    rfl
  refine pure_ (i := 19) (N := some 33) (v := ?_) (a' := ?_) #[true, true, true, true, true, true, true, true, true, true, false, false, true, true, true, true, true, true, true, true, false, false] rfl rfl (by kernel_rfl) (fun _ _ _ h => h) (Or.inl ⟨by rfl, ?_⟩) ?_ ?_
  rotate_left
  · intro w'
    go_simp
    with_reducible rfl
  rotate_left
  · simp only [Act.put, List.setIfInBounds_toArray, List.set_cons_zero, List.set_cons_succ, i64_w, i32_w]
    rfl
  refine one_ (i := 10) (N := some 24) #[true, true, true, true, true, true, true, true, true, true, true, false, true, true, true, true, true, true, true, true, false, false] rfl rfl (by kernel_rfl) (by decide) (fun K hK => ?_)
  refine goes_ Try.func13 (by kernel_rfl) rfl #[.agg C] (by rfl) rfl rfl (by simp only [List.map_toArray, List.map_cons, List.map_nil]; rfl) ?_
  with_reducible refine (HLn.out _).mono ?_
  rintro e w2 ⟨rfl, hb⟩
  refine ⟨_, rfl, ?_⟩
  have HC2 := Aside0.mk ((hb.block _ (blk_lt HC1d.out)).trans HC1d.out)
  have HB2 := Aside0.mk (below_step HB1d.out hb)
  clear hb
  refine hK.out _ _ ⟨(load16 HC2.out HSC.out), (HX0.out _ HB2.out), (HX1.out _ HB2.out)⟩ (fun hHeld => ?_)
  clear hK K
  refine norm_ (a' := ?_) ?_ ?_
  rotate_left
  · show Act.put _ (some 24) _ = _
    simp only [Act.put, List.setIfInBounds_toArray, List.set_cons_zero, List.set_cons_succ, i64_w, i32_w]
    rfl
  refine pure_ (i := 11) (N := some 25) (v := ?_) (a' := ?_) #[true, true, true, true, true, true, true, true, true, true, true, true, true, true, true, true, true, true, true, true, false, false] rfl rfl (by kernel_rfl) (fun _ _ _ h => h) (Or.inl ⟨by rfl, ?_⟩) ?_ ?_
  rotate_left
  · intro w'
    go_simp
    with_reducible rfl
  rotate_left
  · simp only [Act.put, List.setIfInBounds_toArray, List.set_cons_zero, List.set_cons_succ, i64_w, i32_w]
    rfl
  refine pure_ (i := 20) (N := some 34) (v := ?_) (a' := ?_) #[true, true, true, true, true, true, true, true, true, true, true, true, true, true, true, true, true, true, true, true, true, false] rfl rfl (by kernel_rfl) (fun _ _ _ h => h) (Or.inl ⟨by rfl, ?_⟩) ?_ ?_
  rotate_left
  · intro w'
    go_simp
    with_reducible rfl
  rotate_left
  · simp only [Act.put, List.setIfInBounds_toArray, List.set_cons_zero, List.set_cons_succ, i64_w, i32_w]
    rfl
  refine pure_ (i := 21) (N := some 35) (v := ?_) (a' := ?_) #[true, true, true, true, true, true, true, true, true, true, true, true, true, true, true, true, true, true, true, true, true, true] rfl rfl (by kernel_rfl) (fun _ _ _ h => h) (Or.inl ⟨by rfl, ?_⟩) ?_ ?_
  rotate_left
  · intro w'
    go_simp
    with_reducible rfl
  rotate_left
  · simp only [Act.put, List.setIfInBounds_toArray, List.set_cons_zero, List.set_cons_succ, i64_w, i32_w]
    rfl
  refine done_ (by kernel_rfl) ?_
  go_wp2_with fail
  have HC2d : Aside0 (w2.drew.heap[w.heap.size]? = some (.cells C 28 (0, 0))) := ⟨HC2.out⟩
  have HB2d := Aside0.mk (below_drew1 HB2.out)
  refine start_ (n := 14) (S := fun w' => (loadVar 28 ⟨w.heap.size, 0, none⟩).run Try.prog w' = .ok (.agg C) w' ∧ w'.cell? ⟨g, 0, none⟩ = some (.slice (some ⟨gb, 0, none⟩) nb cb) ∧ w'.cell? ⟨gb, q, none⟩ = some (.slice A b.length c)) (ds := []) #[false, false, false, false, false, false, false, false, false, false, false, false, false, false] (by kernel_rfl) rfl rfl ⟨(load16 HC2d.out HSC.out), (HX0.out _ HB2d.out), (HX1.out _ HB2d.out)⟩ (fun hHeld => ?_)
  refine pure_ (i := 0) (N := some 36) (v := ?_) (a' := ?_) #[true, false, false, false, false, false, false, false, false, false, false, false, false, false] rfl rfl (by kernel_rfl) (fun _ _ _ h => h) (Or.inl ⟨by rfl, ?_⟩) ?_ ?_
  rotate_left
  · intro w'
    go_simp
    with_reducible rfl
  rotate_left
  · simp only [Act.put, List.setIfInBounds_toArray, List.set_cons_zero, List.set_cons_succ, i64_w, i32_w]
    rfl
  refine pure_ (i := 1) (N := some 37) (v := ?_) (a' := ?_) #[true, true, false, false, false, false, false, false, false, false, false, false, false, false] rfl rfl (by kernel_rfl) (fun _ _ _ h => h) (Or.inl ⟨by rfl, ?_⟩) ?_ ?_
  rotate_left
  · intro w'
    go_simp
    with_reducible rfl
  rotate_left
  · simp only [Act.put, List.setIfInBounds_toArray, List.set_cons_zero, List.set_cons_succ, i64_w, i32_w]
    rfl
  refine pure_ (i := 2) (N := some 38) (v := ?_) (a' := ?_) #[true, true, true, false, false, false, false, false, false, false, false, false, false, false] rfl rfl (by kernel_rfl) (fun _ _ _ h => h) (Or.inl ⟨by rfl, ?_⟩) ?_ ?_
  rotate_left
  · intro w'
    go_simp
    with_reducible rfl
  rotate_left
  · simp only [Act.put, List.setIfInBounds_toArray, List.set_cons_zero, List.set_cons_succ, i64_w, i32_w]
    rfl
  refine pure_ (i := 4) (N := some 40) (v := ?_) (a' := ?_) #[true, true, true, false, true, false, false, false, false, false, false, false, false, false] rfl rfl (by kernel_rfl) (fun _ _ _ h => h) (Or.inl ⟨by rfl, ?_⟩) ?_ ?_
  rotate_left
  · intro w'
    go_simp
    with_reducible rfl
  rotate_left
  · simp only [Act.put, List.setIfInBounds_toArray, List.set_cons_zero, List.set_cons_succ, i64_w, i32_w]
    rfl
  refine pure_ (i := 7) (N := some 43) (v := ?_) (a' := ?_) #[true, true, true, false, true, false, false, true, false, false, false, false, false, false] rfl rfl (by kernel_rfl) (fun _ _ _ h => h) (Or.inl ⟨by rfl, ?_⟩) ?_ ?_
  rotate_left
  · intro w'
    go_simp
    with_reducible rfl
  rotate_left
  · simp only [Act.put, List.setIfInBounds_toArray, List.set_cons_zero, List.set_cons_succ, i64_w, i32_w]
    rfl
  refine pure_ (i := 8) (N := some 44) (v := ?_) (a' := ?_) #[true, true, true, false, true, false, false, true, true, false, false, false, false, false] rfl rfl (by kernel_rfl) (fun _ _ _ h => h) (Or.inl ⟨by rfl, ?_⟩) ?_ ?_
  rotate_left
  · intro w'
    go_simp
    with_reducible rfl
  rotate_left
  · simp only [Act.put, List.setIfInBounds_toArray, List.set_cons_zero, List.set_cons_succ, i64_w, i32_w]
    rfl
  refine take_ (i := 3) (N := some 39) (v := ?_) (a' := ?_) #[true, true, true, true, true, false, false, true, true, false, false, false, false, false] rfl rfl (by kernel_rfl) (fun _ _ _ h => h) (Or.inl ⟨by rfl, ?_⟩) hHeld ?_ ?_
  rotate_left
  · rintro w' ⟨s0, s1, s2⟩
    go_simp
    with_reducible rfl
  rotate_left
  · simp only [Act.put, List.setIfInBounds_toArray, List.set_cons_zero, List.set_cons_succ, i64_w, i32_w]
    rfl
  refine pure_ (i := 5) (N := some 41) (v := ?_) (a' := ?_) #[true, true, true, true, true, true, false, true, true, false, false, false, false, false] rfl rfl (by kernel_rfl) (fun _ _ _ h => h) (Or.inl ⟨by rfl, ?_⟩) ?_ ?_
  rotate_left
  · intro w'
    go_simp
    with_reducible rfl
  rotate_left
  · simp only [Act.put, List.setIfInBounds_toArray, List.set_cons_zero, List.set_cons_succ, i64_w, i32_w]
    rfl
  refine take_ (i := 6) (N := some 42) (v := ?_) (a' := ?_) #[true, true, true, true, true, true, true, true, true, false, false, false, false, false] rfl rfl (by kernel_rfl) (fun _ _ _ h => h) (Or.inl ⟨by rfl, ?_⟩) hHeld ?_ ?_
  rotate_left
  · rintro w' ⟨s0, s1, s2⟩
    go_simp
    with_reducible rfl
  rotate_left
  · simp only [Act.put, List.setIfInBounds_toArray, List.set_cons_zero, List.set_cons_succ, i64_w, i32_w]
    rfl
  refine take_ (i := 9) (N := some 45) (v := ?_) (a' := ?_) #[true, true, true, true, true, true, true, true, true, true, false, false, false, false] rfl rfl (by kernel_rfl) (fun _ _ _ h => h) (Or.inl ⟨by rfl, ?_⟩) hHeld ?_ ?_
  rotate_left
  · rintro w' ⟨s0, s1, s2⟩
    refine Eq.trans (load_exec (by rfl) (by rfl) s0) ?_
    with_reducible rfl
  rotate_left
  · simp only [Act.put, List.setIfInBounds_toArray, List.set_cons_zero, List.set_cons_succ, i64_w, i32_w]
    rfl
  refine one_ (i := 10) (N := some 46) #[true, true, true, true, true, true, true, true, true, true, true, false, false, false] rfl rfl (by kernel_rfl) (by decide) (fun K hK => ?_)
  refine goes_ Try.func13 (by kernel_rfl) rfl #[.agg C] (by rfl) rfl rfl (by simp only [List.map_toArray, List.map_cons, List.map_nil]; rfl) ?_
  with_reducible refine (HLn.out _).mono ?_
  rintro e w3 ⟨rfl, hb⟩
  refine ⟨_, rfl, ?_⟩
  have HC3 := Aside0.mk ((hb.block _ (blk_lt HC2d.out)).trans HC2d.out)
  have HB3 := Aside0.mk (below_step HB2d.out hb)
  clear hb
  refine hK.out _ _ ⟨(load16 HC3.out HSC.out), (HX0.out _ HB3.out), (HX1.out _ HB3.out)⟩ (fun hHeld => ?_)
  clear hK K
  refine norm_ (a' := ?_) ?_ ?_
  rotate_left
  · show Act.put _ (some 46) _ = _
    simp only [Act.put, List.setIfInBounds_toArray, List.set_cons_zero, List.set_cons_succ, i64_w, i32_w]
    rfl
  refine pure_ (i := 11) (N := some 47) (v := ?_) (a' := ?_) #[true, true, true, true, true, true, true, true, true, true, true, true, false, false] rfl rfl (by kernel_rfl) (fun _ _ _ h => h) (Or.inl ⟨by rfl, ?_⟩) ?_ ?_
  rotate_left
  · intro w'
    go_simp
    with_reducible rfl
  rotate_left
  · simp only [Act.put, List.setIfInBounds_toArray, List.set_cons_zero, List.set_cons_succ, i64_w, i32_w]
    rfl
  refine pure_ (i := 12) (N := some 48) (v := ?_) (a' := ?_) #[true, true, true, true, true, true, true, true, true, true, true, true, true, false] rfl rfl (by kernel_rfl) (fun _ _ _ h => h) (Or.inl ⟨by rfl, ?_⟩) ?_ ?_
  rotate_left
  · intro w'
    go_simp
    with_reducible rfl
  rotate_left
  · simp only [Act.put, List.setIfInBounds_toArray, List.set_cons_zero, List.set_cons_succ, i64_w, i32_w]
    rfl
  refine pure_ (i := 13) (N := some 8) (v := ?_) (a' := ?_) #[true, true, true, true, true, true, true, true, true, true, true, true, true, true] rfl rfl (by kernel_rfl) (fun _ _ _ h => h) (Or.inl ⟨by rfl, ?_⟩) ?_ ?_
  rotate_left
  · intro w'
    go_simp
    with_reducible rfl
  rotate_left
  · simp only [Act.put, List.setIfInBounds_toArray, List.set_cons_zero, List.set_cons_succ, i64_w, i32_w]
    rfl
  refine done_ (by kernel_rfl) ?_
  go_wp2_with fail
  have HC3d : Aside0 (w3.drew.heap[w.heap.size]? = some (.cells C 28 (0, 0))) := ⟨HC3.out⟩
  have HB3d := Aside0.mk (below_drew1 HB3.out)
  refine start_ (n := 8) (S := fun w' => (loadVar 28 ⟨w.heap.size, 0, none⟩).run Try.prog w' = .ok (.agg C) w' ∧ (convert 36 9 (.slice A9 bs.length c9)).run Try.prog w' = .ok (.string s) w') (ds := []) #[false, false, false, false, false, false, false, false] (by kernel_rfl) rfl rfl ⟨(load16 HC3d.out HSC.out), (HCV.out _ HB3d.out)⟩ (fun hHeld => ?_)
  refine pure_ (i := 0) (N := some 49) (v := ?_) (a' := ?_) #[true, false, false, false, false, false, false, false] rfl rfl (by kernel_rfl) (fun _ _ _ h => h) (Or.inl ⟨by rfl, ?_⟩) ?_ ?_
  rotate_left
  · intro w'
    go_simp
    with_reducible rfl
  rotate_left
  · simp only [Act.put, List.setIfInBounds_toArray, List.set_cons_zero, List.set_cons_succ, i64_w, i32_w]
    rfl
  refine pure_ (i := 1) (N := some 50) (v := ?_) (a' := ?_) #[true, true, false, false, false, false, false, false] rfl rfl (by kernel_rfl) (fun _ _ _ h => h) (Or.inl ⟨by rfl, ?_⟩) ?_ ?_
  rotate_left
  · intro w'
    go_simp
    with_reducible rfl
  rotate_left
  · simp only [Act.put, List.setIfInBounds_toArray, List.set_cons_zero, List.set_cons_succ, i64_w, i32_w]
    rfl
  refine take_ (i := 2) (N := some 51) (v := ?_) (a' := ?_) #[true, true, true, false, false, false, false, false] rfl rfl (by kernel_rfl) (fun _ _ _ h => h) (Or.inl ⟨by rfl, ?_⟩) hHeld ?_ ?_
  rotate_left
  · rintro w' ⟨s0, s1⟩
    go_simp
    with_reducible rfl
  rotate_left
  · simp only [Act.put, List.setIfInBounds_toArray, List.set_cons_zero, List.set_cons_succ, i64_w, i32_w]
    rfl
  refine take_ (i := 3) (N := some 52) (v := ?_) (a' := ?_) #[true, true, true, true, false, false, false, false] rfl rfl (by kernel_rfl) (fun _ _ _ h => h) (Or.inl ⟨by rfl, ?_⟩) hHeld ?_ ?_
  rotate_left
  · rintro w' ⟨s0, s1⟩
    refine Eq.trans (load_exec (by rfl) (by rfl) s0) ?_
    with_reducible rfl
  rotate_left
  · simp only [Act.put, List.setIfInBounds_toArray, List.set_cons_zero, List.set_cons_succ, i64_w, i32_w]
    rfl
  refine one_ (i := 4) (N := some 53) #[true, true, true, true, true, false, false, false] rfl rfl (by kernel_rfl) (by decide) (fun K hK => ?_)
  refine goes_ Try.func24 (by kernel_rfl) rfl #[.agg C] (by rfl) rfl rfl (by simp only [List.map_toArray, List.map_cons, List.map_nil]; rfl) ?_
  with_reducible refine (HPr.out _).mono ?_
  rintro e w4 ⟨rfl, hb⟩
  refine ⟨_, rfl, ?_⟩
  have HC4 := Aside0.mk ((hb.block _ (blk_lt HC3d.out)).trans HC3d.out)
  have HB4 := Aside0.mk (below_step HB3d.out hb)
  clear hb
  refine hK.out _ _ ⟨(load16 HC4.out HSC.out), (HCV.out _ HB4.out)⟩ (fun hHeld => ?_)
  clear hK K
  refine norm_ (a' := ?_) ?_ ?_
  rotate_left
  · show Act.put _ (some 53) _ = _
    simp only [Act.put, List.setIfInBounds_toArray, List.set_cons_zero, List.set_cons_succ, i64_w, i32_w]
    rfl
  refine one_ (i := 5) (N := some 54) #[true, true, true, true, true, true, false, false] rfl rfl (by kernel_rfl) (by decide) (fun K hK => ?_)
  refine goes_ Try.func36 (by kernel_rfl) rfl #[.string s, .string P9] (by rfl) rfl rfl (by simp only [List.map_toArray, List.map_cons, List.map_nil]; rfl) ?_
  with_reducible refine (strings_HasPrefix.calls s P9 hp9 _ HPX.out).mono ?_
  rintro e w5 ⟨rfl, n5, rfl⟩
  refine ⟨_, rfl, ?_⟩
  have HC5 : Aside0 ((w4.drewN n5).heap[w.heap.size]? = some (.cells C 28 (0, 0))) := ⟨HC4.out⟩
  have HB5 := Aside0.mk (pw_below_drewN HB4.out n5)
  refine hK.out _ _ ⟨(load16 HC5.out HSC.out), (HCV.out _ HB5.out)⟩ (fun hHeld => ?_)
  clear hK K
  refine norm_ (a' := ?_) ?_ ?_
  rotate_left
  · show Act.put _ (some 54) _ = _
    simp only [Act.put, List.setIfInBounds_toArray, List.set_cons_zero, List.set_cons_succ, i64_w, i32_w]
    rfl
  refine pure_ (i := 6) (N := some 4) (v := ?_) (a' := ?_) #[true, true, true, true, true, true, true, false] rfl rfl (by kernel_rfl) (fun _ _ _ h => h) (Or.inl ⟨by rfl, ?_⟩) ?_ ?_
  rotate_left
  · intro w'
    go_simp
    with_reducible rfl
  rotate_left
  · simp only [Act.put, List.setIfInBounds_toArray, List.set_cons_zero, List.set_cons_succ, i64_w, i32_w]
    rfl
  refine pure_ (i := 7) (N := some 5) (v := ?_) (a' := ?_) #[true, true, true, true, true, true, true, true] rfl rfl (by kernel_rfl) (fun _ _ _ h => h) (Or.inl ⟨by rfl, ?_⟩) ?_ ?_
  rotate_left
  · intro w'
    go_simp
    with_reducible rfl
  rotate_left
  · simp only [Act.put, List.setIfInBounds_toArray, List.set_cons_zero, List.set_cons_succ, i64_w, i32_w]
    rfl
  refine done_ (by kernel_rfl) ?_
  go_wp2
  go_ret2
  exact ⟨A9, c9, rfl, HC9.out, HCS.out _ (Kd.C_below HR0.out HB5.out), HB5.out⟩
set_option maxHeartbeats 8000000 in
set_option maxRecDepth 100000 in
theorem HM.long_past {lo g : Nat} {Bs : List (List Int)} {size m : Int} (a : List Int) (n : Nat) (w : World) (h : HM lo w g Bs size m) (ha : a.length = 16) (hab : isB a) (hn : le4v a = (n : Int)) (h12 : 12 < n) (hn4 : n ≤ 4096) (q at_ : Nat) (b : List Int) (hbq : Bs[q]? = some b) (hp8 : le4v (a.drop 8) = (q : Int)) (hp12 : le4v (a.drop 12) = (at_ : Int)) (h65 : at_ ≤ 65536) (hnb : Bs.length ≤ 100000) (hpast : b.length < at_ + n) :
    Calls Try.prog 27 #[.pointer (some ⟨g, 0, none⟩), .agg (cel a)] w fun e w' => e = .returned (.tuple #[.slice none 0 0, .bool false]) ∧ Below w.heap.size w w' := by
  have HLn := Aside0.mk (fun w => view_Len.calls a w ha hab)
  have HPr := Aside0.mk (fun w => view_Prefix.calls a w ha hab)
  have HPl := Aside0.mk (fun w => view_Place.calls a w ha hab)
  rw [hn] at HLn HPl
  rw [if_neg (by omega), if_neg (by omega), hp8, hp12] at HPl
  obtain ⟨P9, hP9⟩ : ∃ P, P = pvw a := ⟨_, rfl⟩
  rw [show strOfNums ((a.drop 4).take (if le4v a < 4 then (le4v a).toNat else 4)) = P9 from hP9.symm] at HPr
  obtain ⟨C, hC⟩ : ∃ C, C = cel a := ⟨_, rfl⟩
  have HSC : Aside0 (C.size = 16) := ⟨by rw [hC, cel_size, ha]⟩
  rw [← hC] at HLn HPr HPl ⊢
  obtain ⟨gb, cb, c, A, xs, hp⟩ := h.parts q b hbq
  have hqn : q < xs.length := (List.getElem?_eq_some_iff.1 hp.hq).1
  have hnl : xs.length ≤ 100000 := by rw [hp.hl]; exact hnb
  have HX0 : Aside0 (∀ W : World, Below w.heap.size w W → W.cell? ⟨g, 0, none⟩ = some (.slice (some ⟨gb, 0, none⟩) xs.length cb)) := ⟨fun W hW => blk_cell ((hW.block _ (blk_lt hp.hg)).trans hp.hg) 0⟩
  have HX1 : Aside0 (∀ W : World, Below w.heap.size w W → W.cell? ⟨gb, q, none⟩ = some (.slice A b.length c)) := ⟨fun W hW => by have hl := World.block_lt_of_cell? _ _ hp.cell; rw [← hp.cell]; unfold World.cell?; rw [hW.block _ hl]⟩
  obtain ⟨nb, hnbe⟩ : ∃ nb, nb = xs.length := ⟨_, rfl⟩
  rw [← hnbe] at HX0 hqn hnl
  have p3 : ((0 : Int) ≤ (q : Int)) = True := eq_true (by omega)
  have q3 : ((q : Int) < (nb : Int)) = True := eq_true (by omega)
  have q3n : (q < nb) = True := eq_true hqn
  have tge : decide ((nb : Int) ≤ (q : Int)) = false := decide_eq_false (by omega)
  have tgen : decide (nb ≤ q) = false := decide_eq_false (by omega)
  have tn : decide ((b.length : Int) < (at_ : Int) + (n : Int)) = true := decide_eq_true (by omega)
  have hwn : wrap64 ((at_ : Int) + (n : Int)) = (at_ : Int) + (n : Int) := wsum at_ n (Nat.le_trans (Nat.add_le_add h65 hn4) (by decide))
  clear h ha hab hn h12 hn4 hbq hp8 hp12 h65 hnb hpast hP9 hC hp hqn hnl hnbe
  have HC0 := Aside0.mk (blk_new w (.cells C 28))
  have HB0 := Aside0.mk (below_alloc (Below.refl w.heap.size w) (.cells C 28))
  go_enter Try.func27, Try.ntmps27
  go_wp2_with (first | ((with_reducible refine gate_dst (N := 10) rfl ?_); refine wpList_load_row rfl 28 _ rfl w.heap.size (by rfl) 28 C (0, 0) _ HC0.out Try.underlying28 rfl (by rw [info16, HSC.out]) ?_))
  refine (HPl.out _).mono ?_
  rintro e w1 ⟨rfl, hb⟩
  have HC1 := Aside0.mk ((hb.block _ (blk_lt HC0.out)).trans HC0.out)
  have HB1 := Aside0.mk (below_step HB0.out hb)
  clear hb
  go_wp2_with fail
  have HC1d : Aside0 (w1.drew.heap[w.heap.size]? = some (.cells C 28 (0, 0))) := ⟨HC1.out⟩
  have HB1d := Aside0.mk (below_drew1 HB1.out)
  refine start_ (n := 22) (S := fun w' => (loadVar 28 ⟨w.heap.size, 0, none⟩).run Try.prog w' = .ok (.agg C) w' ∧ w'.cell? ⟨g, 0, none⟩ = some (.slice (some ⟨gb, 0, none⟩) nb cb) ∧ w'.cell? ⟨gb, q, none⟩ = some (.slice A b.length c)) (ds := []) #[false, false, false, false, false, false, false, false, false, false, false, false, false, false, false, false, false, false, false, false, false, false] (by kernel_rfl) rfl rfl ⟨(load16 HC1d.out HSC.out), (HX0.out _ HB1d.out), (HX1.out _ HB1d.out)⟩ (fun hHeld => ?_)
  refine pure_ (i := 0) (N := some 14) (v := ?_) (a' := ?_) #[true, false, false, false, false, false, false, false, false, false, false, false, false, false, false, false, false, false, false, false, false, false] rfl rfl (by kernel_rfl) (fun _ _ _ h => h) (Or.inl ⟨by rfl, ?_⟩) ?_ ?_
  rotate_left
  · intro w'
    go_simp
    with_reducible rfl
  rotate_left
  · simp only [Act.put, List.setIfInBounds_toArray, List.set_cons_zero, List.set_cons_succ, i64_w, i32_w]
    rfl
  refine pure_ (i := 1) (N := some 15) (v := ?_) (a' := ?_) #[true, true, false, false, false, false, false, false, false, false, false, false, false, false, false, false, false, false, false, false, false, false] rfl rfl (by kernel_rfl) (fun _ _ _ h => h) (Or.inl ⟨by rfl, ?_⟩) ?_ ?_
  rotate_left
  · intro w'
    go_simp
    with_reducible rfl
  rotate_left
  · simp only [Act.put, List.setIfInBounds_toArray, List.set_cons_zero, List.set_cons_succ, i64_w, i32_w]
    rfl
  refine pure_ (i := 2) (N := some 16) (v := ?_) (a' := ?_) #[true, true, true, false, false, false, false, false, false, false, false, false, false, false, false, false, false, false, false, false, false, false] rfl rfl (by kernel_rfl) (fun _ _ _ h => h) (Or.inl ⟨by rfl, ?_⟩) ?_ ?_
  rotate_left
  · intro w'
    go_simp
    with_reducible rfl
  rotate_left
  · simp only [Act.put, List.setIfInBounds_toArray, List.set_cons_zero, List.set_cons_succ, i64_w, i32_w]
    rfl
  refine pure_ (i := 3) (N := some 17) (v := ?_) (a' := ?_) #[true, true, true, true, false, false, false, false, false, false, false, false, false, false, false, false, false, false, false, false, false, false] rfl rfl (by kernel_rfl) (fun _ _ _ h => h) (Or.inl ⟨by rfl, ?_⟩) ?_ ?_
  rotate_left
  · intro w'
    go_simp
    with_reducible rfl
  rotate_left
  · simp only [Act.put, List.setIfInBounds_toArray, List.set_cons_zero, List.set_cons_succ, i64_w, i32_w]
    rfl
  refine take_ (i := 4) (N := some 18) (v := ?_) (a' := ?_) #[true, true, true, true, true, false, false, false, false, false, false, false, false, false, false, false, false, false, false, false, false, false] rfl rfl (by kernel_rfl) (fun _ _ _ h => h) (Or.inl ⟨by rfl, ?_⟩) hHeld ?_ ?_
  rotate_left
  · rintro w' ⟨s0, s1, s2⟩
    go_simp
    with_reducible rfl
  rotate_left
  · simp only [Act.put, List.setIfInBounds_toArray, List.set_cons_zero, List.set_cons_succ, i64_w, i32_w]
    rfl
  refine pure_ (i := 5) (N := some 19) (v := ?_) (a' := ?_) #[true, true, true, true, true, true, false, false, false, false, false, false, false, false, false, false, false, false, false, false, false, false] rfl rfl (by kernel_rfl) (fun _ _ _ h => h) (Or.inl ⟨by rfl, ?_⟩) ?_ ?_
  rotate_left
  · intro w'
    go_simp
    with_reducible rfl
  rotate_left
  · simp only [Act.put, List.setIfInBounds_toArray, List.set_cons_zero, List.set_cons_succ, i64_w, i32_w]
    rfl
  refine pure_ (i := 6) (N := some 20) (v := ?_) (a' := ?_) #[true, true, true, true, true, true, true, false, false, false, false, false, false, false, false, false, false, false, false, false, false, false] rfl rfl (by kernel_rfl) (fun _ _ _ h => h) (Or.inl ⟨by rfl, ?_⟩) ?_ ?_
  rotate_left
  · intro w'
    go_simp
    with_reducible rfl
  rotate_left
  · simp only [Act.put, List.setIfInBounds_toArray, List.set_cons_zero, List.set_cons_succ, i64_w, i32_w]
    rfl
  refine pure_ (i := 7) (N := some 21) (v := ?_) (a' := ?_) #[true, true, true, true, true, true, true, true, false, false, false, false, false, false, false, false, false, false, false, false, false, false] rfl rfl (by kernel_rfl) (fun _ _ _ h => h) (Or.inl ⟨by rfl, ?_⟩) ?_ ?_
  rotate_left
  · intro w'
    go_simp
    with_reducible rfl
  rotate_left
  · simp only [Act.put, List.setIfInBounds_toArray, List.set_cons_zero, List.set_cons_succ, i64_w, i32_w]
    rfl
  refine pure_ (i := 8) (N := some 22) (v := ?_) (a' := ?_) #[true, true, true, true, true, true, true, true, true, false, false, false, false, false, false, false, false, false, false, false, false, false] rfl rfl (by kernel_rfl) (fun _ _ _ h => h) (Or.inl ⟨by rfl, ?_⟩) ?_ ?_
  rotate_left
  · intro w'
    go_simp
    with_reducible rfl
  rotate_left
  · simp only [Act.put, List.setIfInBounds_toArray, List.set_cons_zero, List.set_cons_succ, i64_w, i32_w]
    rfl
  refine pure_ (i := 12) (N := some 26) (v := ?_) (a' := ?_) #[true, true, true, true, true, true, true, true, true, false, false, false, true, false, false, false, false, false, false, false, false, false] rfl rfl (by kernel_rfl) (fun _ _ _ h => h) (Or.inl ⟨by rfl, ?_⟩) ?_ ?_
  rotate_left
  · intro w'
    go_simp
    with_reducible rfl
  rotate_left
  · simp only [Act.put, List.setIfInBounds_toArray, List.set_cons_zero, List.set_cons_succ, i64_w, i32_w]
    rfl
  refine pure_ (i := 13) (N := some 27) (v := ?_) (a' := ?_) #[true, true, true, true, true, true, true, true, true, false, false, false, true, true, false, false, false, false, false, false, false, false] rfl rfl (by kernel_rfl) (fun _ _ _ h => h) (Or.inl ⟨by rfl, ?_⟩) ?_ ?_
  rotate_left
  · intro w'
    go_simp
    with_reducible rfl
  rotate_left
  · simp only [Act.put, List.setIfInBounds_toArray, List.set_cons_zero, List.set_cons_succ, i64_w, i32_w]
    rfl
  refine pure_ (i := 14) (N := some 28) (v := ?_) (a' := ?_) #[true, true, true, true, true, true, true, true, true, false, false, false, true, true, true, false, false, false, false, false, false, false] rfl rfl (by kernel_rfl) (fun _ _ _ h => h) (Or.inl ⟨by rfl, ?_⟩) ?_ ?_
  rotate_left
  · intro w'
    go_simp
    with_reducible rfl
  rotate_left
  · simp only [Act.put, List.setIfInBounds_toArray, List.set_cons_zero, List.set_cons_succ, i64_w, i32_w]
    rfl
  refine pure_ (i := 16) (N := some 30) (v := ?_) (a' := ?_) #[true, true, true, true, true, true, true, true, true, false, false, false, true, true, true, false, true, false, false, false, false, false] rfl rfl (by kernel_rfl) (fun _ _ _ h => h) (Or.inl ⟨by rfl, ?_⟩) ?_ ?_
  rotate_left
  · intro w'
    go_simp
    with_reducible rfl
  rotate_left
  · simp only [Act.put, List.setIfInBounds_toArray, List.set_cons_zero, List.set_cons_succ, i64_w, i32_w]
    rfl
  refine take_ (i := 9) (N := some 23) (v := ?_) (a' := ?_) #[true, true, true, true, true, true, true, true, true, true, false, false, true, true, true, false, true, false, false, false, false, false] rfl rfl (by kernel_rfl) (fun _ _ _ h => h) (Or.inl ⟨by rfl, ?_⟩) hHeld ?_ ?_
  rotate_left
  · rintro w' ⟨s0, s1, s2⟩
    refine Eq.trans (load_exec (by rfl) (by rfl) s0) ?_
    with_reducible rfl
  rotate_left
  · simp only [Act.put, List.setIfInBounds_toArray, List.set_cons_zero, List.set_cons_succ, i64_w, i32_w]
    rfl
  refine take_ (i := 15) (N := some 29) (v := ?_) (a' := ?_) #[true, true, true, true, true, true, true, true, true, true, false, false, true, true, true, true, true, false, false, false, false, false] rfl rfl (by kernel_rfl) (fun _ _ _ h => h) (Or.inl ⟨by rfl, ?_⟩) hHeld ?_ ?_
  rotate_left
  · rintro w' ⟨s0, s1, s2⟩
    go_simp
    with_reducible rfl
  rotate_left
  · simp only [Act.put, List.setIfInBounds_toArray, List.set_cons_zero, List.set_cons_succ, i64_w, i32_w]
    rfl
  refine pure_ (i := 17) (N := some 31) (v := ?_) (a' := ?_) #[true, true, true, true, true, true, true, true, true, true, false, false, true, true, true, true, true, true, false, false, false, false] rfl rfl (by kernel_rfl) (fun _ _ _ h => h) (Or.inl ⟨by rfl, ?_⟩) ?_ ?_
  rotate_left
  · intro w'
    go_simp
    with_reducible rfl
  rotate_left
  · simp only [Act.put, List.setIfInBounds_toArray, List.set_cons_zero, List.set_cons_succ, i64_w, i32_w]
    rfl
  refine take_ (i := 18) (N := some 32) (v := ?_) (a' := ?_) #[true, true, true, true, true, true, true, true, true, true, false, false, true, true, true, true, true, true, true, false, false, false] rfl rfl (by kernel_rfl) (fun _ _ _ h => h) (Or.inl ⟨by rfl, ?_⟩) hHeld ?_ ?_
  rotate_left
  · rintro w' ⟨s0, s1, s2⟩
    go_simp
    with_reducible rfl
  rotate_left
  · simp only [Act.put, List.setIfInBounds_toArray, List.set_cons_zero, List.set_cons_succ, i64_w, i32_w]
    rfl
  refine pure_ (i := 19) (N := some 33) (v := ?_) (a' := ?_) #[true, true, true, true, true, true, true, true, true, true, false, false, true, true, true, true, true, true, true, true, false, false] rfl rfl (by kernel_rfl) (fun _ _ _ h => h) (Or.inl ⟨by rfl, ?_⟩) ?_ ?_
  rotate_left
  · intro w'
    go_simp
    with_reducible rfl
  rotate_left
  · simp only [Act.put, List.setIfInBounds_toArray, List.set_cons_zero, List.set_cons_succ, i64_w, i32_w]
    rfl
  refine one_ (i := 10) (N := some 24) #[true, true, true, true, true, true, true, true, true, true, true, false, true, true, true, true, true, true, true, true, false, false] rfl rfl (by kernel_rfl) (by decide) (fun K hK => ?_)
  refine goes_ Try.func13 (by kernel_rfl) rfl #[.agg C] (by rfl) rfl rfl (by simp only [List.map_toArray, List.map_cons, List.map_nil]; rfl) ?_
  with_reducible refine (HLn.out _).mono ?_
  rintro e w2 ⟨rfl, hb⟩
  refine ⟨_, rfl, ?_⟩
  have HC2 := Aside0.mk ((hb.block _ (blk_lt HC1d.out)).trans HC1d.out)
  have HB2 := Aside0.mk (below_step HB1d.out hb)
  clear hb
  refine hK.out _ _ ⟨(load16 HC2.out HSC.out), (HX0.out _ HB2.out), (HX1.out _ HB2.out)⟩ (fun hHeld => ?_)
  clear hK K
  refine norm_ (a' := ?_) ?_ ?_
  rotate_left
  · show Act.put _ (some 24) _ = _
    simp only [Act.put, List.setIfInBounds_toArray, List.set_cons_zero, List.set_cons_succ, i64_w, i32_w]
    rfl
  refine pure_ (i := 11) (N := some 25) (v := ?_) (a' := ?_) #[true, true, true, true, true, true, true, true, true, true, true, true, true, true, true, true, true, true, true, true, false, false] rfl rfl (by kernel_rfl) (fun _ _ _ h => h) (Or.inl ⟨by rfl, ?_⟩) ?_ ?_
  rotate_left
  · intro w'
    go_simp
    with_reducible rfl
  rotate_left
  · simp only [Act.put, List.setIfInBounds_toArray, List.set_cons_zero, List.set_cons_succ, i64_w, i32_w]
    rfl
  refine pure_ (i := 20) (N := some 34) (v := ?_) (a' := ?_) #[true, true, true, true, true, true, true, true, true, true, true, true, true, true, true, true, true, true, true, true, true, false] rfl rfl (by kernel_rfl) (fun _ _ _ h => h) (Or.inl ⟨by rfl, ?_⟩) ?_ ?_
  rotate_left
  · intro w'
    go_simp
    with_reducible rfl
  rotate_left
  · simp only [Act.put, List.setIfInBounds_toArray, List.set_cons_zero, List.set_cons_succ, i64_w, i32_w]
    rfl
  refine pure_ (i := 21) (N := some 35) (v := ?_) (a' := ?_) #[true, true, true, true, true, true, true, true, true, true, true, true, true, true, true, true, true, true, true, true, true, true] rfl rfl (by kernel_rfl) (fun _ _ _ h => h) (Or.inl ⟨by rfl, ?_⟩) ?_ ?_
  rotate_left
  · intro w'
    go_simp
    with_reducible rfl
  rotate_left
  · simp only [Act.put, List.setIfInBounds_toArray, List.set_cons_zero, List.set_cons_succ, i64_w, i32_w]
    rfl
  refine done_ (by kernel_rfl) ?_
  go_wp2_with fail
  go_ret2
  exact ⟨rfl, HB2.out⟩
set_option maxHeartbeats 8000000 in
set_option maxRecDepth 100000 in
theorem HM.long_none {lo g : Nat} {Bs : List (List Int)} {size m : Int} (a : List Int) (n : Nat) (w : World) (h : HM lo w g Bs size m) (ha : a.length = 16) (hab : isB a) (hn : le4v a = (n : Int)) (h12 : 12 < n) (hn4 : n ≤ 4096) (q at_ : Nat) (hp8 : le4v (a.drop 8) = (q : Int)) (hp12 : le4v (a.drop 12) = (at_ : Int)) (hq : Bs.length ≤ q) :
    Calls Try.prog 27 #[.pointer (some ⟨g, 0, none⟩), .agg (cel a)] w fun e w' => e = .returned (.tuple #[.slice none 0 0, .bool false]) ∧ Below w.heap.size w w' := by
  have HLn := Aside0.mk (fun w => view_Len.calls a w ha hab)
  have HPr := Aside0.mk (fun w => view_Prefix.calls a w ha hab)
  have HPl := Aside0.mk (fun w => view_Place.calls a w ha hab)
  rw [hn] at HLn HPl
  rw [if_neg (by omega), if_neg (by omega), hp8, hp12] at HPl
  obtain ⟨P9, hP9⟩ : ∃ P, P = pvw a := ⟨_, rfl⟩
  rw [show strOfNums ((a.drop 4).take (if le4v a < 4 then (le4v a).toNat else 4)) = P9 from hP9.symm] at HPr
  obtain ⟨C, hC⟩ : ∃ C, C = cel a := ⟨_, rfl⟩
  have HSC : Aside0 (C.size = 16) := ⟨by rw [hC, cel_size, ha]⟩
  rw [← hC] at HLn HPr HPl ⊢
  obtain ⟨h0, vB, xs, hg, h1, hl, h2, h3⟩ := h
  obtain ⟨AB, cB, hvB, hcB, hrB⟩ := Kd.R_reads h1
  subst hvB
  obtain ⟨nb, hnbe⟩ : ∃ nb, nb = xs.length := ⟨_, rfl⟩
  rw [← hnbe] at hg hl
  have HX0 : Aside0 (∀ W : World, Below w.heap.size w W → W.cell? ⟨g, 0, none⟩ = some (.slice AB nb cB)) := ⟨fun W hW => blk_cell ((hW.block _ (blk_lt hg)).trans hg) 0⟩
  have tge : decide ((nb : Int) ≤ (q : Int)) = true := decide_eq_true (by omega)
  have tgen : decide (nb ≤ q) = true := decide_eq_true (by omega)
  clear ha hab hn h12 hn4 hp8 hp12 hP9 hC hq h0 hg h1 hl h2 h3 hcB hrB hnbe
  have HC0 := Aside0.mk (blk_new w (.cells C 28))
  have HB0 := Aside0.mk (below_alloc (Below.refl w.heap.size w) (.cells C 28))
  go_enter Try.func27, Try.ntmps27
  go_wp2_with (first | ((with_reducible refine gate_dst (N := 10) rfl ?_); refine wpList_load_row rfl 28 _ rfl w.heap.size (by rfl) 28 C (0, 0) _ HC0.out Try.underlying28 rfl (by rw [info16, HSC.out]) ?_))
  refine (HPl.out _).mono ?_
  rintro e w1 ⟨rfl, hb⟩
  have HC1 := Aside0.mk ((hb.block _ (blk_lt HC0.out)).trans HC0.out)
  have HB1 := Aside0.mk (below_step HB0.out hb)
  clear hb
  go_wp2_with fail
  have HC1d : Aside0 (w1.drew.heap[w.heap.size]? = some (.cells C 28 (0, 0))) := ⟨HC1.out⟩
  have HB1d := Aside0.mk (below_drew1 HB1.out)
  refine start_ (n := 22) (S := fun w' => w'.cell? ⟨g, 0, none⟩ = some (.slice AB nb cB)) (ds := []) #[false, false, false, false, false, false, false, false, false, false, false, false, false, false, false, false, false, false, false, false, false, false] (by kernel_rfl) rfl rfl ((HX0.out _ HB1d.out)) (fun hHeld => ?_)
  refine pure_ (i := 0) (N := some 14) (v := ?_) (a' := ?_) #[true, false, false, false, false, false, false, false, false, false, false, false, false, false, false, false, false, false, false, false, false, false] rfl rfl (by kernel_rfl) (fun _ _ _ h => h) (Or.inl ⟨by rfl, ?_⟩) ?_ ?_
  rotate_left
  · intro w'
    go_simp
    with_reducible rfl
  rotate_left
  · simp only [Act.put, List.setIfInBounds_toArray, List.set_cons_zero, List.set_cons_succ, i64_w, i32_w]
    rfl
  refine pure_ (i := 1) (N := some 15) (v := ?_) (a' := ?_) #[true, true, false, false, false, false, false, false, false, false, false, false, false, false, false, false, false, false, false, false, false, false] rfl rfl (by kernel_rfl) (fun _ _ _ h => h) (Or.inl ⟨by rfl, ?_⟩) ?_ ?_
  rotate_left
  · intro w'
    go_simp
    with_reducible rfl
  rotate_left
  · simp only [Act.put, List.setIfInBounds_toArray, List.set_cons_zero, List.set_cons_succ, i64_w, i32_w]
    rfl
  refine pure_ (i := 2) (N := some 16) (v := ?_) (a' := ?_) #[true, true, true, false, false, false, false, false, false, false, false, false, false, false, false, false, false, false, false, false, false, false] rfl rfl (by kernel_rfl) (fun _ _ _ h => h) (Or.inl ⟨by rfl, ?_⟩) ?_ ?_
  rotate_left
  · intro w'
    go_simp
    with_reducible rfl
  rotate_left
  · simp only [Act.put, List.setIfInBounds_toArray, List.set_cons_zero, List.set_cons_succ, i64_w, i32_w]
    rfl
  refine pure_ (i := 3) (N := some 17) (v := ?_) (a' := ?_) #[true, true, true, true, false, false, false, false, false, false, false, false, false, false, false, false, false, false, false, false, false, false] rfl rfl (by kernel_rfl) (fun _ _ _ h => h) (Or.inl ⟨by rfl, ?_⟩) ?_ ?_
  rotate_left
  · intro w'
    go_simp
    with_reducible rfl
  rotate_left
  · simp only [Act.put, List.setIfInBounds_toArray, List.set_cons_zero, List.set_cons_succ, i64_w, i32_w]
    rfl
  refine take_ (i := 4) (N := some 18) (v := ?_) (a' := ?_) #[true, true, true, true, true, false, false, false, false, false, false, false, false, false, false, false, false, false, false, false, false, false] rfl rfl (by kernel_rfl) (fun _ _ _ h => h) (Or.inl ⟨by rfl, ?_⟩) hHeld ?_ ?_
  rotate_left
  · intro w' s0
    go_simp
    with_reducible rfl
  rotate_left
  · simp only [Act.put, List.setIfInBounds_toArray, List.set_cons_zero, List.set_cons_succ, i64_w, i32_w]
    rfl
  refine pure_ (i := 5) (N := some 19) (v := ?_) (a' := ?_) #[true, true, true, true, true, true, false, false, false, false, false, false, false, false, false, false, false, false, false, false, false, false] rfl rfl (by kernel_rfl) (fun _ _ _ h => h) (Or.inl ⟨by rfl, ?_⟩) ?_ ?_
  rotate_left
  · intro w'
    go_simp
    with_reducible rfl
  rotate_left
  · simp only [Act.put, List.setIfInBounds_toArray, List.set_cons_zero, List.set_cons_succ, i64_w, i32_w]
    rfl
  refine pure_ (i := 6) (N := some 20) (v := ?_) (a' := ?_) #[true, true, true, true, true, true, true, false, false, false, false, false, false, false, false, false, false, false, false, false, false, false] rfl rfl (by kernel_rfl) (fun _ _ _ h => h) (Or.inl ⟨by rfl, ?_⟩) ?_ ?_
  rotate_left
  · intro w'
    go_simp
    with_reducible rfl
  rotate_left
  · simp only [Act.put, List.setIfInBounds_toArray, List.set_cons_zero, List.set_cons_succ, i64_w, i32_w]
    rfl
  refine pure_ (i := 7) (N := some 21) (v := ?_) (a' := ?_) #[true, true, true, true, true, true, true, true, false, false, false, false, false, false, false, false, false, false, false, false, false, false] rfl rfl (by kernel_rfl) (fun _ _ _ h => h) (Or.inl ⟨by rfl, ?_⟩) ?_ ?_
  rotate_left
  · intro w'
    go_simp
    with_reducible rfl
  rotate_left
  · simp only [Act.put, List.setIfInBounds_toArray, List.set_cons_zero, List.set_cons_succ, i64_w, i32_w]
    rfl
  refine pure_ (i := 8) (N := some 22) (v := undef) (a' := ?_) #[true, true, true, true, true, true, true, true, true, false, false, false, false, false, false, false, false, false, false, false, false, false] rfl rfl (by kernel_rfl) (fun _ _ _ h => h) (Or.inr ⟨by rfl, rfl⟩) ?_ ?_
  rotate_left
  · simp only [Act.put, List.setIfInBounds_toArray, List.set_cons_zero, List.set_cons_succ, i64_w, i32_w]
    rfl
  refine pure_ (i := 9) (N := some 23) (v := undef) (a' := ?_) #[true, true, true, true, true, true, true, true, true, true, false, false, false, false, false, false, false, false, false, false, false, false] rfl rfl (by kernel_rfl) (fun _ _ _ h => h) (Or.inr ⟨by rfl, rfl⟩) ?_ ?_
  rotate_left
  · simp only [Act.put, List.setIfInBounds_toArray, List.set_cons_zero, List.set_cons_succ, i64_w, i32_w]
    rfl
  refine pure_ (i := 10) (N := some 24) (v := undef) (a' := ?_) #[true, true, true, true, true, true, true, true, true, true, true, false, false, false, false, false, false, false, false, false, false, false] rfl rfl (by kernel_rfl) (fun _ _ _ h => h) (Or.inr ⟨by rfl, rfl⟩) ?_ ?_
  rotate_left
  · simp only [Act.put, List.setIfInBounds_toArray, List.set_cons_zero, List.set_cons_succ, i64_w, i32_w]
    rfl
  refine pure_ (i := 11) (N := some 25) (v := undef) (a' := ?_) #[true, true, true, true, true, true, true, true, true, true, true, true, false, false, false, false, false, false, false, false, false, false] rfl rfl (by kernel_rfl) (fun _ _ _ h => h) (Or.inr ⟨by rfl, rfl⟩) ?_ ?_
  rotate_left
  · simp only [Act.put, List.setIfInBounds_toArray, List.set_cons_zero, List.set_cons_succ, i64_w, i32_w]
    rfl
  refine pure_ (i := 12) (N := some 26) (v := undef) (a' := ?_) #[true, true, true, true, true, true, true, true, true, true, true, true, true, false, false, false, false, false, false, false, false, false] rfl rfl (by kernel_rfl) (fun _ _ _ h => h) (Or.inr ⟨by rfl, rfl⟩) ?_ ?_
  rotate_left
  · simp only [Act.put, List.setIfInBounds_toArray, List.set_cons_zero, List.set_cons_succ, i64_w, i32_w]
    rfl
  refine pure_ (i := 13) (N := some 27) (v := undef) (a' := ?_) #[true, true, true, true, true, true, true, true, true, true, true, true, true, true, false, false, false, false, false, false, false, false] rfl rfl (by kernel_rfl) (fun _ _ _ h => h) (Or.inr ⟨by rfl, rfl⟩) ?_ ?_
  rotate_left
  · simp only [Act.put, List.setIfInBounds_toArray, List.set_cons_zero, List.set_cons_succ, i64_w, i32_w]
    rfl
  refine pure_ (i := 14) (N := some 28) (v := undef) (a' := ?_) #[true, true, true, true, true, true, true, true, true, true, true, true, true, true, true, false, false, false, false, false, false, false] rfl rfl (by kernel_rfl) (fun _ _ _ h => h) (Or.inr ⟨by rfl, rfl⟩) ?_ ?_
  rotate_left
  · simp only [Act.put, List.setIfInBounds_toArray, List.set_cons_zero, List.set_cons_succ, i64_w, i32_w]
    rfl
  refine pure_ (i := 15) (N := some 29) (v := undef) (a' := ?_) #[true, true, true, true, true, true, true, true, true, true, true, true, true, true, true, true, false, false, false, false, false, false] rfl rfl (by kernel_rfl) (fun _ _ _ h => h) (Or.inr ⟨by rfl, rfl⟩) ?_ ?_
  rotate_left
  · simp only [Act.put, List.setIfInBounds_toArray, List.set_cons_zero, List.set_cons_succ, i64_w, i32_w]
    rfl
  refine pure_ (i := 16) (N := some 30) (v := undef) (a' := ?_) #[true, true, true, true, true, true, true, true, true, true, true, true, true, true, true, true, true, false, false, false, false, false] rfl rfl (by kernel_rfl) (fun _ _ _ h => h) (Or.inr ⟨by rfl, rfl⟩) ?_ ?_
  rotate_left
  · simp only [Act.put, List.setIfInBounds_toArray, List.set_cons_zero, List.set_cons_succ, i64_w, i32_w]
    rfl
  refine pure_ (i := 17) (N := some 31) (v := undef) (a' := ?_) #[true, true, true, true, true, true, true, true, true, true, true, true, true, true, true, true, true, true, false, false, false, false] rfl rfl (by kernel_rfl) (fun _ _ _ h => h) (Or.inr ⟨by rfl, rfl⟩) ?_ ?_
  rotate_left
  · simp only [Act.put, List.setIfInBounds_toArray, List.set_cons_zero, List.set_cons_succ, i64_w, i32_w]
    rfl
  refine pure_ (i := 18) (N := some 32) (v := undef) (a' := ?_) #[true, true, true, true, true, true, true, true, true, true, true, true, true, true, true, true, true, true, true, false, false, false] rfl rfl (by kernel_rfl) (fun _ _ _ h => h) (Or.inr ⟨by rfl, rfl⟩) ?_ ?_
  rotate_left
  · simp only [Act.put, List.setIfInBounds_toArray, List.set_cons_zero, List.set_cons_succ, i64_w, i32_w]
    rfl
  refine pure_ (i := 19) (N := some 33) (v := undef) (a' := ?_) #[true, true, true, true, true, true, true, true, true, true, true, true, true, true, true, true, true, true, true, true, false, false] rfl rfl (by kernel_rfl) (fun _ _ _ h => h) (Or.inr ⟨by rfl, rfl⟩) ?_ ?_
  rotate_left
  · simp only [Act.put, List.setIfInBounds_toArray, List.set_cons_zero, List.set_cons_succ, i64_w, i32_w]
    rfl
  refine pure_ (i := 20) (N := some 34) (v := undef) (a' := ?_) #[true, true, true, true, true, true, true, true, true, true, true, true, true, true, true, true, true, true, true, true, true, false] rfl rfl (by kernel_rfl) (fun _ _ _ h => h) (Or.inr ⟨by rfl, rfl⟩) ?_ ?_
  rotate_left
  · simp only [Act.put, List.setIfInBounds_toArray, List.set_cons_zero, List.set_cons_succ, i64_w, i32_w]
    rfl
  refine pure_ (i := 21) (N := some 35) (v := ?_) (a' := ?_) #[true, true, true, true, true, true, true, true, true, true, true, true, true, true, true, true, true, true, true, true, true, true] rfl rfl (by kernel_rfl) (fun _ _ _ h => h) (Or.inl ⟨by rfl, ?_⟩) ?_ ?_
  rotate_left
  · intro w'
    go_simp
    with_reducible rfl
  rotate_left
  · simp only [Act.put, List.setIfInBounds_toArray, List.set_cons_zero, List.set_cons_succ, i64_w, i32_w]
    rfl
  refine done_ (by kernel_rfl) ?_
  go_wp2_with fail
  go_ret2
  exact ⟨rfl, HB1d.out⟩
set_option maxHeartbeats 8000000 in
set_option maxRecDepth 100000 in
theorem get_wrong (g : Nat) (a : List Int) (w : World) (ha : a.length = 16) (hab : isB a) (hr : rightB a = false) : Calls Try.prog 12 #[.pointer (some ⟨g, 0, none⟩), .agg (cel a)] w fun e w' => e = .returned (.tuple #[.string ⟨#[]⟩, .bool false]) ∧ Below w.heap.size w w' := by
  have HRt := Aside0.mk (fun w => view_Right.calls a w ha hab)
  rw [hr] at HRt
  obtain ⟨C, hC⟩ : ∃ C, C = cel a := ⟨_, rfl⟩
  have HSC : Aside0 (C.size = 16) := ⟨by rw [hC, cel_size, ha]⟩
  rw [← hC] at HRt ⊢
  clear ha hab hr hC
  have HC0 := Aside0.mk (blk_new w (.cells C 28))
  have HB0 := Aside0.mk (below_alloc (Below.refl w.heap.size w) (.cells C 28))
  go_enter Try.func12, Try.ntmps12
  go_wp2_with (first | ((with_reducible refine gate_dst (N := 9) rfl ?_); refine wpList_load_row rfl 28 _ rfl w.heap.size (by rfl) 28 C (0, 0) _ HC0.out Try.underlying28 rfl (by rw [info16, HSC.out]) ?_))
  refine (HRt.out _).mono ?_
  rintro e w1 ⟨rfl, hb⟩
  have HC1 := Aside0.mk ((hb.block _ (blk_lt HC0.out)).trans HC0.out)
  have HB1 := Aside0.mk (below_step HB0.out hb)
  clear hb
  go_wp2_with fail
  go_ret2
  exact ⟨rfl, HB1.out⟩
set_option maxHeartbeats 8000000 in
set_option maxRecDepth 100000 in
theorem get_no (g : Nat) (a : List Int) (n : Nat) (w : World) (ha : a.length = 16) (hab : isB a) (hr : rightB a = true) (hn : le4v a = (n : Int)) (h12 : 12 < n) (hlong : ∀ W : World, Below w.heap.size w W → Calls Try.prog 27 #[.pointer (some ⟨g, 0, none⟩), .agg (cel a)] W fun e w' => ∃ (A' : Option Addr) (k c' : Nat), e = .returned (.tuple #[.slice A' k c', .bool false]) ∧ Below W.heap.size W w') : Calls Try.prog 12 #[.pointer (some ⟨g, 0, none⟩), .agg (cel a)] w fun e w' => e = .returned (.tuple #[.string ⟨#[]⟩, .bool false]) ∧ Below w.heap.size w w' := by
  have HRt := Aside0.mk (fun w => view_Right.calls a w ha hab)
  have HSh := Aside0.mk (fun w => view_Short.calls a w ha hab)
  have HLg := Aside0.mk hlong
  rw [hr] at HRt
  rw [hn, decide_eq_false (show ¬ (n : Int) ≤ 12 by omega)] at HSh
  obtain ⟨C, hC⟩ : ∃ C, C = cel a := ⟨_, rfl⟩
  have HSC : Aside0 (C.size = 16) := ⟨by rw [hC, cel_size, ha]⟩
  rw [← hC] at HRt HSh HLg ⊢
  clear ha hab hr hn h12 hlong hC
  have HC0 := Aside0.mk (blk_new w (.cells C 28))
  have HB0 := Aside0.mk (below_alloc (Below.refl w.heap.size w) (.cells C 28))
  go_enter Try.func12, Try.ntmps12
  go_wp2_with (first | ((with_reducible refine gate_dst (N := 9) rfl ?_); refine wpList_load_row rfl 28 _ rfl w.heap.size (by rfl) 28 C (0, 0) _ HC0.out Try.underlying28 rfl (by rw [info16, HSC.out]) ?_))
  refine (HRt.out _).mono ?_
  rintro e w1 ⟨rfl, hb⟩
  have HC1 := Aside0.mk ((hb.block _ (blk_lt HC0.out)).trans HC0.out)
  have HB1 := Aside0.mk (below_step HB0.out hb)
  clear hb
  go_wp2_with (first | ((with_reducible refine gate_dst (N := 13) rfl ?_); refine wpList_load_row rfl 28 _ rfl w.heap.size (by rfl) 28 C (0, 0) _ HC1.out Try.underlying28 rfl (by rw [info16, HSC.out]) ?_))
  refine (HSh.out _).mono ?_
  rintro e w2 ⟨rfl, hb⟩
  have HC2 := Aside0.mk ((hb.block _ (blk_lt HC1.out)).trans HC1.out)
  have HB2 := Aside0.mk (below_step HB1.out hb)
  clear hb
  go_wp2_with (first | ((with_reducible refine gate_dst (N := 19) rfl ?_); refine wpList_load_row rfl 28 _ rfl w.heap.size (by rfl) 28 C (0, 0) _ HC2.out Try.underlying28 rfl (by rw [info16, HSC.out]) ?_))
  refine (HLg.out _ HB2.out).mono ?_
  rintro e w3 ⟨A9, k9, c9, rfl, hb⟩
  have HC3 := Aside0.mk ((hb.block _ (blk_lt HC2.out)).trans HC2.out)
  have HB3 := Aside0.mk (below_step HB2.out hb)
  clear hb
  go_wp2_with fail
  go_ret2
  exact ⟨rfl, HB3.out⟩
set_option maxHeartbeats 8000000 in
set_option maxRecDepth 100000 in
theorem get_yes (g : Nat) (a : List Int) (n : Nat) (w : World) (ha : a.length = 16) (hab : isB a) (hr : rightB a = true) (hn : le4v a = (n : Int)) (h12 : 12 < n) (bs : List Int) (hlong : ∀ W : World, Below w.heap.size w W → Calls Try.prog 27 #[.pointer (some ⟨g, 0, none⟩), .agg (cel a)] W fun e w' => ∃ (A' : Option Addr) (c' : Nat), e = .returned (.tuple #[.slice A' bs.length c', .bool true]) ∧ bs.length ≤ c' ∧ Kd.C (Kd.int .u8) w' A' bs.length bs ∧ Below W.heap.size W w') : Calls Try.prog 12 #[.pointer (some ⟨g, 0, none⟩), .agg (cel a)] w fun e w' => e = .returned (.tuple #[.string (strOfNums bs), .bool true]) ∧ Below w.heap.size w w' := by
  have HRt := Aside0.mk (fun w => view_Right.calls a w ha hab)
  have HSh := Aside0.mk (fun w => view_Short.calls a w ha hab)
  have HLg := Aside0.mk hlong
  rw [hr] at HRt
  rw [hn, decide_eq_false (show ¬ (n : Int) ≤ 12 by omega)] at HSh
  obtain ⟨C, hC⟩ : ∃ C, C = cel a := ⟨_, rfl⟩
  have HSC : Aside0 (C.size = 16) := ⟨by rw [hC, cel_size, ha]⟩
  rw [← hC] at HRt HSh HLg ⊢
  clear ha hab hr hn h12 hlong hC
  have HC0 := Aside0.mk (blk_new w (.cells C 28))
  have HB0 := Aside0.mk (below_alloc (Below.refl w.heap.size w) (.cells C 28))
  go_enter Try.func12, Try.ntmps12
  go_wp2_with (first | ((with_reducible refine gate_dst (N := 9) rfl ?_); refine wpList_load_row rfl 28 _ rfl w.heap.size (by rfl) 28 C (0, 0) _ HC0.out Try.underlying28 rfl (by rw [info16, HSC.out]) ?_))
  refine (HRt.out _).mono ?_
  rintro e w1 ⟨rfl, hb⟩
  have HC1 := Aside0.mk ((hb.block _ (blk_lt HC0.out)).trans HC0.out)
  have HB1 := Aside0.mk (below_step HB0.out hb)
  clear hb
  go_wp2_with (first | ((with_reducible refine gate_dst (N := 13) rfl ?_); refine wpList_load_row rfl 28 _ rfl w.heap.size (by rfl) 28 C (0, 0) _ HC1.out Try.underlying28 rfl (by rw [info16, HSC.out]) ?_))
  refine (HSh.out _).mono ?_
  rintro e w2 ⟨rfl, hb⟩
  have HC2 := Aside0.mk ((hb.block _ (blk_lt HC1.out)).trans HC1.out)
  have HB2 := Aside0.mk (below_step HB1.out hb)
  clear hb
  go_wp2_with (first | ((with_reducible refine gate_dst (N := 19) rfl ?_); refine wpList_load_row rfl 28 _ rfl w.heap.size (by rfl) 28 C (0, 0) _ HC2.out Try.underlying28 rfl (by rw [info16, HSC.out]) ?_))
  refine (HLg.out _ HB2.out).mono ?_
  rintro e w3 ⟨A9, c9, rfl, hc9, hcs, hb⟩
  have HC3 := Aside0.mk ((hb.block _ (blk_lt HC2.out)).trans HC2.out)
  have HB3 := Aside0.mk (below_step HB2.out hb)
  clear hb
  have hcv := Kd.C_string (P := Try.prog) (c := c9) Try.underlying36 Try.underlying5 Try.underlying9 hcs
  obtain ⟨q, hq⟩ : ∃ q, q = bs.length := ⟨_, rfl⟩
  rw [← hq] at hcv ⊢
  clear hc9 hcs hq
  go_wp2_with fail
  go_ret2
  exact ⟨rfl, HB3.out⟩
/-- A view of a string that a heap with these buffers holds. -/
def HoldsM (Bs : List (List Int)) (a : List Int) (s : ByteArray) : Prop := VW a s ∧ s.size ≤ 4096 ∧ ((s.size ≤ 12 ∧ a = mkS s) ∨ (12 < s.size ∧ ∃ (q at_ : Nat) (b : List Int), Bs[q]? = some b ∧ a = mkB s (q : Int) (at_ : Int) ∧ q ≤ 65535 ∧ at_ + s.size ≤ b.length ∧ b.length ≤ 65536 ∧ (b.drop at_).take s.size = bytesOf s))
theorem vw_M (s : ByteArray) (q at_ : Nat) (h : 12 < s.size) (h2 : s.size ≤ 4096) (hq : q ≤ 65535) (h3 : at_ ≤ 65536) : VW (mkB s (q : Int) (at_ : Int)) s := ⟨mkB_len s _ _ h, mkB_b s _ _, mkB_r s _ _ h h2 (by omega) (by omega) (by omega) (by omega), mkB_n s _ _ h2, mkB_p s _ _ h h2⟩
theorem HM.get {lo g : Nat} {Bs : List (List Int)} {size m : Int} (a : List Int) (s : ByteArray) (w : World) (h : HM lo w g Bs size m) (hnb : Bs.length ≤ 100000) (hh : HoldsM Bs a s) : Calls Try.prog 12 #[.pointer (some ⟨g, 0, none⟩), .agg (cel a)] w fun e w' => e = .returned (.tuple #[.string s, .bool true]) ∧ Below w.heap.size w w' := by
  obtain ⟨hv, h2, h3⟩ := hh
  rcases h3 with ⟨hs, he⟩ | ⟨hs, q, at_, b, hbq, he, hq, hf, hl, hd⟩
  · exact get_short g a s w hv hs he
  · have h9 := get_yes g a s.size w hv.ha hv.hb hv.hr hv.hn hs (bytesOf s) (fun W hW => by
      have h8 := HM.long_fit a s.size W (h.below hW) hv.ha hv.hb hv.hn hs h2 q at_ b hbq (by rw [he]; exact mkB_8 s _ _ hs (by omega) (by omega)) (by rw [he]; exact mkB_12 s _ _ hs (by omega) (by omega)) (by omega) hnb hf (by omega) true (by
        rw [hd, str_b]
        have hpe : pvw a = preB s := hv.hp
        rw [hpe]
        exact has_pre s)
      rw [hd] at h8
      exact h8)
    rwa [str_b] at h9
end Go.Proofs.Ytpbplflocdhahaa.HW
