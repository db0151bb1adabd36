/- The heap's Add, of any number of buffers. -/
import Derived.Test.YtpbplflocdhahaaHeapQ
set_option linter.unusedVariables false
set_option linter.unusedSimpArgs false
namespace Go.Proofs.Ytpbplflocdhahaa.HW
open Go.RowKit Go.Proofs.Ytpbplflocdhahaa.P Go.Proofs.Ytpbplflocdhahaa.HP Go.Proofs.YtpbplflocdhahaaW.PrintWords Go.Proofs.YtpbplflocdhahaaW.PrintLast Go.Proofs.YtpbplflocdhahaaW.PrintMore
attribute [local go_sem] max2_int min2_int max_two min_two max_three min_three max_four min_four
set_option maxHeartbeats 8000000 in
set_option maxRecDepth 100000 in
theorem HM.add_full {lo g : Nat} {Bs : List (List Int)} {n0 : Nat} {m : Int} (s : ByteArray) (w : World) (h : HM lo w g Bs (n0 : Int) m) (hs : 12 < s.size) (hs2 : s.size ≤ 4096) (hm : 0 ≤ m ∧ m ≤ 9223372036854775807) (hn : n0 ≤ 2000000) (hfull : m - (n0 : Int) < (s.size : Int)) : Calls Try.prog 11 #[.pointer (some ⟨g, 0, none⟩), .string s] w fun e w' => e = .returned (.tuple #[.agg (cel z16), .int .i64 6]) ∧ Below w.heap.size w w' := by
  have HMk := Aside0.mk (fun w => view_Make.long s 0 0 w hs hs2 rfl)
  rw [mkB_e s 0 0 hs] at HMk
  have HSh := Aside0.mk (fun w => view_Short.calls (mkB s 0 0) w (mkB_len s 0 0 hs) (mkB_b s 0 0))
  rw [decide_eq_false (show ¬ le4v (mkB s 0 0) ≤ 12 by rw [mkB_n s 0 0 hs2]; omega)] at HSh
  obtain ⟨C, hC⟩ : ∃ C, C = cel (mkB s 0 0) := ⟨_, rfl⟩
  rw [← hC] at HMk HSh
  have HSC : Aside0 (C.size = 16) := ⟨by rw [hC, cel_size, mkB_len s 0 0 hs]⟩
  have H1C : Aside0 (C.all (·.oneCell') = true) := ⟨by rw [hC]; exact cel_one _⟩
  have hz := zero16
  obtain ⟨Z, hZ⟩ : ∃ Z, Z = cel z16 := ⟨_, rfl⟩
  rw [← hZ] at hz ⊢
  have HBL : Aside0 (Try.prog.built 28 [] = some Z) := ⟨by rw [hZ]; kernel_rfl⟩
  have HSZ : Aside0 (Z.size = 16) := ⟨by rw [hZ]; rfl⟩
  have H1Z : Aside0 (Z.all (·.oneCell') = true) := ⟨by rw [hZ]; exact cel_one _⟩
  have HH := Aside0.mk h
  have hw : wrap64 (m - (n0 : Int)) = m - (n0 : Int) := by unfold wrap64; omega
  have tf : decide (m - (n0 : Int) < (s.size : Int)) = true := decide_eq_true hfull
  clear hs hs2 hC hZ hfull hm hn h
  have HN := Aside0.mk (blk_new w (.cells Z 28))
  have HB := Aside0.mk (below_alloc (Below.refl w.heap.size w) (.cells Z 28))
  go_enter Try.func11, Try.ntmps11
  go_wp2_with fail
  refine (HMk.out _).mono ?_
  rintro e w1 ⟨rfl, hb⟩
  have HN1 := Aside0.mk ((hb.block _ (blk_lt HN.out)).trans HN.out)
  have HB1 := Aside0.mk (below_step HB.out hb)
  have HM1 := Aside0.mk (blk_new w1 (.cells Z 28))
  have HLT := Aside0.mk (blk_lt HN1.out)
  have HG1 := Aside0.mk (setRow_heap _ _ _ C _ _ HM1.out)
  have HN2 : Aside0 (((w1.alloc (.cells Z 28)).setRow w1.heap.size C).heap[w.heap.size]? = some (.cells Z 28 (0, 0))) := ⟨(heap_row (by have := HLT.out; omega)).trans (((below_alloc (Below.refl _ w1) (.cells Z 28)).block _ HLT.out).trans HN1.out)⟩
  have HB2 := Aside0.mk (below_row (below_alloc HB1.out (.cells Z 28)) (below_size HB1.out) C)
  clear HN hb
  go_wp2_with (first | ((with_reducible refine gate_store (t := 28) (p := 6) rfl ?_); refine wpList_store_row rfl 28 _ _ rfl w1.heap.size C (by rfl) (by rfl) 28 Z HM1.out (by rw [info16, HSC.out]) (HSZ.out.trans HSC.out.symm) H1C.out ?_) | ((with_reducible refine gate_dst (N := 18) rfl ?_); refine Go.BigFrame.wpList_want ?hw (fun K hK => ?_); (case hw => rfl); refine wp_load_row 28 _ rfl w1.heap.size ?hx 28 C (0, 0) _ HG1.out Try.underlying28 rfl ?hi ?_; (case hx => rfl); (case hi => rw [info16, HSC.out]); refine hK _ _ ?_; clear hK K))
  refine (HSh.out _).mono ?_
  rintro e w2 ⟨rfl, hb⟩
  have HG3 := Aside0.mk ((hb.block _ (blk_lt HG1.out)).trans HG1.out)
  have HN3 := Aside0.mk ((hb.block _ (blk_lt HN2.out)).trans HN2.out)
  have HB3 := Aside0.mk (below_step HB2.out hb)
  have HVW := Aside0.mk (blk_lt HG1.out)
  clear HB1 HB2 HG1 HN2 HN1 HM1 hb
  have HH3 := Aside0.mk (HH.out.below HB3.out)
  obtain ⟨vb, hgb⟩ := HH3.out.cells_
  have hc1 := blk_cell hgb 1
  have hc2 := blk_cell hgb 2
  simp only [List.getElem?_toArray, List.getElem?_cons_zero, List.getElem?_cons_succ] at hc1 hc2
  clear hgb
  go_wp2_with fail
  refine start_ (n := 12) (S := fun w' => w'.cell? ⟨g, 2, none⟩ = some (.int .i64 m) ∧ w'.cell? ⟨g, 1, none⟩ = some (.int .i64 (n0 : Int))) (ds := []) #[false, false, false, false, false, false, false, false, false, false, false, false] (by kernel_rfl) rfl rfl ⟨hc2, hc1⟩ (fun hHeld => ?_)
  refine pure_ (i := 0) (N := some 23) (v := ?_) (a' := ?_) #[true, false, false, false, false, false, false, false, false, false, false, false] rfl rfl (by kernel_rfl) (fun _ _ _ h => h) (Or.inl ⟨by rfl, ?_⟩) ?_ ?_
  rotate_left
  · intro w'
    go_simp
    with_reducible rfl
  rotate_left
  · simp only [Act.put, List.setIfInBounds_toArray, List.set_cons_zero, List.set_cons_succ, i64_w, i32_w]
    rfl
  refine pure_ (i := 1) (N := some 24) (v := ?_) (a' := ?_) #[true, true, false, false, false, false, false, false, false, false, false, false] rfl rfl (by kernel_rfl) (fun _ _ _ h => h) (Or.inl ⟨by rfl, ?_⟩) ?_ ?_
  rotate_left
  · intro w'
    go_simp
    with_reducible rfl
  rotate_left
  · simp only [Act.put, List.setIfInBounds_toArray, List.set_cons_zero, List.set_cons_succ, i64_w, i32_w]
    rfl
  refine pure_ (i := 2) (N := some 25) (v := ?_) (a' := ?_) #[true, true, true, false, false, false, false, false, false, false, false, false] rfl rfl (by kernel_rfl) (fun _ _ _ h => h) (Or.inl ⟨by rfl, ?_⟩) ?_ ?_
  rotate_left
  · intro w'
    go_simp
    with_reducible rfl
  rotate_left
  · simp only [Act.put, List.setIfInBounds_toArray, List.set_cons_zero, List.set_cons_succ, i64_w, i32_w]
    rfl
  refine pure_ (i := 3) (N := some 26) (v := ?_) (a' := ?_) #[true, true, true, true, false, false, false, false, false, false, false, false] rfl rfl (by kernel_rfl) (fun _ _ _ h => h) (Or.inl ⟨by rfl, ?_⟩) ?_ ?_
  rotate_left
  · intro w'
    go_simp
    with_reducible rfl
  rotate_left
  · simp only [Act.put, List.setIfInBounds_toArray, List.set_cons_zero, List.set_cons_succ, i64_w, i32_w]
    rfl
  refine pure_ (i := 4) (N := some 27) (v := ?_) (a' := ?_) #[true, true, true, true, true, false, false, false, false, false, false, false] rfl rfl (by kernel_rfl) (fun _ _ _ h => h) (Or.inl ⟨by rfl, ?_⟩) ?_ ?_
  rotate_left
  · intro w'
    go_simp
    with_reducible rfl
  rotate_left
  · simp only [Act.put, List.setIfInBounds_toArray, List.set_cons_zero, List.set_cons_succ, i64_w, i32_w]
    rfl
  refine pure_ (i := 6) (N := some 29) (v := ?_) (a' := ?_) #[true, true, true, true, true, false, true, false, false, false, false, false] rfl rfl (by kernel_rfl) (fun _ _ _ h => h) (Or.inl ⟨by rfl, ?_⟩) ?_ ?_
  rotate_left
  · intro w'
    go_simp
    with_reducible rfl
  rotate_left
  · simp only [Act.put, List.setIfInBounds_toArray, List.set_cons_zero, List.set_cons_succ, i64_w, i32_w]
    rfl
  refine pure_ (i := 7) (N := some 30) (v := ?_) (a' := ?_) #[true, true, true, true, true, false, true, true, false, false, false, false] rfl rfl (by kernel_rfl) (fun _ _ _ h => h) (Or.inl ⟨by rfl, ?_⟩) ?_ ?_
  rotate_left
  · intro w'
    go_simp
    with_reducible rfl
  rotate_left
  · simp only [Act.put, List.setIfInBounds_toArray, List.set_cons_zero, List.set_cons_succ, i64_w, i32_w]
    rfl
  refine pure_ (i := 8) (N := some 31) (v := ?_) (a' := ?_) #[true, true, true, true, true, false, true, true, true, false, false, false] rfl rfl (by kernel_rfl) (fun _ _ _ h => h) (Or.inl ⟨by rfl, ?_⟩) ?_ ?_
  rotate_left
  · intro w'
    go_simp
    with_reducible rfl
  rotate_left
  · simp only [Act.put, List.setIfInBounds_toArray, List.set_cons_zero, List.set_cons_succ, i64_w, i32_w]
    rfl
  refine take_ (i := 5) (N := some 28) (v := ?_) (a' := ?_) #[true, true, true, true, true, true, true, true, true, false, false, false] rfl rfl (by kernel_rfl) (fun _ _ _ h => h) (Or.inl ⟨by rfl, ?_⟩) hHeld ?_ ?_
  rotate_left
  · rintro w' ⟨s0, s1⟩
    go_simp
    with_reducible rfl
  rotate_left
  · simp only [Act.put, List.setIfInBounds_toArray, List.set_cons_zero, List.set_cons_succ, i64_w, i32_w]
    rfl
  refine take_ (i := 9) (N := some 32) (v := ?_) (a' := ?_) #[true, true, true, true, true, true, true, true, true, true, false, false] rfl rfl (by kernel_rfl) (fun _ _ _ h => h) (Or.inl ⟨by rfl, ?_⟩) hHeld ?_ ?_
  rotate_left
  · rintro w' ⟨s0, s1⟩
    go_simp
    with_reducible rfl
  rotate_left
  · simp only [Act.put, List.setIfInBounds_toArray, List.set_cons_zero, List.set_cons_succ, i64_w, i32_w]
    rfl
  refine pure_ (i := 10) (N := some 33) (v := ?_) (a' := ?_) #[true, true, true, true, true, true, true, true, true, true, true, false] rfl rfl (by kernel_rfl) (fun _ _ _ h => h) (Or.inl ⟨by rfl, ?_⟩) ?_ ?_
  rotate_left
  · intro w'
    go_simp
    with_reducible rfl
  rotate_left
  · simp only [Act.put, List.setIfInBounds_toArray, List.set_cons_zero, List.set_cons_succ, i64_w, i32_w]
    rfl
  refine pure_ (i := 11) (N := some 34) (v := ?_) (a' := ?_) #[true, true, true, true, true, true, true, true, true, true, true, true] rfl rfl (by kernel_rfl) (fun _ _ _ h => h) (Or.inl ⟨by rfl, ?_⟩) ?_ ?_
  rotate_left
  · intro w'
    go_simp
    with_reducible rfl
  rotate_left
  · simp only [Act.put, List.setIfInBounds_toArray, List.set_cons_zero, List.set_cons_succ, i64_w, i32_w]
    rfl
  refine done_ (by kernel_rfl) ?_
  have HNd : Aside0 (w2.drew.heap[w.heap.size]? = some (.cells Z 28 (0, 0))) := ⟨HN3.out⟩
  go_wp2_with (first | ((with_reducible refine gate_dst (N := 35) rfl ?_); refine wpList_plain rfl (fun K hK => ?_); refine wp_build 28 #[] rfl Z ?hbu ?_; (case hbu => exact HBL.out); refine hK _ _ ?_; clear hK K) | ((with_reducible refine gate_store (t := 28) (p := 4) rfl ?_); refine wpList_store_row rfl 28 _ _ rfl w.heap.size Z (by rfl) (by rfl) 28 Z HNd.out (by rw [info16, HSZ.out]) (HSZ.out.trans HSZ.out.symm) H1Z.out ?_))
  (try simp only [Exit.inBlock, Exit.then])
  refine bodyPost_ret (results_ct (p := 4) (u := 5) rfl _ _ w.heap.size 28 Z (0, 0) _ ?hp (setRow_heap _ _ _ _ _ _ HNd.out) Try.underlying28 rfl (by rw [info16, HSZ.out])) ?hd ?_
  case hp => rfl
  case hd => rfl
  exact ⟨rfl, below_row (below_drew1 HB3.out) (Nat.le_refl _) _⟩
set_option maxHeartbeats 8000000 in
set_option maxRecDepth 100000 in
theorem HM.add_long {lo g : Nat} {Bs : List (List Int)} {n0 : Nat} {m : Int} (s : ByteArray) (w : World) (h : HM lo w g Bs (n0 : Int) m) (hlo : lo ≤ w.heap.size) (hbs : Bs.length ≤ 1000) (hbl : ∀ b ∈ Bs, b.length ≤ 65536) (hs : 12 < s.size) (hs2 : s.size ≤ 4096) (hm : 0 ≤ m ∧ m ≤ 9223372036854775807) (hn : n0 ≤ 2000000) (hfit : ¬ m - (n0 : Int) < (s.size : Int)) : Calls Try.prog 11 #[.pointer (some ⟨g, 0, none⟩), .string s] w fun e w' => ∃ (q : Nat) (Bs' : List (List Int)) (b : List Int), e = .returned (.tuple #[.agg (cel (mkB s (q : Int) (b.length : Int))), .int .i64 0]) ∧ (Bs' = Bs ∨ Bs' = Bs ++ [[]]) ∧ Bs'.length = q + 1 ∧ Bs'[q]? = some b ∧ b.length + s.size ≤ 65536 ∧ HM lo w' g (Bs'.set q (b ++ bytesOf s)) ((n0 + s.size : Nat) : Int) m ∧ Below lo w w' ∧ KT w w' := by
  have HMk := Aside0.mk (fun w => view_Make.long s 0 0 w hs hs2 rfl)
  rw [mkB_e s 0 0 hs] at HMk
  have HSh := Aside0.mk (fun w => view_Short.calls (mkB s 0 0) w (mkB_len s 0 0 hs) (mkB_b s 0 0))
  rw [decide_eq_false (show ¬ le4v (mkB s 0 0) ≤ 12 by rw [mkB_n s 0 0 hs2]; omega)] at HSh
  obtain ⟨C, hC⟩ : ∃ C, C = cel (mkB s 0 0) := ⟨_, rfl⟩
  rw [← hC] at HMk HSh
  have HSC : Aside0 (C.size = 16) := ⟨by rw [hC, cel_size, mkB_len s 0 0 hs]⟩
  have H1C : Aside0 (C.all (·.oneCell') = true) := ⟨by rw [hC]; exact cel_one _⟩
  have HMk2 : Aside0 (∀ (q n : Nat) (w : World), q ≤ 2000 → n ≤ 65536 → Calls Try.prog 25 #[.string s, .int .i64 (q : Int), .int .i64 (n : Int)] w fun e w' => e = .returned (.tuple #[.agg (cel (mkB s (q : Int) (n : Int))), .int .i64 0]) ∧ Below w.heap.size w w') := ⟨fun q n w hq hn => by
    have h9 := view_Make.long s (q : Int) (n : Int) w hs hs2 (by unfold placedB; exact decide_eq_true (by omega))
    rwa [mkB_e s _ _ hs] at h9⟩
  have HLB : Aside0 (∀ (q n : Nat), (cel (mkB s (q : Int) (n : Int))).size = 16) := ⟨fun q n => by rw [cel_size, mkB_len s _ _ hs]⟩
  have hz := zero16
  obtain ⟨Z, hZ⟩ : ∃ Z, Z = cel z16 := ⟨_, rfl⟩
  rw [← hZ] at hz
  have HSZ : Aside0 (Z.size = 16) := ⟨by rw [hZ]; rfl⟩
  have H1Z : Aside0 (Z.all (·.oneCell') = true) := ⟨by rw [hZ]; exact cel_one _⟩
  have HH := Aside0.mk h
  have HRM := Aside0.mk (fun W (h : HM lo W g Bs (n0 : Int) m) (hl : lo ≤ W.heap.size) => HM.room s.size W h hl hbs (by omega) hbl)
  have HLO := Aside0.mk hlo
  have HSL := Aside0.mk hs
  have HBS := Aside0.mk hbs
  have HNL := Aside0.mk (show n0 + s.size ≤ 3000000 by omega)
  have hw : wrap64 (m - (n0 : Int)) = m - (n0 : Int) := by unfold wrap64; omega
  have tf : decide (m - (n0 : Int) < (s.size : Int)) = false := decide_eq_false hfit
  clear hs hs2 hC hZ hfit hm hn h hlo hbs hbl
  have HN := Aside0.mk (blk_new w (.cells Z 28))
  have HB := Aside0.mk (below_alloc (Below.refl w.heap.size w) (.cells Z 28))
  go_enter Try.func11, Try.ntmps11
  go_wp2_with fail
  refine (HMk.out _).mono ?_
  rintro e w1 ⟨rfl, hb⟩
  have HN1 := Aside0.mk ((hb.block _ (blk_lt HN.out)).trans HN.out)
  have HB1 := Aside0.mk (below_step HB.out hb)
  have HM1 := Aside0.mk (blk_new w1 (.cells Z 28))
  have HLT := Aside0.mk (blk_lt HN1.out)
  have HG1 := Aside0.mk (setRow_heap _ _ _ C _ _ HM1.out)
  have HN2 : Aside0 (((w1.alloc (.cells Z 28)).setRow w1.heap.size C).heap[w.heap.size]? = some (.cells Z 28 (0, 0))) := ⟨(heap_row (by have := HLT.out; omega)).trans (((below_alloc (Below.refl _ w1) (.cells Z 28)).block _ HLT.out).trans HN1.out)⟩
  have HB2 := Aside0.mk (below_row (below_alloc HB1.out (.cells Z 28)) (below_size HB1.out) C)
  clear HN hb
  go_wp2_with (first | ((with_reducible refine gate_store (t := 28) (p := 6) rfl ?_); refine wpList_store_row rfl 28 _ _ rfl w1.heap.size C (by rfl) (by rfl) 28 Z HM1.out (by rw [info16, HSC.out]) (HSZ.out.trans HSC.out.symm) H1C.out ?_) | ((with_reducible refine gate_dst (N := 18) rfl ?_); refine Go.BigFrame.wpList_want ?hw (fun K hK => ?_); (case hw => rfl); refine wp_load_row 28 _ rfl w1.heap.size ?hx 28 C (0, 0) _ HG1.out Try.underlying28 rfl ?hi ?_; (case hx => rfl); (case hi => rw [info16, HSC.out]); refine hK _ _ ?_; clear hK K))
  refine (HSh.out _).mono ?_
  rintro e w2 ⟨rfl, hb⟩
  have HG3 := Aside0.mk ((hb.block _ (blk_lt HG1.out)).trans HG1.out)
  have HN3 := Aside0.mk ((hb.block _ (blk_lt HN2.out)).trans HN2.out)
  have HB3 := Aside0.mk (below_step HB2.out hb)
  have HVW := Aside0.mk (blk_lt HG1.out)
  clear HB1 HB2 HG1 HN2 HN1 HM1 hb
  have HH3 := Aside0.mk (HH.out.below HB3.out)
  obtain ⟨vb, hgb⟩ := HH3.out.cells_
  have hc1 := blk_cell hgb 1
  have hc2 := blk_cell hgb 2
  simp only [List.getElem?_toArray, List.getElem?_cons_zero, List.getElem?_cons_succ] at hc1 hc2
  clear hgb
  go_wp2_with fail
  refine start_ (n := 12) (S := fun w' => w'.cell? ⟨g, 2, none⟩ = some (.int .i64 m) ∧ w'.cell? ⟨g, 1, none⟩ = some (.int .i64 (n0 : Int))) (ds := []) #[false, false, false, false, false, false, false, false, false, false, false, false] (by kernel_rfl) rfl rfl ⟨hc2, hc1⟩ (fun hHeld => ?_)
  refine pure_ (i := 0) (N := some 23) (v := ?_) (a' := ?_) #[true, false, false, false, false, false, false, false, false, false, false, false] rfl rfl (by kernel_rfl) (fun _ _ _ h => h) (Or.inl ⟨by rfl, ?_⟩) ?_ ?_
  rotate_left
  · intro w'
    go_simp
    with_reducible rfl
  rotate_left
  · simp only [Act.put, List.setIfInBounds_toArray, List.set_cons_zero, List.set_cons_succ, i64_w, i32_w]
    rfl
  refine pure_ (i := 1) (N := some 24) (v := ?_) (a' := ?_) #[true, true, false, false, false, false, false, false, false, false, false, false] rfl rfl (by kernel_rfl) (fun _ _ _ h => h) (Or.inl ⟨by rfl, ?_⟩) ?_ ?_
  rotate_left
  · intro w'
    go_simp
    with_reducible rfl
  rotate_left
  · simp only [Act.put, List.setIfInBounds_toArray, List.set_cons_zero, List.set_cons_succ, i64_w, i32_w]
    rfl
  refine pure_ (i := 2) (N := some 25) (v := ?_) (a' := ?_) #[true, true, true, false, false, false, false, false, false, false, false, false] rfl rfl (by kernel_rfl) (fun _ _ _ h => h) (Or.inl ⟨by rfl, ?_⟩) ?_ ?_
  rotate_left
  · intro w'
    go_simp
    with_reducible rfl
  rotate_left
  · simp only [Act.put, List.setIfInBounds_toArray, List.set_cons_zero, List.set_cons_succ, i64_w, i32_w]
    rfl
  refine pure_ (i := 3) (N := some 26) (v := ?_) (a' := ?_) #[true, true, true, true, false, false, false, false, false, false, false, false] rfl rfl (by kernel_rfl) (fun _ _ _ h => h) (Or.inl ⟨by rfl, ?_⟩) ?_ ?_
  rotate_left
  · intro w'
    go_simp
    with_reducible rfl
  rotate_left
  · simp only [Act.put, List.setIfInBounds_toArray, List.set_cons_zero, List.set_cons_succ, i64_w, i32_w]
    rfl
  refine pure_ (i := 4) (N := some 27) (v := ?_) (a' := ?_) #[true, true, true, true, true, false, false, false, false, false, false, false] rfl rfl (by kernel_rfl) (fun _ _ _ h => h) (Or.inl ⟨by rfl, ?_⟩) ?_ ?_
  rotate_left
  · intro w'
    go_simp
    with_reducible rfl
  rotate_left
  · simp only [Act.put, List.setIfInBounds_toArray, List.set_cons_zero, List.set_cons_succ, i64_w, i32_w]
    rfl
  refine pure_ (i := 6) (N := some 29) (v := ?_) (a' := ?_) #[true, true, true, true, true, false, true, false, false, false, false, false] rfl rfl (by kernel_rfl) (fun _ _ _ h => h) (Or.inl ⟨by rfl, ?_⟩) ?_ ?_
  rotate_left
  · intro w'
    go_simp
    with_reducible rfl
  rotate_left
  · simp only [Act.put, List.setIfInBounds_toArray, List.set_cons_zero, List.set_cons_succ, i64_w, i32_w]
    rfl
  refine pure_ (i := 7) (N := some 30) (v := ?_) (a' := ?_) #[true, true, true, true, true, false, true, true, false, false, false, false] rfl rfl (by kernel_rfl) (fun _ _ _ h => h) (Or.inl ⟨by rfl, ?_⟩) ?_ ?_
  rotate_left
  · intro w'
    go_simp
    with_reducible rfl
  rotate_left
  · simp only [Act.put, List.setIfInBounds_toArray, List.set_cons_zero, List.set_cons_succ, i64_w, i32_w]
    rfl
  refine pure_ (i := 8) (N := some 31) (v := ?_) (a' := ?_) #[true, true, true, true, true, false, true, true, true, false, false, false] rfl rfl (by kernel_rfl) (fun _ _ _ h => h) (Or.inl ⟨by rfl, ?_⟩) ?_ ?_
  rotate_left
  · intro w'
    go_simp
    with_reducible rfl
  rotate_left
  · simp only [Act.put, List.setIfInBounds_toArray, List.set_cons_zero, List.set_cons_succ, i64_w, i32_w]
    rfl
  refine take_ (i := 5) (N := some 28) (v := ?_) (a' := ?_) #[true, true, true, true, true, true, true, true, true, false, false, false] rfl rfl (by kernel_rfl) (fun _ _ _ h => h) (Or.inl ⟨by rfl, ?_⟩) hHeld ?_ ?_
  rotate_left
  · rintro w' ⟨s0, s1⟩
    go_simp
    with_reducible rfl
  rotate_left
  · simp only [Act.put, List.setIfInBounds_toArray, List.set_cons_zero, List.set_cons_succ, i64_w, i32_w]
    rfl
  refine take_ (i := 9) (N := some 32) (v := ?_) (a' := ?_) #[true, true, true, true, true, true, true, true, true, true, false, false] rfl rfl (by kernel_rfl) (fun _ _ _ h => h) (Or.inl ⟨by rfl, ?_⟩) hHeld ?_ ?_
  rotate_left
  · rintro w' ⟨s0, s1⟩
    go_simp
    with_reducible rfl
  rotate_left
  · simp only [Act.put, List.setIfInBounds_toArray, List.set_cons_zero, List.set_cons_succ, i64_w, i32_w]
    rfl
  refine pure_ (i := 10) (N := some 33) (v := ?_) (a' := ?_) #[true, true, true, true, true, true, true, true, true, true, true, false] rfl rfl (by kernel_rfl) (fun _ _ _ h => h) (Or.inl ⟨by rfl, ?_⟩) ?_ ?_
  rotate_left
  · intro w'
    go_simp
    with_reducible rfl
  rotate_left
  · simp only [Act.put, List.setIfInBounds_toArray, List.set_cons_zero, List.set_cons_succ, i64_w, i32_w]
    rfl
  refine pure_ (i := 11) (N := some 34) (v := ?_) (a' := ?_) #[true, true, true, true, true, true, true, true, true, true, true, true] rfl rfl (by kernel_rfl) (fun _ _ _ h => h) (Or.inl ⟨by rfl, ?_⟩) ?_ ?_
  rotate_left
  · intro w'
    go_simp
    with_reducible rfl
  rotate_left
  · simp only [Act.put, List.setIfInBounds_toArray, List.set_cons_zero, List.set_cons_succ, i64_w, i32_w]
    rfl
  refine done_ (by kernel_rfl) ?_
  go_wp2_with fail
  have HHd := Aside0.mk (HH3.out.below (below_drew1 (Below.refl _ w2)))
  have HBx := Aside0.mk (below_drew1 HB3.out)
  have HKT2 := Aside0.mk (KT.of_below HBx.out)
  refine (HRM.out w2.drew HHd.out (Nat.le_trans HLO.out HBx.out.size)).mono ?_
  rintro e w3 ⟨q, Bs', b, rfl, hB', hlq, hbq, hfit5, hh, hb, hk⟩
  have HPR := Aside0.mk (And.intro hB' (And.intro hlq (And.intro hbq hfit5)))
  have HBQ := Aside0.mk hbq
  have HNN := Aside0.mk hfit5
  have hq9 : q ≤ 1000 := by rcases hB' with e | e <;> rw [e] at hlq <;> (try rw [List.length_append] at hlq) <;> (try simp only [List.length_cons, List.length_nil] at hlq) <;> have := HBS.out <;> omega
  have HQ9 := Aside0.mk hq9
  have HR3 : Aside0 (w3.heap[w.heap.size]? = some (.cells Z 28 (0, 0))) := ⟨hk _ _ _ (show w2.drew.heap[w.heap.size]? = _ from HN3.out) (by decide) (by decide)⟩
  have HV3 : Aside0 (w3.heap[w1.heap.size]? = some (.cells C 28 (0, 0))) := ⟨hk _ _ _ (show w2.drew.heap[w1.heap.size]? = _ from HG3.out) (by decide) (by decide)⟩
  have HBw := Aside0.mk (Below.trans (HBx.out.mono HLO.out) hb)
  have HH4 := Aside0.mk hh
  have HKT3 := Aside0.mk (HKT2.out.kr hk)
  obtain ⟨D, hD⟩ : ∃ D, D = cel (mkB s (q : Int) (b.length : Int)) := ⟨_, rfl⟩
  have HMk3 := Aside0.mk (fun W => HMk2.out q b.length W (by omega) (by omega))
  rw [← hD] at HMk3
  have HDE := Aside0.mk hD
  have HSD : Aside0 (D.size = 16) := ⟨by rw [hD]; exact HLB.out _ _⟩
  have H1D : Aside0 (D.all (·.oneCell') = true) := ⟨by rw [hD]; exact cel_one _⟩
  obtain ⟨gb, cb, c, A, xs, hp⟩ := hh.parts q b hbq
  have hxl : xs.length = q + 1 := hp.hl.trans hlq
  have hc0 := blk_cell hp.hg 0
  rw [hxl] at hc0
  have hc0 : w3.cell? ⟨g, 0, none⟩ = some (.slice (some ⟨gb, 0, none⟩) (q + 1) cb) := hc0
  have hx0 : w3.cell? ⟨gb, q, none⟩ = some (.slice A b.length c) := hp.cell
  have p3 : ((0 : Int) ≤ (q : Int)) = True := eq_true (by omega)
  have q3b : ((q : Int) < (q : Int) + 1) = True := eq_true (by omega)
  have q3c : (q < q + 1) = True := eq_true (by omega)
  clear hB' hlq hbq hfit5 hq9 hh hb hk hD hxl HN3 HG3 HB3 HBx HHd HH3 hc1 hc2 hw tf hp HMk2 HMk HSh HRM
  go_wp2_with fail
  clear hc0 hx0
  refine (HMk3.out _).mono ?_
  rintro e w4 ⟨rfl, hb⟩
  have HH5 := Aside0.mk (HH4.out.below hb)
  have HR4 := Aside0.mk ((hb.block _ (blk_lt HR3.out)).trans HR3.out)
  have HV4 := Aside0.mk ((hb.block _ (blk_lt HV3.out)).trans HV3.out)
  have HBy := Aside0.mk (HBw.out.trans (hb.mono (Nat.le_trans HLO.out HBw.out.size)))
  have HRV := Aside0.mk (show w.heap.size < w1.heap.size from HLT.out)
  have HKT4 := Aside0.mk (HKT3.out.below hb)
  have HKTd : Aside0 (KT w ((w4.setRow w1.heap.size D).drew)) := ⟨HKT4.out.row (Nat.le_of_lt HRV.out) D⟩
  have HRd : Aside0 (((w4.setRow w1.heap.size D).drew).heap[w.heap.size]? = some (.cells Z 28 (0, 0))) := ⟨(heap_row (by have := HRV.out; omega)).trans HR4.out⟩
  have HVd : Aside0 (((w4.setRow w1.heap.size D).drew).heap[w1.heap.size]? = some (.cells D 28 (0, 0))) := ⟨setRow_heap _ _ _ D _ _ HV4.out⟩
  have HBd : Aside0 (Below lo w ((w4.setRow w1.heap.size D).drew)) := ⟨below_drew1 (below_row HBy.out (Nat.le_trans HLO.out (Nat.le_of_lt HRV.out)) D)⟩
  have HHd : Aside0 (HM lo ((w4.setRow w1.heap.size D).drew) g Bs' (n0 : Int) m) := ⟨HH5.out.keep (show KO w4 ((w4.setRow w1.heap.size D).drew) from KO.row HV4.out D)⟩
  obtain ⟨gb, cb, c, A, xs, hp⟩ := HHd.out.parts q b HBQ.out
  have hxl : xs.length = q + 1 := hp.hl.trans HPR.out.2.1
  have HXL := Aside0.mk hxl
  have HP := Aside0.mk hp
  have HXd : Aside0 (Kd.R (Kd.int .u8) 5 ((w4.setRow w1.heap.size D).drew) lo (fun _ => True) (.slice A b.length c) b) := ⟨hp.h2 q _ b hp.hq HBQ.out⟩
  have HXO := Aside0.mk (show World.ownsRow _ lo 5 1 (.slice A b.length c) b.length (nums .u8 b) from Kd.own_of_R HXd.out)
  have hx0 : ((w4.setRow w1.heap.size D).drew).cell? ⟨gb, q, none⟩ = some (.slice A b.length c) := hp.cell
  have hc0 : ((w4.setRow w1.heap.size D).drew).cell? ⟨g, 0, none⟩ = some (.slice (some ⟨gb, 0, none⟩) (q + 1) cb) := by have h9 := blk_cell hp.hg 0; rw [hxl] at h9; exact h9
  have HGL := Aside0.mk hp.h0
  have HG4 := Aside0.mk hp.hg
  have hgv : g ≠ w1.heap.size := blk_ne hp.hg HVd.out (by decide)
  have hgr : g ≠ w.heap.size := blk_ne hp.hg HRd.out (by decide)
  have below_size' : ∀ {W : World}, Below lo w W → w.heap.size ≤ W.heap.size := fun h => h.size
  clear hp hb hxl HH4 HR3 HV3 HBw
  go_wp2_with (first | ((with_reducible refine gate_store (t := 28) (p := 6) rfl ?_); refine wpList_store_row rfl 28 _ _ rfl w1.heap.size D (by rfl) (by rfl) 28 C HV4.out (by rw [info16, HSD.out]) (HSC.out.trans HSD.out.symm) H1D.out ?_))
  refine start_ (n := 16) (S := fun w' => w'.cell? ⟨g, 0, none⟩ = some (.slice (some ⟨gb, 0, none⟩) (q + 1) cb) ∧ w'.cell? ⟨gb, q, none⟩ = some (.slice A b.length c)) (ds := [15]) #[false, false, false, false, false, false, false, false, false, false, false, false, false, false, false, false] (by kernel_rfl) rfl rfl ⟨hc0, hx0⟩ (fun hHeld => ?_)
  refine pure_ (i := 0) (N := some 59) (v := ?_) (a' := ?_) #[true, false, false, false, false, false, false, false, false, false, false, false, false, false, false, false] rfl rfl (by kernel_rfl) (fun _ _ _ h => h) (Or.inl ⟨by rfl, ?_⟩) ?_ ?_
  rotate_left
  · intro w'
    go_simp
    with_reducible rfl
  rotate_left
  · simp only [Act.put, List.setIfInBounds_toArray, List.set_cons_zero, List.set_cons_succ, i64_w, i32_w]
    rfl
  refine pure_ (i := 1) (N := some 60) (v := ?_) (a' := ?_) #[true, true, false, false, false, false, false, false, false, false, false, false, false, false, false, false] rfl rfl (by kernel_rfl) (fun _ _ _ h => h) (Or.inl ⟨by rfl, ?_⟩) ?_ ?_
  rotate_left
  · intro w'
    go_simp
    with_reducible rfl
  rotate_left
  · simp only [Act.put, List.setIfInBounds_toArray, List.set_cons_zero, List.set_cons_succ, i64_w, i32_w]
    rfl
  refine pure_ (i := 2) (N := some 61) (v := ?_) (a' := ?_) #[true, true, true, false, false, false, false, false, false, false, false, false, false, false, false, false] rfl rfl (by kernel_rfl) (fun _ _ _ h => h) (Or.inl ⟨by rfl, ?_⟩) ?_ ?_
  rotate_left
  · intro w'
    go_simp
    with_reducible rfl
  rotate_left
  · simp only [Act.put, List.setIfInBounds_toArray, List.set_cons_zero, List.set_cons_succ, i64_w, i32_w]
    rfl
  refine pure_ (i := 4) (N := some 63) (v := ?_) (a' := ?_) #[true, true, true, false, true, false, false, false, false, false, false, false, false, false, false, false] rfl rfl (by kernel_rfl) (fun _ _ _ h => h) (Or.inl ⟨by rfl, ?_⟩) ?_ ?_
  rotate_left
  · intro w'
    go_simp
    with_reducible rfl
  rotate_left
  · simp only [Act.put, List.setIfInBounds_toArray, List.set_cons_zero, List.set_cons_succ, i64_w, i32_w]
    rfl
  refine pure_ (i := 5) (N := some 64) (v := ?_) (a' := ?_) #[true, true, true, false, true, true, false, false, false, false, false, false, false, false, false, false] rfl rfl (by kernel_rfl) (fun _ _ _ h => h) (Or.inl ⟨by rfl, ?_⟩) ?_ ?_
  rotate_left
  · intro w'
    go_simp
    with_reducible rfl
  rotate_left
  · simp only [Act.put, List.setIfInBounds_toArray, List.set_cons_zero, List.set_cons_succ, i64_w, i32_w]
    rfl
  refine pure_ (i := 6) (N := some 65) (v := ?_) (a' := ?_) #[true, true, true, false, true, true, true, false, false, false, false, false, false, false, false, false] rfl rfl (by kernel_rfl) (fun _ _ _ h => h) (Or.inl ⟨by rfl, ?_⟩) ?_ ?_
  rotate_left
  · intro w'
    go_simp
    with_reducible rfl
  rotate_left
  · simp only [Act.put, List.setIfInBounds_toArray, List.set_cons_zero, List.set_cons_succ, i64_w, i32_w]
    rfl
  refine pure_ (i := 7) (N := some 66) (v := ?_) (a' := ?_) #[true, true, true, false, true, true, true, true, false, false, false, false, false, false, false, false] rfl rfl (by kernel_rfl) (fun _ _ _ h => h) (Or.inl ⟨by rfl, ?_⟩) ?_ ?_
  rotate_left
  · intro w'
    go_simp
    with_reducible rfl
  rotate_left
  · simp only [Act.put, List.setIfInBounds_toArray, List.set_cons_zero, List.set_cons_succ, i64_w, i32_w]
    rfl
  refine pure_ (i := 9) (N := some 68) (v := ?_) (a' := ?_) #[true, true, true, false, true, true, true, true, false, true, false, false, false, false, false, false] rfl rfl (by kernel_rfl) (fun _ _ _ h => h) (Or.inl ⟨by rfl, ?_⟩) ?_ ?_
  rotate_left
  · intro w'
    go_simp
    with_reducible rfl
  rotate_left
  · simp only [Act.put, List.setIfInBounds_toArray, List.set_cons_zero, List.set_cons_succ, i64_w, i32_w]
    rfl
  refine pure_ (i := 12) (N := some 71) (v := ?_) (a' := ?_) #[true, true, true, false, true, true, true, true, false, true, false, false, true, false, false, false] rfl rfl (by kernel_rfl) (fun _ _ _ h => h) (Or.inl ⟨by rfl, ?_⟩) ?_ ?_
  rotate_left
  · intro w'
    go_simp
    with_reducible rfl
  rotate_left
  · simp only [Act.put, List.setIfInBounds_toArray, List.set_cons_zero, List.set_cons_succ, i64_w, i32_w]
    rfl
  refine take_ (i := 3) (N := some 62) (v := ?_) (a' := ?_) #[true, true, true, true, true, true, true, true, false, true, false, false, true, false, false, false] rfl rfl (by kernel_rfl) (fun _ _ _ h => h) (Or.inl ⟨by rfl, ?_⟩) hHeld ?_ ?_
  rotate_left
  · rintro w' ⟨s0, s1⟩
    go_simp
    with_reducible rfl
  rotate_left
  · simp only [Act.put, List.setIfInBounds_toArray, List.set_cons_zero, List.set_cons_succ, i64_w, i32_w]
    rfl
  refine take_ (i := 8) (N := some 67) (v := ?_) (a' := ?_) #[true, true, true, true, true, true, true, true, true, true, false, false, true, false, false, false] rfl rfl (by kernel_rfl) (fun _ _ _ h => h) (Or.inl ⟨by rfl, ?_⟩) hHeld ?_ ?_
  rotate_left
  · rintro w' ⟨s0, s1⟩
    go_simp
    with_reducible rfl
  rotate_left
  · simp only [Act.put, List.setIfInBounds_toArray, List.set_cons_zero, List.set_cons_succ, i64_w, i32_w]
    rfl
  refine pure_ (i := 10) (N := some 69) (v := ?_) (a' := ?_) #[true, true, true, true, true, true, true, true, true, true, true, false, true, false, false, false] rfl rfl (by kernel_rfl) (fun _ _ _ h => h) (Or.inl ⟨by rfl, ?_⟩) ?_ ?_
  rotate_left
  · intro w'
    go_simp
    with_reducible rfl
  rotate_left
  · simp only [Act.put, List.setIfInBounds_toArray, List.set_cons_zero, List.set_cons_succ, i64_w, i32_w]
    rfl
  refine take_ (i := 11) (N := some 70) (v := ?_) (a' := ?_) #[true, true, true, true, true, true, true, true, true, true, true, true, true, false, false, false] rfl rfl (by kernel_rfl) (fun _ _ _ h => h) (Or.inl ⟨by rfl, ?_⟩) hHeld ?_ ?_
  rotate_left
  · rintro w' ⟨s0, s1⟩
    go_simp
    with_reducible rfl
  rotate_left
  · simp only [Act.put, List.setIfInBounds_toArray, List.set_cons_zero, List.set_cons_succ, i64_w, i32_w]
    rfl
  refine one_ (i := 13) (N := some 72) #[true, true, true, true, true, true, true, true, true, true, true, true, true, true, false, false] rfl rfl (by kernel_rfl) (by decide) (fun K hK => ?_)
  refine append_str_step2 (w0 := w) lo (by rfl) (.tmp 70) (.tmp 71) 36 9 5 (by rfl) Try.underlying36 Try.underlying9 info8 (.slice A b.length c) b s rfl rfl ?aO ?aB ?aS ?aL ?_
  case aO => exact HXO.out
  case aB => exact HBd.out
  case aS => exact (Nat.le_trans HLO.out (below_size' HBd.out))
  case aL => have := HNN.out; omega
  intro v5 w5 ho5 hb5 hg5 hat5
  have HKT5 := Aside0.mk (KT.grown HKTd.out hg5 HXd.out)
  have HO5 := Aside0.mk ho5
  have HB5 := Aside0.mk hb5
  have HGW5 := Aside0.mk hg5
  have HAT5 := Aside0.mk hat5
  have HR5 : Aside0 (w5.heap[w.heap.size]? = some (.cells Z 28 (0, 0))) := ⟨blk_grown HRd.out hg5 (Kd.R_ne HXd.out HRd.out (by decide))⟩
  have HV5 : Aside0 (w5.heap[w1.heap.size]? = some (.cells D 28 (0, 0))) := ⟨blk_grown HVd.out hg5 (Kd.R_ne HXd.out HVd.out (by decide))⟩
  obtain ⟨g5, c5, rfl, hgl5, hgm5⟩ := ho5.form (by have := HSL.out; rw [List.length_append, bytesOf_length]; omega)
  have hp5 := HM.put HP.out HBQ.out hg5 ho5 hat5 0
  have HLG := Aside0.mk hp5.2.1
  have HG5 := Aside0.mk hp5.2.2.1
  have HGB5 := Aside0.mk hp5.2.2.2.1
  have hx5 : w5.cell? ⟨gb, q, none⟩ = some (.slice A b.length c) := hp5.2.2.2.2.1
  have hf5 : w5.frozen? ⟨gb, q, none⟩ = false := hp5.2.2.2.2.2
  have hg50 : w5.cell? ⟨g, 0, none⟩ = some (.slice (some ⟨gb, 0, none⟩) (q + 1) cb) := by (have h9 := blk_cell HG5.out 0; rw [HXL.out] at h9; exact h9)
  clear ho5 hb5 hg5 hp5 hat5
  refine hK.out _ _ ⟨hg50, hx5⟩ (fun hHeld => ?_)
  clear hK K
  refine norm_ (a' := ?_) ?_ ?_
  rotate_left
  · show Act.put _ (some 72) _ = _
    simp only [Act.put, List.setIfInBounds_toArray, List.set_cons_zero, List.set_cons_succ, i64_w, i32_w]
    rfl
  refine pure_ (i := 14) (N := some 73) (v := ?_) (a' := ?_) #[true, true, true, true, true, true, true, true, true, true, true, true, true, true, true, false] rfl rfl (by kernel_rfl) (fun _ _ _ h => h) (Or.inl ⟨by rfl, ?_⟩) ?_ ?_
  rotate_left
  · intro w'
    go_simp
    with_reducible rfl
  rotate_left
  · simp only [Act.put, List.setIfInBounds_toArray, List.set_cons_zero, List.set_cons_succ, i64_w, i32_w]
    rfl
  refine last_ (i := 15) (N := none) #[true, true, true, true, true, true, true, true, true, true, true, true, true, true, true, true] rfl rfl (by kernel_rfl) (by decide) (fun K hK => ?_)
  refine skip_ (w1 := ?_) (by rfl) rfl ?_ ?_
  rotate_left
  · go_simp
    rfl
  refine hK.out _ _ ?_
  clear hK K
  refine done_ (by kernel_rfl) ?_
  obtain ⟨L, hL⟩ : ∃ L, L = b ++ bytesOf s := ⟨_, rfl⟩
  have hLL : b.length + (bytesOf s).length = L.length := by rw [hL, List.length_append]
  rw [← hL] at HO5 HAT5
  try rw [← hL]
  rw [hLL] at *
  have HLE := Aside0.mk hL
  have hpt := fun y => HM.put HP.out HBQ.out HGW5.out HO5.out HAT5.out y
  have HPT : Aside0 (∀ y : Int, HM lo ((w5.setCell ⟨gb, q, none⟩ (.slice (some ⟨g5, 0, none⟩) L.length c5)).setCell ⟨g, 1, none⟩ (.int .i64 y)) g (Bs'.set q L) y m) := ⟨fun y => (hpt y).1⟩
  obtain ⟨gc, hgc⟩ := HGB5.out
  have hgg : g ≠ gb := blk_ne HG5.out hgc (by decide)
  have HG6 : Aside0 ((w5.setCell ⟨gb, q, none⟩ (.slice (some ⟨g5, 0, none⟩) L.length c5)).heap[g]? = some (.cells #[.slice (some ⟨gb, 0, none⟩) xs.length cb, .int .i64 (n0 : Int), .int .i64 m] 53 (0, 0))) := ⟨(Below.heap_setCell _ _ _ _ hgg).trans HG5.out⟩
  have HV6 : Aside0 ((w5.setCell ⟨gb, q, none⟩ (.slice (some ⟨g5, 0, none⟩) L.length c5)).heap[w1.heap.size]? = some (.cells D 28 (0, 0))) := ⟨(Below.heap_setCell _ _ _ _ (blk_ne HV5.out hgc (by decide))).trans HV5.out⟩
  have HR6 : Aside0 ((w5.setCell ⟨gb, q, none⟩ (.slice (some ⟨g5, 0, none⟩) L.length c5)).heap[w.heap.size]? = some (.cells Z 28 (0, 0))) := ⟨(Below.heap_setCell _ _ _ _ (blk_ne HR5.out hgc (by decide))).trans HR5.out⟩
  have HB6 : Aside0 (Below lo w (w5.setCell ⟨gb, q, none⟩ (.slice (some ⟨g5, 0, none⟩) L.length c5))) := ⟨Below.setCell HB5.out HLG.out _⟩
  have HKT6 : Aside0 (KT w (w5.setCell ⟨gb, q, none⟩ (.slice (some ⟨g5, 0, none⟩) L.length c5))) := ⟨KT.set HKT5.out hgc (.inr rfl)⟩
  obtain ⟨W6, hW6⟩ : ∃ W, W = w5.setCell ⟨gb, q, none⟩ (.slice (some ⟨g5, 0, none⟩) L.length c5) := ⟨_, rfl⟩
  rw [← hW6] at HG6 HV6 HR6 HB6 HKT6 HPT ⊢
  have hc1 := blk_cell HG6.out 1
  have hf1 := blk_frozen HG6.out 1
  simp only [List.getElem?_toArray, List.getElem?_cons_zero, List.getElem?_cons_succ] at hc1
  obtain ⟨y, hy⟩ : ∃ y : Nat, y = n0 + s.size := ⟨_, rfl⟩
  have hwy : wrap64 ((n0 : Int) + (s.size : Int)) = (y : Int) := by rw [hy]; unfold wrap64; have := HNL.out; omega
  have HYE := Aside0.mk hy
  have HV7 : Aside0 ((W6.setCell ⟨g, 1, none⟩ (.int .i64 (y : Int))).heap[w1.heap.size]? = some (.cells D 28 (0, 0))) := ⟨(Below.heap_setCell _ _ _ _ (fun e => hgv e.symm)).trans HV6.out⟩
  have HR7 : Aside0 ((W6.setCell ⟨g, 1, none⟩ (.int .i64 (y : Int))).heap[w.heap.size]? = some (.cells Z 28 (0, 0))) := ⟨(Below.heap_setCell _ _ _ _ (fun e => hgr e.symm)).trans HR6.out⟩
  have HB7 : Aside0 (Below lo w (W6.setCell ⟨g, 1, none⟩ (.int .i64 (y : Int)))) := ⟨Below.setCell HB6.out HGL.out _⟩
  have HKT7 : Aside0 (KT w (W6.setCell ⟨g, 1, none⟩ (.int .i64 (y : Int)))) := ⟨KT.set HKT6.out HG6.out (.inl rfl)⟩
  clear hW6 hy hgr hx5 hf5 hg50 hgv hL hLL hgg hgc hpt hx0 hc0
  go_wp2_with (first | ((with_reducible refine gate_dst (N := 83) rfl ?_); refine wpList_load_row rfl 28 _ rfl w1.heap.size (by rfl) 28 D (0, 0) _ HV7.out Try.underlying28 rfl (by rw [info16, HSD.out]) ?_) | ((with_reducible refine gate_store (t := 28) (p := 4) rfl ?_); refine wpList_store_row rfl 28 _ _ rfl w.heap.size D (by rfl) (by rfl) 28 Z HR7.out (by rw [info16, HSD.out]) (HSZ.out.trans HSD.out.symm) H1D.out ?_))
  (try simp only [Exit.inBlock, Exit.then])
  refine bodyPost_ret (results_ct (p := 4) (u := 5) rfl _ _ w.heap.size 28 D (0, 0) _ ?hp (setRow_heap _ _ _ _ _ _ HR7.out) Try.underlying28 rfl (by rw [info16, HSD.out])) ?hd ?_
  case hp => rfl
  case hd => rfl
  rw [HDE.out]
  refine ⟨q, Bs', b, rfl, HPR.out.1, HPR.out.2.1, HPR.out.2.2.1, HPR.out.2.2.2, ?_, below_row HB7.out HLO.out _, HKT7.out.row (Nat.le_refl _) _⟩
  rw [← HLE.out, ← HYE.out]
  exact (HPT.out y).keep (KO.row HR7.out _)
end Go.Proofs.Ytpbplflocdhahaa.HW
