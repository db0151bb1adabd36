/- view's functions, walked. -/
import Derived.Test.YtpbplflocdhahaaHView
set_option linter.unusedVariables false
set_option linter.unusedSimpArgs false
namespace Go.Proofs.Ytpbplflocdhahaa.HW
open Go.RowKit Go.Proofs.Ytpbplflocdhahaa.P Go.Proofs.Ytpbplflocdhahaa.HP Go.Proofs.YtpbplflocdhahaaW.PrintWords Go.Proofs.YtpbplflocdhahaaW.PrintLast Go.Proofs.YtpbplflocdhahaaW.PrintMore
attribute [local go_sem] max2_int min2_int max_two min_two max_three min_three max_four min_four
theorem arr16 : Try.prog.underlying 28 = some (.array (Try.prog.arrayLen 28) (Try.prog.elem 28)) := by kernel_rfl
theorem len16 : Try.prog.arrayLen 28 = 16 := by kernel_rfl
theorem siz16 (W : World) : (sizeOf (Try.prog.elem 28)).run Try.prog W = .ok 1 W := by kernel_rfl
theorem cut16 (g n : Nat) (h : n ≤ 12) (W : World) : (Instr.sliceAt 28 (.pointer (some ⟨g, 0, none⟩)) (some (.int .i64 4)) (some (.int .i64 (4 + (n : Int)))) none).run Try.prog W = .ok (.slice (some ⟨g, 4, none⟩) n 12) W := by
  rw [run_sliceAt_array_lh W 28 ⟨g, 0, none⟩ arr16 .i64 .i64 4 (4 + (n : Int)) (by omega) (by omega) (by rw [len16]; omega), siz16 W]
  have e : (⟨g, 0, none⟩ : Addr).add (Int.toNat 4 * 1) = ⟨g, 4, none⟩ := by unfold Addr.add; split <;> simp_all
  simp only [Result.andThen_ok, slicedAt, len16, e]
  rw [if_neg (by decide), show (4 + (n : Int)).toNat - Int.toNat 4 = n by omega]
  rfl
theorem info16 : (Try.prog.info? 28).map (·.size) = some 16 := by kernel_rfl
set_option maxHeartbeats 8000000 in
set_option maxRecDepth 100000 in
theorem view_Len.calls (a : List Int) (w : World) (ha : a.length = 16) (hb : isB a) : Calls Try.prog 13 #[.agg (cel a)] w fun e w' => e = .returned (.int .i64 (le4v a)) ∧ Below w.heap.size w w' := by
  have HB := Aside0.mk (Below.refl w.heap.size w)
  obtain ⟨cs, hcs⟩ : ∃ cs, cs = cel a := ⟨_, rfl⟩
  rw [← hcs]
  have HCS := Aside0.mk hcs
  clear hcs
  go_enter Try.func13, Try.ntmps13
  go_wp2_with fail
  have hC := C_blk (a := a) (by rw [← HCS.out]; exact blk_new w (.cells cs 28)) 0 (by omega) (by omega)
  rw [List.drop_zero] at hC
  have hg := view_get.calls (some ⟨w.heap.size, 0, none⟩) 16 a (le4v a) _ hC (by omega) (get_f a hb (by omega))
  rw [ha] at hg
  refine hg.mono ?_
  rintro e w1 ⟨rfl, n1, rfl⟩
  go_wp2_with fail
  go_ret
  exact ⟨rfl, pw_below_drewN (below_alloc HB.out _) n1⟩
set_option maxHeartbeats 8000000 in
set_option maxRecDepth 100000 in
theorem view_Short.calls (a : List Int) (w : World) (ha : a.length = 16) (hb : isB a) : Calls Try.prog 21 #[.agg (cel a)] w fun e w' => e = .returned (.bool (decide (le4v a ≤ 12))) ∧ Below w.heap.size w w' := by
  have HLn := Aside0.mk (fun w => view_Len.calls a w ha hb)
  have HB := Aside0.mk (Below.refl w.heap.size w)
  obtain ⟨cs, hcs⟩ : ∃ cs, cs = cel a := ⟨_, rfl⟩
  rw [← hcs] at HLn ⊢
  have HCS := Aside0.mk hcs
  have HSZ : Aside0 (cs.size = 16) := ⟨by rw [hcs, cel_size, ha]⟩
  have HG := Aside0.mk (blk_new w (.cells cs 28))
  have HB := Aside0.mk (below_alloc HB.out (.cells cs 28))
  clear hcs
  obtain ⟨g, HGE⟩ : ∃ g, Aside0 (g = w.heap.size) := ⟨_, ⟨rfl⟩⟩
  go_enter Try.func21, Try.ntmps21
  go_wp2_with (first | ((with_reducible refine gate_dst (N := 3) rfl ?_); refine wpList_load_row rfl 28 _ rfl w.heap.size (by rfl) 28 cs (0, 0) _ HG.out Try.underlying28 rfl (by rw [info16, HSZ.out]) ?_))
  refine (HLn.out _).mono ?_
  rintro e w1 ⟨rfl, hb1⟩
  go_wp2_with fail
  go_ret
  exact ⟨rfl, below_step HB.out hb1⟩
set_option maxHeartbeats 8000000 in
set_option maxRecDepth 100000 in
theorem view_Text.calls (a : List Int) (w : World) (ha : a.length = 16) (hb : isB a) : Calls Try.prog 22 #[.agg (cel a)] w fun e w' => e = .returned (.string (if le4v a ≤ 12 then strOfNums ((a.drop 4).take (le4v a).toNat) else ⟨#[]⟩)) ∧ Below w.heap.size w w' := by
  have HLn := Aside0.mk (fun w => view_Len.calls a w ha hb)
  have HSh := Aside0.mk (fun w => view_Short.calls a w ha hb)
  have HB := Aside0.mk (Below.refl w.heap.size w)
  obtain ⟨cs, hcs⟩ : ∃ cs, cs = cel a := ⟨_, rfl⟩
  rw [← hcs] at HLn HSh ⊢
  have HCS := Aside0.mk hcs
  have HSZ : Aside0 (cs.size = 16) := ⟨by rw [hcs, cel_size, ha]⟩
  have HG := Aside0.mk (blk_new w (.cells cs 28))
  have HB := Aside0.mk (below_alloc HB.out (.cells cs 28))
  clear hcs
  obtain ⟨g, HGE⟩ : ∃ g, Aside0 (g = w.heap.size) := ⟨_, ⟨rfl⟩⟩
  have hbd := le4v_bd a hb (by omega)
  by_cases h : le4v a ≤ 12
  · obtain ⟨n, hn⟩ : ∃ n : Nat, le4v a = (n : Int) := ⟨(le4v a).toNat, by omega⟩
    rw [if_pos h]
    have hd : decide (le4v a ≤ 12) = true := decide_eq_true h
    rw [hd] at HSh
    rw [hn] at HLn h hbd ⊢
    rw [Int.toNat_natCast]
    clear hd
    have h12 : n ≤ 12 := by omega
    go_enter Try.func22, Try.ntmps22
    go_wp2_with (first | ((with_reducible refine gate_dst (N := 3) rfl ?_); refine wpList_load_row rfl 28 _ rfl w.heap.size (by rfl) 28 cs (0, 0) _ HG.out Try.underlying28 rfl (by rw [info16, HSZ.out]) ?_))
    refine (HSh.out _).mono ?_
    rintro e w1 ⟨rfl, hb1⟩
    have HG1 := Aside0.mk ((hb1.block _ (blk_lt HG.out)).trans HG.out)
    have HB1 := Aside0.mk (below_step HB.out hb1)
    clear HB HG hb1
    go_wp2_with (first | ((with_reducible refine gate_dst (N := 6) rfl ?_); refine wpList_load_row rfl 28 _ rfl w.heap.size (by rfl) 28 cs (0, 0) _ HG1.out Try.underlying28 rfl (by rw [info16, HSZ.out]) ?_))
    refine (HLn.out _).mono ?_
    rintro e w2 ⟨rfl, hb1⟩
    have HG2 := Aside0.mk ((hb1.block _ (blk_lt HG1.out)).trans HG1.out)
    have HB2 := Aside0.mk (below_step HB1.out hb1)
    clear HB1 HG1 hb1
    have hC := C_blk (a := a) (by rw [← HCS.out]; exact HG2.out) 4 (by omega) (by omega)
    have hC2 := Kd.C_take (m := n) hC (by simp; omega)
    have hcs := Kd.C_string (P := Try.prog) (c := 12) Try.underlying36 Try.underlying5 Try.underlying9 hC2
    rw [show ((a.drop 4).take n).length = n by simp; omega] at hcs
    clear hC hC2
    have hcut := cut16 w.heap.size n h12
    go_wp2_with fail
    go_ret
    exact ⟨rfl, HB2.out⟩
  · rw [if_neg h]
    have hd : decide (le4v a ≤ 12) = false := decide_eq_false h
    rw [hd] at HSh
    clear hd h hbd
    go_enter Try.func22, Try.ntmps22
    go_wp2_with (first | ((with_reducible refine gate_dst (N := 3) rfl ?_); refine wpList_load_row rfl 28 _ rfl w.heap.size (by rfl) 28 cs (0, 0) _ HG.out Try.underlying28 rfl (by rw [info16, HSZ.out]) ?_))
    refine (HSh.out _).mono ?_
    rintro e w1 ⟨rfl, hb1⟩
    go_wp2_with fail
    go_ret
    exact ⟨rfl, below_step HB.out hb1⟩
set_option maxHeartbeats 8000000 in
set_option maxRecDepth 100000 in
theorem view_Prefix.calls (a : List Int) (w : World) (ha : a.length = 16) (hb : isB a) : Calls Try.prog 24 #[.agg (cel a)] w fun e w' => e = .returned (.string (strOfNums ((a.drop 4).take (if le4v a < 4 then (le4v a).toNat else 4)))) ∧ Below w.heap.size w w' := by
  have HLn := Aside0.mk (fun w => view_Len.calls a w ha hb)
  have HB := Aside0.mk (Below.refl w.heap.size w)
  obtain ⟨cs, hcs⟩ : ∃ cs, cs = cel a := ⟨_, rfl⟩
  rw [← hcs] at HLn ⊢
  have HCS := Aside0.mk hcs
  have HSZ : Aside0 (cs.size = 16) := ⟨by rw [hcs, cel_size, ha]⟩
  have HG := Aside0.mk (blk_new w (.cells cs 28))
  have HB := Aside0.mk (below_alloc HB.out (.cells cs 28))
  clear hcs
  obtain ⟨g, HGE⟩ : ∃ g, Aside0 (g = w.heap.size) := ⟨_, ⟨rfl⟩⟩
  have hbd := le4v_bd a hb (by omega)
  obtain ⟨n, hne⟩ : ∃ n : Nat, le4v a = (n : Int) := ⟨(le4v a).toNat, by omega⟩
  rw [hne] at HLn hbd ⊢
  rw [Int.toNat_natCast]
  clear hne
  by_cases h : (n : Int) < 4
  · rw [if_pos h]
    have hk1 : decide ((n : Int) < 4) = true := decide_eq_true h
    have hk2 : decide (n < 4) = true := decide_eq_true (by omega)
    go_enter Try.func24, Try.ntmps24
    go_wp2_with (first | ((with_reducible refine gate_dst (N := 3) rfl ?_); refine wpList_load_row rfl 28 _ rfl w.heap.size (by rfl) 28 cs (0, 0) _ HG.out Try.underlying28 rfl (by rw [info16, HSZ.out]) ?_))
    refine (HLn.out _).mono ?_
    rintro e w1 ⟨rfl, hb1⟩
    have HG1 := Aside0.mk ((hb1.block _ (blk_lt HG.out)).trans HG.out)
    have HB1 := Aside0.mk (below_step HB.out hb1)
    clear HB HG hb1
    have hC := C_blk (a := a) (by rw [← HCS.out]; exact HG1.out) 4 (by omega) (by omega)
    have hC2 := Kd.C_take (m := n) hC (by simp; omega)
    have hcs := Kd.C_string (P := Try.prog) (c := 12) Try.underlying36 Try.underlying5 Try.underlying9 hC2
    rw [show ((a.drop 4).take n).length = n by simp; omega] at hcs
    clear hC hC2
    have hcut := cut16 w.heap.size n (by omega)
    have h4 : (4 : Int) + (n : Int) ≤ 16 ∨ 4 ≤ n := by omega
    go_wp2_with fail
    go_ret
    exact ⟨rfl, HB1.out⟩
  · rw [if_neg h]
    have hk1 : decide ((n : Int) < 4) = false := decide_eq_false h
    have hk2 : decide (n < 4) = false := decide_eq_false (by omega)
    go_enter Try.func24, Try.ntmps24
    go_wp2_with (first | ((with_reducible refine gate_dst (N := 3) rfl ?_); refine wpList_load_row rfl 28 _ rfl w.heap.size (by rfl) 28 cs (0, 0) _ HG.out Try.underlying28 rfl (by rw [info16, HSZ.out]) ?_))
    refine (HLn.out _).mono ?_
    rintro e w1 ⟨rfl, hb1⟩
    have HG1 := Aside0.mk ((hb1.block _ (blk_lt HG.out)).trans HG.out)
    have HB1 := Aside0.mk (below_step HB.out hb1)
    clear HB HG hb1
    have hC := C_blk (a := a) (by rw [← HCS.out]; exact HG1.out) 4 (by omega) (by omega)
    have hC2 := Kd.C_take (m := 4) hC (by simp; omega)
    have hcs := Kd.C_string (P := Try.prog) (c := 12) Try.underlying36 Try.underlying5 Try.underlying9 hC2
    rw [show ((a.drop 4).take 4).length = 4 by simp; omega] at hcs
    clear hC hC2
    have hcut := cut16 w.heap.size 4 (by omega)
    have h4 : (4 : Int) + (n : Int) ≤ 16 ∨ 4 ≤ n := by omega
    go_wp2_with fail
    go_ret
    exact ⟨rfl, HB1.out⟩
set_option maxHeartbeats 8000000 in
set_option maxRecDepth 100000 in
theorem view_Place.calls (a : List Int) (w : World) (ha : a.length = 16) (hb : isB a) : Calls Try.prog 23 #[.agg (cel a)] w fun e w' => e = .returned (.tuple #[.int .i64 (if le4v a ≤ 12 then 0 else le4v (a.drop 8)), .int .i64 (if le4v a ≤ 12 then 0 else le4v (a.drop 12))]) ∧ Below w.heap.size w w' := by
  have HSh := Aside0.mk (fun w => view_Short.calls a w ha hb)
  have HB := Aside0.mk (Below.refl w.heap.size w)
  obtain ⟨cs, hcs⟩ : ∃ cs, cs = cel a := ⟨_, rfl⟩
  rw [← hcs] at HSh ⊢
  have HCS := Aside0.mk hcs
  have HSZ : Aside0 (cs.size = 16) := ⟨by rw [hcs, cel_size, ha]⟩
  have HG := Aside0.mk (blk_new w (.cells cs 28))
  have HB := Aside0.mk (below_alloc HB.out (.cells cs 28))
  clear hcs
  obtain ⟨g, HGE⟩ : ∃ g, Aside0 (g = w.heap.size) := ⟨_, ⟨rfl⟩⟩
  by_cases h : le4v a ≤ 12
  · rw [if_pos h, if_pos h]
    have hd : decide (le4v a ≤ 12) = true := decide_eq_true h
    rw [hd] at HSh
    clear hd h
    go_enter Try.func23, Try.ntmps23
    go_wp2_with (first | ((with_reducible refine gate_dst (N := 4) rfl ?_); refine wpList_load_row rfl 28 _ rfl w.heap.size (by rfl) 28 cs (0, 0) _ HG.out Try.underlying28 rfl (by rw [info16, HSZ.out]) ?_))
    refine (HSh.out _).mono ?_
    rintro e w1 ⟨rfl, hb1⟩
    go_wp2_with fail
    go_ret2
    exact ⟨rfl, below_step HB.out hb1⟩
  · rw [if_neg h, if_neg h]
    have hd : decide (le4v a ≤ 12) = false := decide_eq_false h
    rw [hd] at HSh
    clear hd h
    have hg8 : ∀ W : World, Kd.C (Kd.int .u8) W (some ⟨w.heap.size, 8, none⟩) (a.drop 8).length (a.drop 8) → Calls Try.prog 28 #[.slice (some ⟨w.heap.size, 8, none⟩) 8 8] W fun e w' => e = .returned (.int .i64 (le4v (a.drop 8))) ∧ Drawn0 W w' := fun W hC => by
      have := view_get.calls (some ⟨w.heap.size, 8, none⟩) 8 (a.drop 8) _ W hC (by simp; omega) (get_f _ (isB_drop hb 8) (by simp; omega))
      rwa [show (a.drop 8).length = 8 by simp; omega] at this
    have hg12 : ∀ W : World, Kd.C (Kd.int .u8) W (some ⟨w.heap.size, 12, none⟩) (a.drop 12).length (a.drop 12) → Calls Try.prog 28 #[.slice (some ⟨w.heap.size, 12, none⟩) 4 4] W fun e w' => e = .returned (.int .i64 (le4v (a.drop 12))) ∧ Drawn0 W w' := fun W hC => by
      have := view_get.calls (some ⟨w.heap.size, 12, none⟩) 4 (a.drop 12) _ W hC (by simp; omega) (get_f _ (isB_drop hb 12) (by simp; omega))
      rwa [show (a.drop 12).length = 4 by simp; omega] at this
    generalize le4v (a.drop 8) = p8 at *
    generalize le4v (a.drop 12) = p12 at *
    go_enter Try.func23, Try.ntmps23
    go_wp2_with (first | ((with_reducible refine gate_dst (N := 4) rfl ?_); refine wpList_load_row rfl 28 _ rfl w.heap.size (by rfl) 28 cs (0, 0) _ HG.out Try.underlying28 rfl (by rw [info16, HSZ.out]) ?_))
    refine (HSh.out _).mono ?_
    rintro e w1 ⟨rfl, hb1⟩
    have HG1 := Aside0.mk ((hb1.block _ (blk_lt HG.out)).trans HG.out)
    have HB1 := Aside0.mk (below_step HB.out hb1)
    clear HB HG hb1
    have HC8 := Aside0.mk (C_blk (a := a) (by rw [← HCS.out]; exact HG1.out) 8 (by omega) (by omega))
    have HC12 := Aside0.mk (C_blk (a := a) (by rw [← HCS.out]; exact HG1.out) 12 (by omega) (by omega))
    go_wp2_with fail
    refine start_ (n := 6) (S := fun w' => True) (ds := []) #[false, false, false, false, false, false] (by kernel_rfl) rfl rfl trivial (fun hHeld => ?_)
    refine pure_ (i := 0) (N := some 6) (v := ?_) (a' := ?_) #[true, false, false, false, false, false] rfl rfl (by kernel_rfl) (fun _ _ _ h => h) (Or.inl ⟨by rfl, ?_⟩) ?_ ?_
    rotate_left
    · intro w'
      go_simp
      with_reducible rfl
    rotate_left
    · simp only [Act.put, List.setIfInBounds_toArray, List.set_cons_zero, List.set_cons_succ, i64_w, i32_w]
      rfl
    refine pure_ (i := 2) (N := some 8) (v := ?_) (a' := ?_) #[true, false, true, false, false, false] rfl rfl (by kernel_rfl) (fun _ _ _ h => h) (Or.inl ⟨by rfl, ?_⟩) ?_ ?_
    rotate_left
    · intro w'
      go_simp
      with_reducible rfl
    rotate_left
    · simp only [Act.put, List.setIfInBounds_toArray, List.set_cons_zero, List.set_cons_succ, i64_w, i32_w]
      rfl
    refine one_ (i := 1) (N := some 7) #[true, true, true, false, false, false] rfl rfl (by kernel_rfl) (by decide) (fun K hK => ?_)
    refine goes_ Try.func28 (by kernel_rfl) rfl #[.slice (some ⟨w.heap.size, 8, none⟩) 8 8] (by rfl) rfl rfl (by simp only [List.map_toArray, List.map_cons, List.map_nil]; rfl) ?_
    with_reducible refine (hg8 _ (Kd.C_drew HC8.out)).mono ?_
    rintro e w31 ⟨rfl, ⟨n31, rfl⟩⟩
    refine ⟨_, rfl, ?_⟩
    refine hK.out _ _ trivial (fun hHeld => ?_)
    clear hK K
    refine norm_ (a' := ?_) ?_ ?_
    rotate_left
    · show Act.put _ (some 7) _ = _
      simp only [Act.put, List.setIfInBounds_toArray, List.set_cons_zero, List.set_cons_succ, i64_w, i32_w]
      rfl
    refine one_ (i := 3) (N := some 9) #[true, true, true, true, false, false] rfl rfl (by kernel_rfl) (by decide) (fun K hK => ?_)
    refine goes_ Try.func28 (by kernel_rfl) rfl #[.slice (some ⟨w.heap.size, 12, none⟩) 4 4] (by rfl) rfl rfl (by simp only [List.map_toArray, List.map_cons, List.map_nil]; rfl) ?_
    with_reducible refine (hg12 _ (Kd.C_drewN (Kd.C_drew HC12.out) _)).mono ?_
    rintro e w32 ⟨rfl, ⟨n32, rfl⟩⟩
    refine ⟨_, rfl, ?_⟩
    refine hK.out _ _ trivial (fun hHeld => ?_)
    clear hK K
    refine norm_ (a' := ?_) ?_ ?_
    rotate_left
    · show Act.put _ (some 9) _ = _
      simp only [Act.put, List.setIfInBounds_toArray, List.set_cons_zero, List.set_cons_succ, i64_w, i32_w]
      rfl
    refine pure_ (i := 4) (N := some 2) (v := ?_) (a' := ?_) #[true, true, true, true, true, false] rfl rfl (by kernel_rfl) (fun _ _ _ h => h) (Or.inl ⟨by rfl, ?_⟩) ?_ ?_
    rotate_left
    · intro w'
      go_simp
      with_reducible rfl
    rotate_left
    · simp only [Act.put, List.setIfInBounds_toArray, List.set_cons_zero, List.set_cons_succ, i64_w, i32_w]
      rfl
    refine pure_ (i := 5) (N := some 3) (v := ?_) (a' := ?_) #[true, true, true, true, true, true] rfl rfl (by kernel_rfl) (fun _ _ _ h => h) (Or.inl ⟨by rfl, ?_⟩) ?_ ?_
    rotate_left
    · intro w'
      go_simp
      with_reducible rfl
    rotate_left
    · simp only [Act.put, List.setIfInBounds_toArray, List.set_cons_zero, List.set_cons_succ, i64_w, i32_w]
      rfl
    refine done_ (by kernel_rfl) ?_
    go_wp2
    go_ret2
    exact ⟨rfl, by repeat (first | exact HB1.out | apply below_alloc | apply pw_below_drewN | apply below_drew1)⟩
def put4 (a : List Int) (o : Nat) (n : Int) : Nat → List Int
  | 0 => a
  | 1 => a.set (o + 0) (n % 256)
  | 2 => (a.set (o + 0) (n % 256)).set (o + 1) (n / 256 % 256)
  | 3 => ((a.set (o + 0) (n % 256)).set (o + 1) (n / 256 % 256)).set (o + 2) (n / 65536 % 256)
  | _ => (((a.set (o + 0) (n % 256)).set (o + 1) (n / 256 % 256)).set (o + 2) (n / 65536 % 256)).set (o + 3) (n / 16777216 % 256)
theorem put4_len (a : List Int) (o : Nat) (n : Int) (k : Nat) : (put4 a o n k).length = a.length := by unfold put4; split <;> simp
theorem put_cell {W : World} {g o t : Nat} {a a' : List Int} (HH : W.heap[g]? = some (.cells (cel a) t (0, 0))) (j : Nat) (h : o + j < a.length) (x : Int) (e : a' = a.set (o + j) x) : (W.setCell ⟨g, o + j, none⟩ (.int .u8 x)).heap[g]? = some (.cells (cel a') t (0, 0)) := by
  rw [e]
  exact blk_put HH (o + j) (.int .u8 x) (by simp [cel, List.map_set])
theorem add_nought (ad : Addr) : ad.add 0 = ad := by obtain ⟨b, o, u⟩ := ad; unfold Addr.add; split <;> simp_all
theorem at_cell {W : World} {g o t : Nat} {a : List Int} (HH : W.heap[g]? = some (.cells (cel a) t (0, 0))) (j : Nat) (h : o + j < a.length) : ∃ x : Int, W.cell? ⟨g, o + j, none⟩ = some (.int .u8 x) ∧ W.frozen? ⟨g, o + j, none⟩ = false := by
  rw [blk_cell HH, cel_get a _ h]
  exact ⟨_, rfl, blk_frozen HH _⟩
theorem keep_cell {w W : World} {g : Nat} (h : KeepBut w W g none) (p : Addr) (hp : p.block = g) {v : Value} : KeepBut w (W.setCell p v) g none := by
  subst hp
  refine ⟨?_, fun k hk hne hn => ?_⟩
  · simpa [World.setCell] using h.1
  · rw [Below.heap_setCell _ _ _ _ hne]
    exact h.2 k hk hne hn
set_option maxHeartbeats 8000000 in
set_option maxRecDepth 100000 in
theorem view_put_at (g o m c t : Nat) (a : List Int) (n : Int) (w : World) (hg : w.heap[g]? = some (.cells (cel a) t (0, 0))) (ho : o + 4 ≤ a.length) (hm : 4 ≤ m) : Calls Try.prog 35 #[.slice (some ⟨g, o, none⟩) m c, .int .i64 n] w fun e w' => e = .returned (.tuple #[]) ∧ w'.heap[g]? = some (.cells (cel (put4 a o n 4)) t (0, 0)) ∧ Below g w w' := by
  have HH0 : Aside0 (w.heap[g]? = some (.cells (cel (put4 a o n 0)) t (0, 0))) := ⟨hg⟩
  have HK0 := Aside0.mk (Below.refl g w)
  obtain ⟨vx, hx, hf⟩ := at_cell (o := o) HH0.out 0 (by rw [put4_len]; omega)
  rw [Nat.add_zero] at hx hf
  have q0 : (0 < m) = True := eq_true (by omega)
  have q1 : (1 < m) = True := eq_true (by omega)
  have q2 : (2 < m) = True := eq_true (by omega)
  have q3 : (3 < m) = True := eq_true (by omega)
  have p0 : ((0 : Int) < (m : Int)) = True := eq_true (by omega)
  have p1 : ((1 : Int) < (m : Int)) = True := eq_true (by omega)
  have p2 : ((2 : Int) < (m : Int)) = True := eq_true (by omega)
  have p3 : ((3 : Int) < (m : Int)) = True := eq_true (by omega)
  clear hg
  go_enter Try.func35, Try.ntmps35
  go_wp2_with (first | ((with_reducible refine gate_store (t := 5) (p := 19) rfl ?_); refine store_event (t := 5) (p := 19) (v := ?vo_0) (w1 := (w.setCell ⟨g, o, none⟩ (.int .u8 (n % 256)))) ?hg ?ho ?hn ?hr ?_; (case ho => rfl); (case hg => rfl); (case hn => rfl); (case hr => first | (go_simp; done) | (go_simp; rfl)); intro W1 hw; have HH1 : Aside0 (W1.heap[g]? = some (.cells (cel (put4 a o n 1)) t (0, 0))) := ⟨by rw [hw]; exact put_cell HH0.out 0 (by rw [put4_len]; omega) _ rfl⟩; have HK1 : Aside0 (Below g w W1) := ⟨by rw [hw]; exact Below.setCell HK0.out (Nat.le_refl _) _⟩; clear hw hx hf vx; obtain ⟨vx, hx, hf⟩ := at_cell (o := o) HH1.out 1 (by rw [put4_len]; omega)) | ((with_reducible refine gate_store (t := 5) (p := 20) rfl ?_); refine store_event (t := 5) (p := 20) (v := ?vo_1) (w1 := (W1.setCell ⟨g, o + 1, none⟩ (.int .u8 (n / 256 % 256)))) ?hg ?ho ?hn ?hr ?_; (case ho => rfl); (case hg => rfl); (case hn => rfl); (case hr => first | (go_simp; done) | (go_simp; rfl)); intro W2 hw; have HH2 : Aside0 (W2.heap[g]? = some (.cells (cel (put4 a o n 2)) t (0, 0))) := ⟨by rw [hw]; exact put_cell HH1.out 1 (by rw [put4_len]; omega) _ rfl⟩; have HK2 : Aside0 (Below g w W2) := ⟨by rw [hw]; exact Below.setCell HK1.out (Nat.le_refl _) _⟩; clear hw hx hf vx; obtain ⟨vx, hx, hf⟩ := at_cell (o := o) HH2.out 2 (by rw [put4_len]; omega)) | ((with_reducible refine gate_store (t := 5) (p := 21) rfl ?_); refine store_event (t := 5) (p := 21) (v := ?vo_2) (w1 := (W2.setCell ⟨g, o + 2, none⟩ (.int .u8 (n / 65536 % 256)))) ?hg ?ho ?hn ?hr ?_; (case ho => rfl); (case hg => rfl); (case hn => rfl); (case hr => first | (go_simp; done) | (go_simp; rfl)); intro W3 hw; have HH3 : Aside0 (W3.heap[g]? = some (.cells (cel (put4 a o n 3)) t (0, 0))) := ⟨by rw [hw]; exact put_cell HH2.out 2 (by rw [put4_len]; omega) _ rfl⟩; have HK3 : Aside0 (Below g w W3) := ⟨by rw [hw]; exact Below.setCell HK2.out (Nat.le_refl _) _⟩; clear hw hx hf vx; obtain ⟨vx, hx, hf⟩ := at_cell (o := o) HH3.out 3 (by rw [put4_len]; omega)) | ((with_reducible refine gate_store (t := 5) (p := 22) rfl ?_); refine store_event (t := 5) (p := 22) (v := ?vo_3) (w1 := (W3.setCell ⟨g, o + 3, none⟩ (.int .u8 (n / 16777216 % 256)))) ?hg ?ho ?hn ?hr ?_; (case ho => rfl); (case hg => rfl); (case hn => rfl); (case hr => first | (go_simp; done) | (go_simp; rfl)); intro W4 hw; have HH4 : Aside0 (W4.heap[g]? = some (.cells (cel (put4 a o n 4)) t (0, 0))) := ⟨by rw [hw]; exact put_cell HH3.out 3 (by rw [put4_len]; omega) _ rfl⟩; have HK4 : Aside0 (Below g w W4) := ⟨by rw [hw]; exact Below.setCell HK3.out (Nat.le_refl _) _⟩; clear hw hx hf vx))
  first | go_end0 | ((try simp only [Exit.inBlock, Exit.then]); refine bodyPost_ret (results_none rfl _ _ _) rfl ?_)
  exact ⟨rfl, HH4.out, HK4.out⟩
end Go.Proofs.Ytpbplflocdhahaa.HW
