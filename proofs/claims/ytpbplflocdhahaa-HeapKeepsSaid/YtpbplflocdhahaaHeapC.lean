/- The heap's Get, Compare, Equal, Size, Bytes. -/
import Derived.Test.YtpbplflocdhahaaHeapB
import Derived.Test.YtpbplflocdhahaaPx1
set_option linter.unusedVariables false
set_option linter.unusedSimpArgs false
namespace Go.Proofs.Ytpbplflocdhahaa.HW
open Go.RowKit Go.Proofs.Ytpbplflocdhahaa.P Go.Proofs.Ytpbplflocdhahaa.HP Go.Proofs.YtpbplflocdhahaaW.PrintWords Go.Proofs.YtpbplflocdhahaaW.PrintLast Go.Proofs.YtpbplflocdhahaaW.PrintMore
attribute [local go_sem] max2_int min2_int max_two min_two max_three min_three max_four min_four
/-- A right view of a string. -/
structure VW (a : List Int) (s : ByteArray) : Prop where
  ha : a.length = 16
  hb : isB a
  hr : rightB a = true
  hn : le4v a = s.size
  hp : strOfNums ((a.drop 4).take (if le4v a < 4 then (le4v a).toNat else 4)) = preB s
theorem load16 {w : World} {g : Nat} {C : Array Value} (h : w.heap[g]? = some (.cells C 28 (0, 0))) (hs : C.size = 16) : (loadVar 28 ⟨g, 0, none⟩).run Try.prog w = .ok (.agg C) w :=
  run_loadVar_row w g 28 28 C (0, 0) _ h Try.underlying28 rfl (by rw [info16, hs])
theorem load_exec {P : Program} {ρ : Operand → Value} {o : Oper} {ty : TypeId} {x : Operand} {ad : Addr} {C : Array Value} {w : World} (ho : o.op = .load ty x) (hx : ρ x = .pointer (some ad)) (h : (loadVar ty ad).run P w = .ok (.agg C) w) : (execOp ρ o).run P w = .ok (.value (.agg C)) w := by
  unfold execOp
  simp only [ho, hx, Instr.loadAt, Instr.sureAddr, Sem.run_bind, Sem.run_pure, Result.andThen_ok, h]
set_option maxHeartbeats 8000000 in
set_option maxRecDepth 100000 in
theorem quick_calls (a d : List Int) (s t : ByteArray) (w : World) (va : VW a s) (vd : VW d t) : Calls Try.prog 30 #[.agg (cel a), .agg (cel d)] w fun e w' => e = .returned (.int .i64 (cs (preB s) (preB t))) ∧ Below w.heap.size w w' := by
  have HRa := Aside0.mk (fun w => view_Right.calls a w va.ha va.hb)
  have HRb := Aside0.mk (fun w => view_Right.calls d w vd.ha vd.hb)
  have HPa := Aside0.mk (fun w => view_Prefix.calls a w va.ha va.hb)
  have HPb := Aside0.mk (fun w => view_Prefix.calls d w vd.ha vd.hb)
  rw [va.hr] at HRa
  rw [vd.hr] at HRb
  rw [va.hp] at HPa
  rw [vd.hp] at HPb
  obtain ⟨C, hC⟩ : ∃ C, C = cel a := ⟨_, rfl⟩
  obtain ⟨D, hD⟩ : ∃ D, D = cel d := ⟨_, rfl⟩
  have HSC : Aside0 (C.size = 16) := ⟨by rw [hC, cel_size, va.ha]⟩
  have HSD : Aside0 (D.size = 16) := ⟨by rw [hD, cel_size, vd.ha]⟩
  rw [← hC] at HRa HPa
  rw [← hD] at HRb HPb
  rw [← hC, ← hD]
  clear hC hD va vd
  have HC1 : Aside0 (((w.alloc (.cells C 28)).alloc (.cells D 28)).heap[w.heap.size]? = some (.cells C 28 (0, 0))) := ⟨((below_alloc (Below.refl _ (w.alloc (.cells C 28))) (.cells D 28)).block _ (blk_lt (blk_new w _))).trans (blk_new w _)⟩
  have HD1 : Aside0 (((w.alloc (.cells C 28)).alloc (.cells D 28)).heap[w.heap.size + 1]? = some (.cells D 28 (0, 0))) := ⟨by have h0 := blk_new (w.alloc (.cells C 28)) (.cells D 28); rwa [show (w.alloc (.cells C 28)).heap.size = w.heap.size + 1 by simp] at h0⟩
  have HB1 : Aside0 (Below w.heap.size w ((w.alloc (.cells C 28)).alloc (.cells D 28))) := ⟨below_alloc (below_alloc (Below.refl _ w) _) _⟩
  go_enter Try.func30, Try.ntmps30
  go_wp2_with (first | ((with_reducible refine gate_dst (N := 5) rfl ?_); refine wpList_load_row rfl 28 _ rfl w.heap.size (by rfl) 28 C (0, 0) _ HC1.out Try.underlying28 rfl (by rw [info16, HSC.out]) ?_))
  refine (HRa.out _).mono ?_
  rintro e w2 ⟨rfl, hb⟩
  have HC2 := Aside0.mk ((hb.block _ (blk_lt HC1.out)).trans HC1.out)
  have HD2 := Aside0.mk ((hb.block _ (blk_lt HD1.out)).trans HD1.out)
  have HB2 := Aside0.mk (below_step HB1.out hb)
  clear hb
  go_wp2_with (first | ((with_reducible refine gate_dst (N := 9) rfl ?_); refine Go.BigFrame.wpList_want ?hw (fun K hK => ?_); (case hw => rfl); refine wp_load_row 28 _ rfl (w.heap.size + 1) ?hx 28 D (0, 0) _ HD2.out Try.underlying28 rfl ?hi ?_; (case hx => rfl); (case hi => rw [info16, HSD.out]); refine hK _ _ ?_; clear hK K))
  refine (HRb.out _).mono ?_
  rintro e w2b ⟨rfl, hb⟩
  have HC22 := Aside0.mk ((hb.block _ (blk_lt HC2.out)).trans HC2.out)
  have HD22 := Aside0.mk ((hb.block _ (blk_lt HD2.out)).trans HD2.out)
  have HB22 := Aside0.mk (below_step HB2.out hb)
  clear hb
  go_wp2_with fail
  have HC3 : Aside0 (w2b.drew.heap[w.heap.size]? = some (.cells C 28 (0, 0))) := ⟨HC22.out⟩
  have HD3 : Aside0 (w2b.drew.heap[w.heap.size + 1]? = some (.cells D 28 (0, 0))) := ⟨HD22.out⟩
  have HB3 := Aside0.mk (below_drew1 HB22.out)
  refine start_ (n := 6) (S := fun w' => (loadVar 28 ⟨w.heap.size, 0, none⟩).run Try.prog w' = .ok (.agg C) w' ∧ (loadVar 28 ⟨w.heap.size + 1, 0, none⟩).run Try.prog w' = .ok (.agg D) w') (ds := []) #[false, false, false, false, false, false] (by kernel_rfl) rfl rfl ⟨(load16 HC3.out HSC.out), (load16 HD3.out HSD.out)⟩ (fun hHeld => ?_)
  refine take_ (i := 0) (N := some 13) (v := ?_) (a' := ?_) #[true, false, false, false, false, false] rfl rfl (by kernel_rfl) (fun _ _ _ h => h) (Or.inl ⟨by rfl, ?_⟩) hHeld ?_ ?_
  rotate_left
  · rintro w' ⟨s0, s1⟩
    refine Eq.trans (load_exec (by rfl) (by rfl) s0) ?_
    with_reducible rfl
  rotate_left
  · simp only [Act.put, List.setIfInBounds_toArray, List.set_cons_zero, List.set_cons_succ, i64_w, i32_w]
    rfl
  refine take_ (i := 2) (N := some 15) (v := ?_) (a' := ?_) #[true, false, true, false, false, false] rfl rfl (by kernel_rfl) (fun _ _ _ h => h) (Or.inl ⟨by rfl, ?_⟩) hHeld ?_ ?_
  rotate_left
  · rintro w' ⟨s0, s1⟩
    refine Eq.trans (load_exec (by rfl) (by rfl) s1) ?_
    with_reducible rfl
  rotate_left
  · simp only [Act.put, List.setIfInBounds_toArray, List.set_cons_zero, List.set_cons_succ, i64_w, i32_w]
    rfl
  refine one_ (i := 1) (N := some 14) #[true, true, true, false, false, false] rfl rfl (by kernel_rfl) (by decide) (fun K hK => ?_)
  refine goes_ Try.func24 (by kernel_rfl) rfl #[.agg C] (by rfl) rfl rfl (by simp only [List.map_toArray, List.map_cons, List.map_nil]; rfl) ?_
  with_reducible refine (HPa.out _).mono ?_
  rintro e w4 ⟨rfl, hb⟩
  refine ⟨_, rfl, ?_⟩
  have HC4 := Aside0.mk ((hb.block _ (blk_lt HC3.out)).trans HC3.out)
  have HD4 := Aside0.mk ((hb.block _ (blk_lt HD3.out)).trans HD3.out)
  have HB4 := Aside0.mk (below_step HB3.out hb)
  clear hb
  refine hK.out _ _ ⟨(load16 HC4.out HSC.out), (load16 HD4.out HSD.out)⟩ (fun hHeld => ?_)
  clear hK K
  refine norm_ (a' := ?_) ?_ ?_
  rotate_left
  · show Act.put _ (some 14) _ = _
    simp only [Act.put, List.setIfInBounds_toArray, List.set_cons_zero, List.set_cons_succ, i64_w, i32_w]
    rfl
  refine one_ (i := 3) (N := some 16) #[true, true, true, true, false, false] rfl rfl (by kernel_rfl) (by decide) (fun K hK => ?_)
  refine goes_ Try.func24 (by kernel_rfl) rfl #[.agg D] (by rfl) rfl rfl (by simp only [List.map_toArray, List.map_cons, List.map_nil]; rfl) ?_
  with_reducible refine (HPb.out _).mono ?_
  rintro e w5 ⟨rfl, hb⟩
  refine ⟨_, rfl, ?_⟩
  have HC5 := Aside0.mk ((hb.block _ (blk_lt HC4.out)).trans HC4.out)
  have HD5 := Aside0.mk ((hb.block _ (blk_lt HD4.out)).trans HD4.out)
  have HB5 := Aside0.mk (below_step HB4.out hb)
  clear hb
  refine hK.out _ _ ⟨(load16 HC5.out HSC.out), (load16 HD5.out HSD.out)⟩ (fun hHeld => ?_)
  clear hK K
  refine norm_ (a' := ?_) ?_ ?_
  rotate_left
  · show Act.put _ (some 16) _ = _
    simp only [Act.put, List.setIfInBounds_toArray, List.set_cons_zero, List.set_cons_succ, i64_w, i32_w]
    rfl
  refine one_ (i := 4) (N := some 17) #[true, true, true, true, true, false] rfl rfl (by kernel_rfl) (by decide) (fun K hK => ?_)
  refine goes_ Try.func31 (by kernel_rfl) rfl #[.string (preB s), .string (preB t)] (by rfl) rfl rfl (by simp only [List.map_toArray, List.map_cons, List.map_nil]; rfl) ?_
  with_reducible refine (cmp_Compare_string.calls _ _ _ _ (cmp_f _ _)).mono ?_
  rintro e w6 ⟨rfl, n6, rfl⟩
  refine ⟨_, rfl, ?_⟩
  have HC6 : Aside0 ((w5.drewN n6).heap[w.heap.size]? = some (.cells C 28 (0, 0))) := ⟨HC5.out⟩
  have HD6 : Aside0 ((w5.drewN n6).heap[w.heap.size + 1]? = some (.cells D 28 (0, 0))) := ⟨HD5.out⟩
  refine hK.out _ _ ⟨(load16 HC6.out HSC.out), (load16 HD6.out HSD.out)⟩ (fun hHeld => ?_)
  clear hK K
  refine norm_ (a' := ?_) ?_ ?_
  rotate_left
  · show Act.put _ (some 17) _ = _
    simp only [Act.put, List.setIfInBounds_toArray, List.set_cons_zero, List.set_cons_succ, i64_w, i32_w]
    rfl
  refine pure_ (i := 5) (N := some 4) (v := ?_) (a' := ?_) #[true, true, true, true, true, true] rfl rfl (by kernel_rfl) (fun _ _ _ h => h) (Or.inl ⟨by rfl, ?_⟩) ?_ ?_
  rotate_left
  · intro w'
    go_simp
    with_reducible rfl
  rotate_left
  · simp only [Act.put, List.setIfInBounds_toArray, List.set_cons_zero, List.set_cons_succ, i64_w, i32_w]
    rfl
  refine done_ (by kernel_rfl) ?_
  go_wp2
  go_ret
  exact ⟨rfl, by repeat (first | exact HB5.out | apply below_alloc | apply pw_below_drewN | apply below_drew1)⟩
theorem preB_ext (s : ByteArray) : s.extract 0 (preB s).size = preB s := by
  have e : bytesOf (s.extract 0 (preB s).size) = bytesOf (preB s) := by
    unfold preB
    rw [bytes_str _ (isB_take (bytes_b s) 4), str_size, List.length_take, bytes_len]
    simp [bytesOf, List.map_take]
  exact bytes_inj e
theorem has_pre (s : ByteArray) : strings_HasPrefix.f s (preB s) = some true := by
  have hs : (preB s).size ≤ s.size := by unfold preB; rw [str_size, List.length_take, bytes_len]; omega
  unfold strings_HasPrefix.f stringslite_HasPrefix.f
  rw [if_pos (by omega), if_pos (by omega), if_pos (by omega), Int.toNat_natCast, preB_ext]
  simp
/-- A piece of a row. -/
theorem cut_seg (A : Option Addr) (c : Nat) (l : List Int) (hc : l.length ≤ c) (x y : Nat) (h : x + y ≤ l.length) : ∃ (A' : Option Addr) (c' : Nat), ((l.drop x).take y).length ≤ c' ∧
    (∀ W : World, (Instr.slice 36 (.slice A l.length c) (some (.int .i64 (x : Int))) (some (.int .i64 ((x : Int) + (y : Int)))) none).run Try.prog W = .ok (.slice A' ((l.drop x).take y).length c') W) ∧
    ∀ W : World, Kd.C (Kd.int .u8) W A l.length l → Kd.C (Kd.int .u8) W A' ((l.drop x).take y).length ((l.drop x).take y) := by
  obtain ⟨i0, hi0, _, hsz, _⟩ := info_parts info8
  have hcut := cut_mid (P := Try.prog) 36 5 .i64 .i64 Try.underlying36 hi0 1 hsz A l.length c (x : Int) ((x : Int) + (y : Int)) (by omega) (by omega) (by omega) hc
  have hlen : ((x : Int) + (y : Int)).toNat - (x : Int).toNat = ((l.drop x).take y).length := by simp; omega
  refine ⟨_, c - x, by simp; omega, fun W => ?_, fun W hC => Kd.C_take (m := y) (Kd.C_drop (m := x) (c := c) hC (by omega) hc) (by simp; omega)⟩
  rw [hcut W, hlen, Int.toNat_natCast]
  rfl
set_option maxHeartbeats 8000000 in
set_option maxRecDepth 100000 in
theorem Hp.long_calls {lo g : Nat} {b : List Int} {m : Int} (a : List Int) (s : ByteArray) (at_ : Nat) (w : World) (h : Hp lo w g (some b) m) (va : VW a s) (hs : 12 < s.size) (hs2 : s.size ≤ 4096) (hp8 : le4v (a.drop 8) = 0) (hp12 : le4v (a.drop 12) = (at_ : Int)) (hfit : at_ + s.size ≤ b.length) (hbl : b.length ≤ 100000) (hbs : (b.drop at_).take s.size = bytesOf s) :
    Calls Try.prog 27 #[.pointer (some ⟨g, 0, none⟩), .agg (cel a)] w fun e w' => ∃ (A' : Option Addr) (c' : Nat), e = .returned (.tuple #[.slice A' (bytesOf s).length c', .bool true]) ∧ (bytesOf s).length ≤ c' ∧ Kd.C (Kd.int .u8) w' A' (bytesOf s).length (bytesOf s) ∧ Below w.heap.size w w' := by
  have HLn := Aside0.mk (fun w => view_Len.calls a w va.ha va.hb)
  have HPr := Aside0.mk (fun w => view_Prefix.calls a w va.ha va.hb)
  have HPl := Aside0.mk (fun w => view_Place.calls a w va.ha va.hb)
  rw [va.hp] at HPr
  rw [va.hn] at HLn HPl
  rw [if_neg (by omega), if_neg (by omega), hp8, hp12] at HPl
  obtain ⟨C, hC⟩ : ∃ C, C = cel a := ⟨_, rfl⟩
  have HSC : Aside0 (C.size = 16) := ⟨by rw [hC, cel_size, va.ha]⟩
  rw [← hC] at HLn HPr HPl ⊢
  obtain ⟨gb, cb, A, c, hg, hcb, hx0, hxf, hcl, hr, h1, h2, hne⟩ := h.parts
  have HX0 : Aside0 (∀ W : World, Below w.heap.size w W → W.cell? ⟨g, 0, none⟩ = some (.slice (some ⟨gb, 0, none⟩) 1 cb)) := ⟨fun W hW => blk_cell ((hW.block _ (blk_lt hg)).trans hg) 0⟩
  have HX1 : Aside0 (∀ W : World, Below w.heap.size w W → W.cell? ⟨gb, 0, none⟩ = some (.slice A b.length c)) := ⟨fun W hW => by have hl := World.block_lt_of_cell? _ _ hx0; rw [← hx0]; unfold World.cell?; rw [hW.block _ hl]⟩
  have HR0 := Aside0.mk hr
  obtain ⟨A9, c9, hc9, hcut, hcs⟩ := cut_seg A c b hcl at_ s.size hfit
  rw [hbs] at hc9 hcut hcs
  have HCS := Aside0.mk hcs
  have HC9 := Aside0.mk hc9
  have HCV : Aside0 (∀ W : World, Below w.heap.size w W → (convert 36 9 (.slice A9 (bytesOf s).length c9)).run Try.prog W = .ok (.string s) W) := ⟨fun W hW => by
    have := Kd.C_string (P := Try.prog) (c := c9) Try.underlying36 Try.underlying5 Try.underlying9 (hcs W (Kd.C_below hr hW))
    rw [this, str_b]⟩
  obtain ⟨bs, hbse⟩ : ∃ bs, bs = bytesOf s := ⟨_, rfl⟩
  rw [← hbse] at hcut HCS HC9 HCV ⊢
  have hwn : wrap64 ((at_ : Int) + (s.size : Int)) = (at_ : Int) + (s.size : Int) := by unfold wrap64; omega
  have tn : decide ((b.length : Int) < (at_ : Int) + (s.size : Int)) = false := decide_eq_false (by omega)
  clear h va hs hs2 hp8 hp12 hfit hbl hbs hC hg hcb hx0 hxf hcl hr h1 h2 hne hc9 hcs hbse
  have HC0 := Aside0.mk (blk_new w (.cells C 28))
  have HB0 := Aside0.mk (below_alloc (Below.refl w.heap.size w) (.cells C 28))
  go_enter Try.func27, Try.ntmps27
  go_wp2_with (first | ((with_reducible refine gate_dst (N := 10) rfl ?_); refine wpList_load_row rfl 28 _ rfl w.heap.size (by rfl) 28 C (0, 0) _ HC0.out Try.underlying28 rfl (by rw [info16, HSC.out]) ?_))
  refine (HPl.out _).mono ?_
  rintro e w1 ⟨rfl, hb⟩
  have HC1 := Aside0.mk ((hb.block _ (blk_lt HC0.out)).trans HC0.out)
  have HB1 := Aside0.mk (below_step HB0.out hb)
  clear hb
  go_wp2_with fail
  have HC1d : Aside0 (w1.drew.heap[w.heap.size]? = some (.cells C 28 (0, 0))) := ⟨HC1.out⟩
  have HB1d := Aside0.mk (below_drew1 HB1.out)
  refine start_ (n := 22) (S := fun w' => (loadVar 28 ⟨w.heap.size, 0, none⟩).run Try.prog w' = .ok (.agg C) w' ∧ w'.cell? ⟨g, 0, none⟩ = some (.slice (some ⟨gb, 0, none⟩) 1 cb) ∧ w'.cell? ⟨gb, 0, none⟩ = some (.slice A b.length c)) (ds := []) #[false, false, false, false, false, false, false, false, false, false, false, false, false, false, false, false, false, false, false, false, false, false] (by kernel_rfl) rfl rfl ⟨(load16 HC1d.out HSC.out), (HX0.out _ HB1d.out), (HX1.out _ HB1d.out)⟩ (fun hHeld => ?_)
  refine pure_ (i := 0) (N := some 14) (v := ?_) (a' := ?_) #[true, false, false, false, false, false, false, false, false, false, false, false, false, false, false, false, false, false, false, false, false, false] rfl rfl (by kernel_rfl) (fun _ _ _ h => h) (Or.inl ⟨by rfl, ?_⟩) ?_ ?_
  rotate_left
  · intro w'
    go_simp
    with_reducible rfl
  rotate_left
  · simp only [Act.put, List.setIfInBounds_toArray, List.set_cons_zero, List.set_cons_succ, i64_w, i32_w]
    rfl
  refine pure_ (i := 1) (N := some 15) (v := ?_) (a' := ?_) #[true, true, false, false, false, false, false, false, false, false, false, false, false, false, false, false, false, false, false, false, false, false] rfl rfl (by kernel_rfl) (fun _ _ _ h => h) (Or.inl ⟨by rfl, ?_⟩) ?_ ?_
  rotate_left
  · intro w'
    go_simp
    with_reducible rfl
  rotate_left
  · simp only [Act.put, List.setIfInBounds_toArray, List.set_cons_zero, List.set_cons_succ, i64_w, i32_w]
    rfl
  refine pure_ (i := 2) (N := some 16) (v := ?_) (a' := ?_) #[true, true, true, false, false, false, false, false, false, false, false, false, false, false, false, false, false, false, false, false, false, false] rfl rfl (by kernel_rfl) (fun _ _ _ h => h) (Or.inl ⟨by rfl, ?_⟩) ?_ ?_
  rotate_left
  · intro w'
    go_simp
    with_reducible rfl
  rotate_left
  · simp only [Act.put, List.setIfInBounds_toArray, List.set_cons_zero, List.set_cons_succ, i64_w, i32_w]
    rfl
  refine pure_ (i := 3) (N := some 17) (v := ?_) (a' := ?_) #[true, true, true, true, false, false, false, false, false, false, false, false, false, false, false, false, false, false, false, false, false, false] rfl rfl (by kernel_rfl) (fun _ _ _ h => h) (Or.inl ⟨by rfl, ?_⟩) ?_ ?_
  rotate_left
  · intro w'
    go_simp
    with_reducible rfl
  rotate_left
  · simp only [Act.put, List.setIfInBounds_toArray, List.set_cons_zero, List.set_cons_succ, i64_w, i32_w]
    rfl
  refine take_ (i := 4) (N := some 18) (v := ?_) (a' := ?_) #[true, true, true, true, true, false, false, false, false, false, false, false, false, false, false, false, false, false, false, false, false, false] rfl rfl (by kernel_rfl) (fun _ _ _ h => h) (Or.inl ⟨by rfl, ?_⟩) hHeld ?_ ?_
  rotate_left
  · rintro w' ⟨s0, s1, s2⟩
    go_simp
    with_reducible rfl
  rotate_left
  · simp only [Act.put, List.setIfInBounds_toArray, List.set_cons_zero, List.set_cons_succ, i64_w, i32_w]
    rfl
  refine pure_ (i := 5) (N := some 19) (v := ?_) (a' := ?_) #[true, true, true, true, true, true, false, false, false, false, false, false, false, false, false, false, false, false, false, false, false, false] rfl rfl (by kernel_rfl) (fun _ _ _ h => h) (Or.inl ⟨by rfl, ?_⟩) ?_ ?_
  rotate_left
  · intro w'
    go_simp
    with_reducible rfl
  rotate_left
  · simp only [Act.put, List.setIfInBounds_toArray, List.set_cons_zero, List.set_cons_succ, i64_w, i32_w]
    rfl
  refine pure_ (i := 6) (N := some 20) (v := ?_) (a' := ?_) #[true, true, true, true, true, true, true, false, false, false, false, false, false, false, false, false, false, false, false, false, false, false] rfl rfl (by kernel_rfl) (fun _ _ _ h => h) (Or.inl ⟨by rfl, ?_⟩) ?_ ?_
  rotate_left
  · intro w'
    go_simp
    with_reducible rfl
  rotate_left
  · simp only [Act.put, List.setIfInBounds_toArray, List.set_cons_zero, List.set_cons_succ, i64_w, i32_w]
    rfl
  refine pure_ (i := 7) (N := some 21) (v := ?_) (a' := ?_) #[true, true, true, true, true, true, true, true, false, false, false, false, false, false, false, false, false, false, false, false, false, false] rfl rfl (by kernel_rfl) (fun _ _ _ h => h) (Or.inl ⟨by rfl, ?_⟩) ?_ ?_
  rotate_left
  · intro w'
    go_simp
    with_reducible rfl
  rotate_left
  · simp only [Act.put, List.setIfInBounds_toArray, List.set_cons_zero, List.set_cons_succ, i64_w, i32_w]
    rfl
  refine pure_ (i := 8) (N := some 22) (v := ?_) (a' := ?_) #[true, true, true, true, true, true, true, true, true, false, false, false, false, false, false, false, false, false, false, false, false, false] rfl rfl (by kernel_rfl) (fun _ _ _ h => h) (Or.inl ⟨by rfl, ?_⟩) ?_ ?_
  rotate_left
  · intro w'
    go_simp
    with_reducible rfl
  rotate_left
  · simp only [Act.put, List.setIfInBounds_toArray, List.set_cons_zero, List.set_cons_succ, i64_w, i32_w]
    rfl
  refine pure_ (i := 12) (N := some 26) (v := ?_) (a' := ?_) #[true, true, true, true, true, true, true, true, true, false, false, false, true, false, false, false, false, false, false, false, false, false] rfl rfl (by kernel_rfl) (fun _ _ _ h => h) (Or.inl ⟨by rfl, ?_⟩) ?_ ?_
  rotate_left
  · intro w'
    go_simp
    with_reducible rfl
  rotate_left
  · simp only [Act.put, List.setIfInBounds_toArray, List.set_cons_zero, List.set_cons_succ, i64_w, i32_w]
    rfl
  refine pure_ (i := 13) (N := some 27) (v := ?_) (a' := ?_) #[true, true, true, true, true, true, true, true, true, false, false, false, true, true, false, false, false, false, false, false, false, false] rfl rfl (by kernel_rfl) (fun _ _ _ h => h) (Or.inl ⟨by rfl, ?_⟩) ?_ ?_
  rotate_left
  · intro w'
    go_simp
    with_reducible rfl
  rotate_left
  · simp only [Act.put, List.setIfInBounds_toArray, List.set_cons_zero, List.set_cons_succ, i64_w, i32_w]
    rfl
  refine pure_ (i := 14) (N := some 28) (v := ?_) (a' := ?_) #[true, true, true, true, true, true, true, true, true, false, false, false, true, true, true, false, false, false, false, false, false, false] rfl rfl (by kernel_rfl) (fun _ _ _ h => h) (Or.inl ⟨by rfl, ?_⟩) ?_ ?_
  rotate_left
  · intro w'
    go_simp
    with_reducible rfl
  rotate_left
  · simp only [Act.put, List.setIfInBounds_toArray, List.set_cons_zero, List.set_cons_succ, i64_w, i32_w]
    rfl
  refine pure_ (i := 16) (N := some 30) (v := ?_) (a' := ?_) #[true, true, true, true, true, true, true, true, true, false, false, false, true, true, true, false, true, false, false, false, false, false] rfl rfl (by kernel_rfl) (fun _ _ _ h => h) (Or.inl ⟨by rfl, ?_⟩) ?_ ?_
  rotate_left
  · intro w'
    go_simp
    with_reducible rfl
  rotate_left
  · simp only [Act.put, List.setIfInBounds_toArray, List.set_cons_zero, List.set_cons_succ, i64_w, i32_w]
    rfl
  refine take_ (i := 9) (N := some 23) (v := ?_) (a' := ?_) #[true, true, true, true, true, true, true, true, true, true, false, false, true, true, true, false, true, false, false, false, false, false] rfl rfl (by kernel_rfl) (fun _ _ _ h => h) (Or.inl ⟨by rfl, ?_⟩) hHeld ?_ ?_
  rotate_left
  · rintro w' ⟨s0, s1, s2⟩
    refine Eq.trans (load_exec (by rfl) (by rfl) s0) ?_
    with_reducible rfl
  rotate_left
  · simp only [Act.put, List.setIfInBounds_toArray, List.set_cons_zero, List.set_cons_succ, i64_w, i32_w]
    rfl
  refine take_ (i := 15) (N := some 29) (v := ?_) (a' := ?_) #[true, true, true, true, true, true, true, true, true, true, false, false, true, true, true, true, true, false, false, false, false, false] rfl rfl (by kernel_rfl) (fun _ _ _ h => h) (Or.inl ⟨by rfl, ?_⟩) hHeld ?_ ?_
  rotate_left
  · rintro w' ⟨s0, s1, s2⟩
    go_simp
    with_reducible rfl
  rotate_left
  · simp only [Act.put, List.setIfInBounds_toArray, List.set_cons_zero, List.set_cons_succ, i64_w, i32_w]
    rfl
  refine pure_ (i := 17) (N := some 31) (v := ?_) (a' := ?_) #[true, true, true, true, true, true, true, true, true, true, false, false, true, true, true, true, true, true, false, false, false, false] rfl rfl (by kernel_rfl) (fun _ _ _ h => h) (Or.inl ⟨by rfl, ?_⟩) ?_ ?_
  rotate_left
  · intro w'
    go_simp
    with_reducible rfl
  rotate_left
  · simp only [Act.put, List.setIfInBounds_toArray, List.set_cons_zero, List.set_cons_succ, i64_w, i32_w]
    rfl
  refine take_ (i := 18) (N := some 32) (v := ?_) (a' := ?_) #[true, true, true, true, true, true, true, true, true, true, false, false, true, true, true, true, true, true, true, false, false, false] rfl rfl (by kernel_rfl) (fun _ _ _ h => h) (Or.inl ⟨by rfl, ?_⟩) hHeld ?_ ?_
  rotate_left
  · rintro w' ⟨s0, s1, s2⟩
    go_simp
    with_reducible rfl
  rotate_left
  · simp only [Act.put, List.setIfInBounds_toArray, List.set_cons_zero, List.set_cons_succ, i64_w, i32_w]
    rfl
  refine pure_ (i := 19) (N := some 33) (v := ?_) (a' := ?_) #[true, true, true, true, true, true, true, true, true, true, false, false, true, true, true, true, true, true, true, true, false, false] rfl rfl (by kernel_rfl) (fun _ _ _ h => h) (Or.inl ⟨by rfl, ?_⟩) ?_ ?_
  rotate_left
  · intro w'
    go_simp
    with_reducible rfl
  rotate_left
  · simp only [Act.put, List.setIfInBounds_toArray, List.set_cons_zero, List.set_cons_succ, i64_w, i32_w]
    rfl
  refine one_ (i := 10) (N := some 24) #[true, true, true, true, true, true, true, true, true, true, true, false, true, true, true, true, true, true, true, true, false, false] rfl rfl (by kernel_rfl) (by decide) (fun K hK => ?_)
  refine goes_ Try.func13 (by kernel_rfl) rfl #[.agg C] (by rfl) rfl rfl (by simp only [List.map_toArray, List.map_cons, List.map_nil]; rfl) ?_
  with_reducible refine (HLn.out _).mono ?_
  rintro e w2 ⟨rfl, hb⟩
  refine ⟨_, rfl, ?_⟩
  have HC2 := Aside0.mk ((hb.block _ (blk_lt HC1d.out)).trans HC1d.out)
  have HB2 := Aside0.mk (below_step HB1d.out hb)
  clear hb
  refine hK.out _ _ ⟨(load16 HC2.out HSC.out), (HX0.out _ HB2.out), (HX1.out _ HB2.out)⟩ (fun hHeld => ?_)
  clear hK K
  refine norm_ (a' := ?_) ?_ ?_
  rotate_left
  · show Act.put _ (some 24) _ = _
    simp only [Act.put, List.setIfInBounds_toArray, List.set_cons_zero, List.set_cons_succ, i64_w, i32_w]
    rfl
  refine pure_ (i := 11) (N := some 25) (v := ?_) (a' := ?_) #[true, true, true, true, true, true, true, true, true, true, true, true, true, true, true, true, true, true, true, true, false, false] rfl rfl (by kernel_rfl) (fun _ _ _ h => h) (Or.inl ⟨by rfl, ?_⟩) ?_ ?_
  rotate_left
  · intro w'
    go_simp
    with_reducible rfl
  rotate_left
  · simp only [Act.put, List.setIfInBounds_toArray, List.set_cons_zero, List.set_cons_succ, i64_w, i32_w]
    rfl
  refine pure_ (i := 20) (N := some 34) (v := ?_) (a' := ?_) #[true, true, true, true, true, true, true, true, true, true, true, true, true, true, true, true, true, true, true, true, true, false] rfl rfl (by kernel_rfl) (fun _ _ _ h => h) (Or.inl ⟨by rfl, ?_⟩) ?_ ?_
  rotate_left
  · intro w'
    go_simp
    with_reducible rfl
  rotate_left
  · simp only [Act.put, List.setIfInBounds_toArray, List.set_cons_zero, List.set_cons_succ, i64_w, i32_w]
    rfl
  refine pure_ (i := 21) (N := some 35) (v := ?_) (a' := ?_) #[true, true, true, true, true, true, true, true, true, true, true, true, true, true, true, true, true, true, true, true, true, true] rfl rfl (by kernel_rfl) (fun _ _ _ h => h) (Or.inl ⟨by rfl, ?_⟩) ?_ ?_
  rotate_left
  · intro w'
    go_simp
    with_reducible rfl
  rotate_left
  · simp only [Act.put, List.setIfInBounds_toArray, List.set_cons_zero, List.set_cons_succ, i64_w, i32_w]
    rfl
  refine done_ (by kernel_rfl) ?_
  go_wp2_with fail
  have HC2d : Aside0 (w2.drew.heap[w.heap.size]? = some (.cells C 28 (0, 0))) := ⟨HC2.out⟩
  have HB2d := Aside0.mk (below_drew1 HB2.out)
  refine start_ (n := 14) (S := fun w' => (loadVar 28 ⟨w.heap.size, 0, none⟩).run Try.prog w' = .ok (.agg C) w' ∧ w'.cell? ⟨g, 0, none⟩ = some (.slice (some ⟨gb, 0, none⟩) 1 cb) ∧ w'.cell? ⟨gb, 0, none⟩ = some (.slice A b.length c)) (ds := []) #[false, false, false, false, false, false, false, false, false, false, false, false, false, false] (by kernel_rfl) rfl rfl ⟨(load16 HC2d.out HSC.out), (HX0.out _ HB2d.out), (HX1.out _ HB2d.out)⟩ (fun hHeld => ?_)
  refine pure_ (i := 0) (N := some 36) (v := ?_) (a' := ?_) #[true, false, false, false, false, false, false, false, false, false, false, false, false, false] rfl rfl (by kernel_rfl) (fun _ _ _ h => h) (Or.inl ⟨by rfl, ?_⟩) ?_ ?_
  rotate_left
  · intro w'
    go_simp
    with_reducible rfl
  rotate_left
  · simp only [Act.put, List.setIfInBounds_toArray, List.set_cons_zero, List.set_cons_succ, i64_w, i32_w]
    rfl
  refine pure_ (i := 1) (N := some 37) (v := ?_) (a' := ?_) #[true, true, false, false, false, false, false, false, false, false, false, false, false, false] rfl rfl (by kernel_rfl) (fun _ _ _ h => h) (Or.inl ⟨by rfl, ?_⟩) ?_ ?_
  rotate_left
  · intro w'
    go_simp
    with_reducible rfl
  rotate_left
  · simp only [Act.put, List.setIfInBounds_toArray, List.set_cons_zero, List.set_cons_succ, i64_w, i32_w]
    rfl
  refine pure_ (i := 2) (N := some 38) (v := ?_) (a' := ?_) #[true, true, true, false, false, false, false, false, false, false, false, false, false, false] rfl rfl (by kernel_rfl) (fun _ _ _ h => h) (Or.inl ⟨by rfl, ?_⟩) ?_ ?_
  rotate_left
  · intro w'
    go_simp
    with_reducible rfl
  rotate_left
  · simp only [Act.put, List.setIfInBounds_toArray, List.set_cons_zero, List.set_cons_succ, i64_w, i32_w]
    rfl
  refine pure_ (i := 4) (N := some 40) (v := ?_) (a' := ?_) #[true, true, true, false, true, false, false, false, false, false, false, false, false, false] rfl rfl (by kernel_rfl) (fun _ _ _ h => h) (Or.inl ⟨by rfl, ?_⟩) ?_ ?_
  rotate_left
  · intro w'
    go_simp
    with_reducible rfl
  rotate_left
  · simp only [Act.put, List.setIfInBounds_toArray, List.set_cons_zero, List.set_cons_succ, i64_w, i32_w]
    rfl
  refine pure_ (i := 7) (N := some 43) (v := ?_) (a' := ?_) #[true, true, true, false, true, false, false, true, false, false, false, false, false, false] rfl rfl (by kernel_rfl) (fun _ _ _ h => h) (Or.inl ⟨by rfl, ?_⟩) ?_ ?_
  rotate_left
  · intro w'
    go_simp
    with_reducible rfl
  rotate_left
  · simp only [Act.put, List.setIfInBounds_toArray, List.set_cons_zero, List.set_cons_succ, i64_w, i32_w]
    rfl
  refine pure_ (i := 8) (N := some 44) (v := ?_) (a' := ?_) #[true, true, true, false, true, false, false, true, true, false, false, false, false, false] rfl rfl (by kernel_rfl) (fun _ _ _ h => h) (Or.inl ⟨by rfl, ?_⟩) ?_ ?_
  rotate_left
  · intro w'
    go_simp
    with_reducible rfl
  rotate_left
  · simp only [Act.put, List.setIfInBounds_toArray, List.set_cons_zero, List.set_cons_succ, i64_w, i32_w]
    rfl
  refine take_ (i := 3) (N := some 39) (v := ?_) (a' := ?_) #[true, true, true, true, true, false, false, true, true, false, false, false, false, false] rfl rfl (by kernel_rfl) (fun _ _ _ h => h) (Or.inl ⟨by rfl, ?_⟩) hHeld ?_ ?_
  rotate_left
  · rintro w' ⟨s0, s1, s2⟩
    go_simp
    with_reducible rfl
  rotate_left
  · simp only [Act.put, List.setIfInBounds_toArray, List.set_cons_zero, List.set_cons_succ, i64_w, i32_w]
    rfl
  refine pure_ (i := 5) (N := some 41) (v := ?_) (a' := ?_) #[true, true, true, true, true, true, false, true, true, false, false, false, false, false] rfl rfl (by kernel_rfl) (fun _ _ _ h => h) (Or.inl ⟨by rfl, ?_⟩) ?_ ?_
  rotate_left
  · intro w'
    go_simp
    with_reducible rfl
  rotate_left
  · simp only [Act.put, List.setIfInBounds_toArray, List.set_cons_zero, List.set_cons_succ, i64_w, i32_w]
    rfl
  refine take_ (i := 6) (N := some 42) (v := ?_) (a' := ?_) #[true, true, true, true, true, true, true, true, true, false, false, false, false, false] rfl rfl (by kernel_rfl) (fun _ _ _ h => h) (Or.inl ⟨by rfl, ?_⟩) hHeld ?_ ?_
  rotate_left
  · rintro w' ⟨s0, s1, s2⟩
    go_simp
    with_reducible rfl
  rotate_left
  · simp only [Act.put, List.setIfInBounds_toArray, List.set_cons_zero, List.set_cons_succ, i64_w, i32_w]
    rfl
  refine take_ (i := 9) (N := some 45) (v := ?_) (a' := ?_) #[true, true, true, true, true, true, true, true, true, true, false, false, false, false] rfl rfl (by kernel_rfl) (fun _ _ _ h => h) (Or.inl ⟨by rfl, ?_⟩) hHeld ?_ ?_
  rotate_left
  · rintro w' ⟨s0, s1, s2⟩
    refine Eq.trans (load_exec (by rfl) (by rfl) s0) ?_
    with_reducible rfl
  rotate_left
  · simp only [Act.put, List.setIfInBounds_toArray, List.set_cons_zero, List.set_cons_succ, i64_w, i32_w]
    rfl
  refine one_ (i := 10) (N := some 46) #[true, true, true, true, true, true, true, true, true, true, true, false, false, false] rfl rfl (by kernel_rfl) (by decide) (fun K hK => ?_)
  refine goes_ Try.func13 (by kernel_rfl) rfl #[.agg C] (by rfl) rfl rfl (by simp only [List.map_toArray, List.map_cons, List.map_nil]; rfl) ?_
  with_reducible refine (HLn.out _).mono ?_
  rintro e w3 ⟨rfl, hb⟩
  refine ⟨_, rfl, ?_⟩
  have HC3 := Aside0.mk ((hb.block _ (blk_lt HC2d.out)).trans HC2d.out)
  have HB3 := Aside0.mk (below_step HB2d.out hb)
  clear hb
  refine hK.out _ _ ⟨(load16 HC3.out HSC.out), (HX0.out _ HB3.out), (HX1.out _ HB3.out)⟩ (fun hHeld => ?_)
  clear hK K
  refine norm_ (a' := ?_) ?_ ?_
  rotate_left
  · show Act.put _ (some 46) _ = _
    simp only [Act.put, List.setIfInBounds_toArray, List.set_cons_zero, List.set_cons_succ, i64_w, i32_w]
    rfl
  refine pure_ (i := 11) (N := some 47) (v := ?_) (a' := ?_) #[true, true, true, true, true, true, true, true, true, true, true, true, false, false] rfl rfl (by kernel_rfl) (fun _ _ _ h => h) (Or.inl ⟨by rfl, ?_⟩) ?_ ?_
  rotate_left
  · intro w'
    go_simp
    with_reducible rfl
  rotate_left
  · simp only [Act.put, List.setIfInBounds_toArray, List.set_cons_zero, List.set_cons_succ, i64_w, i32_w]
    rfl
  refine pure_ (i := 12) (N := some 48) (v := ?_) (a' := ?_) #[true, true, true, true, true, true, true, true, true, true, true, true, true, false] rfl rfl (by kernel_rfl) (fun _ _ _ h => h) (Or.inl ⟨by rfl, ?_⟩) ?_ ?_
  rotate_left
  · intro w'
    go_simp
    with_reducible rfl
  rotate_left
  · simp only [Act.put, List.setIfInBounds_toArray, List.set_cons_zero, List.set_cons_succ, i64_w, i32_w]
    rfl
  refine pure_ (i := 13) (N := some 8) (v := ?_) (a' := ?_) #[true, true, true, true, true, true, true, true, true, true, true, true, true, true] rfl rfl (by kernel_rfl) (fun _ _ _ h => h) (Or.inl ⟨by rfl, ?_⟩) ?_ ?_
  rotate_left
  · intro w'
    go_simp
    with_reducible rfl
  rotate_left
  · simp only [Act.put, List.setIfInBounds_toArray, List.set_cons_zero, List.set_cons_succ, i64_w, i32_w]
    rfl
  refine done_ (by kernel_rfl) ?_
  go_wp2_with fail
  have HC3d : Aside0 (w3.drew.heap[w.heap.size]? = some (.cells C 28 (0, 0))) := ⟨HC3.out⟩
  have HB3d := Aside0.mk (below_drew1 HB3.out)
  refine start_ (n := 8) (S := fun w' => (loadVar 28 ⟨w.heap.size, 0, none⟩).run Try.prog w' = .ok (.agg C) w' ∧ (convert 36 9 (.slice A9 bs.length c9)).run Try.prog w' = .ok (.string s) w') (ds := []) #[false, false, false, false, false, false, false, false] (by kernel_rfl) rfl rfl ⟨(load16 HC3d.out HSC.out), (HCV.out _ HB3d.out)⟩ (fun hHeld => ?_)
  refine pure_ (i := 0) (N := some 49) (v := ?_) (a' := ?_) #[true, false, false, false, false, false, false, false] rfl rfl (by kernel_rfl) (fun _ _ _ h => h) (Or.inl ⟨by rfl, ?_⟩) ?_ ?_
  rotate_left
  · intro w'
    go_simp
    with_reducible rfl
  rotate_left
  · simp only [Act.put, List.setIfInBounds_toArray, List.set_cons_zero, List.set_cons_succ, i64_w, i32_w]
    rfl
  refine pure_ (i := 1) (N := some 50) (v := ?_) (a' := ?_) #[true, true, false, false, false, false, false, false] rfl rfl (by kernel_rfl) (fun _ _ _ h => h) (Or.inl ⟨by rfl, ?_⟩) ?_ ?_
  rotate_left
  · intro w'
    go_simp
    with_reducible rfl
  rotate_left
  · simp only [Act.put, List.setIfInBounds_toArray, List.set_cons_zero, List.set_cons_succ, i64_w, i32_w]
    rfl
  refine take_ (i := 2) (N := some 51) (v := ?_) (a' := ?_) #[true, true, true, false, false, false, false, false] rfl rfl (by kernel_rfl) (fun _ _ _ h => h) (Or.inl ⟨by rfl, ?_⟩) hHeld ?_ ?_
  rotate_left
  · rintro w' ⟨s0, s1⟩
    go_simp
    with_reducible rfl
  rotate_left
  · simp only [Act.put, List.setIfInBounds_toArray, List.set_cons_zero, List.set_cons_succ, i64_w, i32_w]
    rfl
  refine take_ (i := 3) (N := some 52) (v := ?_) (a' := ?_) #[true, true, true, true, false, false, false, false] rfl rfl (by kernel_rfl) (fun _ _ _ h => h) (Or.inl ⟨by rfl, ?_⟩) hHeld ?_ ?_
  rotate_left
  · rintro w' ⟨s0, s1⟩
    refine Eq.trans (load_exec (by rfl) (by rfl) s0) ?_
    with_reducible rfl
  rotate_left
  · simp only [Act.put, List.setIfInBounds_toArray, List.set_cons_zero, List.set_cons_succ, i64_w, i32_w]
    rfl
  refine one_ (i := 4) (N := some 53) #[true, true, true, true, true, false, false, false] rfl rfl (by kernel_rfl) (by decide) (fun K hK => ?_)
  refine goes_ Try.func24 (by kernel_rfl) rfl #[.agg C] (by rfl) rfl rfl (by simp only [List.map_toArray, List.map_cons, List.map_nil]; rfl) ?_
  with_reducible refine (HPr.out _).mono ?_
  rintro e w4 ⟨rfl, hb⟩
  refine ⟨_, rfl, ?_⟩
  have HC4 := Aside0.mk ((hb.block _ (blk_lt HC3d.out)).trans HC3d.out)
  have HB4 := Aside0.mk (below_step HB3d.out hb)
  clear hb
  refine hK.out _ _ ⟨(load16 HC4.out HSC.out), (HCV.out _ HB4.out)⟩ (fun hHeld => ?_)
  clear hK K
  refine norm_ (a' := ?_) ?_ ?_
  rotate_left
  · show Act.put _ (some 53) _ = _
    simp only [Act.put, List.setIfInBounds_toArray, List.set_cons_zero, List.set_cons_succ, i64_w, i32_w]
    rfl
  refine one_ (i := 5) (N := some 54) #[true, true, true, true, true, true, false, false] rfl rfl (by kernel_rfl) (by decide) (fun K hK => ?_)
  refine goes_ Try.func36 (by kernel_rfl) rfl #[.string s, .string (preB s)] (by rfl) rfl rfl (by simp only [List.map_toArray, List.map_cons, List.map_nil]; rfl) ?_
  with_reducible refine (strings_HasPrefix.calls s (preB s) true _ (has_pre s)).mono ?_
  rintro e w5 ⟨rfl, n5, rfl⟩
  refine ⟨_, rfl, ?_⟩
  have HC5 : Aside0 ((w4.drewN n5).heap[w.heap.size]? = some (.cells C 28 (0, 0))) := ⟨HC4.out⟩
  have HB5 := Aside0.mk (pw_below_drewN HB4.out n5)
  refine hK.out _ _ ⟨(load16 HC5.out HSC.out), (HCV.out _ HB5.out)⟩ (fun hHeld => ?_)
  clear hK K
  refine norm_ (a' := ?_) ?_ ?_
  rotate_left
  · show Act.put _ (some 54) _ = _
    simp only [Act.put, List.setIfInBounds_toArray, List.set_cons_zero, List.set_cons_succ, i64_w, i32_w]
    rfl
  refine pure_ (i := 6) (N := some 4) (v := ?_) (a' := ?_) #[true, true, true, true, true, true, true, false] rfl rfl (by kernel_rfl) (fun _ _ _ h => h) (Or.inl ⟨by rfl, ?_⟩) ?_ ?_
  rotate_left
  · intro w'
    go_simp
    with_reducible rfl
  rotate_left
  · simp only [Act.put, List.setIfInBounds_toArray, List.set_cons_zero, List.set_cons_succ, i64_w, i32_w]
    rfl
  refine pure_ (i := 7) (N := some 5) (v := ?_) (a' := ?_) #[true, true, true, true, true, true, true, true] rfl rfl (by kernel_rfl) (fun _ _ _ h => h) (Or.inl ⟨by rfl, ?_⟩) ?_ ?_
  rotate_left
  · intro w'
    go_simp
    with_reducible rfl
  rotate_left
  · simp only [Act.put, List.setIfInBounds_toArray, List.set_cons_zero, List.set_cons_succ, i64_w, i32_w]
    rfl
  refine done_ (by kernel_rfl) ?_
  go_wp2
  go_ret2
  exact ⟨A9, c9, rfl, HC9.out, HCS.out _ (Kd.C_below HR0.out HB5.out), HB5.out⟩
set_option maxHeartbeats 8000000 in
set_option maxRecDepth 100000 in
theorem get_short (g : Nat) (a : List Int) (s : ByteArray) (w : World) (va : VW a s) (hs : s.size ≤ 12) (he : a = mkS s) : Calls Try.prog 12 #[.pointer (some ⟨g, 0, none⟩), .agg (cel a)] w fun e w' => e = .returned (.tuple #[.string s, .bool true]) ∧ Below w.heap.size w w' := by
  have HRt := Aside0.mk (fun w => view_Right.calls a w va.ha va.hb)
  have HSh := Aside0.mk (fun w => view_Short.calls a w va.ha va.hb)
  have HTx := Aside0.mk (fun w => view_Text.calls a w va.ha va.hb)
  rw [va.hr] at HRt
  rw [va.hn] at HTx HSh
  rw [if_pos (by omega), Int.toNat_natCast, he, mkS_t, str_b, ← he] at HTx
  rw [decide_eq_true (show (s.size : Int) ≤ 12 by omega)] at HSh
  obtain ⟨C, hC⟩ : ∃ C, C = cel a := ⟨_, rfl⟩
  have HSC : Aside0 (C.size = 16) := ⟨by rw [hC, cel_size, va.ha]⟩
  rw [← hC] at HRt HSh HTx ⊢
  clear va hs he hC
  have HC0 := Aside0.mk (blk_new w (.cells C 28))
  have HB0 := Aside0.mk (below_alloc (Below.refl w.heap.size w) (.cells C 28))
  go_enter Try.func12, Try.ntmps12
  go_wp2_with (first | ((with_reducible refine gate_dst (N := 9) rfl ?_); refine wpList_load_row rfl 28 _ rfl w.heap.size (by rfl) 28 C (0, 0) _ HC0.out Try.underlying28 rfl (by rw [info16, HSC.out]) ?_))
  refine (HRt.out _).mono ?_
  rintro e w1 ⟨rfl, hb⟩
  have HC1 := Aside0.mk ((hb.block _ (blk_lt HC0.out)).trans HC0.out)
  have HB1 := Aside0.mk (below_step HB0.out hb)
  clear hb
  go_wp2_with (first | ((with_reducible refine gate_dst (N := 13) rfl ?_); refine wpList_load_row rfl 28 _ rfl w.heap.size (by rfl) 28 C (0, 0) _ HC1.out Try.underlying28 rfl (by rw [info16, HSC.out]) ?_))
  refine (HSh.out _).mono ?_
  rintro e w2 ⟨rfl, hb⟩
  have HC2 := Aside0.mk ((hb.block _ (blk_lt HC1.out)).trans HC1.out)
  have HB2 := Aside0.mk (below_step HB1.out hb)
  clear hb
  go_wp2_with (first | ((with_reducible refine gate_dst (N := 15) rfl ?_); refine wpList_load_row rfl 28 _ rfl w.heap.size (by rfl) 28 C (0, 0) _ HC2.out Try.underlying28 rfl (by rw [info16, HSC.out]) ?_))
  refine (HTx.out _).mono ?_
  rintro e w3 ⟨rfl, hb⟩
  have HC3 := Aside0.mk ((hb.block _ (blk_lt HC2.out)).trans HC2.out)
  have HB3 := Aside0.mk (below_step HB2.out hb)
  clear hb
  go_wp2_with fail
  go_ret2
  exact ⟨rfl, HB3.out⟩
set_option maxHeartbeats 8000000 in
set_option maxRecDepth 100000 in
theorem Hp.get_long {lo g : Nat} {b : List Int} {m : Int} (a : List Int) (s : ByteArray) (at_ : Nat) (w : World) (h : Hp lo w g (some b) m) (va : VW a s) (hs : 12 < s.size) (hs2 : s.size ≤ 4096) (hp8 : le4v (a.drop 8) = 0) (hp12 : le4v (a.drop 12) = (at_ : Int)) (hfit : at_ + s.size ≤ b.length) (hbl : b.length ≤ 100000) (hbs : (b.drop at_).take s.size = bytesOf s) :
    Calls Try.prog 12 #[.pointer (some ⟨g, 0, none⟩), .agg (cel a)] w fun e w' => e = .returned (.tuple #[.string s, .bool true]) ∧ Below w.heap.size w w' := by
  have HRt := Aside0.mk (fun w => view_Right.calls a w va.ha va.hb)
  have HSh := Aside0.mk (fun w => view_Short.calls a w va.ha va.hb)
  have HLg := Aside0.mk (fun W (hW : Hp lo W g (some b) m) => Hp.long_calls a s at_ W hW va hs hs2 hp8 hp12 hfit hbl hbs)
  rw [va.hr] at HRt
  rw [va.hn, decide_eq_false (show ¬ (s.size : Int) ≤ 12 by omega)] at HSh
  obtain ⟨C, hC⟩ : ∃ C, C = cel a := ⟨_, rfl⟩
  have HSC : Aside0 (C.size = 16) := ⟨by rw [hC, cel_size, va.ha]⟩
  rw [← hC] at HRt HSh HLg ⊢
  have HH := Aside0.mk h
  clear h va hs hs2 hp8 hp12 hfit hbl hbs hC
  have HC0 := Aside0.mk (blk_new w (.cells C 28))
  have HB0 := Aside0.mk (below_alloc (Below.refl w.heap.size w) (.cells C 28))
  go_enter Try.func12, Try.ntmps12
  go_wp2_with (first | ((with_reducible refine gate_dst (N := 9) rfl ?_); refine wpList_load_row rfl 28 _ rfl w.heap.size (by rfl) 28 C (0, 0) _ HC0.out Try.underlying28 rfl (by rw [info16, HSC.out]) ?_))
  refine (HRt.out _).mono ?_
  rintro e w1 ⟨rfl, hb⟩
  have HC1 := Aside0.mk ((hb.block _ (blk_lt HC0.out)).trans HC0.out)
  have HB1 := Aside0.mk (below_step HB0.out hb)
  clear hb
  go_wp2_with (first | ((with_reducible refine gate_dst (N := 13) rfl ?_); refine wpList_load_row rfl 28 _ rfl w.heap.size (by rfl) 28 C (0, 0) _ HC1.out Try.underlying28 rfl (by rw [info16, HSC.out]) ?_))
  refine (HSh.out _).mono ?_
  rintro e w2 ⟨rfl, hb⟩
  have HC2 := Aside0.mk ((hb.block _ (blk_lt HC1.out)).trans HC1.out)
  have HB2 := Aside0.mk (below_step HB1.out hb)
  clear hb
  go_wp2_with (first | ((with_reducible refine gate_dst (N := 19) rfl ?_); refine wpList_load_row rfl 28 _ rfl w.heap.size (by rfl) 28 C (0, 0) _ HC2.out Try.underlying28 rfl (by rw [info16, HSC.out]) ?_))
  refine (HLg.out _ (HH.out.below HB2.out)).mono ?_
  rintro e w3 ⟨A9, c9, rfl, hc9, hcs, hb⟩
  have HC3 := Aside0.mk ((hb.block _ (blk_lt HC2.out)).trans HC2.out)
  have HB3 := Aside0.mk (below_step HB2.out hb)
  clear hb
  have hcv := Kd.C_string (P := Try.prog) (c := c9) Try.underlying36 Try.underlying5 Try.underlying9 hcs
  rw [str_b] at hcv
  obtain ⟨q, hq⟩ : ∃ q, q = (bytesOf s).length := ⟨_, rfl⟩
  rw [← hq] at hcv ⊢
  clear hc9 hcs hq
  go_wp2_with fail
  go_ret2
  exact ⟨rfl, HB3.out⟩
end Go.Proofs.Ytpbplflocdhahaa.HW
