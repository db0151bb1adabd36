/- The heap's Add, of a long string that fits. -/
import Derived.Test.YtpbplflocdhahaaHeapA
set_option linter.unusedVariables false
set_option linter.unusedSimpArgs false
namespace Go.Proofs.Ytpbplflocdhahaa.HW
open Go.RowKit Go.Proofs.Ytpbplflocdhahaa.P Go.Proofs.Ytpbplflocdhahaa.HP Go.Proofs.YtpbplflocdhahaaW.PrintWords Go.Proofs.YtpbplflocdhahaaW.PrintLast Go.Proofs.YtpbplflocdhahaaW.PrintMore
attribute [local go_sem] max2_int min2_int max_two min_two max_three min_three max_four min_four
theorem ok_add {α : Type} {enc : α → Value} {h1 : ∀ x, (enc x).oneCell' = true} {e base g t : Nat} {ok : Nat → Prop} {W : World} {v : Value} {xs : List α} {cells : Array Value} (h : (Kd.scalar enc h1).R e W base ok v xs) (hb : W.heap[g]? = some (.cells cells t (0, 0))) (ht : e ≠ t) : (Kd.scalar enc h1).R e W base (fun k => ok k ∧ k ≠ g) v xs :=
  Kd.R_of_own (Kd.own_of_R h) (fun k hk => ⟨h.1 k hk, fun e => Kd.R_ne h hb ht (by rw [hk, e])⟩)
theorem KS_keep {e : TypeId} {W w1 : World} {lo gb n cb : Nat} {ok : Nat → Prop} {xs : List (Option Addr × Nat × Nat)} {row : Option Nat} (h : KS.R e W lo ok (.slice (some ⟨gb, 0, none⟩) n cb) xs) (hg : W.grownBy w1 row) (hrow : some gb ≠ row) : KS.R e w1 lo ok (.slice (some ⟨gb, 0, none⟩) n cb) xs := by
  have h9 : KS.R e W lo (fun k => k = gb ∧ ok k) (.slice (some ⟨gb, 0, none⟩) n cb) xs := Kd.R_of_own (enc := encSl) (h1 := fun _ => rfl) (Kd.own_of_R h) (fun k hk => ⟨by simpa [Value.ownBlock] using hk.symm, h.1 k hk⟩)
  exact Kd.R_mono (Kd.R_grown h9 hg (fun k hk e => hrow (by rw [← e, hk.1]))) (fun k hk => hk.2)
/-- Every block of another type than the heap's own ones stays. -/
def KT (w W : World) : Prop := ∀ (k : Nat) (cs : Array Value) (t : TypeId), w.heap[k]? = some (.cells cs t (0, 0)) → t ≠ 53 → t ≠ 36 → t ≠ 5 → W.heap[k]? = some (.cells cs t (0, 0))
theorem KT.of_below {w W : World} (hb : Below w.heap.size w W) : KT w W := fun k cs t h _ _ _ => (hb.block _ (blk_lt h)).trans h
theorem KT.below {w W W' : World} (h : KT w W) (hb : Below W.heap.size W W') : KT w W' := fun k cs t h0 a b c => (hb.block _ (blk_lt (h k cs t h0 a b c))).trans (h k cs t h0 a b c)
theorem KT.but {w W W' : World} {g : Nat} {csg : Array Value} (h : KT w W) (hk : KeepBut W W' g none) (hg : W.heap[g]? = some (.cells csg 53 (0, 0))) : KT w W' := fun k cs t h0 a b c => (hk.2 k (blk_lt (h k cs t h0 a b c)) (blk_ne (h k cs t h0 a b c) hg a) (by simp)).trans (h k cs t h0 a b c)
theorem KT.row {w W : World} {v : Nat} (h : KT w W) (hv : w.heap.size ≤ v) (D : Array Value) : KT w (W.setRow v D) := fun k cs t h0 a b c => (heap_row (by have := blk_lt h0; omega)).trans (h k cs t h0 a b c)
theorem KT.grown {w W W' : World} {lo : Nat} {ok : Nat → Prop} {x : Value} {xs : List Int} (h : KT w W) (hg : W.grownBy W' x.ownBlock) (hR : Kd.R (Kd.int .u8) 5 W lo ok x xs) : KT w W' := fun k cs t h0 a b c => blk_grown (h k cs t h0 a b c) hg (Kd.R_ne hR (h k cs t h0 a b c) (Ne.symm c))
theorem KT.set {w W : World} {gb j : Nat} {csg : Array Value} {T : TypeId} {v : Value} (h : KT w W) (hg : W.heap[gb]? = some (.cells csg T (0, 0))) (hT : T = 53 ∨ T = 36) : KT w (W.setCell ⟨gb, j, none⟩ v) := fun k cs t h0 a b c => (Below.heap_setCell _ _ _ _ (blk_ne (h k cs t h0 a b c) hg (by rcases hT with rfl | rfl; exact a; exact b))).trans (h k cs t h0 a b c)
/-- append of a string, as one step of a region that draws. -/
theorem append_str_step {P : Program} {ops : Array Oper} {o : Oper} {a : Act} {Q : Exit → Act → World → Prop} {Kc : Act → World → Prop} {w0 W : World} (base : Nat) (hw : Region.wanted o (yielded ops a.tmps) = true) (s x : Operand) (t u e : TypeId)
    (ho : o.op = .call { callee := .builtin .append, args := #[s, x], argTypes := #[t, u] })
    (ht : P.underlying t = some (.slice e)) (hu : P.underlying u = some .string) (hinfo : (P.info? e).map (fun i => (i.zero, i.size, i.bytes)) = some (some (.int .u8 0), 1, 1))
    (v : Value) (xs : List Int) (y : ByteArray) (hs : a.eval s = v) (hx : a.eval x = .string y)
    (HO : W.ownsRow base e 1 v xs.length (nums .u8 xs)) (HB : Below base w0 W) (hbase : base ≤ W.heap.size) (hl : xs.length + y.size ≤ 140737488355328)
    (h : ∀ v1 w1, w1.ownsRow base e 1 v1 (xs ++ bytesOf y).length (nums .u8 (xs ++ bytesOf y)) → Below base w0 w1 → W.grownBy w1 v.ownBlock → Kc (a.put o.dst v1) w1) :
    if Region.wanted o (yielded ops a.tmps) = true then Oper.wp P o a W Kc Q else Kc (a.put o.dst undef) W := by
  obtain ⟨i0, hi, hzz⟩ := Option.map_eq_some_iff.1 hinfo
  simp only [Prod.mk.injEq] at hzz
  obtain ⟨hz0, hz1, hz2⟩ := hzz
  obtain ⟨v', w', hr, h2, h3, h4⟩ := Lib.run_append_own_string (P := P) W base t u o.type e i0 ht hu hi hz0 hz1 hz2 v xs.length (nums .u8 xs) HO y (by simp only [maxLen]; omega) hl hbase
  have hl2 : (xs ++ bytesOf y).length = xs.length + y.size := by rw [List.length_append, bytesOf_length]
  have hc : nums .u8 (xs ++ bytesOf y) = nums .u8 xs ++ Lib.strCells y := by
    rw [nums_append]
    congr 1
    simp [nums, bytesOf, Lib.strCells]
  refine event_step (w1 := w') (v := v') hw ?_ (h v' w' (by rw [hl2, hc]; exact h2) (HB.grown h3 hbase (own_base HO)) h3)
  unfold execOp
  simp only [ho, resolve, invoke, builtin, Sem.run_bind, Sem.run_pure, Result.andThen_ok, List.map_toArray, List.map_cons, List.map_nil, hs, hx, hr]
set_option maxHeartbeats 8000000 in
set_option maxRecDepth 100000 in
theorem Hp.add_long {lo g : Nat} {B : Option (List Int)} {m : Int} (s : ByteArray) (w : World) (h : Hp lo w g B m) (hlo : lo ≤ w.heap.size) (hs : 12 < s.size) (hs2 : s.size ≤ 4096) (hm : 0 ≤ m ∧ m ≤ 1000000) (hn : (B.getD []).length + s.size ≤ 65536) (hfit : ¬ m - ((B.getD []).length : Int) < (s.size : Int)) : Calls Try.prog 11 #[.pointer (some ⟨g, 0, none⟩), .string s] w fun e w' => e = .returned (.tuple #[.agg (cel (mkB s 0 ((B.getD []).length : Int))), .int .i64 0]) ∧ Hp lo w' g (some ((B.getD []) ++ bytesOf s)) m ∧ Below lo w w' ∧ KT w w' := by
  have HMk := Aside0.mk (fun w => view_Make.long s 0 0 w hs hs2 rfl)
  rw [mkB_e s 0 0 hs] at HMk
  have HSh := Aside0.mk (fun w => view_Short.calls (mkB s 0 0) w (mkB_len s 0 0 hs) (mkB_b s 0 0))
  rw [decide_eq_false (show ¬ le4v (mkB s 0 0) ≤ 12 by rw [mkB_n s 0 0 hs2]; omega)] at HSh
  obtain ⟨C, hC⟩ : ∃ C, C = cel (mkB s 0 0) := ⟨_, rfl⟩
  rw [← hC] at HMk HSh
  have HSC : Aside0 (C.size = 16) := ⟨by rw [hC, cel_size, mkB_len s 0 0 hs]⟩
  have H1C : Aside0 (C.all (·.oneCell') = true) := ⟨by rw [hC]; exact cel_one _⟩
  have HMk2 := Aside0.mk (fun w => view_Make.long s 0 ((B.getD []).length : Int) w hs hs2 (by unfold placedB; exact decide_eq_true (by omega)))
  rw [mkB_e s 0 _ hs] at HMk2
  obtain ⟨D, hD⟩ : ∃ D, D = cel (mkB s 0 ((B.getD []).length : Int)) := ⟨_, rfl⟩
  rw [← hD] at HMk2 ⊢
  have HSD : Aside0 (D.size = 16) := ⟨by rw [hD, cel_size, mkB_len s 0 _ hs]⟩
  have H1D : Aside0 (D.all (·.oneCell') = true) := ⟨by rw [hD]; exact cel_one _⟩
  have hz := zero16
  obtain ⟨Z, hZ⟩ : ∃ Z, Z = cel z16 := ⟨_, rfl⟩
  rw [← hZ] at hz
  have HSZ : Aside0 (Z.size = 16) := ⟨by rw [hZ]; rfl⟩
  have H1Z : Aside0 (Z.all (·.oneCell') = true) := ⟨by rw [hZ]; exact cel_one _⟩
  have HH := Aside0.mk h
  have HRM := Aside0.mk (fun W (h : Hp lo W g B m) (hl : lo ≤ W.heap.size) => Hp.room s.size W h hl hn)
  have HLO := Aside0.mk hlo
  obtain ⟨b, hbe⟩ : ∃ b, b = B.getD [] := ⟨_, rfl⟩
  rw [← hbe] at hfit hn HMk2 HRM ⊢
  have HBE := Aside0.mk hbe
  obtain ⟨n0, hn0⟩ : ∃ n, b.length = n := ⟨_, rfl⟩
  have HNN := Aside0.mk (show b.length + s.size ≤ 65536 from hn)
  have HSL := Aside0.mk hs
  have hw : wrap64 (m - (n0 : Int)) = m - (n0 : Int) := by unfold wrap64; omega
  have tf : decide (m - (n0 : Int) < (s.size : Int)) = false := decide_eq_false (by rw [← hn0]; exact hfit)
  have HNZ := Aside0.mk hn0
  rw [hbe] at hn0
  clear hs hs2 hC hZ hfit hm hn h hlo hD hbe
  have HN := Aside0.mk (blk_new w (.cells Z 28))
  have HB := Aside0.mk (below_alloc (Below.refl w.heap.size w) (.cells Z 28))
  go_enter Try.func11, Try.ntmps11
  go_wp2_with fail
  refine (HMk.out _).mono ?_
  rintro e w1 ⟨rfl, hb⟩
  have HN1 := Aside0.mk ((hb.block _ (blk_lt HN.out)).trans HN.out)
  have HB1 := Aside0.mk (below_step HB.out hb)
  have HM1 := Aside0.mk (blk_new w1 (.cells Z 28))
  have HLT := Aside0.mk (blk_lt HN1.out)
  have HG1 := Aside0.mk (setRow_heap _ _ _ C _ _ HM1.out)
  have HN2 : Aside0 (((w1.alloc (.cells Z 28)).setRow w1.heap.size C).heap[w.heap.size]? = some (.cells Z 28 (0, 0))) := ⟨(heap_row (by have := HLT.out; omega)).trans (((below_alloc (Below.refl _ w1) (.cells Z 28)).block _ HLT.out).trans HN1.out)⟩
  have HB2 := Aside0.mk (below_row (below_alloc HB1.out (.cells Z 28)) (below_size HB1.out) C)
  clear HN hb
  go_wp2_with (first | ((with_reducible refine gate_store (t := 28) (p := 6) rfl ?_); refine wpList_store_row rfl 28 _ _ rfl w1.heap.size C (by rfl) (by rfl) 28 Z HM1.out (by rw [info16, HSC.out]) (HSZ.out.trans HSC.out.symm) H1C.out ?_) | ((with_reducible refine gate_dst (N := 18) rfl ?_); refine Go.BigFrame.wpList_want ?hw (fun K hK => ?_); (case hw => rfl); refine wp_load_row 28 _ rfl w1.heap.size ?hx 28 C (0, 0) _ HG1.out Try.underlying28 rfl ?hi ?_; (case hx => rfl); (case hi => rw [info16, HSC.out]); refine hK _ _ ?_; clear hK K))
  refine (HSh.out _).mono ?_
  rintro e w2 ⟨rfl, hb⟩
  have HG3 := Aside0.mk ((hb.block _ (blk_lt HG1.out)).trans HG1.out)
  have HN3 := Aside0.mk ((hb.block _ (blk_lt HN2.out)).trans HN2.out)
  have HB3 := Aside0.mk (below_step HB2.out hb)
  have HVW := Aside0.mk (blk_lt HG1.out)
  clear HB1 HB2 HG1 HN2 HN1 HM1 hb
  have HH3 := Aside0.mk (HH.out.below HB3.out)
  obtain ⟨vb, hgb⟩ := HH3.out.cells_
  rw [hn0] at hgb
  have hc1 := blk_cell hgb 1
  have hc2 := blk_cell hgb 2
  simp only [List.getElem?_toArray, List.getElem?_cons_zero, List.getElem?_cons_succ] at hc1 hc2
  clear hgb
  go_wp2_with fail
  refine start_ (n := 12) (S := fun w' => w'.cell? ⟨g, 2, none⟩ = some (.int .i64 m) ∧ w'.cell? ⟨g, 1, none⟩ = some (.int .i64 (n0 : Int))) (ds := []) #[false, false, false, false, false, false, false, false, false, false, false, false] (by kernel_rfl) rfl rfl ⟨hc2, hc1⟩ (fun hHeld => ?_)
  refine pure_ (i := 0) (N := some 23) (v := ?_) (a' := ?_) #[true, false, false, false, false, false, false, false, false, false, false, false] rfl rfl (by kernel_rfl) (fun _ _ _ h => h) (Or.inl ⟨by rfl, ?_⟩) ?_ ?_
  rotate_left
  · intro w'
    go_simp
    with_reducible rfl
  rotate_left
  · simp only [Act.put, List.setIfInBounds_toArray, List.set_cons_zero, List.set_cons_succ, i64_w, i32_w]
    rfl
  refine pure_ (i := 1) (N := some 24) (v := ?_) (a' := ?_) #[true, true, false, false, false, false, false, false, false, false, false, false] rfl rfl (by kernel_rfl) (fun _ _ _ h => h) (Or.inl ⟨by rfl, ?_⟩) ?_ ?_
  rotate_left
  · intro w'
    go_simp
    with_reducible rfl
  rotate_left
  · simp only [Act.put, List.setIfInBounds_toArray, List.set_cons_zero, List.set_cons_succ, i64_w, i32_w]
    rfl
  refine pure_ (i := 2) (N := some 25) (v := ?_) (a' := ?_) #[true, true, true, false, false, false, false, false, false, false, false, false] rfl rfl (by kernel_rfl) (fun _ _ _ h => h) (Or.inl ⟨by rfl, ?_⟩) ?_ ?_
  rotate_left
  · intro w'
    go_simp
    with_reducible rfl
  rotate_left
  · simp only [Act.put, List.setIfInBounds_toArray, List.set_cons_zero, List.set_cons_succ, i64_w, i32_w]
    rfl
  refine pure_ (i := 3) (N := some 26) (v := ?_) (a' := ?_) #[true, true, true, true, false, false, false, false, false, false, false, false] rfl rfl (by kernel_rfl) (fun _ _ _ h => h) (Or.inl ⟨by rfl, ?_⟩) ?_ ?_
  rotate_left
  · intro w'
    go_simp
    with_reducible rfl
  rotate_left
  · simp only [Act.put, List.setIfInBounds_toArray, List.set_cons_zero, List.set_cons_succ, i64_w, i32_w]
    rfl
  refine pure_ (i := 4) (N := some 27) (v := ?_) (a' := ?_) #[true, true, true, true, true, false, false, false, false, false, false, false] rfl rfl (by kernel_rfl) (fun _ _ _ h => h) (Or.inl ⟨by rfl, ?_⟩) ?_ ?_
  rotate_left
  · intro w'
    go_simp
    with_reducible rfl
  rotate_left
  · simp only [Act.put, List.setIfInBounds_toArray, List.set_cons_zero, List.set_cons_succ, i64_w, i32_w]
    rfl
  refine pure_ (i := 6) (N := some 29) (v := ?_) (a' := ?_) #[true, true, true, true, true, false, true, false, false, false, false, false] rfl rfl (by kernel_rfl) (fun _ _ _ h => h) (Or.inl ⟨by rfl, ?_⟩) ?_ ?_
  rotate_left
  · intro w'
    go_simp
    with_reducible rfl
  rotate_left
  · simp only [Act.put, List.setIfInBounds_toArray, List.set_cons_zero, List.set_cons_succ, i64_w, i32_w]
    rfl
  refine pure_ (i := 7) (N := some 30) (v := ?_) (a' := ?_) #[true, true, true, true, true, false, true, true, false, false, false, false] rfl rfl (by kernel_rfl) (fun _ _ _ h => h) (Or.inl ⟨by rfl, ?_⟩) ?_ ?_
  rotate_left
  · intro w'
    go_simp
    with_reducible rfl
  rotate_left
  · simp only [Act.put, List.setIfInBounds_toArray, List.set_cons_zero, List.set_cons_succ, i64_w, i32_w]
    rfl
  refine pure_ (i := 8) (N := some 31) (v := ?_) (a' := ?_) #[true, true, true, true, true, false, true, true, true, false, false, false] rfl rfl (by kernel_rfl) (fun _ _ _ h => h) (Or.inl ⟨by rfl, ?_⟩) ?_ ?_
  rotate_left
  · intro w'
    go_simp
    with_reducible rfl
  rotate_left
  · simp only [Act.put, List.setIfInBounds_toArray, List.set_cons_zero, List.set_cons_succ, i64_w, i32_w]
    rfl
  refine take_ (i := 5) (N := some 28) (v := ?_) (a' := ?_) #[true, true, true, true, true, true, true, true, true, false, false, false] rfl rfl (by kernel_rfl) (fun _ _ _ h => h) (Or.inl ⟨by rfl, ?_⟩) hHeld ?_ ?_
  rotate_left
  · rintro w' ⟨s0, s1⟩
    go_simp
    with_reducible rfl
  rotate_left
  · simp only [Act.put, List.setIfInBounds_toArray, List.set_cons_zero, List.set_cons_succ, i64_w, i32_w]
    rfl
  refine take_ (i := 9) (N := some 32) (v := ?_) (a' := ?_) #[true, true, true, true, true, true, true, true, true, true, false, false] rfl rfl (by kernel_rfl) (fun _ _ _ h => h) (Or.inl ⟨by rfl, ?_⟩) hHeld ?_ ?_
  rotate_left
  · rintro w' ⟨s0, s1⟩
    go_simp
    with_reducible rfl
  rotate_left
  · simp only [Act.put, List.setIfInBounds_toArray, List.set_cons_zero, List.set_cons_succ, i64_w, i32_w]
    rfl
  refine pure_ (i := 10) (N := some 33) (v := ?_) (a' := ?_) #[true, true, true, true, true, true, true, true, true, true, true, false] rfl rfl (by kernel_rfl) (fun _ _ _ h => h) (Or.inl ⟨by rfl, ?_⟩) ?_ ?_
  rotate_left
  · intro w'
    go_simp
    with_reducible rfl
  rotate_left
  · simp only [Act.put, List.setIfInBounds_toArray, List.set_cons_zero, List.set_cons_succ, i64_w, i32_w]
    rfl
  refine pure_ (i := 11) (N := some 34) (v := ?_) (a' := ?_) #[true, true, true, true, true, true, true, true, true, true, true, true] rfl rfl (by kernel_rfl) (fun _ _ _ h => h) (Or.inl ⟨by rfl, ?_⟩) ?_ ?_
  rotate_left
  · intro w'
    go_simp
    with_reducible rfl
  rotate_left
  · simp only [Act.put, List.setIfInBounds_toArray, List.set_cons_zero, List.set_cons_succ, i64_w, i32_w]
    rfl
  refine done_ (by kernel_rfl) ?_
  go_wp2_with fail
  have HHd := Aside0.mk (HH3.out.below (below_drew1 (Below.refl _ w2)))
  have HBx := Aside0.mk (below_drew1 HB3.out)
  have HKT2 := Aside0.mk (KT.of_below HBx.out)
  obtain ⟨vx, hgx⟩ := HHd.out.cells_
  refine (HRM.out w2.drew HHd.out (Nat.le_trans HLO.out HBx.out.size)).mono ?_
  rintro e w3 ⟨rfl, hh, hb, hk⟩
  have HR3 : Aside0 (w3.heap[w.heap.size]? = some (.cells Z 28 (0, 0))) := ⟨(hk.2 _ (blk_lt HN3.out) (by have := HH.out.lt; omega) (by simp)).trans HN3.out⟩
  have HV3 : Aside0 (w3.heap[w1.heap.size]? = some (.cells C 28 (0, 0))) := ⟨(hk.2 _ (blk_lt HG3.out) (by have := HH.out.lt; have := HLT.out; omega) (by simp)).trans HG3.out⟩
  have HBw := Aside0.mk (Below.trans (HBx.out.mono HLO.out) hb)
  have HH4 := Aside0.mk hh
  have HKT3 := Aside0.mk (HKT2.out.but hk hgx)
  have hsz3 : w2.heap.size ≤ w3.heap.size := hk.1
  clear hgx hh hb hk HN3 HG3 HB3 HBx HHd HH3 hc1 hc2 hw tf
  obtain ⟨gb, cb, A, c, hg, hcb, hx0, hxf, hcl, hr, h1, h2, hne⟩ := HH4.out.parts
  have hc0 := blk_cell hg 0
  simp only [List.getElem?_toArray, List.getElem?_cons_zero, List.getElem?_cons_succ] at hc0
  clear hg hcb hxf hcl hr h1 h2 hne
  go_wp2_with fail
  clear hc0 hx0
  refine (HMk2.out _).mono ?_
  rintro e w4 ⟨rfl, hb⟩
  have HH5 := Aside0.mk (HH4.out.below hb)
  have HR4 := Aside0.mk ((hb.block _ (blk_lt HR3.out)).trans HR3.out)
  have HV4 := Aside0.mk ((hb.block _ (blk_lt HV3.out)).trans HV3.out)
  have HBy := Aside0.mk (HBw.out.trans (hb.mono (Nat.le_trans HLO.out HBw.out.size)))
  have HRV := Aside0.mk (show w.heap.size < w1.heap.size from HLT.out)
  have HKT4 := Aside0.mk (HKT3.out.below hb)
  have HKTd : Aside0 (KT w ((w4.setRow w1.heap.size D).drew)) := ⟨HKT4.out.row (Nat.le_of_lt HRV.out) D⟩
  have HRd : Aside0 (((w4.setRow w1.heap.size D).drew).heap[w.heap.size]? = some (.cells Z 28 (0, 0))) := ⟨(heap_row (by have := HRV.out; omega)).trans HR4.out⟩
  have HVd : Aside0 (((w4.setRow w1.heap.size D).drew).heap[w1.heap.size]? = some (.cells D 28 (0, 0))) := ⟨setRow_heap _ _ _ D _ _ HV4.out⟩
  have HBd : Aside0 (Below lo w ((w4.setRow w1.heap.size D).drew)) := ⟨below_drew1 (below_row HBy.out (Nat.le_trans HLO.out (Nat.le_of_lt HRV.out)) D)⟩
  obtain ⟨gb, cb, A, c, hg, hcb, hx0, hxf, hcl, hr, h1, h2, hne⟩ := HH5.out.parts
  have HGE := Aside0.mk HH5.out.ge
  have HNE := Aside0.mk hne
  have hgv : g ≠ w1.heap.size := by have := HH.out.lt; have := HRV.out; omega
  have HGd : Aside0 (((w4.setRow w1.heap.size D).drew).heap[g]? = some (.cells #[.slice (some ⟨gb, 0, none⟩) 1 cb, .int .i64 (b.length : Int), .int .i64 m] 53 (0, 0))) := ⟨(heap_row hgv).trans hg⟩
  have h1v := ok_add (show (Kd.scalar encSl (fun _ => rfl)).R 36 w4 lo (fun k => k ≠ g) (.slice (some ⟨gb, 0, none⟩) 1 cb) [(A, b.length, c)] from h1) HV4.out (by decide)
  have h2v := ok_add (show (Kd.scalar (Value.int .u8) (fun _ => rfl)).R 5 w4 lo (fun k => k ≠ g ∧ k ≠ gb) (.slice A b.length c) b from h2) HV4.out (by decide)
  have HKd : Aside0 (KS.R 36 ((w4.setRow w1.heap.size D).drew) lo (fun k => k ≠ g ∧ k ≠ w1.heap.size) (.slice (some ⟨gb, 0, none⟩) 1 cb) [(A, b.length, c)]) := ⟨Kd.R_step h1v (fun k hk _ => heap_row hk.2)⟩
  have HXd : Aside0 (Kd.R (Kd.int .u8) 5 ((w4.setRow w1.heap.size D).drew) lo (fun k => (k ≠ g ∧ k ≠ gb) ∧ k ≠ w1.heap.size) (.slice A b.length c) b) := ⟨Kd.R_step h2v (fun k hk _ => heap_row hk.2)⟩
  have HXO := Aside0.mk (show World.ownsRow _ lo 5 1 (.slice A b.length c) b.length (nums .u8 b) from Kd.own_of_R HXd.out)
  have HGBd : Aside0 (∃ gc, ((w4.setRow w1.heap.size D).drew).heap[gb]? = some (.cells gc 36 (0, 0))) := ⟨by obtain ⟨g', c', e, _, _, cs, hcs⟩ := Kd.R_form HKd.out (by simp); injection e with e1 _ _; injection e1 with e1; injection e1 with e1 _ _; subst e1; exact ⟨cs, hcs⟩⟩
  have hx0 : ((w4.setRow w1.heap.size D).drew).cell? ⟨gb, 0, none⟩ = some (.slice A b.length c) := (Kd.R_cell (none, 0, 0) HKd.out 0 (by decide) (by simp)).1
  have hc0 : ((w4.setRow w1.heap.size D).drew).cell? ⟨g, 0, none⟩ = some (.slice (some ⟨gb, 0, none⟩) 1 cb) := blk_cell HGd.out 0
  have below_size' : ∀ {W : World}, Below lo w W → w.heap.size ≤ W.heap.size := fun h => h.size
  clear hg hcb hxf hcl hr h1 h2 hne h1v h2v hb HH4 HR3 HV3 HBw
  go_wp2_with (first | ((with_reducible refine gate_store (t := 28) (p := 6) rfl ?_); refine wpList_store_row rfl 28 _ _ rfl w1.heap.size D (by rfl) (by rfl) 28 C HV4.out (by rw [info16, HSD.out]) (HSC.out.trans HSD.out.symm) H1D.out ?_))
  refine start_ (n := 16) (S := fun w' => w'.cell? ⟨g, 0, none⟩ = some (.slice (some ⟨gb, 0, none⟩) 1 cb) ∧ w'.cell? ⟨gb, 0, none⟩ = some (.slice A b.length c)) (ds := [15]) #[false, false, false, false, false, false, false, false, false, false, false, false, false, false, false, false] (by kernel_rfl) rfl rfl ⟨hc0, hx0⟩ (fun hHeld => ?_)
  refine pure_ (i := 0) (N := some 59) (v := ?_) (a' := ?_) #[true, false, false, false, false, false, false, false, false, false, false, false, false, false, false, false] rfl rfl (by kernel_rfl) (fun _ _ _ h => h) (Or.inl ⟨by rfl, ?_⟩) ?_ ?_
  rotate_left
  · intro w'
    go_simp
    with_reducible rfl
  rotate_left
  · simp only [Act.put, List.setIfInBounds_toArray, List.set_cons_zero, List.set_cons_succ, i64_w, i32_w]
    rfl
  refine pure_ (i := 1) (N := some 60) (v := ?_) (a' := ?_) #[true, true, false, false, false, false, false, false, false, false, false, false, false, false, false, false] rfl rfl (by kernel_rfl) (fun _ _ _ h => h) (Or.inl ⟨by rfl, ?_⟩) ?_ ?_
  rotate_left
  · intro w'
    go_simp
    with_reducible rfl
  rotate_left
  · simp only [Act.put, List.setIfInBounds_toArray, List.set_cons_zero, List.set_cons_succ, i64_w, i32_w]
    rfl
  refine pure_ (i := 2) (N := some 61) (v := ?_) (a' := ?_) #[true, true, true, false, false, false, false, false, false, false, false, false, false, false, false, false] rfl rfl (by kernel_rfl) (fun _ _ _ h => h) (Or.inl ⟨by rfl, ?_⟩) ?_ ?_
  rotate_left
  · intro w'
    go_simp
    with_reducible rfl
  rotate_left
  · simp only [Act.put, List.setIfInBounds_toArray, List.set_cons_zero, List.set_cons_succ, i64_w, i32_w]
    rfl
  refine pure_ (i := 4) (N := some 63) (v := ?_) (a' := ?_) #[true, true, true, false, true, false, false, false, false, false, false, false, false, false, false, false] rfl rfl (by kernel_rfl) (fun _ _ _ h => h) (Or.inl ⟨by rfl, ?_⟩) ?_ ?_
  rotate_left
  · intro w'
    go_simp
    with_reducible rfl
  rotate_left
  · simp only [Act.put, List.setIfInBounds_toArray, List.set_cons_zero, List.set_cons_succ, i64_w, i32_w]
    rfl
  refine pure_ (i := 5) (N := some 64) (v := ?_) (a' := ?_) #[true, true, true, false, true, true, false, false, false, false, false, false, false, false, false, false] rfl rfl (by kernel_rfl) (fun _ _ _ h => h) (Or.inl ⟨by rfl, ?_⟩) ?_ ?_
  rotate_left
  · intro w'
    go_simp
    with_reducible rfl
  rotate_left
  · simp only [Act.put, List.setIfInBounds_toArray, List.set_cons_zero, List.set_cons_succ, i64_w, i32_w]
    rfl
  refine pure_ (i := 6) (N := some 65) (v := ?_) (a' := ?_) #[true, true, true, false, true, true, true, false, false, false, false, false, false, false, false, false] rfl rfl (by kernel_rfl) (fun _ _ _ h => h) (Or.inl ⟨by rfl, ?_⟩) ?_ ?_
  rotate_left
  · intro w'
    go_simp
    with_reducible rfl
  rotate_left
  · simp only [Act.put, List.setIfInBounds_toArray, List.set_cons_zero, List.set_cons_succ, i64_w, i32_w]
    rfl
  refine pure_ (i := 7) (N := some 66) (v := ?_) (a' := ?_) #[true, true, true, false, true, true, true, true, false, false, false, false, false, false, false, false] rfl rfl (by kernel_rfl) (fun _ _ _ h => h) (Or.inl ⟨by rfl, ?_⟩) ?_ ?_
  rotate_left
  · intro w'
    go_simp
    with_reducible rfl
  rotate_left
  · simp only [Act.put, List.setIfInBounds_toArray, List.set_cons_zero, List.set_cons_succ, i64_w, i32_w]
    rfl
  refine pure_ (i := 9) (N := some 68) (v := ?_) (a' := ?_) #[true, true, true, false, true, true, true, true, false, true, false, false, false, false, false, false] rfl rfl (by kernel_rfl) (fun _ _ _ h => h) (Or.inl ⟨by rfl, ?_⟩) ?_ ?_
  rotate_left
  · intro w'
    go_simp
    with_reducible rfl
  rotate_left
  · simp only [Act.put, List.setIfInBounds_toArray, List.set_cons_zero, List.set_cons_succ, i64_w, i32_w]
    rfl
  refine pure_ (i := 12) (N := some 71) (v := ?_) (a' := ?_) #[true, true, true, false, true, true, true, true, false, true, false, false, true, false, false, false] rfl rfl (by kernel_rfl) (fun _ _ _ h => h) (Or.inl ⟨by rfl, ?_⟩) ?_ ?_
  rotate_left
  · intro w'
    go_simp
    with_reducible rfl
  rotate_left
  · simp only [Act.put, List.setIfInBounds_toArray, List.set_cons_zero, List.set_cons_succ, i64_w, i32_w]
    rfl
  refine take_ (i := 3) (N := some 62) (v := ?_) (a' := ?_) #[true, true, true, true, true, true, true, true, false, true, false, false, true, false, false, false] rfl rfl (by kernel_rfl) (fun _ _ _ h => h) (Or.inl ⟨by rfl, ?_⟩) hHeld ?_ ?_
  rotate_left
  · rintro w' ⟨s0, s1⟩
    go_simp
    with_reducible rfl
  rotate_left
  · simp only [Act.put, List.setIfInBounds_toArray, List.set_cons_zero, List.set_cons_succ, i64_w, i32_w]
    rfl
  refine take_ (i := 8) (N := some 67) (v := ?_) (a' := ?_) #[true, true, true, true, true, true, true, true, true, true, false, false, true, false, false, false] rfl rfl (by kernel_rfl) (fun _ _ _ h => h) (Or.inl ⟨by rfl, ?_⟩) hHeld ?_ ?_
  rotate_left
  · rintro w' ⟨s0, s1⟩
    go_simp
    with_reducible rfl
  rotate_left
  · simp only [Act.put, List.setIfInBounds_toArray, List.set_cons_zero, List.set_cons_succ, i64_w, i32_w]
    rfl
  refine pure_ (i := 10) (N := some 69) (v := ?_) (a' := ?_) #[true, true, true, true, true, true, true, true, true, true, true, false, true, false, false, false] rfl rfl (by kernel_rfl) (fun _ _ _ h => h) (Or.inl ⟨by rfl, ?_⟩) ?_ ?_
  rotate_left
  · intro w'
    go_simp
    with_reducible rfl
  rotate_left
  · simp only [Act.put, List.setIfInBounds_toArray, List.set_cons_zero, List.set_cons_succ, i64_w, i32_w]
    rfl
  refine take_ (i := 11) (N := some 70) (v := ?_) (a' := ?_) #[true, true, true, true, true, true, true, true, true, true, true, true, true, false, false, false] rfl rfl (by kernel_rfl) (fun _ _ _ h => h) (Or.inl ⟨by rfl, ?_⟩) hHeld ?_ ?_
  rotate_left
  · rintro w' ⟨s0, s1⟩
    go_simp
    with_reducible rfl
  rotate_left
  · simp only [Act.put, List.setIfInBounds_toArray, List.set_cons_zero, List.set_cons_succ, i64_w, i32_w]
    rfl
  refine one_ (i := 13) (N := some 72) #[true, true, true, true, true, true, true, true, true, true, true, true, true, true, false, false] rfl rfl (by kernel_rfl) (by decide) (fun K hK => ?_)
  refine append_str_step (w0 := w) lo (by rfl) (.tmp 70) (.tmp 71) 36 9 5 (by rfl) Try.underlying36 Try.underlying9 info8 (.slice A b.length c) b s rfl rfl ?aO ?aB ?aS ?aL ?_
  case aO => exact HXO.out
  case aB => exact HBd.out
  case aS => exact (Nat.le_trans HLO.out (below_size' HBd.out))
  case aL => have := HNN.out; omega
  intro v5 w5 ho5 hb5 hg5
  have HKT5 := Aside0.mk (KT.grown HKTd.out hg5 HXd.out)
  have HO5 := Aside0.mk ho5
  have HB5 := Aside0.mk hb5
  have HR5 : Aside0 (w5.heap[w.heap.size]? = some (.cells Z 28 (0, 0))) := ⟨blk_grown HRd.out hg5 (Kd.R_ne HXd.out HRd.out (by decide))⟩
  have HV5 : Aside0 (w5.heap[w1.heap.size]? = some (.cells D 28 (0, 0))) := ⟨blk_grown HVd.out hg5 (Kd.R_ne HXd.out HVd.out (by decide))⟩
  have HG5 := Aside0.mk (blk_grown HGd.out hg5 (Kd.R_ne HXd.out HGd.out (by decide)))
  obtain ⟨gc, hgc⟩ := HGBd.out
  have HB5c := Aside0.mk (blk_grown hgc hg5 (Kd.R_ne HXd.out hgc (by decide)))
  have HK5 := Aside0.mk (KS_keep HKd.out hg5 (Kd.R_ne HXd.out hgc (by decide)))
  have hcb5 := Kd.R_cell (none, 0, 0) HK5.out 0 (by decide) (by simp)
  obtain ⟨g5, c5, rfl, hgl5, hgm5⟩ := ho5.form (by have := HSL.out; rw [List.length_append, bytesOf_length]; omega)
  have hx5 : w5.cell? ⟨gb, 0, none⟩ = some (.slice A b.length c) := hcb5.1
  have hf5 : w5.frozen? ⟨gb, 0, none⟩ = false := hcb5.2
  clear ho5 hb5 hg5 hcb5
  refine hK.out _ _ ⟨(blk_cell HG5.out 0), hx5⟩ (fun hHeld => ?_)
  clear hK K
  refine norm_ (a' := ?_) ?_ ?_
  rotate_left
  · show Act.put _ (some 72) _ = _
    simp only [Act.put, List.setIfInBounds_toArray, List.set_cons_zero, List.set_cons_succ, i64_w, i32_w]
    rfl
  refine pure_ (i := 14) (N := some 73) (v := ?_) (a' := ?_) #[true, true, true, true, true, true, true, true, true, true, true, true, true, true, true, false] rfl rfl (by kernel_rfl) (fun _ _ _ h => h) (Or.inl ⟨by rfl, ?_⟩) ?_ ?_
  rotate_left
  · intro w'
    go_simp
    with_reducible rfl
  rotate_left
  · simp only [Act.put, List.setIfInBounds_toArray, List.set_cons_zero, List.set_cons_succ, i64_w, i32_w]
    rfl
  refine last_ (i := 15) (N := none) #[true, true, true, true, true, true, true, true, true, true, true, true, true, true, true, true] rfl rfl (by kernel_rfl) (by decide) (fun K hK => ?_)
  refine skip_ (w1 := ?_) (by rfl) rfl ?_ ?_
  rotate_left
  · go_simp
    rfl
  refine hK.out _ _ ?_
  clear hK K
  refine done_ (by kernel_rfl) ?_
  obtain ⟨L, hL⟩ : ∃ L, L = b ++ bytesOf s := ⟨_, rfl⟩
  have hLL : b.length + (bytesOf s).length = L.length := by rw [hL, List.length_append]
  rw [← hL] at HO5 ⊢
  rw [hLL]
  have HLE := Aside0.mk hL
  have hr5 : Kd.R (Kd.int .u8) 5 w5 lo (fun k => ((True ∧ k ≠ g) ∧ k ≠ gb) ∧ k ≠ w.heap.size) (.slice (some ⟨g5, 0, none⟩) L.length c5) L := ok_add (ok_add (ok_add (Kd.R_of_own (ok := fun _ => True) HO5.out (fun _ _ => trivial)) HG5.out (by decide)) HB5c.out (by decide)) HR5.out (by decide)
  have hk5r := ok_add (show (Kd.scalar encSl (fun _ => rfl)).R 36 w5 lo _ (.slice (some ⟨gb, 0, none⟩) 1 cb) [(A, b.length, c)] from HK5.out) HR5.out (by decide)
  have HBR := Aside0.mk (show gb ≠ w.heap.size from hk5r.1 gb rfl |>.2)
  have hk6 := (Kd.R_put hk5r 0 (some ⟨g5, 0, none⟩, L.length, c5)).1
  have HK6 : Aside0 ((Kd.scalar encSl (fun _ => rfl)).R 36 (w5.setCell ⟨gb, 0, none⟩ (.slice (some ⟨g5, 0, none⟩) L.length c5)) lo (fun k => (k ≠ g ∧ k ≠ w1.heap.size) ∧ k ≠ w.heap.size) (.slice (some ⟨gb, 0, none⟩) 1 cb) [(some ⟨g5, 0, none⟩, L.length, c5)]) := ⟨hk6⟩
  have HX6 : Aside0 (Kd.R (Kd.int .u8) 5 (w5.setCell ⟨gb, 0, none⟩ (.slice (some ⟨g5, 0, none⟩) L.length c5)) lo (fun k => ((True ∧ k ≠ g) ∧ k ≠ gb) ∧ k ≠ w.heap.size) (.slice (some ⟨g5, 0, none⟩) L.length c5) L) := ⟨Kd.R_step hr5 (fun k hk _ => Below.heap_setCell _ _ _ _ hk.1.2)⟩
  have HG6 : Aside0 ((w5.setCell ⟨gb, 0, none⟩ (.slice (some ⟨g5, 0, none⟩) L.length c5)).heap[g]? = some (.cells #[.slice (some ⟨gb, 0, none⟩) 1 cb, .int .i64 (b.length : Int), .int .i64 m] 53 (0, 0))) := ⟨(Below.heap_setCell _ _ _ _ (fun e => HNE.out e.symm)).trans HG5.out⟩
  have HV6 : Aside0 ((w5.setCell ⟨gb, 0, none⟩ (.slice (some ⟨g5, 0, none⟩) L.length c5)).heap[w1.heap.size]? = some (.cells D 28 (0, 0))) := ⟨(Below.heap_setCell _ _ _ _ (fun e => (hk5r.1 gb rfl).1.2 e.symm)).trans HV5.out⟩
  have HR6 : Aside0 ((w5.setCell ⟨gb, 0, none⟩ (.slice (some ⟨g5, 0, none⟩) L.length c5)).heap[w.heap.size]? = some (.cells Z 28 (0, 0))) := ⟨(Below.heap_setCell _ _ _ _ (fun e => HBR.out e.symm)).trans HR5.out⟩
  have HB6 : Aside0 (Below lo w (w5.setCell ⟨gb, 0, none⟩ (.slice (some ⟨g5, 0, none⟩) L.length c5))) := ⟨Below.setCell HB5.out (by obtain ⟨g', c', e, h0, _⟩ := Kd.R_form HK5.out (by simp); injection e with e1 _ _; injection e1 with e1; injection e1 with e1 _ _; subst e1; exact h0) _⟩
  have HKT6 : Aside0 (KT w (w5.setCell ⟨gb, 0, none⟩ (.slice (some ⟨g5, 0, none⟩) L.length c5))) := ⟨KT.set HKT5.out HB5c.out (.inr rfl)⟩
  obtain ⟨W6, hW6⟩ : ∃ W, W = w5.setCell ⟨gb, 0, none⟩ (.slice (some ⟨g5, 0, none⟩) L.length c5) := ⟨_, rfl⟩
  rw [← hW6] at HK6 HX6 HG6 HV6 HR6 HB6 HKT6 ⊢
  obtain ⟨y, hy⟩ : ∃ y : Nat, y = L.length := ⟨_, rfl⟩
  have hys : (b.length : Int) + (s.size : Int) = (y : Int) := by rw [hy, hL, List.length_append, bytesOf_length]; omega
  have hwy : wrap64 ((b.length : Int) + (s.size : Int)) = (y : Int) := by rw [hys]; unfold wrap64; have := HNN.out; omega
  have hc1 := blk_cell HG6.out 1
  have hf1 := blk_frozen HG6.out 1
  simp only [List.getElem?_toArray, List.getElem?_cons_zero, List.getElem?_cons_succ] at hc1
  have HG7 : Aside0 ((W6.setCell ⟨g, 1, none⟩ (.int .i64 (y : Int))).heap[g]? = some (.cells #[.slice (some ⟨gb, 0, none⟩) 1 cb, .int .i64 (y : Int), .int .i64 m] 53 (0, 0))) := ⟨blk_put HG6.out 1 _ rfl⟩
  have HV7 : Aside0 ((W6.setCell ⟨g, 1, none⟩ (.int .i64 (y : Int))).heap[w1.heap.size]? = some (.cells D 28 (0, 0))) := ⟨(Below.heap_setCell _ _ _ _ (fun e => hgv e.symm)).trans HV6.out⟩
  have hgr : g ≠ w.heap.size := by have := HH.out.lt; omega
  have HR7 : Aside0 ((W6.setCell ⟨g, 1, none⟩ (.int .i64 (y : Int))).heap[w.heap.size]? = some (.cells Z 28 (0, 0))) := ⟨(Below.heap_setCell _ _ _ _ (fun e => hgr e.symm)).trans HR6.out⟩
  have HK7 := Aside0.mk (Kd.R_step (w1 := W6.setCell ⟨g, 1, none⟩ (.int .i64 (y : Int))) HK6.out (fun k hk _ => Below.heap_setCell _ _ _ _ hk.1.1))
  have HX7 := Aside0.mk (Kd.R_step (w1 := W6.setCell ⟨g, 1, none⟩ (.int .i64 (y : Int))) HX6.out (fun k hk _ => Below.heap_setCell _ _ _ _ hk.1.1.2))
  have HB7 : Aside0 (Below lo w (W6.setCell ⟨g, 1, none⟩ (.int .i64 (y : Int)))) := ⟨Below.setCell HB6.out HGE.out _⟩
  have HKT7 : Aside0 (KT w (W6.setCell ⟨g, 1, none⟩ (.int .i64 (y : Int)))) := ⟨KT.set HKT6.out HG6.out (.inl rfl)⟩
  have HGR := Aside0.mk hgr
  have HYL := Aside0.mk hy
  clear hr5 hk5r hk6 hW6 hy hys hgr hx5 hf5 hgv hL hLL
  go_wp2_with (first | ((with_reducible refine gate_dst (N := 83) rfl ?_); refine wpList_load_row rfl 28 _ rfl w1.heap.size (by rfl) 28 D (0, 0) _ HV7.out Try.underlying28 rfl (by rw [info16, HSD.out]) ?_) | ((with_reducible refine gate_store (t := 28) (p := 4) rfl ?_); refine wpList_store_row rfl 28 _ _ rfl w.heap.size D (by rfl) (by rfl) 28 Z HR7.out (by rw [info16, HSD.out]) (HSZ.out.trans HSD.out.symm) H1D.out ?_))
  (try simp only [Exit.inBlock, Exit.then])
  refine bodyPost_ret (results_ct (p := 4) (u := 5) rfl _ _ w.heap.size 28 D (0, 0) _ ?hp (setRow_heap _ _ _ _ _ _ HR7.out) Try.underlying28 rfl (by rw [info16, HSD.out])) ?hd ?_
  case hp => rfl
  case hd => rfl
  rw [← HLE.out]
  refine ⟨rfl, ⟨HGE.out, gb, cb, (some ⟨g5, 0, none⟩, L.length, c5), ?_, ?_, ?_⟩, below_row HB7.out HLO.out _, HKT7.out.row (Nat.le_refl _) D⟩
  · rw [← HYL.out]; exact (heap_row HGR.out).trans HG7.out
  · exact Kd.R_mono (Kd.R_step HK7.out (fun k hk _ => heap_row hk.2)) (fun k hk => hk.1.1)
  · exact Kd.R_mono (Kd.R_step HX7.out (fun k hk _ => heap_row hk.2)) (fun k hk => ⟨hk.1.1.2, hk.1.2⟩)
end Go.Proofs.Ytpbplflocdhahaa.HW
