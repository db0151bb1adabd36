/- What an act takes: the law's step, walked. -/
import Derived.Test.YtkdncanoajbdgaaHActP
set_option linter.unusedVariables false
set_option linter.unusedSimpArgs false
namespace Go.Proofs.Ytkdncanoajbdgaa.HW
open Go.RowKit Go.Proofs.Ytkdncanoajbdgaa.P Go.Proofs.Ytkdncanoajbdgaa.HP Go.Proofs.YtkdncanoajbdgaaW.PrintWords Go.Proofs.YtkdncanoajbdgaaW.PrintLast Go.Proofs.YtkdncanoajbdgaaW.PrintMore
attribute [local go_sem] max2_int min2_int max_two min_two max_three min_three max_four min_four
theorem infoU8 : (Try.prog.info? 5).map (fun i => (i.zero, i.size, i.bytes)) = some (some (.int .u8 0), 1, 1) := by kernel_rfl
theorem results_tmp4 {fn : Func} {t u v x : Tmp} (h : fn.results = #[.tmp t, .tmp u, .tmp v, .tmp x]) (tmps : Array Value) (P : Program) (w : World) :
    (results fn tmps).run P w = .ok (.tuple #[tmps.getD t undef, tmps.getD u undef, tmps.getD v undef, tmps.getD x undef]) w := by
  simp [results, h]
theorem ww (x : Int) (h0 : 0 ≤ x) (h : x < 1000000000000) : wrap64 x = x := by unfold wrap64; omega
theorem wfacts (L a s m : Nat) (hs : a + s ≤ L) (hl : L ≤ 2000) (hg : ¬ (L : Int) - (a : Int) - (s : Int) < (m : Int)) : wrap64 ((a : Int) + (s : Int)) = ((a + s : Nat) : Int) ∧ wrap64 (((a + s : Nat) : Int) + (m : Int)) = ((a + s : Nat) : Int) + (m : Int) ∧ wrap64 ((s : Int) + (m : Int)) = ((s + m : Nat) : Int) ∧ a + s + m ≤ L := by
  have h1 : a + s + m ≤ L := by omega
  clear hg
  refine ⟨?_, ?_, ?_, h1⟩
  · rw [ww _ (by omega) (by omega)]; omega
  · exact ww _ (by omega) (by omega)
  · rw [ww _ (by omega) (by omega)]; omega
/-- A piece of a row. -/
theorem cut_seg (A : Option Addr) (c : Nat) (l : List Int) (hc : l.length ≤ c) (x y : Nat) (h : x + y ≤ l.length) : ∃ (A' : Option Addr) (c' : Nat), ((l.drop x).take y).length ≤ c' ∧
    (∀ W : World, (Instr.slice 24 (.slice A l.length c) (some (.int .i64 (x : Int))) (some (.int .i64 ((x : Int) + (y : Int)))) none).run Try.prog W = .ok (.slice A' ((l.drop x).take y).length c') W) ∧
    ∀ W : World, Kd.C (Kd.int .u8) W A l.length l → Kd.C (Kd.int .u8) W A' ((l.drop x).take y).length ((l.drop x).take y) := by
  obtain ⟨i0, hi0, _, hsz, _⟩ := info_parts infoU8
  have hcut := cut_mid (P := Try.prog) 24 5 .i64 .i64 Try.underlying24 hi0 1 hsz A l.length c (x : Int) ((x : Int) + (y : Int)) (by omega) (by omega) (by omega) hc
  have hlen : ((x : Int) + (y : Int)).toNat - (x : Int).toNat = ((l.drop x).take y).length := by simp; omega
  refine ⟨_, c - x, by simp; omega, fun W => ?_, fun W hC => Kd.C_take (m := y) (Kd.C_drop (m := x) (c := c) hC (by omega) hc) (by simp; omega)⟩
  rw [hcut W, hlen, Int.toNat_natCast]
  rfl
/-- What the cursor answers to an act. -/
def StepR (l : List Int) (a : Nat) (d N n : Int) (bs : List Int) (s : Nat) (er : Int) : Prop :=
  a + s ≤ l.length ∧ (0 ≤ er ∧ er ≤ 8) ∧ (d = 0 → cursor_Cursor_Byte.f l (a : Int) 0 = some (n, ((a + s : Nat) : Int), er)) ∧ (d = 1 → cursor_Cursor_Bytes.f l (a : Int) 0 N = some (bs, ((a + s : Nat) : Int), er)) ∧
  (d = 2 → cursor_Cursor_Number.f l (a : Int) 0 = some (n, ((a + s : Nat) : Int), er)) ∧ (d = 3 → cursor_Cursor_Most.f l (a : Int) 0 N = some (n, ((a + s : Nat) : Int), er)) ∧
  (d = 4 → cursor_Cursor_Text.f l (a : Int) 0 = some (strOfNums bs, ((a + s : Nat) : Int), er)) ∧ (d = 5 → s = 0 ∧ er = N)
def StepP (A : Option Addr) (l : List Int) (a : Nat) (d N : Int) (w : World) (e : Ending) (w' : World) : Prop :=
  ∃ (n : Int) (bs : List Int) (s : Nat) (er : Int) (A' : Option Addr) (c' : Nat), e = .returned (.tuple #[.int .i64 n, .slice A' bs.length c', .int .i64 (s : Int), .int .i64 er]) ∧ StepR l a d N n bs s er ∧ bs.length ≤ c' ∧ (∀ W : World, Kd.C (Kd.int .u8) W A l.length l → Kd.C (Kd.int .u8) W A' bs.length bs) ∧ Below w.heap.size w w'
set_option maxHeartbeats 8000000 in
set_option maxRecDepth 100000 in
theorem step_0a (A : Option Addr) (c : Nat) (l : List Int) (a : Nat) (N : Int) (w : World) (hr : Kd.C (Kd.int .u8) w A l.length l) (hc : l.length ≤ c) (hb : isBy l) (hl : l.length ≤ 2000) (ha : a ≤ l.length) (hN : -9223372036854775808 ≤ N ∧ N < 9223372036854775808) (h : a = l.length) :
    Calls Try.prog 24 #[.slice A l.length c, .int .i64 (a : Int), .agg #[.int .i64 0, .int .i64 N]] w (StepP A l a 0 N w) := by
  have hwl : wrap64 ((l.length : Int) - (a : Int)) = (l.length : Int) - (a : Int) := by unfold wrap64; omega
  have HG := Aside0.mk (blk_new w (.cells #[.int .i64 0, .int .i64 N] 38))
  have HB := Aside0.mk (below_alloc (Below.refl w.heap.size w) (.cells #[.int .i64 0, .int .i64 N] 38))
  have HR := Aside0.mk hr
  have HC := Aside0.mk hc
  have HL := Aside0.mk (show l.length ≤ 2000 ∧ a ≤ l.length from ⟨hl, ha⟩)
  have HY := Aside0.mk hb
  have hq0 := blk_cell HG.out 0
  have hq1 := blk_cell HG.out 1
  simp only [List.getElem?_toArray, List.getElem?_cons_zero, List.getElem?_cons_succ] at hq0 hq1
  clear hr hb
  have t1 : decide ((l.length : Int) - (a : Int) < 1) = true := decide_eq_true (by omega)
  have hR : StepR l a 0 N 0 [] 0 2 := ⟨by omega, by omega, fun _ => by unfold cursor_Cursor_Byte.f cursor_Cursor_Bytes.f; rw [if_pos rfl, if_neg (by omega), if_pos (by omega), if_pos (by omega)]; rfl, fun h => absurd h (by decide), fun h => absurd h (by decide), fun h => absurd h (by decide), fun h => absurd h (by decide), fun h => absurd h (by decide)⟩
  clear hl ha hc hN h
  go_enter Try.func24, Try.ntmps24
  go_wp2_with fail
  ((try simp only [Exit.inBlock, Exit.then]); refine bodyPost_ret (results_tmp4 rfl _ _ _) rfl ?_)
  exact ⟨0, [], 0, 2, none, 0, rfl, hR, by simp, fun W _ => Kd.C_nil _ W, by repeat (first | exact HB.out | apply below_alloc | apply pw_below_drewN | apply below_drew1)⟩
set_option maxHeartbeats 8000000 in
set_option maxRecDepth 100000 in
theorem step_0b (A : Option Addr) (c : Nat) (l : List Int) (a : Nat) (N : Int) (w : World) (hr : Kd.C (Kd.int .u8) w A l.length l) (hc : l.length ≤ c) (hb : isBy l) (hl : l.length ≤ 2000) (ha : a ≤ l.length) (hN : -9223372036854775808 ≤ N ∧ N < 9223372036854775808) (h : a < l.length) :
    Calls Try.prog 24 #[.slice A l.length c, .int .i64 (a : Int), .agg #[.int .i64 0, .int .i64 N]] w (StepP A l a 0 N w) := by
  have hwl : wrap64 ((l.length : Int) - (a : Int)) = (l.length : Int) - (a : Int) := by unfold wrap64; omega
  have HG := Aside0.mk (blk_new w (.cells #[.int .i64 0, .int .i64 N] 38))
  have HB := Aside0.mk (below_alloc (Below.refl w.heap.size w) (.cells #[.int .i64 0, .int .i64 N] 38))
  have HR := Aside0.mk hr
  have HC := Aside0.mk hc
  have HL := Aside0.mk (show l.length ≤ 2000 ∧ a ≤ l.length from ⟨hl, ha⟩)
  have HY := Aside0.mk hb
  have hq0 := blk_cell HG.out 0
  have hq1 := blk_cell HG.out 1
  simp only [List.getElem?_toArray, List.getElem?_cons_zero, List.getElem?_cons_succ] at hq0 hq1
  clear hr hb
  have t1 : decide ((l.length : Int) - (a : Int) < 1) = false := decide_eq_false (by omega)
  have p3 : (0 : Int) ≤ (a : Int) := by omega
  have q3 : (a : Int) < (l.length : Int) := by omega
  obtain ⟨ad, he, hx⟩ := Kd.at_int (Kd.C_alloc HR.out (.cells #[.int .i64 0, .int .i64 N] 38)) (a : Int) p3 q3
  subst he
  rw [rd_nat l a h, Int.toNat_natCast] at hx
  have hbx := HY.out l[a] (List.getElem_mem h)
  have hR : StepR l a 0 N l[a] [] 1 0 := ⟨by omega, by omega, fun _ => by unfold cursor_Cursor_Byte.f; rw [show (1 : Int) = ((1 : Nat) : Int) from rfl, bytes_at l a 1 (by omega) (by omega), List.drop_eq_getElem_cons h]; simp only [Option.bind_some, List.take_succ_cons, List.take_zero, List.length_cons, List.length_nil]; have e : wrap64 (rd [l[a]] 0) = l[a] := (by simp only [rd, Int.toNat_zero, List.getD_cons_zero]; unfold wrap64; omega); rw [e]; rfl, fun h => absurd h (by decide), fun h => absurd h (by decide), fun h => absurd h (by decide), fun h => absurd h (by decide), fun h => absurd h (by decide)⟩
  have hwx : wrap64 l[a] = l[a] := by unfold wrap64; omega
  generalize l[a] = x at hx hR hwx
  replace p3 := eq_true p3
  replace q3 := eq_true q3
  clear hl ha hc hN h hbx
  go_enter Try.func24, Try.ntmps24
  go_wp2_with fail
  ((try simp only [Exit.inBlock, Exit.then]); refine bodyPost_ret (results_tmp4 rfl _ _ _) rfl ?_)
  exact ⟨wrap64 x, [], 1, 0, none, 0, rfl, by rw [hwx]; exact hR, by simp, fun W _ => Kd.C_nil _ W, by repeat (first | exact HB.out | apply below_alloc | apply pw_below_drewN | apply below_drew1)⟩
set_option maxHeartbeats 8000000 in
set_option maxRecDepth 100000 in
theorem step_1a (A : Option Addr) (c : Nat) (l : List Int) (a : Nat) (N : Int) (w : World) (hr : Kd.C (Kd.int .u8) w A l.length l) (hc : l.length ≤ c) (hb : isBy l) (hl : l.length ≤ 2000) (ha : a ≤ l.length) (hN : -9223372036854775808 ≤ N ∧ N < 9223372036854775808) (h : N < 0) :
    Calls Try.prog 24 #[.slice A l.length c, .int .i64 (a : Int), .agg #[.int .i64 1, .int .i64 N]] w (StepP A l a 1 N w) := by
  have hwl : wrap64 ((l.length : Int) - (a : Int)) = (l.length : Int) - (a : Int) := by unfold wrap64; omega
  have HG := Aside0.mk (blk_new w (.cells #[.int .i64 1, .int .i64 N] 38))
  have HB := Aside0.mk (below_alloc (Below.refl w.heap.size w) (.cells #[.int .i64 1, .int .i64 N] 38))
  have HR := Aside0.mk hr
  have HC := Aside0.mk hc
  have HL := Aside0.mk (show l.length ≤ 2000 ∧ a ≤ l.length from ⟨hl, ha⟩)
  have HY := Aside0.mk hb
  have hq0 := blk_cell HG.out 0
  have hq1 := blk_cell HG.out 1
  simp only [List.getElem?_toArray, List.getElem?_cons_zero, List.getElem?_cons_succ] at hq0 hq1
  clear hr hb
  have t1 : decide (N < 0) = true := decide_eq_true (by omega)
  have hR : StepR l a 1 N 0 [] 0 3 := ⟨by omega, by omega, fun h => absurd h (by decide), fun _ => by unfold cursor_Cursor_Bytes.f; rw [if_pos rfl, if_pos h]; rfl, fun h => absurd h (by decide), fun h => absurd h (by decide), fun h => absurd h (by decide), fun h => absurd h (by decide)⟩
  clear hl ha hc hN h
  go_enter Try.func24, Try.ntmps24
  go_wp2_with fail
  ((try simp only [Exit.inBlock, Exit.then]); refine bodyPost_ret (results_tmp4 rfl _ _ _) rfl ?_)
  exact ⟨0, [], 0, 3, none, 0, rfl, hR, by simp, fun W _ => Kd.C_nil _ W, by repeat (first | exact HB.out | apply below_alloc | apply pw_below_drewN | apply below_drew1)⟩
set_option maxHeartbeats 8000000 in
set_option maxRecDepth 100000 in
theorem step_1b (A : Option Addr) (c : Nat) (l : List Int) (a : Nat) (N : Int) (w : World) (hr : Kd.C (Kd.int .u8) w A l.length l) (hc : l.length ≤ c) (hb : isBy l) (hl : l.length ≤ 2000) (ha : a ≤ l.length) (hN : -9223372036854775808 ≤ N ∧ N < 9223372036854775808) (h : 0 ≤ N) (h2 : (l.length : Int) - (a : Int) < N) :
    Calls Try.prog 24 #[.slice A l.length c, .int .i64 (a : Int), .agg #[.int .i64 1, .int .i64 N]] w (StepP A l a 1 N w) := by
  have hwl : wrap64 ((l.length : Int) - (a : Int)) = (l.length : Int) - (a : Int) := by unfold wrap64; omega
  have HG := Aside0.mk (blk_new w (.cells #[.int .i64 1, .int .i64 N] 38))
  have HB := Aside0.mk (below_alloc (Below.refl w.heap.size w) (.cells #[.int .i64 1, .int .i64 N] 38))
  have HR := Aside0.mk hr
  have HC := Aside0.mk hc
  have HL := Aside0.mk (show l.length ≤ 2000 ∧ a ≤ l.length from ⟨hl, ha⟩)
  have HY := Aside0.mk hb
  have hq0 := blk_cell HG.out 0
  have hq1 := blk_cell HG.out 1
  simp only [List.getElem?_toArray, List.getElem?_cons_zero, List.getElem?_cons_succ] at hq0 hq1
  clear hr hb
  have t1 : decide (N < 0) = false := decide_eq_false (by omega)
  have t2 : decide ((l.length : Int) - (a : Int) < N) = true := decide_eq_true (by omega)
  have hR : StepR l a 1 N 0 [] 0 2 := ⟨by omega, by omega, fun h => absurd h (by decide), fun _ => by unfold cursor_Cursor_Bytes.f; rw [if_pos rfl, if_neg (by omega), if_pos (by omega), if_pos (by omega)]; rfl, fun h => absurd h (by decide), fun h => absurd h (by decide), fun h => absurd h (by decide), fun h => absurd h (by decide)⟩
  clear hl ha hc hN h h2
  go_enter Try.func24, Try.ntmps24
  go_wp2_with fail
  ((try simp only [Exit.inBlock, Exit.then]); refine bodyPost_ret (results_tmp4 rfl _ _ _) rfl ?_)
  exact ⟨0, [], 0, 2, none, 0, rfl, hR, by simp, fun W _ => Kd.C_nil _ W, by repeat (first | exact HB.out | apply below_alloc | apply pw_below_drewN | apply below_drew1)⟩
set_option maxHeartbeats 8000000 in
set_option maxRecDepth 100000 in
theorem step_1c (A : Option Addr) (c : Nat) (l : List Int) (a : Nat) (N : Int) (w : World) (hr : Kd.C (Kd.int .u8) w A l.length l) (hc : l.length ≤ c) (hb : isBy l) (hl : l.length ≤ 2000) (ha : a ≤ l.length) (hN : -9223372036854775808 ≤ N ∧ N < 9223372036854775808) (m : Nat) (h : N = (m : Int)) (h2 : a + m ≤ l.length) :
    Calls Try.prog 24 #[.slice A l.length c, .int .i64 (a : Int), .agg #[.int .i64 1, .int .i64 N]] w (StepP A l a 1 N w) := by
  subst h
  have hwl : wrap64 ((l.length : Int) - (a : Int)) = (l.length : Int) - (a : Int) := by unfold wrap64; omega
  have HG := Aside0.mk (blk_new w (.cells #[.int .i64 1, .int .i64 (m : Int)] 38))
  have HB := Aside0.mk (below_alloc (Below.refl w.heap.size w) (.cells #[.int .i64 1, .int .i64 (m : Int)] 38))
  have HR := Aside0.mk hr
  have HC := Aside0.mk hc
  have HL := Aside0.mk (show l.length ≤ 2000 ∧ a ≤ l.length from ⟨hl, ha⟩)
  have HY := Aside0.mk hb
  have hq0 := blk_cell HG.out 0
  have hq1 := blk_cell HG.out 1
  simp only [List.getElem?_toArray, List.getElem?_cons_zero, List.getElem?_cons_succ] at hq0 hq1
  clear hr hb
  have t1 : decide ((m : Int) < 0) = false := decide_eq_false (by omega)
  have t2 : decide ((l.length : Int) - (a : Int) < (m : Int)) = false := decide_eq_false (by omega)
  have hR : StepR l a 1 (m : Int) 0 ((l.drop a).take m) m 0 := ⟨by omega, by omega, fun h => absurd h (by decide), fun _ => bytes_at l a m (by omega) h2, fun h => absurd h (by decide), fun h => absurd h (by decide), fun h => absurd h (by decide), fun h => absurd h (by decide)⟩
  have hwn : wrap64 ((a : Int) + (m : Int)) = (a : Int) + (m : Int) := by unfold wrap64; omega
  obtain ⟨A9, c9, hc9, hcut, hcs⟩ := cut_seg A c l hc a m h2
  have HCS := Aside0.mk hcs
  obtain ⟨bs, hbs⟩ : ∃ bs, bs = (l.drop a).take m := ⟨_, rfl⟩
  rw [← hbs] at hcut hR hc9 HCS
  clear hl ha hc hN h2 hcs hbs
  go_enter Try.func24, Try.ntmps24
  go_wp2_with fail
  refine start_ (n := 13) (S := fun w' => w'.cell? ⟨w.heap.size, 1, none⟩ = some (.int .i64 (m : Int))) (ds := []) #[false, false, false, false, false, false, false, false, false, false, false, false, false] (by kernel_rfl) rfl rfl (hq1) (fun hHeld => ?_)
  refine pure_ (i := 0) (N := some 39) (v := ?_) (a' := ?_) #[true, false, false, false, false, false, false, false, false, false, false, false, false] rfl rfl (by kernel_rfl) (fun _ _ _ h => h) (Or.inl ⟨by rfl, ?_⟩) ?_ ?_
  rotate_left
  · intro w'
    go_simp
    with_reducible rfl
  rotate_left
  · simp only [Act.put, List.setIfInBounds_toArray, List.set_cons_zero, List.set_cons_succ, i64_w, i32_w]
    rfl
  refine pure_ (i := 1) (N := some 40) (v := ?_) (a' := ?_) #[true, true, false, false, false, false, false, false, false, false, false, false, false] rfl rfl (by kernel_rfl) (fun _ _ _ h => h) (Or.inl ⟨by rfl, ?_⟩) ?_ ?_
  rotate_left
  · intro w'
    go_simp
    with_reducible rfl
  rotate_left
  · simp only [Act.put, List.setIfInBounds_toArray, List.set_cons_zero, List.set_cons_succ, i64_w, i32_w]
    rfl
  refine pure_ (i := 2) (N := some 41) (v := ?_) (a' := ?_) #[true, true, true, false, false, false, false, false, false, false, false, false, false] rfl rfl (by kernel_rfl) (fun _ _ _ h => h) (Or.inl ⟨by rfl, ?_⟩) ?_ ?_
  rotate_left
  · intro w'
    go_simp
    with_reducible rfl
  rotate_left
  · simp only [Act.put, List.setIfInBounds_toArray, List.set_cons_zero, List.set_cons_succ, i64_w, i32_w]
    rfl
  refine pure_ (i := 3) (N := some 42) (v := ?_) (a' := ?_) #[true, true, true, true, false, false, false, false, false, false, false, false, false] rfl rfl (by kernel_rfl) (fun _ _ _ h => h) (Or.inl ⟨by rfl, ?_⟩) ?_ ?_
  rotate_left
  · intro w'
    go_simp
    with_reducible rfl
  rotate_left
  · simp only [Act.put, List.setIfInBounds_toArray, List.set_cons_zero, List.set_cons_succ, i64_w, i32_w]
    rfl
  refine pure_ (i := 7) (N := some 46) (v := ?_) (a' := ?_) #[true, true, true, true, false, false, false, true, false, false, false, false, false] rfl rfl (by kernel_rfl) (fun _ _ _ h => h) (Or.inl ⟨by rfl, ?_⟩) ?_ ?_
  rotate_left
  · intro w'
    go_simp
    with_reducible rfl
  rotate_left
  · simp only [Act.put, List.setIfInBounds_toArray, List.set_cons_zero, List.set_cons_succ, i64_w, i32_w]
    rfl
  refine pure_ (i := 9) (N := some 6) (v := ?_) (a' := ?_) #[true, true, true, true, false, false, false, true, false, true, false, false, false] rfl rfl (by kernel_rfl) (fun _ _ _ h => h) (Or.inl ⟨by rfl, ?_⟩) ?_ ?_
  rotate_left
  · intro w'
    go_simp
    with_reducible rfl
  rotate_left
  · simp only [Act.put, List.setIfInBounds_toArray, List.set_cons_zero, List.set_cons_succ, i64_w, i32_w]
    rfl
  refine take_ (i := 4) (N := some 43) (v := ?_) (a' := ?_) #[true, true, true, true, true, false, false, true, false, true, false, false, false] rfl rfl (by kernel_rfl) (fun _ _ _ h => h) (Or.inl ⟨by rfl, ?_⟩) hHeld ?_ ?_
  rotate_left
  · intro w' s0
    go_simp
    with_reducible rfl
  rotate_left
  · simp only [Act.put, List.setIfInBounds_toArray, List.set_cons_zero, List.set_cons_succ, i64_w, i32_w]
    rfl
  refine pure_ (i := 5) (N := some 44) (v := ?_) (a' := ?_) #[true, true, true, true, true, true, false, true, false, true, false, false, false] rfl rfl (by kernel_rfl) (fun _ _ _ h => h) (Or.inl ⟨by rfl, ?_⟩) ?_ ?_
  rotate_left
  · intro w'
    go_simp
    with_reducible rfl
  rotate_left
  · simp only [Act.put, List.setIfInBounds_toArray, List.set_cons_zero, List.set_cons_succ, i64_w, i32_w]
    rfl
  refine pure_ (i := 6) (N := some 45) (v := ?_) (a' := ?_) #[true, true, true, true, true, true, true, true, false, true, false, false, false] rfl rfl (by kernel_rfl) (fun _ _ _ h => h) (Or.inl ⟨by rfl, ?_⟩) ?_ ?_
  rotate_left
  · intro w'
    go_simp
    with_reducible rfl
  rotate_left
  · simp only [Act.put, List.setIfInBounds_toArray, List.set_cons_zero, List.set_cons_succ, i64_w, i32_w]
    rfl
  refine pure_ (i := 10) (N := some 7) (v := ?_) (a' := ?_) #[true, true, true, true, true, true, true, true, false, true, true, false, false] rfl rfl (by kernel_rfl) (fun _ _ _ h => h) (Or.inl ⟨by rfl, ?_⟩) ?_ ?_
  rotate_left
  · intro w'
    go_simp
    with_reducible rfl
  rotate_left
  · simp only [Act.put, List.setIfInBounds_toArray, List.set_cons_zero, List.set_cons_succ, i64_w, i32_w]
    rfl
  refine take_ (i := 8) (N := some 47) (v := ?_) (a' := ?_) #[true, true, true, true, true, true, true, true, true, true, true, false, false] rfl rfl (by kernel_rfl) (fun _ _ _ h => h) (Or.inl ⟨by rfl, ?_⟩) hHeld ?_ ?_
  rotate_left
  · intro w' s0
    go_simp
    with_reducible rfl
  rotate_left
  · simp only [Act.put, List.setIfInBounds_toArray, List.set_cons_zero, List.set_cons_succ, i64_w, i32_w]
    rfl
  refine pure_ (i := 11) (N := some 8) (v := ?_) (a' := ?_) #[true, true, true, true, true, true, true, true, true, true, true, true, false] rfl rfl (by kernel_rfl) (fun _ _ _ h => h) (Or.inl ⟨by rfl, ?_⟩) ?_ ?_
  rotate_left
  · intro w'
    go_simp
    with_reducible rfl
  rotate_left
  · simp only [Act.put, List.setIfInBounds_toArray, List.set_cons_zero, List.set_cons_succ, i64_w, i32_w]
    rfl
  refine pure_ (i := 12) (N := some 9) (v := ?_) (a' := ?_) #[true, true, true, true, true, true, true, true, true, true, true, true, true] rfl rfl (by kernel_rfl) (fun _ _ _ h => h) (Or.inl ⟨by rfl, ?_⟩) ?_ ?_
  rotate_left
  · intro w'
    go_simp
    with_reducible rfl
  rotate_left
  · simp only [Act.put, List.setIfInBounds_toArray, List.set_cons_zero, List.set_cons_succ, i64_w, i32_w]
    rfl
  refine done_ (by kernel_rfl) ?_
  go_wp2
  ((try simp only [Exit.inBlock, Exit.then]); refine bodyPost_ret (results_tmp4 rfl _ _ _) rfl ?_)
  exact ⟨0, bs, m, 0, A9, c9, rfl, hR, hc9, HCS.out, (by repeat (first | exact HB.out | apply below_alloc | apply pw_below_drewN | apply below_drew1))⟩
set_option maxHeartbeats 8000000 in
set_option maxRecDepth 100000 in
theorem step_5 (A : Option Addr) (c : Nat) (l : List Int) (a : Nat) (N : Int) (w : World) (hr : Kd.C (Kd.int .u8) w A l.length l) (hc : l.length ≤ c) (hb : isBy l) (hl : l.length ≤ 2000) (ha : a ≤ l.length) (hN : -9223372036854775808 ≤ N ∧ N < 9223372036854775808) (h : 1 ≤ N ∧ N ≤ 8) :
    Calls Try.prog 24 #[.slice A l.length c, .int .i64 (a : Int), .agg #[.int .i64 5, .int .i64 N]] w (StepP A l a 5 N w) := by
  have hwl : wrap64 ((l.length : Int) - (a : Int)) = (l.length : Int) - (a : Int) := by unfold wrap64; omega
  have HG := Aside0.mk (blk_new w (.cells #[.int .i64 5, .int .i64 N] 38))
  have HB := Aside0.mk (below_alloc (Below.refl w.heap.size w) (.cells #[.int .i64 5, .int .i64 N] 38))
  have HR := Aside0.mk hr
  have HC := Aside0.mk hc
  have HL := Aside0.mk (show l.length ≤ 2000 ∧ a ≤ l.length from ⟨hl, ha⟩)
  have HY := Aside0.mk hb
  have hq0 := blk_cell HG.out 0
  have hq1 := blk_cell HG.out 1
  simp only [List.getElem?_toArray, List.getElem?_cons_zero, List.getElem?_cons_succ] at hq0 hq1
  clear hr hb
  have hR : StepR l a 5 N 0 [] 0 N := ⟨by omega, by omega, fun h => absurd h (by decide), fun h => absurd h (by decide), fun h => absurd h (by decide), fun h => absurd h (by decide), fun h => absurd h (by decide), fun _ => ⟨rfl, rfl⟩⟩
  clear hl ha hc hN h
  go_enter Try.func24, Try.ntmps24
  go_wp2_with fail
  refine start_ (n := 6) (S := fun w' => w'.cell? ⟨w.heap.size, 1, none⟩ = some (.int .i64 N)) (ds := []) #[false, false, false, false, false, false] (by kernel_rfl) rfl rfl (hq1) (fun hHeld => ?_)
  refine pure_ (i := 0) (N := some 51) (v := ?_) (a' := ?_) #[true, false, false, false, false, false] rfl rfl (by kernel_rfl) (fun _ _ _ h => h) (Or.inl ⟨by rfl, ?_⟩) ?_ ?_
  rotate_left
  · intro w'
    go_simp
    with_reducible rfl
  rotate_left
  · simp only [Act.put, List.setIfInBounds_toArray, List.set_cons_zero, List.set_cons_succ, i64_w, i32_w]
    rfl
  refine pure_ (i := 2) (N := some 6) (v := ?_) (a' := ?_) #[true, false, true, false, false, false] rfl rfl (by kernel_rfl) (fun _ _ _ h => h) (Or.inl ⟨by rfl, ?_⟩) ?_ ?_
  rotate_left
  · intro w'
    go_simp
    with_reducible rfl
  rotate_left
  · simp only [Act.put, List.setIfInBounds_toArray, List.set_cons_zero, List.set_cons_succ, i64_w, i32_w]
    rfl
  refine pure_ (i := 3) (N := some 7) (v := ?_) (a' := ?_) #[true, false, true, true, false, false] rfl rfl (by kernel_rfl) (fun _ _ _ h => h) (Or.inl ⟨by rfl, ?_⟩) ?_ ?_
  rotate_left
  · intro w'
    go_simp
    with_reducible rfl
  rotate_left
  · simp only [Act.put, List.setIfInBounds_toArray, List.set_cons_zero, List.set_cons_succ, i64_w, i32_w]
    rfl
  refine pure_ (i := 4) (N := some 8) (v := ?_) (a' := ?_) #[true, false, true, true, true, false] rfl rfl (by kernel_rfl) (fun _ _ _ h => h) (Or.inl ⟨by rfl, ?_⟩) ?_ ?_
  rotate_left
  · intro w'
    go_simp
    with_reducible rfl
  rotate_left
  · simp only [Act.put, List.setIfInBounds_toArray, List.set_cons_zero, List.set_cons_succ, i64_w, i32_w]
    rfl
  refine take_ (i := 1) (N := some 52) (v := ?_) (a' := ?_) #[true, true, true, true, true, false] rfl rfl (by kernel_rfl) (fun _ _ _ h => h) (Or.inl ⟨by rfl, ?_⟩) hHeld ?_ ?_
  rotate_left
  · intro w' s0
    go_simp
    with_reducible rfl
  rotate_left
  · simp only [Act.put, List.setIfInBounds_toArray, List.set_cons_zero, List.set_cons_succ, i64_w, i32_w]
    rfl
  refine pure_ (i := 5) (N := some 9) (v := ?_) (a' := ?_) #[true, true, true, true, true, true] rfl rfl (by kernel_rfl) (fun _ _ _ h => h) (Or.inl ⟨by rfl, ?_⟩) ?_ ?_
  rotate_left
  · intro w'
    go_simp
    with_reducible rfl
  rotate_left
  · simp only [Act.put, List.setIfInBounds_toArray, List.set_cons_zero, List.set_cons_succ, i64_w, i32_w]
    rfl
  refine done_ (by kernel_rfl) ?_
  go_wp2
  ((try simp only [Exit.inBlock, Exit.then]); refine bodyPost_ret (results_tmp4 rfl _ _ _) rfl ?_)
  exact ⟨0, [], 0, N, none, 0, rfl, hR, by simp, fun W _ => Kd.C_nil _ W, by repeat (first | exact HB.out | apply below_alloc | apply pw_below_drewN | apply below_drew1)⟩
set_option maxHeartbeats 8000000 in
set_option maxRecDepth 100000 in
theorem step_2 (A : Option Addr) (c : Nat) (l : List Int) (a : Nat) (N : Int) (w : World) (hr : Kd.C (Kd.int .u8) w A l.length l) (hc : l.length ≤ c) (hb : isBy l) (hl : l.length ≤ 2000) (ha : a ≤ l.length) (hN : -9223372036854775808 ≤ N ∧ N < 9223372036854775808)  :
    Calls Try.prog 24 #[.slice A l.length c, .int .i64 (a : Int), .agg #[.int .i64 2, .int .i64 N]] w (StepP A l a 2 N w) := by
  have hwl : wrap64 ((l.length : Int) - (a : Int)) = (l.length : Int) - (a : Int) := by unfold wrap64; omega
  have HG := Aside0.mk (blk_new w (.cells #[.int .i64 2, .int .i64 N] 38))
  have HB := Aside0.mk (below_alloc (Below.refl w.heap.size w) (.cells #[.int .i64 2, .int .i64 N] 38))
  have HR := Aside0.mk hr
  have HC := Aside0.mk hc
  have HL := Aside0.mk (show l.length ≤ 2000 ∧ a ≤ l.length from ⟨hl, ha⟩)
  have HY := Aside0.mk hb
  have hz0 := blk_cell HG.out 0
  have hz1 := blk_cell HG.out 1
  simp only [List.getElem?_toArray, List.getElem?_cons_zero, List.getElem?_cons_succ] at hz0 hz1
  clear hr hb
  obtain ⟨n, s, er, hev, hcn, hn0, hs, hne, her, hnm⟩ := num_both l a HY.out (by omega) ha
  obtain ⟨k, hk⟩ := hev.rounds
  have HK := Aside0.mk hk
  have hR : StepR l a 2 N n [] s er := ⟨hs, by omega, fun h => absurd h (by decide), fun h => absurd h (by decide), fun _ => hcn, fun h => absurd h (by decide), fun h => absurd h (by decide), fun h => absurd h (by decide)⟩
  clear hk
  by_cases h0 : er = 0
  · subst h0
    clear hl ha hc hN hs hne her hn0 hnm hcn hev
    go_enter Try.func24, Try.ntmps24
    go_wp2_with fail
    refine (hopperref01_Number.calls k A c l (a : Int) _ _ _ _ (Kd.C_alloc HR.out _) HC.out HK.out).mono ?_
    rintro e w1 ⟨rfl, hd⟩
    have HG1 := Aside0.mk ((hd.below.block _ (blk_lt HG.out)).trans HG.out)
    have HB1 := Aside0.mk (below_step HB.out hd.below)
    have hq0 := blk_cell HG1.out 0
    have hq1 := blk_cell HG1.out 1
    simp only [List.getElem?_toArray, List.getElem?_cons_zero, List.getElem?_cons_succ] at hq0 hq1
    clear hd
    go_wp2_with fail
    ((try simp only [Exit.inBlock, Exit.then]); refine bodyPost_ret (results_tmp4 rfl _ _ _) rfl ?_)
    exact ⟨n, [], s, 0, none, 0, rfl, hR, by simp, fun W _ => Kd.C_nil _ W, by repeat (first | exact HB1.out | apply below_alloc | apply pw_below_drewN | apply below_drew1)⟩
  · have e1 : (er == 0) = false := by simp; omega
    have e2 : (er != 0) = true := by simp; omega
    have e3 : decide (er = 0) = false := decide_eq_false (by omega)
    clear h0 hl ha hc hN hs hne her hn0 hnm hcn hev
    go_enter Try.func24, Try.ntmps24
    go_wp2_with fail
    refine (hopperref01_Number.calls k A c l (a : Int) _ _ _ _ (Kd.C_alloc HR.out _) HC.out HK.out).mono ?_
    rintro e w1 ⟨rfl, hd⟩
    have HG1 := Aside0.mk ((hd.below.block _ (blk_lt HG.out)).trans HG.out)
    have HB1 := Aside0.mk (below_step HB.out hd.below)
    have hq0 := blk_cell HG1.out 0
    have hq1 := blk_cell HG1.out 1
    simp only [List.getElem?_toArray, List.getElem?_cons_zero, List.getElem?_cons_succ] at hq0 hq1
    clear hd
    go_wp2_with fail
    ((try simp only [Exit.inBlock, Exit.then]); refine bodyPost_ret (results_tmp4 rfl _ _ _) rfl ?_)
    exact ⟨n, [], s, er, none, 0, rfl, hR, by simp, fun W _ => Kd.C_nil _ W, by repeat (first | exact HB1.out | apply below_alloc | apply pw_below_drewN | apply below_drew1)⟩
set_option maxHeartbeats 8000000 in
set_option maxRecDepth 100000 in
theorem step_3 (A : Option Addr) (c : Nat) (l : List Int) (a : Nat) (N : Int) (w : World) (hr : Kd.C (Kd.int .u8) w A l.length l) (hc : l.length ≤ c) (hb : isBy l) (hl : l.length ≤ 2000) (ha : a ≤ l.length) (hN : -9223372036854775808 ≤ N ∧ N < 9223372036854775808)  :
    Calls Try.prog 24 #[.slice A l.length c, .int .i64 (a : Int), .agg #[.int .i64 3, .int .i64 N]] w (StepP A l a 3 N w) := by
  have hwl : wrap64 ((l.length : Int) - (a : Int)) = (l.length : Int) - (a : Int) := by unfold wrap64; omega
  have HG := Aside0.mk (blk_new w (.cells #[.int .i64 3, .int .i64 N] 38))
  have HB := Aside0.mk (below_alloc (Below.refl w.heap.size w) (.cells #[.int .i64 3, .int .i64 N] 38))
  have HR := Aside0.mk hr
  have HC := Aside0.mk hc
  have HL := Aside0.mk (show l.length ≤ 2000 ∧ a ≤ l.length from ⟨hl, ha⟩)
  have HY := Aside0.mk hb
  have hz0 := blk_cell HG.out 0
  have hz1 := blk_cell HG.out 1
  simp only [List.getElem?_toArray, List.getElem?_cons_zero, List.getElem?_cons_succ] at hz0 hz1
  clear hr hb
  obtain ⟨n, s, er, hev, hcn, hn0, hs, hne, her, hnm⟩ := num_both l a HY.out (by omega) ha
  obtain ⟨k, hk⟩ := hev.rounds
  have HK := Aside0.mk hk
  clear hk
  by_cases h0 : er = 0
  · subst h0
    by_cases hm : N < n
    · have tm : decide (N < n) = true := decide_eq_true hm
      have hR : StepR l a 3 N 0 [] 0 3 := ⟨by omega, by omega, fun h => absurd h (by decide), fun h => absurd h (by decide), fun h => absurd h (by decide), fun _ => by unfold cursor_Cursor_Most.f; rw [hcn]; simp only [Option.bind_some]; rw [if_pos (by omega)]; unfold cursor_Cursor_Fail.f; rw [if_pos rfl]; rfl, fun h => absurd h (by decide), fun h => absurd h (by decide)⟩
      clear hm
      clear hl ha hc hN hs hne her hn0 hnm hcn hev
      go_enter Try.func24, Try.ntmps24
      go_wp2_with fail
      refine (hopperref01_Number.calls k A c l (a : Int) _ _ _ _ (Kd.C_alloc HR.out _) HC.out HK.out).mono ?_
      rintro e w1 ⟨rfl, hd⟩
      have HG1 := Aside0.mk ((hd.below.block _ (blk_lt HG.out)).trans HG.out)
      have HB1 := Aside0.mk (below_step HB.out hd.below)
      have hq0 := blk_cell HG1.out 0
      have hq1 := blk_cell HG1.out 1
      simp only [List.getElem?_toArray, List.getElem?_cons_zero, List.getElem?_cons_succ] at hq0 hq1
      clear hd
      go_wp2_with fail
      ((try simp only [Exit.inBlock, Exit.then]); refine bodyPost_ret (results_tmp4 rfl _ _ _) rfl ?_)
      exact ⟨0, [], 0, 3, none, 0, rfl, hR, by simp, fun W _ => Kd.C_nil _ W, by repeat (first | exact HB1.out | apply below_alloc | apply pw_below_drewN | apply below_drew1)⟩
    · have tm : decide (N < n) = false := decide_eq_false hm
      have hR : StepR l a 3 N n [] s 0 := ⟨hs, by omega, fun h => absurd h (by decide), fun h => absurd h (by decide), fun h => absurd h (by decide), fun _ => by unfold cursor_Cursor_Most.f; rw [hcn]; simp only [Option.bind_some]; rw [if_neg (by omega)], fun h => absurd h (by decide), fun h => absurd h (by decide)⟩
      clear hm
      clear hl ha hc hN hs hne her hn0 hnm hcn hev
      go_enter Try.func24, Try.ntmps24
      go_wp2_with fail
      refine (hopperref01_Number.calls k A c l (a : Int) _ _ _ _ (Kd.C_alloc HR.out _) HC.out HK.out).mono ?_
      rintro e w1 ⟨rfl, hd⟩
      have HG1 := Aside0.mk ((hd.below.block _ (blk_lt HG.out)).trans HG.out)
      have HB1 := Aside0.mk (below_step HB.out hd.below)
      have hq0 := blk_cell HG1.out 0
      have hq1 := blk_cell HG1.out 1
      simp only [List.getElem?_toArray, List.getElem?_cons_zero, List.getElem?_cons_succ] at hq0 hq1
      clear hd
      go_wp2_with fail
      ((try simp only [Exit.inBlock, Exit.then]); refine bodyPost_ret (results_tmp4 rfl _ _ _) rfl ?_)
      exact ⟨n, [], s, 0, none, 0, rfl, hR, by simp, fun W _ => Kd.C_nil _ W, by repeat (first | exact HB1.out | apply below_alloc | apply pw_below_drewN | apply below_drew1)⟩
  · obtain ⟨rfl, rfl⟩ := hne h0
    have hR : StepR l a 3 N 0 [] 0 er := ⟨by omega, by omega, fun h => absurd h (by decide), fun h => absurd h (by decide), fun h => absurd h (by decide), fun _ => by unfold cursor_Cursor_Most.f; rw [hcn]; simp only [Option.bind_some]; unfold cursor_Cursor_Fail.f; rw [if_neg h0]; simp only [Option.bind_some]; split <;> rfl, fun h => absurd h (by decide), fun h => absurd h (by decide)⟩
    have e1 : (er == 0) = false := by simp; omega
    have e2 : (er != 0) = true := by simp; omega
    have e3 : decide (er = 0) = false := decide_eq_false (by omega)
    clear h0 hl ha hc hN hs hne her hn0 hnm hcn hev
    go_enter Try.func24, Try.ntmps24
    go_wp2_with fail
    refine (hopperref01_Number.calls k A c l (a : Int) _ _ _ _ (Kd.C_alloc HR.out _) HC.out HK.out).mono ?_
    rintro e w1 ⟨rfl, hd⟩
    have HG1 := Aside0.mk ((hd.below.block _ (blk_lt HG.out)).trans HG.out)
    have HB1 := Aside0.mk (below_step HB.out hd.below)
    have hq0 := blk_cell HG1.out 0
    have hq1 := blk_cell HG1.out 1
    simp only [List.getElem?_toArray, List.getElem?_cons_zero, List.getElem?_cons_succ] at hq0 hq1
    clear hd
    go_wp2_with fail
    ((try simp only [Exit.inBlock, Exit.then]); refine bodyPost_ret (results_tmp4 rfl _ _ _) rfl ?_)
    exact ⟨0, [], 0, er, none, 0, rfl, hR, by simp, fun W _ => Kd.C_nil _ W, by repeat (first | exact HB1.out | apply below_alloc | apply pw_below_drewN | apply below_drew1)⟩
set_option maxHeartbeats 8000000 in
set_option maxRecDepth 100000 in
theorem step_4 (A : Option Addr) (c : Nat) (l : List Int) (a : Nat) (N : Int) (w : World) (hr : Kd.C (Kd.int .u8) w A l.length l) (hc : l.length ≤ c) (hb : isBy l) (hl : l.length ≤ 2000) (ha : a ≤ l.length) (hN : -9223372036854775808 ≤ N ∧ N < 9223372036854775808)  :
    Calls Try.prog 24 #[.slice A l.length c, .int .i64 (a : Int), .agg #[.int .i64 4, .int .i64 N]] w (StepP A l a 4 N w) := by
  have hwl : wrap64 ((l.length : Int) - (a : Int)) = (l.length : Int) - (a : Int) := by unfold wrap64; omega
  have HG := Aside0.mk (blk_new w (.cells #[.int .i64 4, .int .i64 N] 38))
  have HB := Aside0.mk (below_alloc (Below.refl w.heap.size w) (.cells #[.int .i64 4, .int .i64 N] 38))
  have HR := Aside0.mk hr
  have HC := Aside0.mk hc
  have HL := Aside0.mk (show l.length ≤ 2000 ∧ a ≤ l.length from ⟨hl, ha⟩)
  have HY := Aside0.mk hb
  have hz0 := blk_cell HG.out 0
  have hz1 := blk_cell HG.out 1
  simp only [List.getElem?_toArray, List.getElem?_cons_zero, List.getElem?_cons_succ] at hz0 hz1
  clear hr hb
  obtain ⟨n, s, er, hev, hcn, hn0, hs, hne, her, hnm⟩ := num_both l a HY.out (by omega) ha
  obtain ⟨k, hk⟩ := hev.rounds
  have HK := Aside0.mk hk
  clear hk
  by_cases h0 : er = 0
  · subst h0
    by_cases hm : 4096 < n
    · have tm : decide (4096 < n) = true := decide_eq_true hm
      have hR : StepR l a 4 N 0 [] 0 3 := ⟨by omega, by omega, fun h => absurd h (by decide), fun h => absurd h (by decide), fun h => absurd h (by decide), fun h => absurd h (by decide), fun _ => by unfold cursor_Cursor_Text.f cursor_Cursor_Most.f; rw [hcn]; simp only [Option.bind_some]; rw [if_pos (by omega)]; unfold cursor_Cursor_Fail.f cursor_Cursor_Bytes.f; rw [if_pos rfl]; simp, fun h => absurd h (by decide)⟩
      clear hm
      clear hl ha hc hN hs hne her hn0 hnm hcn hev
      go_enter Try.func24, Try.ntmps24
      go_wp2_with fail
      refine (hopperref01_Number.calls k A c l (a : Int) _ _ _ _ (Kd.C_alloc HR.out _) HC.out HK.out).mono ?_
      rintro e w1 ⟨rfl, hd⟩
      have HG1 := Aside0.mk ((hd.below.block _ (blk_lt HG.out)).trans HG.out)
      have HB1 := Aside0.mk (below_step HB.out hd.below)
      have hq0 := blk_cell HG1.out 0
      have hq1 := blk_cell HG1.out 1
      simp only [List.getElem?_toArray, List.getElem?_cons_zero, List.getElem?_cons_succ] at hq0 hq1
      clear hd
      go_wp2_with fail
      ((try simp only [Exit.inBlock, Exit.then]); refine bodyPost_ret (results_tmp4 rfl _ _ _) rfl ?_)
      exact ⟨0, [], 0, 3, none, 0, rfl, hR, by simp, fun W _ => Kd.C_nil _ W, by repeat (first | exact HB1.out | apply below_alloc | apply pw_below_drewN | apply below_drew1)⟩
    · have tm : decide (4096 < n) = false := decide_eq_false hm
      have hwq : wrap64 ((l.length : Int) - (a : Int) - (s : Int)) = (l.length : Int) - (a : Int) - (s : Int) := by unfold wrap64; omega
      by_cases hg : (l.length : Int) - (a : Int) - (s : Int) < n
      · have tg : decide ((l.length : Int) - (a : Int) - (s : Int) < n) = true := decide_eq_true hg
        have hR : StepR l a 4 N 0 [] 0 2 := ⟨by omega, by omega, fun h => absurd h (by decide), fun h => absurd h (by decide), fun h => absurd h (by decide), fun h => absurd h (by decide), fun _ => by unfold cursor_Cursor_Text.f cursor_Cursor_Most.f; rw [hcn]; simp only [Option.bind_some]; rw [if_neg (by omega)]; simp only [Option.bind_some]; unfold cursor_Cursor_Bytes.f; rw [if_pos rfl, if_neg (by omega), if_pos (by omega), if_pos (by omega)]; simp, fun h => absurd h (by decide)⟩
        clear hm hg
        clear hl ha hc hN hs hne her hn0 hnm hcn hev
        go_enter Try.func24, Try.ntmps24
        go_wp2_with fail
        refine (hopperref01_Number.calls k A c l (a : Int) _ _ _ _ (Kd.C_alloc HR.out _) HC.out HK.out).mono ?_
        rintro e w1 ⟨rfl, hd⟩
        have HG1 := Aside0.mk ((hd.below.block _ (blk_lt HG.out)).trans HG.out)
        have HB1 := Aside0.mk (below_step HB.out hd.below)
        have hq0 := blk_cell HG1.out 0
        have hq1 := blk_cell HG1.out 1
        simp only [List.getElem?_toArray, List.getElem?_cons_zero, List.getElem?_cons_succ] at hq0 hq1
        clear hd
        go_wp2_with fail
        ((try simp only [Exit.inBlock, Exit.then]); refine bodyPost_ret (results_tmp4 rfl _ _ _) rfl ?_)
        exact ⟨0, [], 0, 2, none, 0, rfl, hR, by simp, fun W _ => Kd.C_nil _ W, by repeat (first | exact HB1.out | apply below_alloc | apply pw_below_drewN | apply below_drew1)⟩
      obtain ⟨m, rfl⟩ : ∃ m : Nat, n = (m : Int) := ⟨n.toNat, by omega⟩
      have tg : decide ((l.length : Int) - (a : Int) - (s : Int) < (m : Int)) = false := decide_eq_false hg
      obtain ⟨x, hx⟩ : ∃ x : Nat, x = a + s := ⟨_, rfl⟩
      obtain ⟨y, hy⟩ : ∃ y : Nat, y = s + m := ⟨_, rfl⟩
      have HQ := Aside0.mk hwq
      have HWF := Aside0.mk (wfacts l.length a s m hs hl hg)
      rw [← hx, ← hy] at HWF
      have hfit := HWF.out.2.2.2
      have HWL := Aside0.mk hwl
      clear her hne hnm hn0 hwq hwl
      have hl1 : l.length ≤ 100000 := by omega
      obtain ⟨A9, c9, hc9, hcut, hcs⟩ := cut_seg A c l hc x m hfit
      have HCS := Aside0.mk hcs
      obtain ⟨bs, hbs⟩ : ∃ bs, bs = (l.drop x).take m := ⟨_, rfl⟩
      have hA : a + y ≤ l.length := by rw [hy, ← Nat.add_assoc, ← hx]; exact hfit
      have hR : StepR l a 4 N 0 bs y 0 := ⟨hA, by decide, fun h => absurd h (by decide), fun h => absurd h (by decide), fun h => absurd h (by decide), fun h => absurd h (by decide), fun _ => by unfold cursor_Cursor_Text.f cursor_Cursor_Most.f; rw [hcn]; simp only [Option.bind_some]; rw [if_neg (by omega)]; simp only [Option.bind_some]; rw [← hx, bytes_at l x m hl1 hfit, ← hbs]; simp only [Option.bind_some, if_true]; rw [hy, hx, Nat.add_assoc], fun h => absurd h (by decide)⟩
      rw [← hbs] at hcut hc9 HCS
      clear hm hg hcs hbs hx hy hfit hA hl1
      obtain ⟨hwx, hwx2, hwy, _⟩ := HWF.out
      have hwl := HWL.out
      have hwq : wrap64 ((l.length : Int) - (a : Int) - (s : Int)) = (l.length : Int) - (a : Int) - (s : Int) := HQ.out
      clear hl ha hc hN hs hcn hev
      go_enter Try.func24, Try.ntmps24
      go_wp2_with fail
      refine (hopperref01_Number.calls k A c l (a : Int) _ _ _ _ (Kd.C_alloc HR.out _) HC.out HK.out).mono ?_
      rintro e w1 ⟨rfl, hd⟩
      have HG1 := Aside0.mk ((hd.below.block _ (blk_lt HG.out)).trans HG.out)
      have HB1 := Aside0.mk (below_step HB.out hd.below)
      have hq0 := blk_cell HG1.out 0
      have hq1 := blk_cell HG1.out 1
      simp only [List.getElem?_toArray, List.getElem?_cons_zero, List.getElem?_cons_succ] at hq0 hq1
      clear hd
      go_wp2_with fail
      refine start_ (n := 17) (S := fun w' => True) (ds := []) #[false, false, false, false, false, false, false, false, false, false, false, false, false, false, false, false, false] (by kernel_rfl) rfl rfl trivial (fun hHeld => ?_)
      refine pure_ (i := 0) (N := some 92) (v := ?_) (a' := ?_) #[true, false, false, false, false, false, false, false, false, false, false, false, false, false, false, false, false] rfl rfl (by kernel_rfl) (fun _ _ _ h => h) (Or.inl ⟨by rfl, ?_⟩) ?_ ?_
      rotate_left
      · intro w'
        go_simp
        with_reducible rfl
      rotate_left
      · simp only [Act.put, List.setIfInBounds_toArray, List.set_cons_zero, List.set_cons_succ, i64_w, i32_w]
        rfl
      refine pure_ (i := 1) (N := some 93) (v := ?_) (a' := ?_) #[true, true, false, false, false, false, false, false, false, false, false, false, false, false, false, false, false] rfl rfl (by kernel_rfl) (fun _ _ _ h => h) (Or.inl ⟨by rfl, ?_⟩) ?_ ?_
      rotate_left
      · intro w'
        go_simp
        with_reducible rfl
      rotate_left
      · simp only [Act.put, List.setIfInBounds_toArray, List.set_cons_zero, List.set_cons_succ, i64_w, i32_w]
        rfl
      refine pure_ (i := 2) (N := some 94) (v := ?_) (a' := ?_) #[true, true, true, false, false, false, false, false, false, false, false, false, false, false, false, false, false] rfl rfl (by kernel_rfl) (fun _ _ _ h => h) (Or.inl ⟨by rfl, ?_⟩) ?_ ?_
      rotate_left
      · intro w'
        go_simp
        with_reducible rfl
      rotate_left
      · simp only [Act.put, List.setIfInBounds_toArray, List.set_cons_zero, List.set_cons_succ, i64_w, i32_w]
        rfl
      refine pure_ (i := 3) (N := some 95) (v := ?_) (a' := ?_) #[true, true, true, true, false, false, false, false, false, false, false, false, false, false, false, false, false] rfl rfl (by kernel_rfl) (fun _ _ _ h => h) (Or.inl ⟨by rfl, ?_⟩) ?_ ?_
      rotate_left
      · intro w'
        go_simp
        with_reducible rfl
      rotate_left
      · simp only [Act.put, List.setIfInBounds_toArray, List.set_cons_zero, List.set_cons_succ, i64_w, i32_w]
        rfl
      refine pure_ (i := 4) (N := some 96) (v := ?_) (a' := ?_) #[true, true, true, true, true, false, false, false, false, false, false, false, false, false, false, false, false] rfl rfl (by kernel_rfl) (fun _ _ _ h => h) (Or.inl ⟨by rfl, ?_⟩) ?_ ?_
      rotate_left
      · intro w'
        go_simp
        with_reducible rfl
      rotate_left
      · simp only [Act.put, List.setIfInBounds_toArray, List.set_cons_zero, List.set_cons_succ, i64_w, i32_w]
        rfl
      refine pure_ (i := 5) (N := some 97) (v := ?_) (a' := ?_) #[true, true, true, true, true, true, false, false, false, false, false, false, false, false, false, false, false] rfl rfl (by kernel_rfl) (fun _ _ _ h => h) (Or.inl ⟨by rfl, ?_⟩) ?_ ?_
      rotate_left
      · intro w'
        go_simp
        with_reducible rfl
      rotate_left
      · simp only [Act.put, List.setIfInBounds_toArray, List.set_cons_zero, List.set_cons_succ, i64_w, i32_w]
        rfl
      refine pure_ (i := 6) (N := some 98) (v := ?_) (a' := ?_) #[true, true, true, true, true, true, true, false, false, false, false, false, false, false, false, false, false] rfl rfl (by kernel_rfl) (fun _ _ _ h => h) (Or.inl ⟨by rfl, ?_⟩) ?_ ?_
      rotate_left
      · intro w'
        go_simp
        with_reducible rfl
      rotate_left
      · simp only [Act.put, List.setIfInBounds_toArray, List.set_cons_zero, List.set_cons_succ, i64_w, i32_w]
        rfl
      refine pure_ (i := 7) (N := some 99) (v := ?_) (a' := ?_) #[true, true, true, true, true, true, true, true, false, false, false, false, false, false, false, false, false] rfl rfl (by kernel_rfl) (fun _ _ _ h => h) (Or.inl ⟨by rfl, ?_⟩) ?_ ?_
      rotate_left
      · intro w'
        go_simp
        with_reducible rfl
      rotate_left
      · simp only [Act.put, List.setIfInBounds_toArray, List.set_cons_zero, List.set_cons_succ, i64_w, i32_w]
        rfl
      refine pure_ (i := 8) (N := some 100) (v := ?_) (a' := ?_) #[true, true, true, true, true, true, true, true, true, false, false, false, false, false, false, false, false] rfl rfl (by kernel_rfl) (fun _ _ _ h => h) (Or.inl ⟨by rfl, ?_⟩) ?_ ?_
      rotate_left
      · intro w'
        go_simp
        with_reducible rfl
      rotate_left
      · simp only [Act.put, List.setIfInBounds_toArray, List.set_cons_zero, List.set_cons_succ, i64_w, i32_w]
        rfl
      refine pure_ (i := 9) (N := some 101) (v := ?_) (a' := ?_) #[true, true, true, true, true, true, true, true, true, true, false, false, false, false, false, false, false] rfl rfl (by kernel_rfl) (fun _ _ _ h => h) (Or.inl ⟨by rfl, ?_⟩) ?_ ?_
      rotate_left
      · intro w'
        go_simp
        with_reducible rfl
      rotate_left
      · simp only [Act.put, List.setIfInBounds_toArray, List.set_cons_zero, List.set_cons_succ, i64_w, i32_w]
        rfl
      refine pure_ (i := 10) (N := some 102) (v := ?_) (a' := ?_) #[true, true, true, true, true, true, true, true, true, true, true, false, false, false, false, false, false] rfl rfl (by kernel_rfl) (fun _ _ _ h => h) (Or.inl ⟨by rfl, ?_⟩) ?_ ?_
      rotate_left
      · intro w'
        go_simp
        with_reducible rfl
      rotate_left
      · simp only [Act.put, List.setIfInBounds_toArray, List.set_cons_zero, List.set_cons_succ, i64_w, i32_w]
        rfl
      refine pure_ (i := 11) (N := some 103) (v := ?_) (a' := ?_) #[true, true, true, true, true, true, true, true, true, true, true, true, false, false, false, false, false] rfl rfl (by kernel_rfl) (fun _ _ _ h => h) (Or.inl ⟨by rfl, ?_⟩) ?_ ?_
      rotate_left
      · intro w'
        go_simp
        with_reducible rfl
      rotate_left
      · simp only [Act.put, List.setIfInBounds_toArray, List.set_cons_zero, List.set_cons_succ, i64_w, i32_w]
        rfl
      refine pure_ (i := 12) (N := some 104) (v := ?_) (a' := ?_) #[true, true, true, true, true, true, true, true, true, true, true, true, true, false, false, false, false] rfl rfl (by kernel_rfl) (fun _ _ _ h => h) (Or.inl ⟨by rfl, ?_⟩) ?_ ?_
      rotate_left
      · intro w'
        go_simp
        with_reducible rfl
      rotate_left
      · simp only [Act.put, List.setIfInBounds_toArray, List.set_cons_zero, List.set_cons_succ, i64_w, i32_w]
        rfl
      refine pure_ (i := 13) (N := some 6) (v := ?_) (a' := ?_) #[true, true, true, true, true, true, true, true, true, true, true, true, true, true, false, false, false] rfl rfl (by kernel_rfl) (fun _ _ _ h => h) (Or.inl ⟨by rfl, ?_⟩) ?_ ?_
      rotate_left
      · intro w'
        go_simp
        with_reducible rfl
      rotate_left
      · simp only [Act.put, List.setIfInBounds_toArray, List.set_cons_zero, List.set_cons_succ, i64_w, i32_w]
        rfl
      refine pure_ (i := 14) (N := some 7) (v := ?_) (a' := ?_) #[true, true, true, true, true, true, true, true, true, true, true, true, true, true, true, false, false] rfl rfl (by kernel_rfl) (fun _ _ _ h => h) (Or.inl ⟨by rfl, ?_⟩) ?_ ?_
      rotate_left
      · intro w'
        go_simp
        with_reducible rfl
      rotate_left
      · simp only [Act.put, List.setIfInBounds_toArray, List.set_cons_zero, List.set_cons_succ, i64_w, i32_w]
        rfl
      refine pure_ (i := 15) (N := some 8) (v := ?_) (a' := ?_) #[true, true, true, true, true, true, true, true, true, true, true, true, true, true, true, true, false] rfl rfl (by kernel_rfl) (fun _ _ _ h => h) (Or.inl ⟨by rfl, ?_⟩) ?_ ?_
      rotate_left
      · intro w'
        go_simp
        with_reducible rfl
      rotate_left
      · simp only [Act.put, List.setIfInBounds_toArray, List.set_cons_zero, List.set_cons_succ, i64_w, i32_w]
        rfl
      refine pure_ (i := 16) (N := some 9) (v := ?_) (a' := ?_) #[true, true, true, true, true, true, true, true, true, true, true, true, true, true, true, true, true] rfl rfl (by kernel_rfl) (fun _ _ _ h => h) (Or.inl ⟨by rfl, ?_⟩) ?_ ?_
      rotate_left
      · intro w'
        go_simp
        with_reducible rfl
      rotate_left
      · simp only [Act.put, List.setIfInBounds_toArray, List.set_cons_zero, List.set_cons_succ, i64_w, i32_w]
        rfl
      refine done_ (by kernel_rfl) ?_
      go_wp2
      ((try simp only [Exit.inBlock, Exit.then]); refine bodyPost_ret (results_tmp4 rfl _ _ _) rfl ?_)
      exact ⟨0, bs, y, 0, A9, c9, rfl, hR, hc9, HCS.out, (by repeat (first | exact HB1.out | apply below_alloc | apply pw_below_drewN | apply below_drew1))⟩
  · obtain ⟨rfl, rfl⟩ := hne h0
    have hR : StepR l a 4 N 0 [] 0 er := ⟨by omega, by omega, fun h => absurd h (by decide), fun h => absurd h (by decide), fun h => absurd h (by decide), fun h => absurd h (by decide), fun _ => by unfold cursor_Cursor_Text.f cursor_Cursor_Most.f; rw [hcn]; simp only [Option.bind_some]; rw [if_neg (by omega)]; simp only [Option.bind_some]; unfold cursor_Cursor_Bytes.f; rw [if_neg h0]; simp only [Option.bind_some]; rw [if_neg h0]; rfl, fun h => absurd h (by decide)⟩
    have e1 : (er == 0) = false := by simp; omega
    have e2 : (er != 0) = true := by simp; omega
    have e3 : decide (er = 0) = false := decide_eq_false (by omega)
    clear h0 hl ha hc hN hs hne her hn0 hnm hcn hev
    go_enter Try.func24, Try.ntmps24
    go_wp2_with fail
    refine (hopperref01_Number.calls k A c l (a : Int) _ _ _ _ (Kd.C_alloc HR.out _) HC.out HK.out).mono ?_
    rintro e w1 ⟨rfl, hd⟩
    have HG1 := Aside0.mk ((hd.below.block _ (blk_lt HG.out)).trans HG.out)
    have HB1 := Aside0.mk (below_step HB.out hd.below)
    have hq0 := blk_cell HG1.out 0
    have hq1 := blk_cell HG1.out 1
    simp only [List.getElem?_toArray, List.getElem?_cons_zero, List.getElem?_cons_succ] at hq0 hq1
    clear hd
    go_wp2_with fail
    ((try simp only [Exit.inBlock, Exit.then]); refine bodyPost_ret (results_tmp4 rfl _ _ _) rfl ?_)
    exact ⟨0, [], 0, er, none, 0, rfl, hR, by simp, fun W _ => Kd.C_nil _ W, by repeat (first | exact HB1.out | apply below_alloc | apply pw_below_drewN | apply below_drew1)⟩
theorem step_0 (A : Option Addr) (c : Nat) (l : List Int) (a : Nat) (N : Int) (w : World) (hr : Kd.C (Kd.int .u8) w A l.length l) (hc : l.length ≤ c) (hb : isBy l) (hl : l.length ≤ 2000) (ha : a ≤ l.length) (hN : -9223372036854775808 ≤ N ∧ N < 9223372036854775808) :
    Calls Try.prog 24 #[.slice A l.length c, .int .i64 (a : Int), .agg #[.int .i64 0, .int .i64 N]] w (StepP A l a 0 N w) := by
  by_cases h : a = l.length
  · exact step_0a A c l a N w hr hc hb hl ha hN h
  · exact step_0b A c l a N w hr hc hb hl ha hN (by omega)
theorem step_1 (A : Option Addr) (c : Nat) (l : List Int) (a : Nat) (N : Int) (w : World) (hr : Kd.C (Kd.int .u8) w A l.length l) (hc : l.length ≤ c) (hb : isBy l) (hl : l.length ≤ 2000) (ha : a ≤ l.length) (hN : -9223372036854775808 ≤ N ∧ N < 9223372036854775808) :
    Calls Try.prog 24 #[.slice A l.length c, .int .i64 (a : Int), .agg #[.int .i64 1, .int .i64 N]] w (StepP A l a 1 N w) := by
  by_cases h : N < 0
  · exact step_1a A c l a N w hr hc hb hl ha hN h
  by_cases h2 : (l.length : Int) - (a : Int) < N
  · exact step_1b A c l a N w hr hc hb hl ha hN (by omega) h2
  exact step_1c A c l a N w hr hc hb hl ha hN N.toNat (by omega) (by omega)
end Go.Proofs.Ytkdncanoajbdgaa.HW
