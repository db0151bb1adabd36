/- The heap of one buffer at most: New, room, Add. -/
import Derived.Test.YtpbplflocdhahaaHeapP
import Derived.Lib.AppendStr
import Derived.BigFrame
set_option linter.unusedVariables false
set_option linter.unusedSimpArgs false
namespace Go.Proofs.Ytpbplflocdhahaa.HW
open Go.RowKit Go.Proofs.Ytpbplflocdhahaa.P Go.Proofs.Ytpbplflocdhahaa.HP Go.Proofs.YtpbplflocdhahaaW.PrintWords Go.Proofs.YtpbplflocdhahaaW.PrintLast Go.Proofs.YtpbplflocdhahaaW.PrintMore
attribute [local go_sem] max2_int min2_int max_two min_two max_three min_three max_four min_four
def encSl (x : Option Addr × Nat × Nat) : Value := .slice x.1 x.2.1 x.2.2
def KS : Kd (Option Addr × Nat × Nat) := Kd.scalar encSl (fun _ => rfl)
theorem info8 : (Try.prog.info? 5).map (fun i => (i.zero, i.size, i.bytes)) = some (some (.int .u8 0), 1, 1) := by kernel_rfl
theorem infoSl : (Try.prog.info? 36).map (fun i => (i.zero, i.size, i.bytes)) = some (some (.slice none 0 0), 1, 24) := by kernel_rfl
/-- A heap at block g: nothing yet, or one buffer; what it holds at most. -/
def Hp (lo : Nat) (w : World) (g : Nat) : Option (List Int) → Int → Prop
  | none, m => lo ≤ g ∧ w.heap[g]? = some (.cells #[.slice none 0 0, .int .i64 0, .int .i64 m] 53 (0, 0))
  | some b, m => lo ≤ g ∧ ∃ (gb cb : Nat) (x : Option Addr × Nat × Nat), w.heap[g]? = some (.cells #[.slice (some ⟨gb, 0, none⟩) 1 cb, .int .i64 (b.length : Int), .int .i64 m] 53 (0, 0)) ∧
      KS.R 36 w lo (fun k => k ≠ g) (.slice (some ⟨gb, 0, none⟩) 1 cb) [x] ∧ Kd.R (Kd.int .u8) 5 w lo (fun k => k ≠ g ∧ k ≠ gb) (encSl x) b
theorem Hp.ge {lo : Nat} {w : World} {g : Nat} {B : Option (List Int)} {m : Int} (h : Hp lo w g B m) : lo ≤ g := by cases B <;> exact h.1
theorem Hp.lt {lo : Nat} {w : World} {g : Nat} {B : Option (List Int)} {m : Int} (h : Hp lo w g B m) : g < w.heap.size := by
  cases B with
  | none => exact blk_lt h.2
  | some b => obtain ⟨_, gb, cb, x, hg, _⟩ := h; exact blk_lt hg
theorem Hp.below {lo : Nat} {w w' : World} {g : Nat} {B : Option (List Int)} {m : Int} (h : Hp lo w g B m) (hb : Below w.heap.size w w') : Hp lo w' g B m := by
  cases B with
  | none => exact ⟨h.1, (hb.block _ (blk_lt h.2)).trans h.2⟩
  | some b =>
    obtain ⟨h0, gb, cb, x, hg, h1, h2⟩ := h
    exact ⟨h0, gb, cb, x, (hb.block _ (blk_lt hg)).trans hg, Kd.R_below h1 hb, Kd.R_below h2 hb⟩
theorem wide {B : Nat} {w W w' : World} (h : Below B w W) (k : Below W.heap.size W w') (hB : B ≤ W.heap.size) : Below B w w' := h.trans (k.mono hB)
set_option maxHeartbeats 8000000 in
set_option maxRecDepth 100000 in
theorem Hp.new (m : Int) (w : World) (hm : 0 ≤ m) : Calls Try.prog 10 #[.int .i64 m] w fun e w' => ∃ g : Nat, e = .returned (.pointer (some ⟨g, 0, none⟩)) ∧ Hp w.heap.size w' g none m ∧ Below w.heap.size w w' := by
  have t1 : decide (m < 0) = false := decide_eq_false (by omega)
  have t2 : (m < 0) = False := eq_false (by omega)
  go_enter Try.func10, Try.ntmps10
  go_wp2_with fail
  go_ret
  exact ⟨_, rfl, ⟨Nat.le_refl _, blk_new _ _⟩, below_alloc (Below.refl _ _) _⟩
set_option maxHeartbeats 8000000 in
set_option maxRecDepth 100000 in
theorem Hp.room0 {lo g : Nat} {m : Int} (n : Int) (w : World) (h : Hp lo w g none m) (hlo : lo ≤ w.heap.size) : Calls Try.prog 26 #[.pointer (some ⟨g, 0, none⟩), .int .i64 n] w fun e w' => e = .returned (.int .i64 0) ∧ Hp lo w' g (some []) m ∧ Below lo w w' ∧ KeepBut w w' g none := by
  have HG := Aside0.mk h.2
  have HGE := Aside0.mk h.1
  have HLT := Aside0.mk h.lt
  have HLO := Aside0.mk hlo
  clear h hlo
  have hc0 := blk_cell HG.out 0
  have hc1 := blk_cell HG.out 1
  have hc2 := blk_cell HG.out 2
  have hf0 := blk_frozen HG.out 0
  have hf1 := blk_frozen HG.out 1
  simp only [List.getElem?_toArray, List.getElem?_cons_zero, List.getElem?_cons_succ] at hc0 hc1 hc2
  have hw1 : wrap64 (0 - 1) = -1 := by unfold wrap64; omega
  have hw2 : wrap64 (-1) = -1 := by unfold wrap64; omega
  have HB := Aside0.mk (Below.refl lo w)
  have HFR : Aside0 (∀ k, w.heap.size ≤ k → k ≠ g) := ⟨fun k hk e => by have := HLT.out; omega⟩
  go_enter Try.func26, Try.ntmps26
  go_wp2_with (first | ((with_reducible refine gate_builtin (b := .append) (xs := #[.tmp 31, .tmp 32]) rfl ?_); at_builtin; refine Kd.R_append KS (w0 := w) lo rfl (.tmp 31) (.tmp 32) 51 36 (.slice none 0 0) 24 rfl Try.underlying51 infoSl rfl (by decide) (by omega) (.slice none 0 0) [] (none, 0, 0) [.slice none 0 0] (fun k => k ≠ g) (fun _ => False) rfl rfl ?aP (fun _ hk => hk.elim) ?aF ?aO ?aB ?aS ?aL ?_; (case aP => exact rfl); (case aB => exact HB.out); (case aF => exact HFR.out); (case aO => exact (Kd.R_nil _ _ _ _ _)); (case aS => exact HLO.out); (case aL => exact (by decide)); intro v33 w3 ho hb hg hat; obtain ⟨gb, cb, rfl, hgb, hgl, _⟩ := Kd.R_form ho (by simp); have HO3 : Aside0 (KS.R 36 w3 lo (fun k => k ≠ g) (.slice (some ⟨gb, 0, none⟩) 1 cb) [(none, 0, 0)]) := ⟨ho⟩; have HGB := Aside0.mk hgb; have HB3 := Aside0.mk hb; have HK3 := Aside0.mk (KeepBut.of_grown hg g); have HG3 := Aside0.mk (blk_grown HG.out hg (by simp [Value.ownBlock])); clear hc0 hc1 hc2 hf0 hf1; have hc0 := blk_cell HG3.out 0; have hf0 := blk_frozen HG3.out 0; simp only [List.getElem?_toArray, List.getElem?_cons_zero, List.getElem?_cons_succ] at hc0; clear ho hb hg hat))
  go_ret
  have hb5 : Below lo w (w3.setCell ⟨g, 0, none⟩ (.slice (some ⟨gb, 0, none⟩) 1 cb)) := Below.setCell HB3.out HGE.out _
  have hne : gb ≠ g := HO3.out.1 gb rfl
  refine ⟨rfl, ⟨HGE.out, gb, cb, (none, 0, 0), blk_put HG3.out 0 _ rfl, Kd.R_step HO3.out (fun k hk _ => Below.heap_setCell _ _ _ _ hk), Kd.R_nil _ _ _ _ _⟩, hb5, KeepBut.set_ HK3.out _ _⟩
/-- The buffer's slice and its bytes. -/
theorem Hp.parts {lo : Nat} {w : World} {g : Nat} {b : List Int} {m : Int} (h : Hp lo w g (some b) m) : ∃ (gb cb : Nat) (A : Option Addr) (c : Nat), w.heap[g]? = some (.cells #[.slice (some ⟨gb, 0, none⟩) 1 cb, .int .i64 (b.length : Int), .int .i64 m] 53 (0, 0)) ∧ 1 ≤ cb ∧
    w.cell? ⟨gb, 0, none⟩ = some (.slice A b.length c) ∧ w.frozen? ⟨gb, 0, none⟩ = false ∧ b.length ≤ c ∧ Kd.C (Kd.int .u8) w A b.length b ∧ KS.R 36 w lo (fun k => k ≠ g) (.slice (some ⟨gb, 0, none⟩) 1 cb) [(A, b.length, c)] ∧ Kd.R (Kd.int .u8) 5 w lo (fun k => k ≠ g ∧ k ≠ gb) (.slice A b.length c) b ∧ gb ≠ g := by
  obtain ⟨_, gb, cb, ⟨A, n, c⟩, hg, h1, h2⟩ := h
  obtain ⟨rfl, hc, hr⟩ := Kd.R_reads' (show Kd.R (Kd.int .u8) 5 w lo _ (.slice A n c) b from h2)
  have h3 := Kd.R_reads' h1
  have hcell := Kd.R_cell (none, 0, 0) h1 0 (by decide) (by simp)
  exact ⟨gb, cb, A, c, hg, h3.2.1, hcell.1, hcell.2, hc, hr, h1, h2, h1.1 gb rfl⟩
set_option maxHeartbeats 8000000 in
set_option maxRecDepth 100000 in
theorem Hp.room1 {lo g : Nat} {b : List Int} {m : Int} (n : Nat) (w : World) (h : Hp lo w g (some b) m) (hn : b.length + n ≤ 65536) : Calls Try.prog 26 #[.pointer (some ⟨g, 0, none⟩), .int .i64 (n : Int)] w fun e w' => e = .returned (.int .i64 0) ∧ Below w.heap.size w w' := by
  obtain ⟨gb, cb, A, c, hg, hcb, hx0, hxf, hc, hr, h1, h2, hne⟩ := h.parts
  have HB := Aside0.mk (Below.refl w.heap.size w)
  have HG := Aside0.mk hg
  have hw1 : wrap64 (1 - 1) = 0 := by unfold wrap64; omega
  have hw2 : wrap64 ((b.length : Int) + (n : Int)) = (b.length : Int) + (n : Int) := by unfold wrap64; omega
  have t1 : decide ((65536 : Int) < (b.length : Int) + (n : Int)) = false := decide_eq_false (by omega)
  clear h hg hr h1 h2 hne hn hc hcb hxf
  have hc0 := blk_cell HG.out 0
  have hc1 := blk_cell HG.out 1
  have hc2 := blk_cell HG.out 2
  have hf0 := blk_frozen HG.out 0
  have hf1 := blk_frozen HG.out 1
  simp only [List.getElem?_toArray, List.getElem?_cons_zero, List.getElem?_cons_succ] at hc0 hc1 hc2
  go_enter Try.func26, Try.ntmps26
  go_wp2_with fail
  go_ret
  exact ⟨rfl, by repeat (first | exact HB.out | apply below_alloc | apply pw_below_drewN | apply below_drew1)⟩
theorem Hp.room {lo g : Nat} {B : Option (List Int)} {m : Int} (n : Nat) (w : World) (h : Hp lo w g B m) (hlo : lo ≤ w.heap.size) (hn : (B.getD []).length + n ≤ 65536) : Calls Try.prog 26 #[.pointer (some ⟨g, 0, none⟩), .int .i64 (n : Int)] w fun e w' => e = .returned (.int .i64 0) ∧ Hp lo w' g (some (B.getD [])) m ∧ Below lo w w' ∧ KeepBut w w' g none := by
  cases B with
  | none => exact h.room0 (n : Int) w hlo
  | some b =>
    refine (h.room1 n w hn).mono ?_
    rintro e w1 ⟨rfl, hb⟩
    exact ⟨rfl, h.below hb, hb.mono hlo, KeepBut.of_below hb g none⟩
theorem Hp.cells_ {lo g : Nat} {B : Option (List Int)} {m : Int} {w : World} (h : Hp lo w g B m) : ∃ v, w.heap[g]? = some (.cells #[v, .int .i64 ((B.getD []).length : Int), .int .i64 m] 53 (0, 0)) := by
  cases B with
  | none => exact ⟨_, h.2⟩
  | some b => obtain ⟨_, gb, cb, x, hg, _⟩ := h; exact ⟨_, hg⟩
set_option maxHeartbeats 8000000 in
set_option maxRecDepth 100000 in
theorem add_short (g : Nat) (s : ByteArray) (w : World) (hs : s.size ≤ 12) : Calls Try.prog 11 #[.pointer (some ⟨g, 0, none⟩), .string s] w fun e w' => e = .returned (.tuple #[.agg (cel (mkS s)), .int .i64 0]) ∧ Below w.heap.size w w' := by
  have HMk := Aside0.mk (fun w => view_Make.short s 0 0 w hs)
  rw [mkS_e s hs] at HMk
  have HSh := Aside0.mk (fun w => view_Short.calls (mkS s) w (mkS_len s hs) (mkS_b s))
  rw [decide_eq_true (show le4v (mkS s) ≤ 12 by rw [mkS_n s hs]; omega)] at HSh
  obtain ⟨C, hC⟩ : ∃ C, C = cel (mkS s) := ⟨_, rfl⟩
  rw [← hC] at HMk HSh ⊢
  have HSC : Aside0 (C.size = 16) := ⟨by rw [hC, cel_size, mkS_len s hs]⟩
  have H1C : Aside0 (C.all (·.oneCell') = true) := ⟨by rw [hC]; exact cel_one _⟩
  have hz := zero16
  obtain ⟨Z, hZ⟩ : ∃ Z, Z = cel z16 := ⟨_, rfl⟩
  rw [← hZ] at hz
  have HSZ : Aside0 (Z.size = 16) := ⟨by rw [hZ]; rfl⟩
  have H1Z : Aside0 (Z.all (·.oneCell') = true) := ⟨by rw [hZ]; exact cel_one _⟩
  clear hs hC hZ
  have HN := Aside0.mk (blk_new w (.cells Z 28))
  have HB := Aside0.mk (below_alloc (Below.refl w.heap.size w) (.cells Z 28))
  go_enter Try.func11, Try.ntmps11
  go_wp2_with fail
  refine (HMk.out _).mono ?_
  rintro e w1 ⟨rfl, hb⟩
  have HN1 := Aside0.mk ((hb.block _ (blk_lt HN.out)).trans HN.out)
  have HB1 := Aside0.mk (below_step HB.out hb)
  have HM1 := Aside0.mk (blk_new w1 (.cells Z 28))
  have HLT := Aside0.mk (blk_lt HN1.out)
  have HG1 := Aside0.mk (setRow_heap _ _ _ C _ _ HM1.out)
  have HN2 : Aside0 (((w1.alloc (.cells Z 28)).setRow w1.heap.size C).heap[w.heap.size]? = some (.cells Z 28 (0, 0))) := ⟨(heap_row (by have := HLT.out; omega)).trans (((below_alloc (Below.refl _ w1) (.cells Z 28)).block _ HLT.out).trans HN1.out)⟩
  have HB2 := Aside0.mk (below_row (below_alloc HB1.out (.cells Z 28)) (below_size HB1.out) C)
  clear HN hb
  go_wp2_with (first | ((with_reducible refine gate_store (t := 28) (p := 6) rfl ?_); refine wpList_store_row rfl 28 _ _ rfl w1.heap.size C (by rfl) (by rfl) 28 Z HM1.out (by rw [info16, HSC.out]) (HSZ.out.trans HSC.out.symm) H1C.out ?_) | ((with_reducible refine gate_dst (N := 18) rfl ?_); refine Go.BigFrame.wpList_want ?hw (fun K hK => ?_); (case hw => rfl); refine wp_load_row 28 _ rfl w1.heap.size ?hx 28 C (0, 0) _ HG1.out Try.underlying28 rfl ?hi ?_; (case hx => rfl); (case hi => rw [info16, HSC.out]); refine hK _ _ ?_; clear hK K))
  refine (HSh.out _).mono ?_
  rintro e w2 ⟨rfl, hb⟩
  have HG3 := Aside0.mk ((hb.block _ (blk_lt HG1.out)).trans HG1.out)
  have HN3 := Aside0.mk ((hb.block _ (blk_lt HN2.out)).trans HN2.out)
  have HB3 := Aside0.mk (below_step HB2.out hb)
  clear HB1 HB2 HG1 HN2 HN1 HM1 hb
  go_wp2_with (first | ((with_reducible refine gate_dst (N := 21) rfl ?_); refine wpList_load_row rfl 28 _ rfl w1.heap.size (by rfl) 28 C (0, 0) _ HG3.out Try.underlying28 rfl (by rw [info16, HSC.out]) ?_) | ((with_reducible refine gate_store (t := 28) (p := 4) rfl ?_); refine wpList_store_row rfl 28 _ _ rfl w.heap.size C (by rfl) (by rfl) 28 Z HN3.out (by rw [info16, HSC.out]) (HSZ.out.trans HSC.out.symm) H1C.out ?_))
  (try simp only [Exit.inBlock, Exit.then])
  refine bodyPost_ret (results_ct (p := 4) (u := 5) rfl _ _ w.heap.size 28 C (0, 0) _ ?hp (setRow_heap _ _ _ _ _ _ HN3.out) Try.underlying28 rfl (by rw [info16, HSC.out])) ?hd ?_
  case hp => rfl
  case hd => rfl
  exact ⟨rfl, below_row HB3.out (Nat.le_refl _) _⟩
set_option maxHeartbeats 8000000 in
set_option maxRecDepth 100000 in
theorem Hp.add_full {lo g : Nat} {B : Option (List Int)} {m : Int} (s : ByteArray) (w : World) (h : Hp lo w g B m) (hs : 12 < s.size) (hs2 : s.size ≤ 4096) (hm : 0 ≤ m ∧ m ≤ 1000000) (hn : (B.getD []).length ≤ 1000000) (hfull : m - ((B.getD []).length : Int) < (s.size : Int)) : Calls Try.prog 11 #[.pointer (some ⟨g, 0, none⟩), .string s] w fun e w' => e = .returned (.tuple #[.agg (cel z16), .int .i64 6]) ∧ Below w.heap.size w w' := by
  have HMk := Aside0.mk (fun w => view_Make.long s 0 0 w hs hs2 rfl)
  rw [mkB_e s 0 0 hs] at HMk
  have HSh := Aside0.mk (fun w => view_Short.calls (mkB s 0 0) w (mkB_len s 0 0 hs) (mkB_b s 0 0))
  rw [decide_eq_false (show ¬ le4v (mkB s 0 0) ≤ 12 by rw [mkB_n s 0 0 hs2]; omega)] at HSh
  obtain ⟨C, hC⟩ : ∃ C, C = cel (mkB s 0 0) := ⟨_, rfl⟩
  rw [← hC] at HMk HSh
  have HSC : Aside0 (C.size = 16) := ⟨by rw [hC, cel_size, mkB_len s 0 0 hs]⟩
  have H1C : Aside0 (C.all (·.oneCell') = true) := ⟨by rw [hC]; exact cel_one _⟩
  have hz := zero16
  obtain ⟨Z, hZ⟩ : ∃ Z, Z = cel z16 := ⟨_, rfl⟩
  rw [← hZ] at hz ⊢
  have HBL : Aside0 (Try.prog.built 28 [] = some Z) := ⟨by rw [hZ]; kernel_rfl⟩
  have HSZ : Aside0 (Z.size = 16) := ⟨by rw [hZ]; rfl⟩
  have H1Z : Aside0 (Z.all (·.oneCell') = true) := ⟨by rw [hZ]; exact cel_one _⟩
  have HH := Aside0.mk h
  obtain ⟨n0, hn0⟩ : ∃ n, (B.getD []).length = n := ⟨_, rfl⟩
  rw [hn0] at hfull hn
  have hw : wrap64 (m - (n0 : Int)) = m - (n0 : Int) := by unfold wrap64; omega
  have tf : decide (m - (n0 : Int) < (s.size : Int)) = true := decide_eq_true hfull
  clear hs hs2 hC hZ hfull hm hn h
  have HN := Aside0.mk (blk_new w (.cells Z 28))
  have HB := Aside0.mk (below_alloc (Below.refl w.heap.size w) (.cells Z 28))
  go_enter Try.func11, Try.ntmps11
  go_wp2_with fail
  refine (HMk.out _).mono ?_
  rintro e w1 ⟨rfl, hb⟩
  have HN1 := Aside0.mk ((hb.block _ (blk_lt HN.out)).trans HN.out)
  have HB1 := Aside0.mk (below_step HB.out hb)
  have HM1 := Aside0.mk (blk_new w1 (.cells Z 28))
  have HLT := Aside0.mk (blk_lt HN1.out)
  have HG1 := Aside0.mk (setRow_heap _ _ _ C _ _ HM1.out)
  have HN2 : Aside0 (((w1.alloc (.cells Z 28)).setRow w1.heap.size C).heap[w.heap.size]? = some (.cells Z 28 (0, 0))) := ⟨(heap_row (by have := HLT.out; omega)).trans (((below_alloc (Below.refl _ w1) (.cells Z 28)).block _ HLT.out).trans HN1.out)⟩
  have HB2 := Aside0.mk (below_row (below_alloc HB1.out (.cells Z 28)) (below_size HB1.out) C)
  clear HN hb
  go_wp2_with (first | ((with_reducible refine gate_store (t := 28) (p := 6) rfl ?_); refine wpList_store_row rfl 28 _ _ rfl w1.heap.size C (by rfl) (by rfl) 28 Z HM1.out (by rw [info16, HSC.out]) (HSZ.out.trans HSC.out.symm) H1C.out ?_) | ((with_reducible refine gate_dst (N := 18) rfl ?_); refine Go.BigFrame.wpList_want ?hw (fun K hK => ?_); (case hw => rfl); refine wp_load_row 28 _ rfl w1.heap.size ?hx 28 C (0, 0) _ HG1.out Try.underlying28 rfl ?hi ?_; (case hx => rfl); (case hi => rw [info16, HSC.out]); refine hK _ _ ?_; clear hK K))
  refine (HSh.out _).mono ?_
  rintro e w2 ⟨rfl, hb⟩
  have HG3 := Aside0.mk ((hb.block _ (blk_lt HG1.out)).trans HG1.out)
  have HN3 := Aside0.mk ((hb.block _ (blk_lt HN2.out)).trans HN2.out)
  have HB3 := Aside0.mk (below_step HB2.out hb)
  have HVW := Aside0.mk (blk_lt HG1.out)
  clear HB1 HB2 HG1 HN2 HN1 HM1 hb
  have HH3 := Aside0.mk (HH.out.below HB3.out)
  obtain ⟨vb, hgb⟩ := HH3.out.cells_
  rw [hn0] at hgb
  have hc1 := blk_cell hgb 1
  have hc2 := blk_cell hgb 2
  simp only [List.getElem?_toArray, List.getElem?_cons_zero, List.getElem?_cons_succ] at hc1 hc2
  clear hgb
  go_wp2_with fail
  refine start_ (n := 12) (S := fun w' => w'.cell? ⟨g, 2, none⟩ = some (.int .i64 m) ∧ w'.cell? ⟨g, 1, none⟩ = some (.int .i64 (n0 : Int))) (ds := []) #[false, false, false, false, false, false, false, false, false, false, false, false] (by kernel_rfl) rfl rfl ⟨hc2, hc1⟩ (fun hHeld => ?_)
  refine pure_ (i := 0) (N := some 23) (v := ?_) (a' := ?_) #[true, false, false, false, false, false, false, false, false, false, false, false] rfl rfl (by kernel_rfl) (fun _ _ _ h => h) (Or.inl ⟨by rfl, ?_⟩) ?_ ?_
  rotate_left
  · intro w'
    go_simp
    with_reducible rfl
  rotate_left
  · simp only [Act.put, List.setIfInBounds_toArray, List.set_cons_zero, List.set_cons_succ, i64_w, i32_w]
    rfl
  refine pure_ (i := 1) (N := some 24) (v := ?_) (a' := ?_) #[true, true, false, false, false, false, false, false, false, false, false, false] rfl rfl (by kernel_rfl) (fun _ _ _ h => h) (Or.inl ⟨by rfl, ?_⟩) ?_ ?_
  rotate_left
  · intro w'
    go_simp
    with_reducible rfl
  rotate_left
  · simp only [Act.put, List.setIfInBounds_toArray, List.set_cons_zero, List.set_cons_succ, i64_w, i32_w]
    rfl
  refine pure_ (i := 2) (N := some 25) (v := ?_) (a' := ?_) #[true, true, true, false, false, false, false, false, false, false, false, false] rfl rfl (by kernel_rfl) (fun _ _ _ h => h) (Or.inl ⟨by rfl, ?_⟩) ?_ ?_
  rotate_left
  · intro w'
    go_simp
    with_reducible rfl
  rotate_left
  · simp only [Act.put, List.setIfInBounds_toArray, List.set_cons_zero, List.set_cons_succ, i64_w, i32_w]
    rfl
  refine pure_ (i := 3) (N := some 26) (v := ?_) (a' := ?_) #[true, true, true, true, false, false, false, false, false, false, false, false] rfl rfl (by kernel_rfl) (fun _ _ _ h => h) (Or.inl ⟨by rfl, ?_⟩) ?_ ?_
  rotate_left
  · intro w'
    go_simp
    with_reducible rfl
  rotate_left
  · simp only [Act.put, List.setIfInBounds_toArray, List.set_cons_zero, List.set_cons_succ, i64_w, i32_w]
    rfl
  refine pure_ (i := 4) (N := some 27) (v := ?_) (a' := ?_) #[true, true, true, true, true, false, false, false, false, false, false, false] rfl rfl (by kernel_rfl) (fun _ _ _ h => h) (Or.inl ⟨by rfl, ?_⟩) ?_ ?_
  rotate_left
  · intro w'
    go_simp
    with_reducible rfl
  rotate_left
  · simp only [Act.put, List.setIfInBounds_toArray, List.set_cons_zero, List.set_cons_succ, i64_w, i32_w]
    rfl
  refine pure_ (i := 6) (N := some 29) (v := ?_) (a' := ?_) #[true, true, true, true, true, false, true, false, false, false, false, false] rfl rfl (by kernel_rfl) (fun _ _ _ h => h) (Or.inl ⟨by rfl, ?_⟩) ?_ ?_
  rotate_left
  · intro w'
    go_simp
    with_reducible rfl
  rotate_left
  · simp only [Act.put, List.setIfInBounds_toArray, List.set_cons_zero, List.set_cons_succ, i64_w, i32_w]
    rfl
  refine pure_ (i := 7) (N := some 30) (v := ?_) (a' := ?_) #[true, true, true, true, true, false, true, true, false, false, false, false] rfl rfl (by kernel_rfl) (fun _ _ _ h => h) (Or.inl ⟨by rfl, ?_⟩) ?_ ?_
  rotate_left
  · intro w'
    go_simp
    with_reducible rfl
  rotate_left
  · simp only [Act.put, List.setIfInBounds_toArray, List.set_cons_zero, List.set_cons_succ, i64_w, i32_w]
    rfl
  refine pure_ (i := 8) (N := some 31) (v := ?_) (a' := ?_) #[true, true, true, true, true, false, true, true, true, false, false, false] rfl rfl (by kernel_rfl) (fun _ _ _ h => h) (Or.inl ⟨by rfl, ?_⟩) ?_ ?_
  rotate_left
  · intro w'
    go_simp
    with_reducible rfl
  rotate_left
  · simp only [Act.put, List.setIfInBounds_toArray, List.set_cons_zero, List.set_cons_succ, i64_w, i32_w]
    rfl
  refine take_ (i := 5) (N := some 28) (v := ?_) (a' := ?_) #[true, true, true, true, true, true, true, true, true, false, false, false] rfl rfl (by kernel_rfl) (fun _ _ _ h => h) (Or.inl ⟨by rfl, ?_⟩) hHeld ?_ ?_
  rotate_left
  · rintro w' ⟨s0, s1⟩
    go_simp
    with_reducible rfl
  rotate_left
  · simp only [Act.put, List.setIfInBounds_toArray, List.set_cons_zero, List.set_cons_succ, i64_w, i32_w]
    rfl
  refine take_ (i := 9) (N := some 32) (v := ?_) (a' := ?_) #[true, true, true, true, true, true, true, true, true, true, false, false] rfl rfl (by kernel_rfl) (fun _ _ _ h => h) (Or.inl ⟨by rfl, ?_⟩) hHeld ?_ ?_
  rotate_left
  · rintro w' ⟨s0, s1⟩
    go_simp
    with_reducible rfl
  rotate_left
  · simp only [Act.put, List.setIfInBounds_toArray, List.set_cons_zero, List.set_cons_succ, i64_w, i32_w]
    rfl
  refine pure_ (i := 10) (N := some 33) (v := ?_) (a' := ?_) #[true, true, true, true, true, true, true, true, true, true, true, false] rfl rfl (by kernel_rfl) (fun _ _ _ h => h) (Or.inl ⟨by rfl, ?_⟩) ?_ ?_
  rotate_left
  · intro w'
    go_simp
    with_reducible rfl
  rotate_left
  · simp only [Act.put, List.setIfInBounds_toArray, List.set_cons_zero, List.set_cons_succ, i64_w, i32_w]
    rfl
  refine pure_ (i := 11) (N := some 34) (v := ?_) (a' := ?_) #[true, true, true, true, true, true, true, true, true, true, true, true] rfl rfl (by kernel_rfl) (fun _ _ _ h => h) (Or.inl ⟨by rfl, ?_⟩) ?_ ?_
  rotate_left
  · intro w'
    go_simp
    with_reducible rfl
  rotate_left
  · simp only [Act.put, List.setIfInBounds_toArray, List.set_cons_zero, List.set_cons_succ, i64_w, i32_w]
    rfl
  refine done_ (by kernel_rfl) ?_
  have HNd : Aside0 (w2.drew.heap[w.heap.size]? = some (.cells Z 28 (0, 0))) := ⟨HN3.out⟩
  go_wp2_with (first | ((with_reducible refine gate_dst (N := 35) rfl ?_); refine wpList_plain rfl (fun K hK => ?_); refine wp_build 28 #[] rfl Z ?hbu ?_; (case hbu => exact HBL.out); refine hK _ _ ?_; clear hK K) | ((with_reducible refine gate_store (t := 28) (p := 4) rfl ?_); refine wpList_store_row rfl 28 _ _ rfl w.heap.size Z (by rfl) (by rfl) 28 Z HNd.out (by rw [info16, HSZ.out]) (HSZ.out.trans HSZ.out.symm) H1Z.out ?_))
  (try simp only [Exit.inBlock, Exit.then])
  refine bodyPost_ret (results_ct (p := 4) (u := 5) rfl _ _ w.heap.size 28 Z (0, 0) _ ?hp (setRow_heap _ _ _ _ _ _ HNd.out) Try.underlying28 rfl (by rw [info16, HSZ.out])) ?hd ?_
  case hp => rfl
  case hd => rfl
  exact ⟨rfl, below_row (below_drew1 HB3.out) (Nat.le_refl _) _⟩
end Go.Proofs.Ytpbplflocdhahaa.HW
