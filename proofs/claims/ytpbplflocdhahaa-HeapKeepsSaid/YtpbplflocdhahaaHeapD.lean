/- The heap's Compare, Equal, Size, Bytes, over strings that it holds. -/
import Derived.Test.YtpbplflocdhahaaHeapC
set_option linter.unusedVariables false
set_option linter.unusedSimpArgs false
namespace Go.Proofs.Ytpbplflocdhahaa.HW
open Go.RowKit Go.Proofs.Ytpbplflocdhahaa.P Go.Proofs.Ytpbplflocdhahaa.HP Go.Proofs.YtpbplflocdhahaaW.PrintWords Go.Proofs.YtpbplflocdhahaaW.PrintLast Go.Proofs.YtpbplflocdhahaaW.PrintMore
attribute [local go_sem] max2_int min2_int max_two min_two max_three min_three max_four min_four
/-- A view of a string that a heap with these bytes holds. -/
def Holds (B : Option (List Int)) (a : List Int) (s : ByteArray) : Prop := VW a s ∧ s.size ≤ 4096 ∧ ((s.size ≤ 12 ∧ a = mkS s) ∨ (12 < s.size ∧ ∃ (b : List Int) (at_ : Nat), B = some b ∧ a = mkB s 0 (at_ : Int) ∧ at_ + s.size ≤ b.length ∧ at_ ≤ 65536 ∧ b.length ≤ 100000 ∧ (b.drop at_).take s.size = bytesOf s))
theorem vw_S (s : ByteArray) (h : s.size ≤ 12) : VW (mkS s) s := ⟨mkS_len s h, mkS_b s, mkS_r s h, mkS_n s h, mkS_p s h⟩
theorem vw_B (s : ByteArray) (at_ : Nat) (h : 12 < s.size) (h2 : s.size ≤ 4096) (h3 : at_ ≤ 65536) : VW (mkB s 0 (at_ : Int)) s := ⟨mkB_len s _ _ h, mkB_b s _ _, mkB_r s _ _ h h2 (by omega) (by omega) (by omega) (by omega), mkB_n s _ _ h2, mkB_p s _ _ h h2⟩
theorem holds_S (B : Option (List Int)) (s : ByteArray) (h : s.size ≤ 12) : Holds B (mkS s) s := ⟨vw_S s h, by omega, .inl ⟨h, rfl⟩⟩
theorem Holds.grow {b : List Int} {a : List Int} {s : ByteArray} {B : Option (List Int)} (h : Holds B a s) (hb : B.getD [] = b) (t : List Int) (ht : b.length + t.length ≤ 100000) : Holds (some (b ++ t)) a s := by
  obtain ⟨hv, h2, h3⟩ := h
  refine ⟨hv, h2, ?_⟩
  rcases h3 with h3 | ⟨h3, b', at_, rfl, he, hf, h65, hl, hd⟩
  · exact .inl h3
  · simp only [Option.getD_some] at hb
    subst hb
    refine .inr ⟨h3, _, at_, rfl, he, by rw [List.length_append]; omega, h65, by rw [List.length_append]; omega, ?_⟩
    rw [List.drop_append_of_le_length (by omega), List.take_append_of_le_length (by rw [List.length_drop]; omega), hd]
theorem Holds.inj {B : Option (List Int)} {a : List Int} {s t : ByteArray} (h1 : Holds B a s) (h2 : Holds B a t) : s = t := by
  have hn : (s.size : Int) = (t.size : Int) := h1.1.hn.symm.trans h2.1.hn
  have hn2 : s.size = t.size := by omega
  rcases h1.2.2 with ⟨hs, e1⟩ | ⟨hs, b, at_, e1, e2, _, h65, _, hd⟩
  · rcases h2.2.2 with ⟨ht, e2⟩ | ⟨ht, _⟩
    · have := mkS_inj s t hs ht
      rw [← e1, ← e2] at this
      simpa using this
    · omega
  · rcases h2.2.2 with ⟨ht, _⟩ | ⟨ht, b', at', e1', e2', _, h65', _, hd'⟩
    · omega
    · rw [e1] at e1'
      injection e1' with e1'
      subst e1'
      have hp := mkB_12 s 0 (at_ : Int) hs (by omega) (by omega)
      have hp' := mkB_12 t 0 (at' : Int) ht (by omega) (by omega)
      rw [← e2] at hp
      rw [← e2', hp] at hp'
      have hat : at_ = at' := by omega
      subst hat
      rw [hn2, hd'] at hd
      exact (bytes_inj hd).symm
theorem Hp.get {lo g : Nat} {B : Option (List Int)} {m : Int} (a : List Int) (s : ByteArray) (w : World) (h : Hp lo w g B m) (hh : Holds B a s) : Calls Try.prog 12 #[.pointer (some ⟨g, 0, none⟩), .agg (cel a)] w fun e w' => e = .returned (.tuple #[.string s, .bool true]) ∧ Below w.heap.size w w' := by
  rcases hh.2.2 with ⟨hs, he⟩ | ⟨hs, b, at_, rfl, he, hf, h65, hl, hd⟩
  · exact get_short g a s w hh.1 hs he
  · exact h.get_long a s at_ w hh.1 hs hh.2.1 (by rw [he]; exact mkB_8 s 0 _ hs (by omega) (by omega)) (by rw [he]; exact mkB_12 s 0 _ hs (by omega) (by omega)) hf hl hd
set_option maxHeartbeats 8000000 in
set_option maxRecDepth 100000 in
theorem Hp.compare_pre {lo g : Nat} {B : Option (List Int)} {m : Int} (a d : List Int) (s t : ByteArray) (w : World) (h : Hp lo w g B m) (ha : Holds B a s) (hd : Holds B d t) (hq : cs (preB s) (preB t) ≠ 0) : Calls Try.prog 16 #[.pointer (some ⟨g, 0, none⟩), .agg (cel a), .agg (cel d)] w fun e w' => e = .returned (.int .i64 (cs s t)) ∧ Below w.heap.size w w' := by
  have HGa := Aside0.mk (fun W (hW : Hp lo W g B m) => Hp.get a s W hW ha)
  have HGb := Aside0.mk (fun W (hW : Hp lo W g B m) => Hp.get d t W hW hd)
  have va := ha.1
  have vd := hd.1
  have HQ := Aside0.mk (fun W => quick_calls a d s t W va vd)
  have HH := Aside0.mk h
  obtain ⟨C, hC⟩ : ∃ C, C = cel a := ⟨_, rfl⟩
  obtain ⟨D, hD⟩ : ∃ D, D = cel d := ⟨_, rfl⟩
  have HSC : Aside0 (C.size = 16) := ⟨by rw [hC, cel_size, va.ha]⟩
  have HSD : Aside0 (D.size = 16) := ⟨by rw [hD, cel_size, vd.ha]⟩
  rw [← hC] at HGa HQ
  rw [← hD] at HGb HQ
  rw [← hC, ← hD]
  obtain ⟨q, hqe⟩ : ∃ q, q = cs (preB s) (preB t) := ⟨_, rfl⟩
  rw [← hqe] at HQ hq
  have HQE := Aside0.mk hqe
  have HCS := Aside0.mk (cs_pre s t)
  have t1 : (q == 0) = false := by simpa using hq
  have t2 : (q != 0) = true := by simpa using hq
  have t3 : decide (q = 0) = false := decide_eq_false hq
  have HNQ := Aside0.mk hq
  clear hC hD va vd ha hd h hqe hq
  have HC1 : Aside0 (((w.alloc (.cells C 28)).alloc (.cells D 28)).heap[w.heap.size]? = some (.cells C 28 (0, 0))) := ⟨((below_alloc (Below.refl _ (w.alloc (.cells C 28))) (.cells D 28)).block _ (blk_lt (blk_new w _))).trans (blk_new w _)⟩
  have HD1 : Aside0 (((w.alloc (.cells C 28)).alloc (.cells D 28)).heap[w.heap.size + 1]? = some (.cells D 28 (0, 0))) := ⟨by have h0 := blk_new (w.alloc (.cells C 28)) (.cells D 28); rwa [show (w.alloc (.cells C 28)).heap.size = w.heap.size + 1 by simp] at h0⟩
  have HB1 : Aside0 (Below w.heap.size w ((w.alloc (.cells C 28)).alloc (.cells D 28))) := ⟨below_alloc (below_alloc (Below.refl _ w) _) _⟩
  go_enter Try.func16, Try.ntmps16
  go_wp2_with (first | ((with_reducible refine gate_dst (N := 14) rfl ?_); refine wpList_load_row rfl 28 _ rfl w.heap.size (by rfl) 28 C (0, 0) _ HC1.out Try.underlying28 rfl (by rw [info16, HSC.out]) ?_))
  refine (HGa.out _ (HH.out.below HB1.out)).mono ?_
  rintro e w2 ⟨rfl, hb⟩
  have HC2 := Aside0.mk ((hb.block _ (blk_lt HC1.out)).trans HC1.out)
  have HD2 := Aside0.mk ((hb.block _ (blk_lt HD1.out)).trans HD1.out)
  have HB2 := Aside0.mk (below_step HB1.out hb)
  clear hb
  go_wp2_with (first | ((with_reducible refine gate_dst (N := 20) rfl ?_); refine wpList_load_row rfl 28 _ rfl (w.heap.size + 1) (by rfl) 28 D (0, 0) _ HD2.out Try.underlying28 rfl (by rw [info16, HSD.out]) ?_))
  refine (HGb.out _ (HH.out.below HB2.out)).mono ?_
  rintro e w3 ⟨rfl, hb⟩
  have HC3 := Aside0.mk ((hb.block _ (blk_lt HC2.out)).trans HC2.out)
  have HD3 := Aside0.mk ((hb.block _ (blk_lt HD2.out)).trans HD2.out)
  have HB3 := Aside0.mk (below_step HB2.out hb)
  clear hb
  go_wp2_with (first | ((with_reducible refine gate_dst (N := 28) rfl ?_); refine wpList_load_row rfl 28 _ rfl w.heap.size (by rfl) 28 C (0, 0) _ HC3.out Try.underlying28 rfl (by rw [info16, HSC.out]) ?_) | ((with_reducible refine gate_dst (N := 29) rfl ?_); refine wpList_load_row rfl 28 _ rfl (w.heap.size + 1) (by rfl) 28 D (0, 0) _ HD3.out Try.underlying28 rfl (by rw [info16, HSD.out]) ?_))
  refine (HQ.out _).mono ?_
  rintro e w4 ⟨rfl, hb⟩
  have HC4 := Aside0.mk ((hb.block _ (blk_lt HC3.out)).trans HC3.out)
  have HD4 := Aside0.mk ((hb.block _ (blk_lt HD3.out)).trans HD3.out)
  have HB4 := Aside0.mk (below_step HB3.out hb)
  clear hb
  go_wp2_with fail
  go_ret
  refine ⟨?_, HB4.out⟩
  have e := HCS.out (by rw [← HQE.out]; exact HNQ.out)
  rw [e, ← HQE.out]
  rfl
set_option maxHeartbeats 8000000 in
set_option maxRecDepth 100000 in
theorem Hp.compare_all {lo g : Nat} {B : Option (List Int)} {m : Int} (a d : List Int) (s t : ByteArray) (w : World) (h : Hp lo w g B m) (ha : Holds B a s) (hd : Holds B d t) (hq : cs (preB s) (preB t) = 0) : Calls Try.prog 16 #[.pointer (some ⟨g, 0, none⟩), .agg (cel a), .agg (cel d)] w fun e w' => e = .returned (.int .i64 (cs s t)) ∧ Below w.heap.size w w' := by
  have HGa := Aside0.mk (fun W (hW : Hp lo W g B m) => Hp.get a s W hW ha)
  have HGb := Aside0.mk (fun W (hW : Hp lo W g B m) => Hp.get d t W hW hd)
  have va := ha.1
  have vd := hd.1
  have HQ := Aside0.mk (fun W => quick_calls a d s t W va vd)
  have HH := Aside0.mk h
  obtain ⟨C, hC⟩ : ∃ C, C = cel a := ⟨_, rfl⟩
  obtain ⟨D, hD⟩ : ∃ D, D = cel d := ⟨_, rfl⟩
  have HSC : Aside0 (C.size = 16) := ⟨by rw [hC, cel_size, va.ha]⟩
  have HSD : Aside0 (D.size = 16) := ⟨by rw [hD, cel_size, vd.ha]⟩
  rw [← hC] at HGa HQ
  rw [← hD] at HGb HQ
  rw [← hC, ← hD]
  obtain ⟨q, hqe⟩ : ∃ q, q = cs (preB s) (preB t) := ⟨_, rfl⟩
  rw [← hqe] at HQ hq
  have HQE := Aside0.mk hqe
  have HCS := Aside0.mk (cs_pre s t)
  subst hq
  clear hC hD va vd ha hd h hqe
  have HC1 : Aside0 (((w.alloc (.cells C 28)).alloc (.cells D 28)).heap[w.heap.size]? = some (.cells C 28 (0, 0))) := ⟨((below_alloc (Below.refl _ (w.alloc (.cells C 28))) (.cells D 28)).block _ (blk_lt (blk_new w _))).trans (blk_new w _)⟩
  have HD1 : Aside0 (((w.alloc (.cells C 28)).alloc (.cells D 28)).heap[w.heap.size + 1]? = some (.cells D 28 (0, 0))) := ⟨by have h0 := blk_new (w.alloc (.cells C 28)) (.cells D 28); rwa [show (w.alloc (.cells C 28)).heap.size = w.heap.size + 1 by simp] at h0⟩
  have HB1 : Aside0 (Below w.heap.size w ((w.alloc (.cells C 28)).alloc (.cells D 28))) := ⟨below_alloc (below_alloc (Below.refl _ w) _) _⟩
  go_enter Try.func16, Try.ntmps16
  go_wp2_with (first | ((with_reducible refine gate_dst (N := 14) rfl ?_); refine wpList_load_row rfl 28 _ rfl w.heap.size (by rfl) 28 C (0, 0) _ HC1.out Try.underlying28 rfl (by rw [info16, HSC.out]) ?_))
  refine (HGa.out _ (HH.out.below HB1.out)).mono ?_
  rintro e w2 ⟨rfl, hb⟩
  have HC2 := Aside0.mk ((hb.block _ (blk_lt HC1.out)).trans HC1.out)
  have HD2 := Aside0.mk ((hb.block _ (blk_lt HD1.out)).trans HD1.out)
  have HB2 := Aside0.mk (below_step HB1.out hb)
  clear hb
  go_wp2_with (first | ((with_reducible refine gate_dst (N := 20) rfl ?_); refine wpList_load_row rfl 28 _ rfl (w.heap.size + 1) (by rfl) 28 D (0, 0) _ HD2.out Try.underlying28 rfl (by rw [info16, HSD.out]) ?_))
  refine (HGb.out _ (HH.out.below HB2.out)).mono ?_
  rintro e w3 ⟨rfl, hb⟩
  have HC3 := Aside0.mk ((hb.block _ (blk_lt HC2.out)).trans HC2.out)
  have HD3 := Aside0.mk ((hb.block _ (blk_lt HD2.out)).trans HD2.out)
  have HB3 := Aside0.mk (below_step HB2.out hb)
  clear hb
  go_wp2_with (first | ((with_reducible refine gate_dst (N := 28) rfl ?_); refine wpList_load_row rfl 28 _ rfl w.heap.size (by rfl) 28 C (0, 0) _ HC3.out Try.underlying28 rfl (by rw [info16, HSC.out]) ?_) | ((with_reducible refine gate_dst (N := 29) rfl ?_); refine wpList_load_row rfl 28 _ rfl (w.heap.size + 1) (by rfl) 28 D (0, 0) _ HD3.out Try.underlying28 rfl (by rw [info16, HSD.out]) ?_))
  refine (HQ.out _).mono ?_
  rintro e w4 ⟨rfl, hb⟩
  have HC4 := Aside0.mk ((hb.block _ (blk_lt HC3.out)).trans HC3.out)
  have HD4 := Aside0.mk ((hb.block _ (blk_lt HD3.out)).trans HD3.out)
  have HB4 := Aside0.mk (below_step HB3.out hb)
  clear hb
  go_wp2_with fail
  refine (cmp_Compare_string.calls s t _ _ (cmp_f s t)).mono ?_
  rintro e w5 ⟨rfl, n5, rfl⟩
  go_wp2_with fail
  go_ret
  exact ⟨rfl, pw_below_drewN HB4.out n5⟩
theorem Hp.compare {lo g : Nat} {B : Option (List Int)} {m : Int} (a d : List Int) (s t : ByteArray) (w : World) (h : Hp lo w g B m) (ha : Holds B a s) (hd : Holds B d t) : Calls Try.prog 16 #[.pointer (some ⟨g, 0, none⟩), .agg (cel a), .agg (cel d)] w fun e w' => e = .returned (.int .i64 (cs s t)) ∧ Below w.heap.size w w' := by
  by_cases hq : cs (preB s) (preB t) = 0
  · exact h.compare_all a d s t w ha hd hq
  · exact h.compare_pre a d s t w ha hd hq
set_option maxHeartbeats 8000000 in
set_option maxRecDepth 100000 in
theorem Hp.equal_same {lo g : Nat} {B : Option (List Int)} {m : Int} (a d : List Int) (s t : ByteArray) (w : World) (h : Hp lo w g B m) (ha : Holds B a s) (hd : Holds B d t) (hq : a = d) : Calls Try.prog 18 #[.pointer (some ⟨g, 0, none⟩), .agg (cel a), .agg (cel d)] w fun e w' => e = .returned (.bool (decide (s = t))) ∧ Below w.heap.size w w' := by
  have va := ha.1
  have vd := hd.1
  have HRt := Aside0.mk (fun w => view_Right.calls a w va.ha va.hb)
  rw [va.hr] at HRt
  have HCm := Aside0.mk (fun W (hW : Hp lo W g B m) => Hp.compare a d s t W hW ha hd)
  have HEQ := Aside0.mk (eq16 a d va.ha vd.ha)
  have hgd := guard16
  have HH := Aside0.mk h
  rw [decide_eq_true hq] at HEQ
  have hst : s = t := ha.inj (by rw [hq]; exact hd)
  rw [decide_eq_true hst]
  obtain ⟨C, hC⟩ : ∃ C, C = cel a := ⟨_, rfl⟩
  obtain ⟨D, hD⟩ : ∃ D, D = cel d := ⟨_, rfl⟩
  have HSC : Aside0 (C.size = 16) := ⟨by rw [hC, cel_size, va.ha]⟩
  have HSD : Aside0 (D.size = 16) := ⟨by rw [hD, cel_size, vd.ha]⟩
  rw [← hC] at HRt HCm HEQ
  rw [← hD] at HCm HEQ
  rw [← hC, ← hD]
  have heq := fun W => HEQ.out W
  clear hC hD va vd ha hd h hq hst
  have HC1 : Aside0 (((w.alloc (.cells C 28)).alloc (.cells D 28)).heap[w.heap.size]? = some (.cells C 28 (0, 0))) := ⟨((below_alloc (Below.refl _ (w.alloc (.cells C 28))) (.cells D 28)).block _ (blk_lt (blk_new w _))).trans (blk_new w _)⟩
  have HD1 : Aside0 (((w.alloc (.cells C 28)).alloc (.cells D 28)).heap[w.heap.size + 1]? = some (.cells D 28 (0, 0))) := ⟨by have h0 := blk_new (w.alloc (.cells C 28)) (.cells D 28); rwa [show (w.alloc (.cells C 28)).heap.size = w.heap.size + 1 by simp] at h0⟩
  have HB1 : Aside0 (Below w.heap.size w ((w.alloc (.cells C 28)).alloc (.cells D 28))) := ⟨below_alloc (below_alloc (Below.refl _ w) _) _⟩
  go_enter Try.func18, Try.ntmps18
  go_wp2_with (first | ((with_reducible refine gate_dst (N := 7) rfl ?_); refine wpList_load_row rfl 28 _ rfl w.heap.size (by rfl) 28 C (0, 0) _ HC1.out Try.underlying28 rfl (by rw [info16, HSC.out]) ?_))
  refine (HRt.out _).mono ?_
  rintro e w2 ⟨rfl, hb⟩
  have HC2 := Aside0.mk ((hb.block _ (blk_lt HC1.out)).trans HC1.out)
  have HD2 := Aside0.mk ((hb.block _ (blk_lt HD1.out)).trans HD1.out)
  have HB2 := Aside0.mk (below_step HB1.out hb)
  clear hb
  go_wp2_with (first | ((with_reducible refine gate_dst (N := 10) rfl ?_); refine Go.BigFrame.wpList_want ?hw (fun K hK => ?_); (case hw => rfl); refine wp_load_row 28 _ rfl w.heap.size ?hx 28 C (0, 0) _ HC2.out Try.underlying28 rfl ?hi ?_; (case hx => rfl); (case hi => rw [info16, HSC.out]); refine hK _ _ ?_; clear hK K) | ((with_reducible refine gate_dst (N := 11) rfl ?_); refine Go.BigFrame.wpList_want ?hw (fun K hK => ?_); (case hw => rfl); refine wp_load_row 28 _ rfl (w.heap.size + 1) ?hx 28 D (0, 0) _ HD2.out Try.underlying28 rfl ?hi ?_; (case hx => rfl); (case hi => rw [info16, HSD.out]); refine hK _ _ ?_; clear hK K) | ((with_reducible refine gate_dst (N := 15) rfl ?_); refine wpList_load_row rfl 28 _ rfl w.heap.size (by rfl) 28 C (0, 0) _ HC2.out Try.underlying28 rfl (by rw [info16, HSC.out]) ?_) | ((with_reducible refine gate_dst (N := 16) rfl ?_); refine wpList_load_row rfl 28 _ rfl (w.heap.size + 1) (by rfl) 28 D (0, 0) _ HD2.out Try.underlying28 rfl (by rw [info16, HSD.out]) ?_))
  go_ret
  exact ⟨rfl, HB2.out⟩
set_option maxHeartbeats 8000000 in
set_option maxRecDepth 100000 in
theorem Hp.equal_other {lo g : Nat} {B : Option (List Int)} {m : Int} (a d : List Int) (s t : ByteArray) (w : World) (h : Hp lo w g B m) (ha : Holds B a s) (hd : Holds B d t) (hq : a ≠ d) : Calls Try.prog 18 #[.pointer (some ⟨g, 0, none⟩), .agg (cel a), .agg (cel d)] w fun e w' => e = .returned (.bool (decide (s = t))) ∧ Below w.heap.size w w' := by
  have va := ha.1
  have vd := hd.1
  have HRt := Aside0.mk (fun w => view_Right.calls a w va.ha va.hb)
  rw [va.hr] at HRt
  have HCm := Aside0.mk (fun W (hW : Hp lo W g B m) => Hp.compare a d s t W hW ha hd)
  have HEQ := Aside0.mk (eq16 a d va.ha vd.ha)
  have hgd := guard16
  have HH := Aside0.mk h
  rw [decide_eq_false hq] at HEQ
  have HZ := Aside0.mk (cs_zero s t)
  obtain ⟨C, hC⟩ : ∃ C, C = cel a := ⟨_, rfl⟩
  obtain ⟨D, hD⟩ : ∃ D, D = cel d := ⟨_, rfl⟩
  have HSC : Aside0 (C.size = 16) := ⟨by rw [hC, cel_size, va.ha]⟩
  have HSD : Aside0 (D.size = 16) := ⟨by rw [hD, cel_size, vd.ha]⟩
  rw [← hC] at HRt HCm HEQ
  rw [← hD] at HCm HEQ
  rw [← hC, ← hD]
  have heq := fun W => HEQ.out W
  clear hC hD va vd ha hd h hq
  have HC1 : Aside0 (((w.alloc (.cells C 28)).alloc (.cells D 28)).heap[w.heap.size]? = some (.cells C 28 (0, 0))) := ⟨((below_alloc (Below.refl _ (w.alloc (.cells C 28))) (.cells D 28)).block _ (blk_lt (blk_new w _))).trans (blk_new w _)⟩
  have HD1 : Aside0 (((w.alloc (.cells C 28)).alloc (.cells D 28)).heap[w.heap.size + 1]? = some (.cells D 28 (0, 0))) := ⟨by have h0 := blk_new (w.alloc (.cells C 28)) (.cells D 28); rwa [show (w.alloc (.cells C 28)).heap.size = w.heap.size + 1 by simp] at h0⟩
  have HB1 : Aside0 (Below w.heap.size w ((w.alloc (.cells C 28)).alloc (.cells D 28))) := ⟨below_alloc (below_alloc (Below.refl _ w) _) _⟩
  go_enter Try.func18, Try.ntmps18
  go_wp2_with (first | ((with_reducible refine gate_dst (N := 7) rfl ?_); refine wpList_load_row rfl 28 _ rfl w.heap.size (by rfl) 28 C (0, 0) _ HC1.out Try.underlying28 rfl (by rw [info16, HSC.out]) ?_))
  refine (HRt.out _).mono ?_
  rintro e w2 ⟨rfl, hb⟩
  have HC2 := Aside0.mk ((hb.block _ (blk_lt HC1.out)).trans HC1.out)
  have HD2 := Aside0.mk ((hb.block _ (blk_lt HD1.out)).trans HD1.out)
  have HB2 := Aside0.mk (below_step HB1.out hb)
  clear hb
  go_wp2_with (first | ((with_reducible refine gate_dst (N := 10) rfl ?_); refine Go.BigFrame.wpList_want ?hw (fun K hK => ?_); (case hw => rfl); refine wp_load_row 28 _ rfl w.heap.size ?hx 28 C (0, 0) _ HC2.out Try.underlying28 rfl ?hi ?_; (case hx => rfl); (case hi => rw [info16, HSC.out]); refine hK _ _ ?_; clear hK K) | ((with_reducible refine gate_dst (N := 11) rfl ?_); refine Go.BigFrame.wpList_want ?hw (fun K hK => ?_); (case hw => rfl); refine wp_load_row 28 _ rfl (w.heap.size + 1) ?hx 28 D (0, 0) _ HD2.out Try.underlying28 rfl ?hi ?_; (case hx => rfl); (case hi => rw [info16, HSD.out]); refine hK _ _ ?_; clear hK K) | ((with_reducible refine gate_dst (N := 15) rfl ?_); refine wpList_load_row rfl 28 _ rfl w.heap.size (by rfl) 28 C (0, 0) _ HC2.out Try.underlying28 rfl (by rw [info16, HSC.out]) ?_) | ((with_reducible refine gate_dst (N := 16) rfl ?_); refine wpList_load_row rfl 28 _ rfl (w.heap.size + 1) (by rfl) 28 D (0, 0) _ HD2.out Try.underlying28 rfl (by rw [info16, HSD.out]) ?_))
  refine (HCm.out _ (HH.out.below HB2.out)).mono ?_
  rintro e w3 ⟨rfl, hb⟩
  have HC3 := Aside0.mk ((hb.block _ (blk_lt HC2.out)).trans HC2.out)
  have HD3 := Aside0.mk ((hb.block _ (blk_lt HD2.out)).trans HD2.out)
  have HB3 := Aside0.mk (below_step HB2.out hb)
  clear hb
  obtain ⟨q, hqe⟩ : ∃ q : Int, q = cs s t := ⟨_, rfl⟩
  rw [← hqe] at HZ ⊢
  clear hqe
  go_wp2_with fail
  go_ret
  refine ⟨?_, HB3.out⟩
  have hz := HZ.out
  by_cases h : s = t
  · rw [decide_eq_true h, hz.2 h]; rfl
  · have hqn : ¬ q = 0 := fun e => h (hz.1 e)
    rw [decide_eq_false h]
    congr 1
    simp [hqn]
theorem Hp.equal {lo g : Nat} {B : Option (List Int)} {m : Int} (a d : List Int) (s t : ByteArray) (w : World) (h : Hp lo w g B m) (ha : Holds B a s) (hd : Holds B d t) : Calls Try.prog 18 #[.pointer (some ⟨g, 0, none⟩), .agg (cel a), .agg (cel d)] w fun e w' => e = .returned (.bool (decide (s = t))) ∧ Below w.heap.size w w' := by
  by_cases hq : a = d
  · exact h.equal_same a d s t w ha hd hq
  · exact h.equal_other a d s t w ha hd hq
set_option maxHeartbeats 8000000 in
set_option maxRecDepth 100000 in
theorem Hp.size {lo g : Nat} {B : Option (List Int)} {m : Int} (w : World) (h : Hp lo w g B m) : Calls Try.prog 14 #[.pointer (some ⟨g, 0, none⟩)] w fun e w' => e = .returned (.int .i64 ((B.getD []).length : Int)) ∧ Below w.heap.size w w' := by
  obtain ⟨vb, hgb⟩ := h.cells_
  obtain ⟨n0, hn0⟩ : ∃ n, (B.getD []).length = n := ⟨_, rfl⟩
  rw [hn0] at hgb ⊢
  have hc1 := blk_cell hgb 1
  simp only [List.getElem?_toArray, List.getElem?_cons_zero, List.getElem?_cons_succ] at hc1
  have HB := Aside0.mk (Below.refl w.heap.size w)
  clear h hgb hn0
  go_enter Try.func14, Try.ntmps14
  go_wp2_with fail
  go_ret
  exact ⟨rfl, by repeat (first | exact HB.out | apply below_alloc | apply pw_below_drewN | apply below_drew1)⟩
set_option maxHeartbeats 8000000 in
set_option maxRecDepth 100000 in
theorem Join1 (gb cb : Nat) (A : Option Addr) (c : Nat) (b : List Int) (w : World) (hx0 : w.cell? ⟨gb, 0, none⟩ = some (.slice A b.length c)) (hr : Kd.C (Kd.int .u8) w A b.length b) (hbl : b.length ≤ 100000) : Calls Try.prog 29 #[.slice (some ⟨gb, 0, none⟩) 1 cb, .slice none 0 0] w fun e w' => ∃ (A' : Option Addr) (c' : Nat), e = .returned (.slice A' b.length c') ∧ b.length ≤ c' ∧ Kd.C (Kd.int .u8) w' A' b.length b ∧ Below w.heap.size w w' := by
  have HB := Aside0.mk (Below.refl w.heap.size w)
  have HR := Aside0.mk hr
  have HBL := Aside0.mk hbl
  clear hr hbl
  go_enter Try.func29, Try.ntmps29
  go_wp2_with (first | ((with_reducible refine gate_builtin (b := .append) (xs := #[.const (.slice none 0 0), .tmp 21]) rfl ?_); at_builtin; refine Kd.R_append_rows (Kd.int .u8) (w0 := w) w.heap.size rfl (.const (.slice none 0 0)) (.tmp 21) 36 5 (.int .u8 0) 1 rfl Try.underlying36 info8 rfl (by decide) (by omega) (.slice none 0 0) [] b _ _ _ (fun _ => True) (fun _ => False) rfl rfl ?aO ?aR (fun _ _ h => h) (fun _ h => h.elim) ?aF ?aB ?aS ?aL ?_; (case aR => exact HR.out); (case aB => exact HB.out); (case aF => exact (fun _ _ => trivial)); (case aO => exact Kd.R_nil _ _ _ _ _); (case aS => exact (below_size HB.out)); (case aL => have := HBL.out; simp; omega); intro v6 w6 ho hb hg hat; have HB6 := Aside0.mk hb; have HO6 := Aside0.mk ho; clear ho hb hg hat))
  go_ret
  obtain ⟨A6, c6, hv, hl, hr⟩ := Kd.R_reads HO6.out
  rw [List.nil_append] at hv hl hr
  subst hv
  exact ⟨A6, c6, rfl, hl, hr, HB6.out⟩
set_option maxHeartbeats 8000000 in
set_option maxRecDepth 100000 in
theorem Hp.bytes {lo g : Nat} {b : List Int} {m : Int} (w : World) (h : Hp lo w g (some b) m) (hbl : b.length ≤ 100000) : Calls Try.prog 15 #[.pointer (some ⟨g, 0, none⟩)] w fun e w' => ∃ (A' : Option Addr) (c' : Nat), e = .returned (.slice A' b.length c') ∧ b.length ≤ c' ∧ Kd.C (Kd.int .u8) w' A' b.length b ∧ Below w.heap.size w w' := by
  obtain ⟨gb, cb, A, c, hg, hcb, hx0, hxf, hcl, hr, h1, h2, hne⟩ := h.parts
  have hc0 := blk_cell hg 0
  simp only [List.getElem?_toArray, List.getElem?_cons_zero, List.getElem?_cons_succ] at hc0
  have HJ := Aside0.mk (Join1 gb cb A c b w hx0 hr hbl)
  clear h hg hcb hx0 hxf hcl hr h1 h2 hne hbl
  go_enter Try.func15, Try.ntmps15
  go_wp2_with fail
  refine HJ.out.mono ?_
  rintro e w1 ⟨A9, c9, rfl, hl, hr, hb⟩
  obtain ⟨q, hq⟩ : ∃ q, q = b.length := ⟨_, rfl⟩
  have HQ := Aside0.mk hq
  rw [← hq] at hl hr ⊢
  clear hq
  go_wp2_with fail
  go_ret
  rw [← HQ.out]
  exact ⟨A9, c9, rfl, hl, hr, hb⟩
end Go.Proofs.Ytpbplflocdhahaa.HW
