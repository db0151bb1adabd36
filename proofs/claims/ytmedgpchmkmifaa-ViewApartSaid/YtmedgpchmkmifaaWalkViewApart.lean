/- ViewApart: the law, walked. -/
import Derived.Test.YtmedgpchmkmifaaViewE
import Derived.Test.YtmedgpchmkmifaaHMk
import Derived.BigFrame
set_option linter.unusedVariables false
set_option linter.unusedSimpArgs false
namespace Go.Proofs.Ytmedgpchmkmifaa.HW
open Go.RowKit Go.Proofs.Ytmedgpchmkmifaa.P Go.Proofs.Ytmedgpchmkmifaa.HP Go.Proofs.YtmedgpchmkmifaaW.PrintWords Go.Proofs.YtmedgpchmkmifaaW.PrintLast Go.Proofs.YtmedgpchmkmifaaW.PrintMore
attribute [local go_sem] max2_int min2_int max_two min_two max_three min_three max_four min_four
/-- What Make lays of a text that may be. -/
def mkV (s : ByteArray) (buf at_ : Int) : List Int := if s.size ≤ 12 then mkS s else mkB s buf at_
section
variable (s : ByteArray) (buf at_ : Int) (h2 : s.size ≤ 4096) (h0 : 0 ≤ buf) (h1 : buf ≤ 65535) (h3 : 0 ≤ at_) (h4 : at_ ≤ 65536)
include h2 h0 h1 h3 h4
theorem mkV_calls (w : World) : Calls Try.prog 12 #[.string s, .int .i64 buf, .int .i64 at_] w fun e w' => e = .returned (.tuple #[.agg (cel (mkV s buf at_)), .int .i64 0]) ∧ Below w.heap.size w w' := by
  unfold mkV
  by_cases h : s.size ≤ 12
  · rw [if_pos h, ← mkS_e s h]; exact view_Make.short s buf at_ w h
  · rw [if_neg h, ← mkB_e s buf at_ (by omega)]
    exact view_Make.long s buf at_ w (by omega) h2 (by unfold placedB; exact decide_eq_true ⟨h0, h1, h3, h4⟩)
theorem mkV_r : rightB (mkV s buf at_) = true := by
  unfold mkV
  by_cases h : s.size ≤ 12
  · rw [if_pos h]; exact mkS_r s h
  · rw [if_neg h]; exact mkB_r s buf at_ (by omega) h2 h0 h1 h3 h4
end
theorem mkV_len (s : ByteArray) (buf at_ : Int) : (mkV s buf at_).length = 16 := by
  unfold mkV
  by_cases h : s.size ≤ 12
  · rw [if_pos h]; exact mkS_len s h
  · rw [if_neg h]; exact mkB_len s buf at_ (by omega)
theorem mkV_b (s : ByteArray) (buf at_ : Int) : isB (mkV s buf at_) := by
  unfold mkV
  by_cases h : s.size ≤ 12
  · rw [if_pos h]; exact mkS_b s
  · rw [if_neg h]; exact mkB_b s buf at_
theorem mkV_n (s : ByteArray) (buf at_ : Int) (h2 : s.size ≤ 4096) : le4v (mkV s buf at_) = s.size := by
  unfold mkV
  by_cases h : s.size ≤ 12
  · rw [if_pos h]; exact mkS_n s h
  · rw [if_neg h]; exact mkB_n s buf at_ h2
theorem mkV_p (s : ByteArray) (buf at_ : Int) (h2 : s.size ≤ 4096) : strOfNums (((mkV s buf at_).drop 4).take (if le4v (mkV s buf at_) < 4 then (le4v (mkV s buf at_)).toNat else 4)) = preB s := by
  unfold mkV
  by_cases h : s.size ≤ 12
  · rw [if_pos h]; exact mkS_p s h
  · rw [if_neg h]; exact mkB_p s buf at_ (by omega) h2
theorem str_eq (a b : ByteArray) : (a.toList == b.toList) = decide (a = b) := by
  by_cases h : a = b
  · subst h; simp
  · rw [decide_eq_false h]
    refine beq_eq_false_iff_ne.2 (fun e => h ?_)
    rw [ByteArray.toList_eq, ByteArray.toList_eq] at e
    obtain ⟨⟨x⟩⟩ := a
    obtain ⟨⟨y⟩⟩ := b
    simp only at e
    rw [e]
theorem str_eq2 (a b : ByteArray) : (a == b) = decide (a = b) := by rw [beq_toListBytes, str_eq]
theorem preB_all (s : ByteArray) (h : s.size < 4) : preB s = s := by
  unfold preB
  rw [List.take_of_length_le (by rw [bytes_len]; omega), str_b]
theorem preB_ext (s : ByteArray) : s.extract 0 (preB s).size = preB s := by
  have e : bytesOf (s.extract 0 (preB s).size) = bytesOf (preB s) := by
    unfold preB
    rw [bytes_str _ (isB_take (bytes_b s) 4), str_size, List.length_take, bytes_len]
    simp [bytesOf, List.map_take]
  exact bytes_inj e
set_option maxHeartbeats 8000000 in
set_option maxRecDepth 100000 in
theorem ViewApart (a0 : ByteArray) (a1 : ByteArray) (a2 : Int) (a3 : Int) (w : World) (w0 : a0.size ≤ 140737488351232) (w1 : a1.size ≤ 140737488351232) (w2 : (Lit.int .u16 a2).wf = true) (w3 : (Lit.int .u16 a3).wf = true) :
    Calls Try.prog 5 #[.string a0, .string a1, .int .u16 a2, .int .u16 a3] w fun e w' => e = .returned (.bool true) ∧ Below w.heap.size w w' := by
  have b2 : 0 ≤ a2 ∧ a2 < 65536 := by simp [Lit.wf, IntKind.min, IntKind.max, IntKind.signed, IntKind.bits] at w2; omega
  have b3 : 0 ≤ a3 ∧ a3 < 65536 := by simp [Lit.wf, IntKind.min, IntKind.max, IntKind.signed, IntKind.bits] at w3; omega
  have HB := Aside0.mk (Below.refl w.heap.size w)
  clear w0 w1 w2 w3
  by_cases h5 : (a0.size : Int) > 4096
  · have t5 : decide (4096 < (a0.size : Int)) = true := decide_eq_true h5
    have t5b : decide (4096 < a0.size) = true := decide_eq_true (by omega)
    clear h5
    go_enter Try.func5, Try.ntmps5
    go_wp2_with fail
    refine (law6_awake _).mono ?_
    rintro e w1 ⟨rfl, hb⟩
    have HB1 := Aside0.mk (below_step HB.out hb)
    clear HB hb
    go_wp2_with fail
    refine (law6_awake _).mono ?_
    rintro e w2 ⟨rfl, hb⟩
    have HB2 := Aside0.mk (below_step HB1.out hb)
    clear HB1 hb
    go_wp2_with fail
    go_ret
    exact ⟨rfl, HB2.out⟩
  have t5 : decide (4096 < (a0.size : Int)) = false := decide_eq_false h5
  have t5b : decide (4096 < a0.size) = false := decide_eq_false (by omega)
  by_cases h6 : (a1.size : Int) > 4096
  · have t6 : decide (4096 < (a1.size : Int)) = true := decide_eq_true h6
    have t6b : decide (4096 < a1.size) = true := decide_eq_true (by omega)
    clear h5 h6
    go_enter Try.func5, Try.ntmps5
    go_wp2_with fail
    refine (law6_awake _).mono ?_
    rintro e w1 ⟨rfl, hb⟩
    have HB1 := Aside0.mk (below_step HB.out hb)
    clear HB hb
    go_wp2_with fail
    refine (law6_awake _).mono ?_
    rintro e w2 ⟨rfl, hb⟩
    have HB2 := Aside0.mk (below_step HB1.out hb)
    clear HB1 hb
    go_wp2_with fail
    go_ret
    exact ⟨rfl, HB2.out⟩
  have t6 : decide (4096 < (a1.size : Int)) = false := decide_eq_false h6
  have t6b : decide (4096 < a1.size) = false := decide_eq_false (by omega)
  have hsa : a0.size ≤ 4096 := by omega
  have hsb : a1.size ≤ 4096 := by omega
  have hz := zero16
  obtain ⟨Z, hZ⟩ : ∃ Z, Z = cel z16 := ⟨_, rfl⟩
  rw [← hZ] at hz
  have HSZ : Aside0 (Z.size = 16) := ⟨by rw [hZ]; rfl⟩
  have hgd := guard16
  have HMa := Aside0.mk (mkV_calls a0 a2 a3 hsa b2.1 (by omega) b3.1 (by omega))
  have HMb := Aside0.mk (mkV_calls a1 a2 a3 hsb b2.1 (by omega) b3.1 (by omega))
  have HRa := Aside0.mk (fun w => view_Right.calls (mkV a0 a2 a3) w (mkV_len _ _ _) (mkV_b _ _ _))
  have HRb := Aside0.mk (fun w => view_Right.calls (mkV a1 a2 a3) w (mkV_len _ _ _) (mkV_b _ _ _))
  have HLa := Aside0.mk (fun w => view_Len.calls (mkV a0 a2 a3) w (mkV_len _ _ _) (mkV_b _ _ _))
  have HTa := Aside0.mk (fun w => view_Text.calls (mkV a0 a2 a3) w (mkV_len _ _ _) (mkV_b _ _ _))
  have HPa := Aside0.mk (fun w => view_Prefix.calls (mkV a0 a2 a3) w (mkV_len _ _ _) (mkV_b _ _ _))
  have HQa := Aside0.mk (fun w => view_Place.calls (mkV a0 a2 a3) w (mkV_len _ _ _) (mkV_b _ _ _))
  rw [mkV_r a0 a2 a3 hsa b2.1 (by omega) b3.1 (by omega)] at HRa
  rw [mkV_r a1 a2 a3 hsb b2.1 (by omega) b3.1 (by omega)] at HRb
  rw [mkV_p a0 a2 a3 hsa] at HPa
  rw [mkV_n a0 a2 a3 hsa] at HLa HTa HQa
  have HEQ := Aside0.mk (eq16 (mkV a0 a2 a3) (mkV a1 a2 a3) (mkV_len _ _ _) (mkV_len _ _ _))
  have HSC : Aside0 ((cel (mkV a0 a2 a3)).size = 16) := ⟨by rw [cel_size, mkV_len]⟩
  have HSD : Aside0 ((cel (mkV a1 a2 a3)).size = 16) := ⟨by rw [cel_size, mkV_len]⟩
  have H1C : Aside0 ((cel (mkV a0 a2 a3)).all (·.oneCell') = true) := ⟨cel_one _⟩
  have H1D : Aside0 ((cel (mkV a1 a2 a3)).all (·.oneCell') = true) := ⟨cel_one _⟩
  have hps := preB_size a0
  have hpe := preB_ext a0
  have hpa := preB_all a0
  clear h5 h6 hZ
  by_cases hl : 12 < a0.size
  · by_cases hm : 12 < a1.size
    · have q1a : decide ((12 : Int) < (a0.size : Int)) = true := decide_eq_true (by omega)
      have q1b : decide (12 < a0.size) = true := decide_eq_true (by omega)
      have q2a : decide ((a0.size : Int) ≤ 12) = false := decide_eq_false (by omega)
      have q2b : decide (a0.size ≤ 12) = false := decide_eq_false (by omega)
      have q3a : decide ((12 : Int) < (a1.size : Int)) = true := decide_eq_true (by omega)
      have q3b : decide (12 < a1.size) = true := decide_eq_true (by omega)
      have q4a : decide ((a1.size : Int) ≤ 12) = false := decide_eq_false (by omega)
      have q4b : decide (a1.size ≤ 12) = false := decide_eq_false (by omega)
      rw [if_neg (by omega), if_neg (by omega), show mkV a0 a2 a3 = mkB a0 a2 a3 from if_neg (by omega), mkB_8 a0 a2 a3 (by omega) b2.1 (by omega), mkB_12 a0 a2 a3 (by omega) b3.1 (by omega), ← show mkV a0 a2 a3 = mkB a0 a2 a3 from if_neg (by omega)] at HQa
      obtain ⟨p, hp⟩ : ∃ p, p = preB a0 := ⟨_, rfl⟩
      rw [← hp] at HPa hps hpe
      have hp4 : p.size = 4 := by omega
      rw [hp4] at hpe
      have hlt : (4 : Int) ≤ (a0.size : Int) := by omega
      have q5a : decide ((a0.size : Int) < 4) = false := decide_eq_false (by omega)
      have q5b : decide (a0.size < 4) = false := decide_eq_false (by omega)
      clear hp hps hpa
      obtain ⟨C, hC⟩ : ∃ C, C = cel (mkV a0 a2 a3) := ⟨_, rfl⟩
      obtain ⟨D, hD⟩ : ∃ D, D = cel (mkV a1 a2 a3) := ⟨_, rfl⟩
      rw [← hC] at HMa HRa HLa HPa HQa HSC H1C
      rw [← hD] at HMb HRb HSD H1D
      clear hC hD HEQ hsa hsb
      go_enter Try.func5, Try.ntmps5
      go_wp2_with fail
      refine (law6_awake _).mono ?_
      rintro e w0 ⟨rfl, hb⟩
      have HB0 := Aside0.mk (below_step HB.out hb)
      clear HB hb
      go_wp2_with fail
      refine (HMa.out _).mono ?_
      rintro e w1 ⟨rfl, hb⟩
      have HB1 := Aside0.mk (below_step HB0.out hb)
      have HN1 := Aside0.mk (blk_new w1 (.cells Z 23))
      clear HB0 hb
      go_wp2_with (first | ((with_reducible refine gate_store (t := 23) (p := 9) rfl ?_); refine wpList_store_row rfl 23 _ _ rfl w1.heap.size C (by rfl) (by rfl) 23 Z HN1.out (by rw [info16, HSC.out]) (HSZ.out.trans HSC.out.symm) H1C.out ?_))
      have HG1 := Aside0.mk (setRow_heap _ _ _ C _ _ HN1.out)
      have HB1' := Aside0.mk (below_row (below_alloc HB1.out (.cells Z 23)) (below_size HB1.out) C)
      refine (HMb.out _).mono ?_
      rintro e w2 ⟨rfl, hb1⟩
      have HG2 := Aside0.mk ((hb1.block _ (blk_lt HG1.out)).trans HG1.out)
      have HB2 := Aside0.mk (below_step HB1'.out hb1)
      have HN2 := Aside0.mk (blk_new w2 (.cells Z 23))
      have HG3 : Aside0 ((w2.alloc (.cells Z 23)).heap[w1.heap.size]? = some (.cells C 23 (0, 0))) := ⟨((below_alloc (Below.refl _ w2) (.cells Z 23)).block _ (blk_lt HG2.out)).trans HG2.out⟩
      have HLT := Aside0.mk (blk_lt HG2.out)
      have HGa4 : Aside0 (((w2.alloc (.cells Z 23)).setRow w2.heap.size D).heap[w1.heap.size]? = some (.cells C 23 (0, 0))) := ⟨(heap_row (by have := HLT.out; omega)).trans HG3.out⟩
      have HGb4 := Aside0.mk (setRow_heap _ _ _ D _ _ HN2.out)
      have HB4 := Aside0.mk (below_row (below_alloc HB2.out (.cells Z 23)) (below_size HB2.out) D)
      clear HB1 HB1' HG1 hb1 HG2 HB2 HG3
      go_wp2_with (first | ((with_reducible refine gate_store (t := 23) (p := 11) rfl ?_); refine wpList_store_row rfl 23 _ _ rfl w2.heap.size D (by rfl) (by rfl) 23 Z HN2.out (by rw [info16, HSD.out]) (HSZ.out.trans HSD.out.symm) H1D.out ?_) | ((with_reducible refine gate_dst (N := 54) rfl ?_); refine Go.BigFrame.wpList_want ?hw (fun K hK => ?_); (case hw => rfl); refine wp_load_row 23 _ rfl w1.heap.size ?hx 23 C (0, 0) _ HGa4.out Try.underlying23 rfl ?hi ?_; (case hx => rfl); (case hi => rw [info16, HSC.out]); refine hK _ _ ?_; clear hK K))
      refine (HRa.out _).mono ?_
      rintro e w5 ⟨rfl, hb1⟩
      have HGa5 := Aside0.mk ((hb1.block _ (blk_lt HGa4.out)).trans HGa4.out)
      have HGb5 := Aside0.mk ((hb1.block _ (blk_lt HGb4.out)).trans HGb4.out)
      have HB5 := Aside0.mk (below_step HB4.out hb1)
      clear HGa4 HGb4 HB4 hb1
      go_wp2_with (first | ((with_reducible refine gate_dst (N := 59) rfl ?_); refine Go.BigFrame.wpList_want ?hw (fun K hK => ?_); (case hw => rfl); refine wp_load_row 23 _ rfl w2.heap.size ?hx 23 D (0, 0) _ HGb5.out Try.underlying23 rfl ?hi ?_; (case hx => rfl); (case hi => rw [info16, HSD.out]); refine hK _ _ ?_; clear hK K))
      refine (HRb.out _).mono ?_
      rintro e w6 ⟨rfl, hb1⟩
      have HGa6 := Aside0.mk ((hb1.block _ (blk_lt HGa5.out)).trans HGa5.out)
      have HGb6 := Aside0.mk ((hb1.block _ (blk_lt HGb5.out)).trans HGb5.out)
      have HB6 := Aside0.mk (below_step HB5.out hb1)
      clear HGa5 HGb5 HB5 hb1
      go_wp2_with (first | ((with_reducible refine gate_dst (N := 64) rfl ?_); refine Go.BigFrame.wpList_want ?hw (fun K hK => ?_); (case hw => rfl); refine wp_load_row 23 _ rfl w1.heap.size ?hx 23 C (0, 0) _ HGa6.out Try.underlying23 rfl ?hi ?_; (case hx => rfl); (case hi => rw [info16, HSC.out]); refine hK _ _ ?_; clear hK K))
      refine (HLa.out _).mono ?_
      rintro e w7 ⟨rfl, hb1⟩
      have HGa7 := Aside0.mk ((hb1.block _ (blk_lt HGa6.out)).trans HGa6.out)
      have HGb7 := Aside0.mk ((hb1.block _ (blk_lt HGb6.out)).trans HGb6.out)
      have HB7 := Aside0.mk (below_step HB6.out hb1)
      clear HGa6 HGb6 HB6 hb1
      go_wp2_with (first | ((with_reducible refine gate_dst (N := 81) rfl ?_); refine Go.BigFrame.wpList_want ?hw (fun K hK => ?_); (case hw => rfl); refine wp_load_row 23 _ rfl w1.heap.size ?hx 23 C (0, 0) _ HGa7.out Try.underlying23 rfl ?hi ?_; (case hx => rfl); (case hi => rw [info16, HSC.out]); refine hK _ _ ?_; clear hK K))
      refine (HPa.out _).mono ?_
      rintro e w8 ⟨rfl, hb1⟩
      have HGa8 := Aside0.mk ((hb1.block _ (blk_lt HGa7.out)).trans HGa7.out)
      have HGb8 := Aside0.mk ((hb1.block _ (blk_lt HGb7.out)).trans HGb7.out)
      have HB8 := Aside0.mk (below_step HB7.out hb1)
      clear HGa7 HGb7 HB7 hb1
      go_wp2_with (first | ((with_reducible refine gate_dst (N := 112) rfl ?_); refine Go.BigFrame.wpList_want ?hw (fun K hK => ?_); (case hw => rfl); refine wp_load_row 23 _ rfl w1.heap.size ?hx 23 C (0, 0) _ HGa8.out Try.underlying23 rfl ?hi ?_; (case hx => rfl); (case hi => rw [info16, HSC.out]); refine hK _ _ ?_; clear hK K))
      refine (HQa.out _).mono ?_
      rintro e w9 ⟨rfl, hb1⟩
      have HGa9 := Aside0.mk ((hb1.block _ (blk_lt HGa8.out)).trans HGa8.out)
      have HGb9 := Aside0.mk ((hb1.block _ (blk_lt HGb8.out)).trans HGb8.out)
      have HB9 := Aside0.mk (below_step HB8.out hb1)
      clear HGa8 HGb8 HB8 hb1
      go_wp2_with fail
      go_ret
      exact ⟨rfl, HB9.out⟩
    · have q1a : decide ((12 : Int) < (a0.size : Int)) = true := decide_eq_true (by omega)
      have q1b : decide (12 < a0.size) = true := decide_eq_true (by omega)
      have q2a : decide ((a0.size : Int) ≤ 12) = false := decide_eq_false (by omega)
      have q2b : decide (a0.size ≤ 12) = false := decide_eq_false (by omega)
      have q3a : decide ((12 : Int) < (a1.size : Int)) = false := decide_eq_false (by omega)
      have q3b : decide (12 < a1.size) = false := decide_eq_false (by omega)
      have q4a : decide ((a1.size : Int) ≤ 12) = true := decide_eq_true (by omega)
      have q4b : decide (a1.size ≤ 12) = true := decide_eq_true (by omega)
      rw [if_neg (by omega), if_neg (by omega), show mkV a0 a2 a3 = mkB a0 a2 a3 from if_neg (by omega), mkB_8 a0 a2 a3 (by omega) b2.1 (by omega), mkB_12 a0 a2 a3 (by omega) b3.1 (by omega), ← show mkV a0 a2 a3 = mkB a0 a2 a3 from if_neg (by omega)] at HQa
      obtain ⟨p, hp⟩ : ∃ p, p = preB a0 := ⟨_, rfl⟩
      rw [← hp] at HPa hps hpe
      have hp4 : p.size = 4 := by omega
      rw [hp4] at hpe
      have hlt : (4 : Int) ≤ (a0.size : Int) := by omega
      have q5a : decide ((a0.size : Int) < 4) = false := decide_eq_false (by omega)
      have q5b : decide (a0.size < 4) = false := decide_eq_false (by omega)
      clear hp hps hpa
      obtain ⟨C, hC⟩ : ∃ C, C = cel (mkV a0 a2 a3) := ⟨_, rfl⟩
      obtain ⟨D, hD⟩ : ∃ D, D = cel (mkV a1 a2 a3) := ⟨_, rfl⟩
      rw [← hC] at HMa HRa HLa HPa HQa HSC H1C
      rw [← hD] at HMb HRb HSD H1D
      clear hC hD HEQ hsa hsb
      go_enter Try.func5, Try.ntmps5
      go_wp2_with fail
      refine (law6_awake _).mono ?_
      rintro e w0 ⟨rfl, hb⟩
      have HB0 := Aside0.mk (below_step HB.out hb)
      clear HB hb
      go_wp2_with fail
      refine (HMa.out _).mono ?_
      rintro e w1 ⟨rfl, hb⟩
      have HB1 := Aside0.mk (below_step HB0.out hb)
      have HN1 := Aside0.mk (blk_new w1 (.cells Z 23))
      clear HB0 hb
      go_wp2_with (first | ((with_reducible refine gate_store (t := 23) (p := 9) rfl ?_); refine wpList_store_row rfl 23 _ _ rfl w1.heap.size C (by rfl) (by rfl) 23 Z HN1.out (by rw [info16, HSC.out]) (HSZ.out.trans HSC.out.symm) H1C.out ?_))
      have HG1 := Aside0.mk (setRow_heap _ _ _ C _ _ HN1.out)
      have HB1' := Aside0.mk (below_row (below_alloc HB1.out (.cells Z 23)) (below_size HB1.out) C)
      refine (HMb.out _).mono ?_
      rintro e w2 ⟨rfl, hb1⟩
      have HG2 := Aside0.mk ((hb1.block _ (blk_lt HG1.out)).trans HG1.out)
      have HB2 := Aside0.mk (below_step HB1'.out hb1)
      have HN2 := Aside0.mk (blk_new w2 (.cells Z 23))
      have HG3 : Aside0 ((w2.alloc (.cells Z 23)).heap[w1.heap.size]? = some (.cells C 23 (0, 0))) := ⟨((below_alloc (Below.refl _ w2) (.cells Z 23)).block _ (blk_lt HG2.out)).trans HG2.out⟩
      have HLT := Aside0.mk (blk_lt HG2.out)
      have HGa4 : Aside0 (((w2.alloc (.cells Z 23)).setRow w2.heap.size D).heap[w1.heap.size]? = some (.cells C 23 (0, 0))) := ⟨(heap_row (by have := HLT.out; omega)).trans HG3.out⟩
      have HGb4 := Aside0.mk (setRow_heap _ _ _ D _ _ HN2.out)
      have HB4 := Aside0.mk (below_row (below_alloc HB2.out (.cells Z 23)) (below_size HB2.out) D)
      clear HB1 HB1' HG1 hb1 HG2 HB2 HG3
      go_wp2_with (first | ((with_reducible refine gate_store (t := 23) (p := 11) rfl ?_); refine wpList_store_row rfl 23 _ _ rfl w2.heap.size D (by rfl) (by rfl) 23 Z HN2.out (by rw [info16, HSD.out]) (HSZ.out.trans HSD.out.symm) H1D.out ?_) | ((with_reducible refine gate_dst (N := 54) rfl ?_); refine Go.BigFrame.wpList_want ?hw (fun K hK => ?_); (case hw => rfl); refine wp_load_row 23 _ rfl w1.heap.size ?hx 23 C (0, 0) _ HGa4.out Try.underlying23 rfl ?hi ?_; (case hx => rfl); (case hi => rw [info16, HSC.out]); refine hK _ _ ?_; clear hK K))
      refine (HRa.out _).mono ?_
      rintro e w5 ⟨rfl, hb1⟩
      have HGa5 := Aside0.mk ((hb1.block _ (blk_lt HGa4.out)).trans HGa4.out)
      have HGb5 := Aside0.mk ((hb1.block _ (blk_lt HGb4.out)).trans HGb4.out)
      have HB5 := Aside0.mk (below_step HB4.out hb1)
      clear HGa4 HGb4 HB4 hb1
      go_wp2_with (first | ((with_reducible refine gate_dst (N := 59) rfl ?_); refine Go.BigFrame.wpList_want ?hw (fun K hK => ?_); (case hw => rfl); refine wp_load_row 23 _ rfl w2.heap.size ?hx 23 D (0, 0) _ HGb5.out Try.underlying23 rfl ?hi ?_; (case hx => rfl); (case hi => rw [info16, HSD.out]); refine hK _ _ ?_; clear hK K))
      refine (HRb.out _).mono ?_
      rintro e w6 ⟨rfl, hb1⟩
      have HGa6 := Aside0.mk ((hb1.block _ (blk_lt HGa5.out)).trans HGa5.out)
      have HGb6 := Aside0.mk ((hb1.block _ (blk_lt HGb5.out)).trans HGb5.out)
      have HB6 := Aside0.mk (below_step HB5.out hb1)
      clear HGa5 HGb5 HB5 hb1
      go_wp2_with (first | ((with_reducible refine gate_dst (N := 64) rfl ?_); refine Go.BigFrame.wpList_want ?hw (fun K hK => ?_); (case hw => rfl); refine wp_load_row 23 _ rfl w1.heap.size ?hx 23 C (0, 0) _ HGa6.out Try.underlying23 rfl ?hi ?_; (case hx => rfl); (case hi => rw [info16, HSC.out]); refine hK _ _ ?_; clear hK K))
      refine (HLa.out _).mono ?_
      rintro e w7 ⟨rfl, hb1⟩
      have HGa7 := Aside0.mk ((hb1.block _ (blk_lt HGa6.out)).trans HGa6.out)
      have HGb7 := Aside0.mk ((hb1.block _ (blk_lt HGb6.out)).trans HGb6.out)
      have HB7 := Aside0.mk (below_step HB6.out hb1)
      clear HGa6 HGb6 HB6 hb1
      go_wp2_with (first | ((with_reducible refine gate_dst (N := 81) rfl ?_); refine Go.BigFrame.wpList_want ?hw (fun K hK => ?_); (case hw => rfl); refine wp_load_row 23 _ rfl w1.heap.size ?hx 23 C (0, 0) _ HGa7.out Try.underlying23 rfl ?hi ?_; (case hx => rfl); (case hi => rw [info16, HSC.out]); refine hK _ _ ?_; clear hK K))
      refine (HPa.out _).mono ?_
      rintro e w8 ⟨rfl, hb1⟩
      have HGa8 := Aside0.mk ((hb1.block _ (blk_lt HGa7.out)).trans HGa7.out)
      have HGb8 := Aside0.mk ((hb1.block _ (blk_lt HGb7.out)).trans HGb7.out)
      have HB8 := Aside0.mk (below_step HB7.out hb1)
      clear HGa7 HGb7 HB7 hb1
      go_wp2_with (first | ((with_reducible refine gate_dst (N := 112) rfl ?_); refine Go.BigFrame.wpList_want ?hw (fun K hK => ?_); (case hw => rfl); refine wp_load_row 23 _ rfl w1.heap.size ?hx 23 C (0, 0) _ HGa8.out Try.underlying23 rfl ?hi ?_; (case hx => rfl); (case hi => rw [info16, HSC.out]); refine hK _ _ ?_; clear hK K))
      refine (HQa.out _).mono ?_
      rintro e w9 ⟨rfl, hb1⟩
      have HGa9 := Aside0.mk ((hb1.block _ (blk_lt HGa8.out)).trans HGa8.out)
      have HGb9 := Aside0.mk ((hb1.block _ (blk_lt HGb8.out)).trans HGb8.out)
      have HB9 := Aside0.mk (below_step HB8.out hb1)
      clear HGa8 HGb8 HB8 hb1
      go_wp2_with fail
      go_ret
      exact ⟨rfl, HB9.out⟩
  by_cases hf : a0.size < 4
  · by_cases hm : 12 < a1.size
    · have q1a : decide ((12 : Int) < (a0.size : Int)) = false := decide_eq_false (by omega)
      have q1b : decide (12 < a0.size) = false := decide_eq_false (by omega)
      have q2a : decide ((a0.size : Int) ≤ 12) = true := decide_eq_true (by omega)
      have q2b : decide (a0.size ≤ 12) = true := decide_eq_true (by omega)
      have q3a : decide ((12 : Int) < (a1.size : Int)) = true := decide_eq_true (by omega)
      have q3b : decide (12 < a1.size) = true := decide_eq_true (by omega)
      have q4a : decide ((a1.size : Int) ≤ 12) = false := decide_eq_false (by omega)
      have q4b : decide (a1.size ≤ 12) = false := decide_eq_false (by omega)
      rw [if_pos (by omega), Int.toNat_natCast, show mkV a0 a2 a3 = mkS a0 from if_pos (by omega), mkS_t, str_b, ← show mkV a0 a2 a3 = mkS a0 from if_pos (by omega)] at HTa
      rw [if_pos (by omega), if_pos (by omega)] at HQa
      rw [hpa (by omega)] at HPa hps hpe
      have q5a : decide ((4 : Int) < (a0.size : Int)) = false := decide_eq_false (by omega)
      have q5b : decide (4 < a0.size) = false := decide_eq_false (by omega)
      have q6a : decide ((a0.size : Int) < 4) = true := decide_eq_true (by omega)
      have q6b : decide (a0.size < 4) = true := decide_eq_true (by omega)
      have hlt : ((a0.size : Int) ≤ (a0.size : Int)) = True := eq_true (by omega)
      clear hps hpa
      obtain ⟨C, hC⟩ : ∃ C, C = cel (mkV a0 a2 a3) := ⟨_, rfl⟩
      obtain ⟨D, hD⟩ : ∃ D, D = cel (mkV a1 a2 a3) := ⟨_, rfl⟩
      rw [← hC] at HMa HRa HLa HTa HPa HQa HSC H1C
      rw [← hD] at HMb HRb HSD H1D
      clear hC hD HEQ hsa hsb
      go_enter Try.func5, Try.ntmps5
      go_wp2_with fail
      refine (law6_awake _).mono ?_
      rintro e w0 ⟨rfl, hb⟩
      have HB0 := Aside0.mk (below_step HB.out hb)
      clear HB hb
      go_wp2_with fail
      refine (HMa.out _).mono ?_
      rintro e w1 ⟨rfl, hb⟩
      have HB1 := Aside0.mk (below_step HB0.out hb)
      have HN1 := Aside0.mk (blk_new w1 (.cells Z 23))
      clear HB0 hb
      go_wp2_with (first | ((with_reducible refine gate_store (t := 23) (p := 9) rfl ?_); refine wpList_store_row rfl 23 _ _ rfl w1.heap.size C (by rfl) (by rfl) 23 Z HN1.out (by rw [info16, HSC.out]) (HSZ.out.trans HSC.out.symm) H1C.out ?_))
      have HG1 := Aside0.mk (setRow_heap _ _ _ C _ _ HN1.out)
      have HB1' := Aside0.mk (below_row (below_alloc HB1.out (.cells Z 23)) (below_size HB1.out) C)
      refine (HMb.out _).mono ?_
      rintro e w2 ⟨rfl, hb1⟩
      have HG2 := Aside0.mk ((hb1.block _ (blk_lt HG1.out)).trans HG1.out)
      have HB2 := Aside0.mk (below_step HB1'.out hb1)
      have HN2 := Aside0.mk (blk_new w2 (.cells Z 23))
      have HG3 : Aside0 ((w2.alloc (.cells Z 23)).heap[w1.heap.size]? = some (.cells C 23 (0, 0))) := ⟨((below_alloc (Below.refl _ w2) (.cells Z 23)).block _ (blk_lt HG2.out)).trans HG2.out⟩
      have HLT := Aside0.mk (blk_lt HG2.out)
      have HGa4 : Aside0 (((w2.alloc (.cells Z 23)).setRow w2.heap.size D).heap[w1.heap.size]? = some (.cells C 23 (0, 0))) := ⟨(heap_row (by have := HLT.out; omega)).trans HG3.out⟩
      have HGb4 := Aside0.mk (setRow_heap _ _ _ D _ _ HN2.out)
      have HB4 := Aside0.mk (below_row (below_alloc HB2.out (.cells Z 23)) (below_size HB2.out) D)
      clear HB1 HB1' HG1 hb1 HG2 HB2 HG3
      go_wp2_with (first | ((with_reducible refine gate_store (t := 23) (p := 11) rfl ?_); refine wpList_store_row rfl 23 _ _ rfl w2.heap.size D (by rfl) (by rfl) 23 Z HN2.out (by rw [info16, HSD.out]) (HSZ.out.trans HSD.out.symm) H1D.out ?_) | ((with_reducible refine gate_dst (N := 54) rfl ?_); refine Go.BigFrame.wpList_want ?hw (fun K hK => ?_); (case hw => rfl); refine wp_load_row 23 _ rfl w1.heap.size ?hx 23 C (0, 0) _ HGa4.out Try.underlying23 rfl ?hi ?_; (case hx => rfl); (case hi => rw [info16, HSC.out]); refine hK _ _ ?_; clear hK K))
      refine (HRa.out _).mono ?_
      rintro e w5 ⟨rfl, hb1⟩
      have HGa5 := Aside0.mk ((hb1.block _ (blk_lt HGa4.out)).trans HGa4.out)
      have HGb5 := Aside0.mk ((hb1.block _ (blk_lt HGb4.out)).trans HGb4.out)
      have HB5 := Aside0.mk (below_step HB4.out hb1)
      clear HGa4 HGb4 HB4 hb1
      go_wp2_with (first | ((with_reducible refine gate_dst (N := 59) rfl ?_); refine Go.BigFrame.wpList_want ?hw (fun K hK => ?_); (case hw => rfl); refine wp_load_row 23 _ rfl w2.heap.size ?hx 23 D (0, 0) _ HGb5.out Try.underlying23 rfl ?hi ?_; (case hx => rfl); (case hi => rw [info16, HSD.out]); refine hK _ _ ?_; clear hK K))
      refine (HRb.out _).mono ?_
      rintro e w6 ⟨rfl, hb1⟩
      have HGa6 := Aside0.mk ((hb1.block _ (blk_lt HGa5.out)).trans HGa5.out)
      have HGb6 := Aside0.mk ((hb1.block _ (blk_lt HGb5.out)).trans HGb5.out)
      have HB6 := Aside0.mk (below_step HB5.out hb1)
      clear HGa5 HGb5 HB5 hb1
      go_wp2_with (first | ((with_reducible refine gate_dst (N := 64) rfl ?_); refine Go.BigFrame.wpList_want ?hw (fun K hK => ?_); (case hw => rfl); refine wp_load_row 23 _ rfl w1.heap.size ?hx 23 C (0, 0) _ HGa6.out Try.underlying23 rfl ?hi ?_; (case hx => rfl); (case hi => rw [info16, HSC.out]); refine hK _ _ ?_; clear hK K))
      refine (HLa.out _).mono ?_
      rintro e w7 ⟨rfl, hb1⟩
      have HGa7 := Aside0.mk ((hb1.block _ (blk_lt HGa6.out)).trans HGa6.out)
      have HGb7 := Aside0.mk ((hb1.block _ (blk_lt HGb6.out)).trans HGb6.out)
      have HB7 := Aside0.mk (below_step HB6.out hb1)
      clear HGa6 HGb6 HB6 hb1
      go_wp2_with (first | ((with_reducible refine gate_dst (N := 75) rfl ?_); refine Go.BigFrame.wpList_want ?hw (fun K hK => ?_); (case hw => rfl); refine wp_load_row 23 _ rfl w1.heap.size ?hx 23 C (0, 0) _ HGa7.out Try.underlying23 rfl ?hi ?_; (case hx => rfl); (case hi => rw [info16, HSC.out]); refine hK _ _ ?_; clear hK K))
      refine (HTa.out _).mono ?_
      rintro e w8 ⟨rfl, hb1⟩
      have HGa8 := Aside0.mk ((hb1.block _ (blk_lt HGa7.out)).trans HGa7.out)
      have HGb8 := Aside0.mk ((hb1.block _ (blk_lt HGb7.out)).trans HGb7.out)
      have HB8 := Aside0.mk (below_step HB7.out hb1)
      clear HGa7 HGb7 HB7 hb1
      go_wp2_with (first | ((with_reducible refine gate_dst (N := 81) rfl ?_); refine Go.BigFrame.wpList_want ?hw (fun K hK => ?_); (case hw => rfl); refine wp_load_row 23 _ rfl w1.heap.size ?hx 23 C (0, 0) _ HGa8.out Try.underlying23 rfl ?hi ?_; (case hx => rfl); (case hi => rw [info16, HSC.out]); refine hK _ _ ?_; clear hK K))
      refine (HPa.out _).mono ?_
      rintro e w9 ⟨rfl, hb1⟩
      have HGa9 := Aside0.mk ((hb1.block _ (blk_lt HGa8.out)).trans HGa8.out)
      have HGb9 := Aside0.mk ((hb1.block _ (blk_lt HGb8.out)).trans HGb8.out)
      have HB9 := Aside0.mk (below_step HB8.out hb1)
      clear HGa8 HGb8 HB8 hb1
      go_wp2_with (first | ((with_reducible refine gate_dst (N := 112) rfl ?_); refine Go.BigFrame.wpList_want ?hw (fun K hK => ?_); (case hw => rfl); refine wp_load_row 23 _ rfl w1.heap.size ?hx 23 C (0, 0) _ HGa9.out Try.underlying23 rfl ?hi ?_; (case hx => rfl); (case hi => rw [info16, HSC.out]); refine hK _ _ ?_; clear hK K))
      refine (HQa.out _).mono ?_
      rintro e w10 ⟨rfl, hb1⟩
      have HGa10 := Aside0.mk ((hb1.block _ (blk_lt HGa9.out)).trans HGa9.out)
      have HGb10 := Aside0.mk ((hb1.block _ (blk_lt HGb9.out)).trans HGb9.out)
      have HB10 := Aside0.mk (below_step HB9.out hb1)
      clear HGa9 HGb9 HB9 hb1
      go_wp2_with fail
      go_ret
      exact ⟨rfl, HB10.out⟩
    · have q1a : decide ((12 : Int) < (a0.size : Int)) = false := decide_eq_false (by omega)
      have q1b : decide (12 < a0.size) = false := decide_eq_false (by omega)
      have q2a : decide ((a0.size : Int) ≤ 12) = true := decide_eq_true (by omega)
      have q2b : decide (a0.size ≤ 12) = true := decide_eq_true (by omega)
      have q3a : decide ((12 : Int) < (a1.size : Int)) = false := decide_eq_false (by omega)
      have q3b : decide (12 < a1.size) = false := decide_eq_false (by omega)
      have q4a : decide ((a1.size : Int) ≤ 12) = true := decide_eq_true (by omega)
      have q4b : decide (a1.size ≤ 12) = true := decide_eq_true (by omega)
      rw [if_pos (by omega), Int.toNat_natCast, show mkV a0 a2 a3 = mkS a0 from if_pos (by omega), mkS_t, str_b, ← show mkV a0 a2 a3 = mkS a0 from if_pos (by omega)] at HTa
      rw [if_pos (by omega), if_pos (by omega)] at HQa
      rw [hpa (by omega)] at HPa hps hpe
      have q5a : decide ((4 : Int) < (a0.size : Int)) = false := decide_eq_false (by omega)
      have q5b : decide (4 < a0.size) = false := decide_eq_false (by omega)
      have q6a : decide ((a0.size : Int) < 4) = true := decide_eq_true (by omega)
      have q6b : decide (a0.size < 4) = true := decide_eq_true (by omega)
      have hlt : ((a0.size : Int) ≤ (a0.size : Int)) = True := eq_true (by omega)
      clear hps hpa
      have heq0 := HEQ.out
      rw [show decide (mkV a0 a2 a3 = mkV a1 a2 a3) = decide (a0 = a1) from by rw [show mkV a0 a2 a3 = mkS a0 from if_pos (by omega), show mkV a1 a2 a3 = mkS a1 from if_pos (by omega)]; exact mkS_inj a0 a1 (by omega) (by omega)] at heq0
      have hstr := str_eq a0 a1
      have hstr2 := str_eq2 a0 a1
      obtain ⟨r, hr⟩ : ∃ r : Bool, decide (a0 = a1) = r := ⟨_, rfl⟩
      rw [hr] at heq0 hstr hstr2
      clear hr
      obtain ⟨C, hC⟩ : ∃ C, C = cel (mkV a0 a2 a3) := ⟨_, rfl⟩
      obtain ⟨D, hD⟩ : ∃ D, D = cel (mkV a1 a2 a3) := ⟨_, rfl⟩
      rw [← hC] at HMa HRa HLa HTa HPa HQa HSC H1C heq0
      rw [← hD] at HMb HRb HSD H1D heq0
      clear hC hD HEQ hsa hsb
      go_enter Try.func5, Try.ntmps5
      go_wp2_with fail
      refine (law6_awake _).mono ?_
      rintro e w0 ⟨rfl, hb⟩
      have HB0 := Aside0.mk (below_step HB.out hb)
      clear HB hb
      go_wp2_with fail
      refine (HMa.out _).mono ?_
      rintro e w1 ⟨rfl, hb⟩
      have HB1 := Aside0.mk (below_step HB0.out hb)
      have HN1 := Aside0.mk (blk_new w1 (.cells Z 23))
      clear HB0 hb
      go_wp2_with (first | ((with_reducible refine gate_store (t := 23) (p := 9) rfl ?_); refine wpList_store_row rfl 23 _ _ rfl w1.heap.size C (by rfl) (by rfl) 23 Z HN1.out (by rw [info16, HSC.out]) (HSZ.out.trans HSC.out.symm) H1C.out ?_))
      have HG1 := Aside0.mk (setRow_heap _ _ _ C _ _ HN1.out)
      have HB1' := Aside0.mk (below_row (below_alloc HB1.out (.cells Z 23)) (below_size HB1.out) C)
      refine (HMb.out _).mono ?_
      rintro e w2 ⟨rfl, hb1⟩
      have HG2 := Aside0.mk ((hb1.block _ (blk_lt HG1.out)).trans HG1.out)
      have HB2 := Aside0.mk (below_step HB1'.out hb1)
      have HN2 := Aside0.mk (blk_new w2 (.cells Z 23))
      have HG3 : Aside0 ((w2.alloc (.cells Z 23)).heap[w1.heap.size]? = some (.cells C 23 (0, 0))) := ⟨((below_alloc (Below.refl _ w2) (.cells Z 23)).block _ (blk_lt HG2.out)).trans HG2.out⟩
      have HLT := Aside0.mk (blk_lt HG2.out)
      have HGa4 : Aside0 (((w2.alloc (.cells Z 23)).setRow w2.heap.size D).heap[w1.heap.size]? = some (.cells C 23 (0, 0))) := ⟨(heap_row (by have := HLT.out; omega)).trans HG3.out⟩
      have HGb4 := Aside0.mk (setRow_heap _ _ _ D _ _ HN2.out)
      have HB4 := Aside0.mk (below_row (below_alloc HB2.out (.cells Z 23)) (below_size HB2.out) D)
      clear HB1 HB1' HG1 hb1 HG2 HB2 HG3
      go_wp2_with (first | ((with_reducible refine gate_store (t := 23) (p := 11) rfl ?_); refine wpList_store_row rfl 23 _ _ rfl w2.heap.size D (by rfl) (by rfl) 23 Z HN2.out (by rw [info16, HSD.out]) (HSZ.out.trans HSD.out.symm) H1D.out ?_) | ((with_reducible refine gate_dst (N := 54) rfl ?_); refine Go.BigFrame.wpList_want ?hw (fun K hK => ?_); (case hw => rfl); refine wp_load_row 23 _ rfl w1.heap.size ?hx 23 C (0, 0) _ HGa4.out Try.underlying23 rfl ?hi ?_; (case hx => rfl); (case hi => rw [info16, HSC.out]); refine hK _ _ ?_; clear hK K))
      refine (HRa.out _).mono ?_
      rintro e w5 ⟨rfl, hb1⟩
      have HGa5 := Aside0.mk ((hb1.block _ (blk_lt HGa4.out)).trans HGa4.out)
      have HGb5 := Aside0.mk ((hb1.block _ (blk_lt HGb4.out)).trans HGb4.out)
      have HB5 := Aside0.mk (below_step HB4.out hb1)
      clear HGa4 HGb4 HB4 hb1
      go_wp2_with (first | ((with_reducible refine gate_dst (N := 59) rfl ?_); refine Go.BigFrame.wpList_want ?hw (fun K hK => ?_); (case hw => rfl); refine wp_load_row 23 _ rfl w2.heap.size ?hx 23 D (0, 0) _ HGb5.out Try.underlying23 rfl ?hi ?_; (case hx => rfl); (case hi => rw [info16, HSD.out]); refine hK _ _ ?_; clear hK K))
      refine (HRb.out _).mono ?_
      rintro e w6 ⟨rfl, hb1⟩
      have HGa6 := Aside0.mk ((hb1.block _ (blk_lt HGa5.out)).trans HGa5.out)
      have HGb6 := Aside0.mk ((hb1.block _ (blk_lt HGb5.out)).trans HGb5.out)
      have HB6 := Aside0.mk (below_step HB5.out hb1)
      clear HGa5 HGb5 HB5 hb1
      go_wp2_with (first | ((with_reducible refine gate_dst (N := 64) rfl ?_); refine Go.BigFrame.wpList_want ?hw (fun K hK => ?_); (case hw => rfl); refine wp_load_row 23 _ rfl w1.heap.size ?hx 23 C (0, 0) _ HGa6.out Try.underlying23 rfl ?hi ?_; (case hx => rfl); (case hi => rw [info16, HSC.out]); refine hK _ _ ?_; clear hK K))
      refine (HLa.out _).mono ?_
      rintro e w7 ⟨rfl, hb1⟩
      have HGa7 := Aside0.mk ((hb1.block _ (blk_lt HGa6.out)).trans HGa6.out)
      have HGb7 := Aside0.mk ((hb1.block _ (blk_lt HGb6.out)).trans HGb6.out)
      have HB7 := Aside0.mk (below_step HB6.out hb1)
      clear HGa6 HGb6 HB6 hb1
      go_wp2_with (first | ((with_reducible refine gate_dst (N := 75) rfl ?_); refine Go.BigFrame.wpList_want ?hw (fun K hK => ?_); (case hw => rfl); refine wp_load_row 23 _ rfl w1.heap.size ?hx 23 C (0, 0) _ HGa7.out Try.underlying23 rfl ?hi ?_; (case hx => rfl); (case hi => rw [info16, HSC.out]); refine hK _ _ ?_; clear hK K))
      refine (HTa.out _).mono ?_
      rintro e w8 ⟨rfl, hb1⟩
      have HGa8 := Aside0.mk ((hb1.block _ (blk_lt HGa7.out)).trans HGa7.out)
      have HGb8 := Aside0.mk ((hb1.block _ (blk_lt HGb7.out)).trans HGb7.out)
      have HB8 := Aside0.mk (below_step HB7.out hb1)
      clear HGa7 HGb7 HB7 hb1
      go_wp2_with (first | ((with_reducible refine gate_dst (N := 81) rfl ?_); refine Go.BigFrame.wpList_want ?hw (fun K hK => ?_); (case hw => rfl); refine wp_load_row 23 _ rfl w1.heap.size ?hx 23 C (0, 0) _ HGa8.out Try.underlying23 rfl ?hi ?_; (case hx => rfl); (case hi => rw [info16, HSC.out]); refine hK _ _ ?_; clear hK K))
      refine (HPa.out _).mono ?_
      rintro e w9 ⟨rfl, hb1⟩
      have HGa9 := Aside0.mk ((hb1.block _ (blk_lt HGa8.out)).trans HGa8.out)
      have HGb9 := Aside0.mk ((hb1.block _ (blk_lt HGb8.out)).trans HGb8.out)
      have HB9 := Aside0.mk (below_step HB8.out hb1)
      clear HGa8 HGb8 HB8 hb1
      go_wp2_with (first | ((with_reducible refine gate_dst (N := 112) rfl ?_); refine Go.BigFrame.wpList_want ?hw (fun K hK => ?_); (case hw => rfl); refine wp_load_row 23 _ rfl w1.heap.size ?hx 23 C (0, 0) _ HGa9.out Try.underlying23 rfl ?hi ?_; (case hx => rfl); (case hi => rw [info16, HSC.out]); refine hK _ _ ?_; clear hK K))
      refine (HQa.out _).mono ?_
      rintro e w10 ⟨rfl, hb1⟩
      have HGa10 := Aside0.mk ((hb1.block _ (blk_lt HGa9.out)).trans HGa9.out)
      have HGb10 := Aside0.mk ((hb1.block _ (blk_lt HGb9.out)).trans HGb9.out)
      have HB10 := Aside0.mk (below_step HB9.out hb1)
      clear HGa9 HGb9 HB9 hb1
      go_wp2_with (first | ((with_reducible refine gate_dst (N := 140) rfl ?_); refine Go.BigFrame.wpList_want ?hw (fun K hK => ?_); (case hw => rfl); refine wp_load_row 23 _ rfl w1.heap.size ?hx 23 C (0, 0) _ HGa10.out Try.underlying23 rfl ?hi ?_; (case hx => rfl); (case hi => rw [info16, HSC.out]); refine hK _ _ ?_; clear hK K) | ((with_reducible refine gate_dst (N := 141) rfl ?_); refine Go.BigFrame.wpList_want ?hw (fun K hK => ?_); (case hw => rfl); refine wp_load_row 23 _ rfl w2.heap.size ?hx 23 D (0, 0) _ HGb10.out Try.underlying23 rfl ?hi ?_; (case hx => rfl); (case hi => rw [info16, HSD.out]); refine hK _ _ ?_; clear hK K))
      go_ret
      exact ⟨rfl, HB10.out⟩
  by_cases hm : 12 < a1.size
  · have q1a : decide ((12 : Int) < (a0.size : Int)) = false := decide_eq_false (by omega)
    have q1b : decide (12 < a0.size) = false := decide_eq_false (by omega)
    have q2a : decide ((a0.size : Int) ≤ 12) = true := decide_eq_true (by omega)
    have q2b : decide (a0.size ≤ 12) = true := decide_eq_true (by omega)
    have q3a : decide ((12 : Int) < (a1.size : Int)) = true := decide_eq_true (by omega)
    have q3b : decide (12 < a1.size) = true := decide_eq_true (by omega)
    have q4a : decide ((a1.size : Int) ≤ 12) = false := decide_eq_false (by omega)
    have q4b : decide (a1.size ≤ 12) = false := decide_eq_false (by omega)
    rw [if_pos (by omega), Int.toNat_natCast, show mkV a0 a2 a3 = mkS a0 from if_pos (by omega), mkS_t, str_b, ← show mkV a0 a2 a3 = mkS a0 from if_pos (by omega)] at HTa
    rw [if_pos (by omega), if_pos (by omega)] at HQa
    obtain ⟨p, hp⟩ : ∃ p, p = preB a0 := ⟨_, rfl⟩
    rw [← hp] at HPa hps hpe
    have hp4 : p.size = 4 := by omega
    rw [hp4] at hpe
    have hlt : (4 : Int) ≤ (a0.size : Int) := by omega
    have q5a : decide ((a0.size : Int) < 4) = false := decide_eq_false (by omega)
    have q5b : decide (a0.size < 4) = false := decide_eq_false (by omega)
    clear hp hps hpa
    obtain ⟨C, hC⟩ : ∃ C, C = cel (mkV a0 a2 a3) := ⟨_, rfl⟩
    obtain ⟨D, hD⟩ : ∃ D, D = cel (mkV a1 a2 a3) := ⟨_, rfl⟩
    rw [← hC] at HMa HRa HLa HTa HPa HQa HSC H1C
    rw [← hD] at HMb HRb HSD H1D
    clear hC hD HEQ hsa hsb
    go_enter Try.func5, Try.ntmps5
    go_wp2_with fail
    refine (law6_awake _).mono ?_
    rintro e w0 ⟨rfl, hb⟩
    have HB0 := Aside0.mk (below_step HB.out hb)
    clear HB hb
    go_wp2_with fail
    refine (HMa.out _).mono ?_
    rintro e w1 ⟨rfl, hb⟩
    have HB1 := Aside0.mk (below_step HB0.out hb)
    have HN1 := Aside0.mk (blk_new w1 (.cells Z 23))
    clear HB0 hb
    go_wp2_with (first | ((with_reducible refine gate_store (t := 23) (p := 9) rfl ?_); refine wpList_store_row rfl 23 _ _ rfl w1.heap.size C (by rfl) (by rfl) 23 Z HN1.out (by rw [info16, HSC.out]) (HSZ.out.trans HSC.out.symm) H1C.out ?_))
    have HG1 := Aside0.mk (setRow_heap _ _ _ C _ _ HN1.out)
    have HB1' := Aside0.mk (below_row (below_alloc HB1.out (.cells Z 23)) (below_size HB1.out) C)
    refine (HMb.out _).mono ?_
    rintro e w2 ⟨rfl, hb1⟩
    have HG2 := Aside0.mk ((hb1.block _ (blk_lt HG1.out)).trans HG1.out)
    have HB2 := Aside0.mk (below_step HB1'.out hb1)
    have HN2 := Aside0.mk (blk_new w2 (.cells Z 23))
    have HG3 : Aside0 ((w2.alloc (.cells Z 23)).heap[w1.heap.size]? = some (.cells C 23 (0, 0))) := ⟨((below_alloc (Below.refl _ w2) (.cells Z 23)).block _ (blk_lt HG2.out)).trans HG2.out⟩
    have HLT := Aside0.mk (blk_lt HG2.out)
    have HGa4 : Aside0 (((w2.alloc (.cells Z 23)).setRow w2.heap.size D).heap[w1.heap.size]? = some (.cells C 23 (0, 0))) := ⟨(heap_row (by have := HLT.out; omega)).trans HG3.out⟩
    have HGb4 := Aside0.mk (setRow_heap _ _ _ D _ _ HN2.out)
    have HB4 := Aside0.mk (below_row (below_alloc HB2.out (.cells Z 23)) (below_size HB2.out) D)
    clear HB1 HB1' HG1 hb1 HG2 HB2 HG3
    go_wp2_with (first | ((with_reducible refine gate_store (t := 23) (p := 11) rfl ?_); refine wpList_store_row rfl 23 _ _ rfl w2.heap.size D (by rfl) (by rfl) 23 Z HN2.out (by rw [info16, HSD.out]) (HSZ.out.trans HSD.out.symm) H1D.out ?_) | ((with_reducible refine gate_dst (N := 54) rfl ?_); refine Go.BigFrame.wpList_want ?hw (fun K hK => ?_); (case hw => rfl); refine wp_load_row 23 _ rfl w1.heap.size ?hx 23 C (0, 0) _ HGa4.out Try.underlying23 rfl ?hi ?_; (case hx => rfl); (case hi => rw [info16, HSC.out]); refine hK _ _ ?_; clear hK K))
    refine (HRa.out _).mono ?_
    rintro e w5 ⟨rfl, hb1⟩
    have HGa5 := Aside0.mk ((hb1.block _ (blk_lt HGa4.out)).trans HGa4.out)
    have HGb5 := Aside0.mk ((hb1.block _ (blk_lt HGb4.out)).trans HGb4.out)
    have HB5 := Aside0.mk (below_step HB4.out hb1)
    clear HGa4 HGb4 HB4 hb1
    go_wp2_with (first | ((with_reducible refine gate_dst (N := 59) rfl ?_); refine Go.BigFrame.wpList_want ?hw (fun K hK => ?_); (case hw => rfl); refine wp_load_row 23 _ rfl w2.heap.size ?hx 23 D (0, 0) _ HGb5.out Try.underlying23 rfl ?hi ?_; (case hx => rfl); (case hi => rw [info16, HSD.out]); refine hK _ _ ?_; clear hK K))
    refine (HRb.out _).mono ?_
    rintro e w6 ⟨rfl, hb1⟩
    have HGa6 := Aside0.mk ((hb1.block _ (blk_lt HGa5.out)).trans HGa5.out)
    have HGb6 := Aside0.mk ((hb1.block _ (blk_lt HGb5.out)).trans HGb5.out)
    have HB6 := Aside0.mk (below_step HB5.out hb1)
    clear HGa5 HGb5 HB5 hb1
    go_wp2_with (first | ((with_reducible refine gate_dst (N := 64) rfl ?_); refine Go.BigFrame.wpList_want ?hw (fun K hK => ?_); (case hw => rfl); refine wp_load_row 23 _ rfl w1.heap.size ?hx 23 C (0, 0) _ HGa6.out Try.underlying23 rfl ?hi ?_; (case hx => rfl); (case hi => rw [info16, HSC.out]); refine hK _ _ ?_; clear hK K))
    refine (HLa.out _).mono ?_
    rintro e w7 ⟨rfl, hb1⟩
    have HGa7 := Aside0.mk ((hb1.block _ (blk_lt HGa6.out)).trans HGa6.out)
    have HGb7 := Aside0.mk ((hb1.block _ (blk_lt HGb6.out)).trans HGb6.out)
    have HB7 := Aside0.mk (below_step HB6.out hb1)
    clear HGa6 HGb6 HB6 hb1
    go_wp2_with (first | ((with_reducible refine gate_dst (N := 75) rfl ?_); refine Go.BigFrame.wpList_want ?hw (fun K hK => ?_); (case hw => rfl); refine wp_load_row 23 _ rfl w1.heap.size ?hx 23 C (0, 0) _ HGa7.out Try.underlying23 rfl ?hi ?_; (case hx => rfl); (case hi => rw [info16, HSC.out]); refine hK _ _ ?_; clear hK K))
    refine (HTa.out _).mono ?_
    rintro e w8 ⟨rfl, hb1⟩
    have HGa8 := Aside0.mk ((hb1.block _ (blk_lt HGa7.out)).trans HGa7.out)
    have HGb8 := Aside0.mk ((hb1.block _ (blk_lt HGb7.out)).trans HGb7.out)
    have HB8 := Aside0.mk (below_step HB7.out hb1)
    clear HGa7 HGb7 HB7 hb1
    go_wp2_with (first | ((with_reducible refine gate_dst (N := 81) rfl ?_); refine Go.BigFrame.wpList_want ?hw (fun K hK => ?_); (case hw => rfl); refine wp_load_row 23 _ rfl w1.heap.size ?hx 23 C (0, 0) _ HGa8.out Try.underlying23 rfl ?hi ?_; (case hx => rfl); (case hi => rw [info16, HSC.out]); refine hK _ _ ?_; clear hK K))
    refine (HPa.out _).mono ?_
    rintro e w9 ⟨rfl, hb1⟩
    have HGa9 := Aside0.mk ((hb1.block _ (blk_lt HGa8.out)).trans HGa8.out)
    have HGb9 := Aside0.mk ((hb1.block _ (blk_lt HGb8.out)).trans HGb8.out)
    have HB9 := Aside0.mk (below_step HB8.out hb1)
    clear HGa8 HGb8 HB8 hb1
    go_wp2_with (first | ((with_reducible refine gate_dst (N := 112) rfl ?_); refine Go.BigFrame.wpList_want ?hw (fun K hK => ?_); (case hw => rfl); refine wp_load_row 23 _ rfl w1.heap.size ?hx 23 C (0, 0) _ HGa9.out Try.underlying23 rfl ?hi ?_; (case hx => rfl); (case hi => rw [info16, HSC.out]); refine hK _ _ ?_; clear hK K))
    refine (HQa.out _).mono ?_
    rintro e w10 ⟨rfl, hb1⟩
    have HGa10 := Aside0.mk ((hb1.block _ (blk_lt HGa9.out)).trans HGa9.out)
    have HGb10 := Aside0.mk ((hb1.block _ (blk_lt HGb9.out)).trans HGb9.out)
    have HB10 := Aside0.mk (below_step HB9.out hb1)
    clear HGa9 HGb9 HB9 hb1
    go_wp2_with fail
    go_ret
    exact ⟨rfl, HB10.out⟩
  · have q1a : decide ((12 : Int) < (a0.size : Int)) = false := decide_eq_false (by omega)
    have q1b : decide (12 < a0.size) = false := decide_eq_false (by omega)
    have q2a : decide ((a0.size : Int) ≤ 12) = true := decide_eq_true (by omega)
    have q2b : decide (a0.size ≤ 12) = true := decide_eq_true (by omega)
    have q3a : decide ((12 : Int) < (a1.size : Int)) = false := decide_eq_false (by omega)
    have q3b : decide (12 < a1.size) = false := decide_eq_false (by omega)
    have q4a : decide ((a1.size : Int) ≤ 12) = true := decide_eq_true (by omega)
    have q4b : decide (a1.size ≤ 12) = true := decide_eq_true (by omega)
    rw [if_pos (by omega), Int.toNat_natCast, show mkV a0 a2 a3 = mkS a0 from if_pos (by omega), mkS_t, str_b, ← show mkV a0 a2 a3 = mkS a0 from if_pos (by omega)] at HTa
    rw [if_pos (by omega), if_pos (by omega)] at HQa
    obtain ⟨p, hp⟩ : ∃ p, p = preB a0 := ⟨_, rfl⟩
    rw [← hp] at HPa hps hpe
    have hp4 : p.size = 4 := by omega
    rw [hp4] at hpe
    have hlt : (4 : Int) ≤ (a0.size : Int) := by omega
    have q5a : decide ((a0.size : Int) < 4) = false := decide_eq_false (by omega)
    have q5b : decide (a0.size < 4) = false := decide_eq_false (by omega)
    clear hp hps hpa
    have heq0 := HEQ.out
    rw [show decide (mkV a0 a2 a3 = mkV a1 a2 a3) = decide (a0 = a1) from by rw [show mkV a0 a2 a3 = mkS a0 from if_pos (by omega), show mkV a1 a2 a3 = mkS a1 from if_pos (by omega)]; exact mkS_inj a0 a1 (by omega) (by omega)] at heq0
    have hstr := str_eq a0 a1
    have hstr2 := str_eq2 a0 a1
    obtain ⟨r, hr⟩ : ∃ r : Bool, decide (a0 = a1) = r := ⟨_, rfl⟩
    rw [hr] at heq0 hstr hstr2
    clear hr
    obtain ⟨C, hC⟩ : ∃ C, C = cel (mkV a0 a2 a3) := ⟨_, rfl⟩
    obtain ⟨D, hD⟩ : ∃ D, D = cel (mkV a1 a2 a3) := ⟨_, rfl⟩
    rw [← hC] at HMa HRa HLa HTa HPa HQa HSC H1C heq0
    rw [← hD] at HMb HRb HSD H1D heq0
    clear hC hD HEQ hsa hsb
    go_enter Try.func5, Try.ntmps5
    go_wp2_with fail
    refine (law6_awake _).mono ?_
    rintro e w0 ⟨rfl, hb⟩
    have HB0 := Aside0.mk (below_step HB.out hb)
    clear HB hb
    go_wp2_with fail
    refine (HMa.out _).mono ?_
    rintro e w1 ⟨rfl, hb⟩
    have HB1 := Aside0.mk (below_step HB0.out hb)
    have HN1 := Aside0.mk (blk_new w1 (.cells Z 23))
    clear HB0 hb
    go_wp2_with (first | ((with_reducible refine gate_store (t := 23) (p := 9) rfl ?_); refine wpList_store_row rfl 23 _ _ rfl w1.heap.size C (by rfl) (by rfl) 23 Z HN1.out (by rw [info16, HSC.out]) (HSZ.out.trans HSC.out.symm) H1C.out ?_))
    have HG1 := Aside0.mk (setRow_heap _ _ _ C _ _ HN1.out)
    have HB1' := Aside0.mk (below_row (below_alloc HB1.out (.cells Z 23)) (below_size HB1.out) C)
    refine (HMb.out _).mono ?_
    rintro e w2 ⟨rfl, hb1⟩
    have HG2 := Aside0.mk ((hb1.block _ (blk_lt HG1.out)).trans HG1.out)
    have HB2 := Aside0.mk (below_step HB1'.out hb1)
    have HN2 := Aside0.mk (blk_new w2 (.cells Z 23))
    have HG3 : Aside0 ((w2.alloc (.cells Z 23)).heap[w1.heap.size]? = some (.cells C 23 (0, 0))) := ⟨((below_alloc (Below.refl _ w2) (.cells Z 23)).block _ (blk_lt HG2.out)).trans HG2.out⟩
    have HLT := Aside0.mk (blk_lt HG2.out)
    have HGa4 : Aside0 (((w2.alloc (.cells Z 23)).setRow w2.heap.size D).heap[w1.heap.size]? = some (.cells C 23 (0, 0))) := ⟨(heap_row (by have := HLT.out; omega)).trans HG3.out⟩
    have HGb4 := Aside0.mk (setRow_heap _ _ _ D _ _ HN2.out)
    have HB4 := Aside0.mk (below_row (below_alloc HB2.out (.cells Z 23)) (below_size HB2.out) D)
    clear HB1 HB1' HG1 hb1 HG2 HB2 HG3
    go_wp2_with (first | ((with_reducible refine gate_store (t := 23) (p := 11) rfl ?_); refine wpList_store_row rfl 23 _ _ rfl w2.heap.size D (by rfl) (by rfl) 23 Z HN2.out (by rw [info16, HSD.out]) (HSZ.out.trans HSD.out.symm) H1D.out ?_) | ((with_reducible refine gate_dst (N := 54) rfl ?_); refine Go.BigFrame.wpList_want ?hw (fun K hK => ?_); (case hw => rfl); refine wp_load_row 23 _ rfl w1.heap.size ?hx 23 C (0, 0) _ HGa4.out Try.underlying23 rfl ?hi ?_; (case hx => rfl); (case hi => rw [info16, HSC.out]); refine hK _ _ ?_; clear hK K))
    refine (HRa.out _).mono ?_
    rintro e w5 ⟨rfl, hb1⟩
    have HGa5 := Aside0.mk ((hb1.block _ (blk_lt HGa4.out)).trans HGa4.out)
    have HGb5 := Aside0.mk ((hb1.block _ (blk_lt HGb4.out)).trans HGb4.out)
    have HB5 := Aside0.mk (below_step HB4.out hb1)
    clear HGa4 HGb4 HB4 hb1
    go_wp2_with (first | ((with_reducible refine gate_dst (N := 59) rfl ?_); refine Go.BigFrame.wpList_want ?hw (fun K hK => ?_); (case hw => rfl); refine wp_load_row 23 _ rfl w2.heap.size ?hx 23 D (0, 0) _ HGb5.out Try.underlying23 rfl ?hi ?_; (case hx => rfl); (case hi => rw [info16, HSD.out]); refine hK _ _ ?_; clear hK K))
    refine (HRb.out _).mono ?_
    rintro e w6 ⟨rfl, hb1⟩
    have HGa6 := Aside0.mk ((hb1.block _ (blk_lt HGa5.out)).trans HGa5.out)
    have HGb6 := Aside0.mk ((hb1.block _ (blk_lt HGb5.out)).trans HGb5.out)
    have HB6 := Aside0.mk (below_step HB5.out hb1)
    clear HGa5 HGb5 HB5 hb1
    go_wp2_with (first | ((with_reducible refine gate_dst (N := 64) rfl ?_); refine Go.BigFrame.wpList_want ?hw (fun K hK => ?_); (case hw => rfl); refine wp_load_row 23 _ rfl w1.heap.size ?hx 23 C (0, 0) _ HGa6.out Try.underlying23 rfl ?hi ?_; (case hx => rfl); (case hi => rw [info16, HSC.out]); refine hK _ _ ?_; clear hK K))
    refine (HLa.out _).mono ?_
    rintro e w7 ⟨rfl, hb1⟩
    have HGa7 := Aside0.mk ((hb1.block _ (blk_lt HGa6.out)).trans HGa6.out)
    have HGb7 := Aside0.mk ((hb1.block _ (blk_lt HGb6.out)).trans HGb6.out)
    have HB7 := Aside0.mk (below_step HB6.out hb1)
    clear HGa6 HGb6 HB6 hb1
    go_wp2_with (first | ((with_reducible refine gate_dst (N := 75) rfl ?_); refine Go.BigFrame.wpList_want ?hw (fun K hK => ?_); (case hw => rfl); refine wp_load_row 23 _ rfl w1.heap.size ?hx 23 C (0, 0) _ HGa7.out Try.underlying23 rfl ?hi ?_; (case hx => rfl); (case hi => rw [info16, HSC.out]); refine hK _ _ ?_; clear hK K))
    refine (HTa.out _).mono ?_
    rintro e w8 ⟨rfl, hb1⟩
    have HGa8 := Aside0.mk ((hb1.block _ (blk_lt HGa7.out)).trans HGa7.out)
    have HGb8 := Aside0.mk ((hb1.block _ (blk_lt HGb7.out)).trans HGb7.out)
    have HB8 := Aside0.mk (below_step HB7.out hb1)
    clear HGa7 HGb7 HB7 hb1
    go_wp2_with (first | ((with_reducible refine gate_dst (N := 81) rfl ?_); refine Go.BigFrame.wpList_want ?hw (fun K hK => ?_); (case hw => rfl); refine wp_load_row 23 _ rfl w1.heap.size ?hx 23 C (0, 0) _ HGa8.out Try.underlying23 rfl ?hi ?_; (case hx => rfl); (case hi => rw [info16, HSC.out]); refine hK _ _ ?_; clear hK K))
    refine (HPa.out _).mono ?_
    rintro e w9 ⟨rfl, hb1⟩
    have HGa9 := Aside0.mk ((hb1.block _ (blk_lt HGa8.out)).trans HGa8.out)
    have HGb9 := Aside0.mk ((hb1.block _ (blk_lt HGb8.out)).trans HGb8.out)
    have HB9 := Aside0.mk (below_step HB8.out hb1)
    clear HGa8 HGb8 HB8 hb1
    go_wp2_with (first | ((with_reducible refine gate_dst (N := 112) rfl ?_); refine Go.BigFrame.wpList_want ?hw (fun K hK => ?_); (case hw => rfl); refine wp_load_row 23 _ rfl w1.heap.size ?hx 23 C (0, 0) _ HGa9.out Try.underlying23 rfl ?hi ?_; (case hx => rfl); (case hi => rw [info16, HSC.out]); refine hK _ _ ?_; clear hK K))
    refine (HQa.out _).mono ?_
    rintro e w10 ⟨rfl, hb1⟩
    have HGa10 := Aside0.mk ((hb1.block _ (blk_lt HGa9.out)).trans HGa9.out)
    have HGb10 := Aside0.mk ((hb1.block _ (blk_lt HGb9.out)).trans HGb9.out)
    have HB10 := Aside0.mk (below_step HB9.out hb1)
    clear HGa9 HGb9 HB9 hb1
    go_wp2_with (first | ((with_reducible refine gate_dst (N := 140) rfl ?_); refine Go.BigFrame.wpList_want ?hw (fun K hK => ?_); (case hw => rfl); refine wp_load_row 23 _ rfl w1.heap.size ?hx 23 C (0, 0) _ HGa10.out Try.underlying23 rfl ?hi ?_; (case hx => rfl); (case hi => rw [info16, HSC.out]); refine hK _ _ ?_; clear hK K) | ((with_reducible refine gate_dst (N := 141) rfl ?_); refine Go.BigFrame.wpList_want ?hw (fun K hK => ?_); (case hw => rfl); refine wp_load_row 23 _ rfl w2.heap.size ?hx 23 D (0, 0) _ HGb10.out Try.underlying23 rfl ?hi ?_; (case hx => rfl); (case hi => rw [info16, HSD.out]); refine hK _ _ ?_; clear hK K))
    go_ret
    exact ⟨rfl, HB10.out⟩
end Go.Proofs.Ytmedgpchmkmifaa.HW
