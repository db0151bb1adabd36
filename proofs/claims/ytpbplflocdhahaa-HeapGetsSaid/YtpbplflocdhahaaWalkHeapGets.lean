/- HeapGets: the law, walked. -/
import Derived.Test.YtpbplflocdhahaaHGetP
set_option linter.unusedVariables false
set_option linter.unusedSimpArgs false
namespace Go.Proofs.Ytpbplflocdhahaa.HW
open Go.RowKit Go.Proofs.Ytpbplflocdhahaa.P Go.Proofs.Ytpbplflocdhahaa.HP Go.Proofs.YtpbplflocdhahaaW.PrintWords Go.Proofs.YtpbplflocdhahaaW.PrintLast Go.Proofs.YtpbplflocdhahaaW.PrintMore
attribute [local go_sem] max2_int min2_int max_two min_two max_three min_three max_four min_four
theorem wbig (x : Int) (h0 : 0 ≤ x) (h1 : x ≤ 1000000000000) : wrap64 x = x := by unfold wrap64; omega
set_option maxHeartbeats 8000000 in
set_option maxRecDepth 100000 in
theorem HeapGets_a (A0 : Option Addr) (c0 : Nat) (l0 : List Int) (a1 : Int) (a : List Int) (w : World) (hc0 : l0.length ≤ c0) (hr0 : Kd.C (Kd.int .u8) w A0 l0.length l0) (hB : isB l0) (hwf : -9223372036854775808 ≤ a1 ∧ a1 ≤ 9223372036854775807) (ha : a.length = 16) (hab : isB a) (h : 3000 < l0.length) :
    Calls Try.prog 5 #[.slice A0 l0.length c0, .int .i64 a1, .agg (cel a)] w fun e w' => e = .returned (.bool true) ∧ Below w.heap.size w w' := by
  obtain ⟨C, hC⟩ : ∃ C, C = cel a := ⟨_, rfl⟩
  have HSC : Aside0 (C.size = 16) := ⟨by rw [hC, cel_size, ha]⟩
  obtain ⟨N, hN⟩ : ∃ N, N = l0.length := ⟨_, rfl⟩
  rw [← hN] at hr0 hc0 h ⊢
  rw [← hC]
  have t1a : decide (3000 < (N : Int)) = true := decide_eq_true (by omega)
  have t1b : decide (3000 < N) = true := decide_eq_true (by omega)
  clear hr0 hc0 hB hwf ha hab hC hN h
  have HC0 := Aside0.mk (blk_new w (.cells C 28))
  have HB0 := Aside0.mk (below_alloc (Below.refl w.heap.size w) (.cells C 28))
  go_enter Try.func5, Try.ntmps5
  go_wp2_with fail
  refine (law7_awake _).mono ?_
  rintro e w1 ⟨rfl, hb⟩
  have HC1 : Aside0 (w1.heap[w.heap.size]? = some (.cells C 28 (0, 0))) := ⟨(hb.block _ (blk_lt HC0.out)).trans HC0.out⟩
  have HB1 := Aside0.mk (below_step HB0.out hb)
  clear HC0 HB0 hb
  go_wp2_with fail
  refine (law7_awake _).mono ?_
  rintro e w2 ⟨rfl, hb⟩
  have HC2 : Aside0 (w2.heap[w.heap.size]? = some (.cells C 28 (0, 0))) := ⟨(hb.block _ (blk_lt HC1.out)).trans HC1.out⟩
  have HB2 := Aside0.mk (below_step HB1.out hb)
  clear HC1 HB1 hb
  go_wp2_with fail
  go_ret
  exact ⟨rfl, HB2.out⟩
set_option maxHeartbeats 8000000 in
set_option maxRecDepth 100000 in
theorem HeapGets_b (A0 : Option Addr) (c0 : Nat) (l0 : List Int) (a1 : Int) (a : List Int) (w : World) (hc0 : l0.length ≤ c0) (hr0 : Kd.C (Kd.int .u8) w A0 l0.length l0) (hB : isB l0) (hwf : -9223372036854775808 ≤ a1 ∧ a1 ≤ 9223372036854775807) (ha : a.length = 16) (hab : isB a) (h : ¬ 3000 < l0.length) (h1 : a1 < 0) :
    Calls Try.prog 5 #[.slice A0 l0.length c0, .int .i64 a1, .agg (cel a)] w fun e w' => e = .returned (.bool true) ∧ Below w.heap.size w w' := by
  obtain ⟨C, hC⟩ : ∃ C, C = cel a := ⟨_, rfl⟩
  have HSC : Aside0 (C.size = 16) := ⟨by rw [hC, cel_size, ha]⟩
  obtain ⟨N, hN⟩ : ∃ N, N = l0.length := ⟨_, rfl⟩
  rw [← hN] at hr0 hc0 h ⊢
  rw [← hC]
  have t1a : decide (3000 < (N : Int)) = false := decide_eq_false (by omega)
  have t1b : decide (3000 < N) = false := decide_eq_false (by omega)
  have t2 : decide (a1 < 0) = true := decide_eq_true (by omega)
  clear hr0 hc0 hB hwf ha hab hC hN h h1
  have HC0 := Aside0.mk (blk_new w (.cells C 28))
  have HB0 := Aside0.mk (below_alloc (Below.refl w.heap.size w) (.cells C 28))
  go_enter Try.func5, Try.ntmps5
  go_wp2_with fail
  refine (law7_awake _).mono ?_
  rintro e w1 ⟨rfl, hb⟩
  have HC1 : Aside0 (w1.heap[w.heap.size]? = some (.cells C 28 (0, 0))) := ⟨(hb.block _ (blk_lt HC0.out)).trans HC0.out⟩
  have HB1 := Aside0.mk (below_step HB0.out hb)
  clear HC0 HB0 hb
  go_wp2_with fail
  refine (law7_awake _).mono ?_
  rintro e w2 ⟨rfl, hb⟩
  have HC2 : Aside0 (w2.heap[w.heap.size]? = some (.cells C 28 (0, 0))) := ⟨(hb.block _ (blk_lt HC1.out)).trans HC1.out⟩
  have HB2 := Aside0.mk (below_step HB1.out hb)
  clear HC1 HB1 hb
  go_wp2_with fail
  go_ret
  exact ⟨rfl, HB2.out⟩
set_option maxHeartbeats 8000000 in
set_option maxRecDepth 100000 in
theorem HeapGets_wrong (A0 : Option Addr) (c0 : Nat) (l0 : List Int) (a1 : Int) (a : List Int) (w : World) (hc0 : l0.length ≤ c0) (hr0 : Kd.C (Kd.int .u8) w A0 l0.length l0) (hB : isB l0) (hwf : -9223372036854775808 ≤ a1 ∧ a1 ≤ 9223372036854775807) (ha : a.length = 16) (hab : isB a) (h : ¬ 3000 < l0.length) (h1 : ¬ a1 < 0) (hr : rightB a = false) :
    Calls Try.prog 5 #[.slice A0 l0.length c0, .int .i64 a1, .agg (cel a)] w fun e w' => e = .returned (.bool true) ∧ Below w.heap.size w w' := by
  have hkk : ∃ k : Nat, (k : Int) = if a1 < 1 ∨ 65536 < a1 then 65536 else a1 := by
    by_cases h : a1 < 1 ∨ 65536 < a1
    · exact ⟨65536, by rw [if_pos h]; rfl⟩
    · exact ⟨a1.toNat, by rw [if_neg h]; omega⟩
  obtain ⟨k, hk⟩ := hkk
  have hk1 : 1 ≤ k ∧ k ≤ 65536 := by
    by_cases h : a1 < 1 ∨ 65536 < a1
    · rw [if_pos h] at hk; omega
    · rw [if_neg h] at hk; omega
  have HOF := Aside0.mk (fun W hW => Of_ A0 c0 l0 a1 W hc0 (Kd.C_below hr0 hW) (by omega) k hk)
  have HRt := Aside0.mk (fun w => view_Right.calls a w ha hab)
  have HSh := Aside0.mk (fun w => view_Short.calls a w ha hab)
  have hcase : (decide (a1 = 0) = true ∧ (a1 == 0) = true ∧ (65536 : Int) = (k : Int)) ∨ (decide (a1 = 0) = false ∧ (a1 == 0) = false ∧ decide (65536 < a1) = true ∧ (65536 : Int) = (k : Int)) ∨ (decide (a1 = 0) = false ∧ (a1 == 0) = false ∧ decide (65536 < a1) = false ∧ a1 = (k : Int)) := by
    by_cases h0 : a1 = 0
    · rw [if_pos (by omega)] at hk; exact .inl ⟨by simp [h0], by simp [h0], hk.symm⟩
    · by_cases h2 : 65536 < a1
      · rw [if_pos (by omega)] at hk; exact .inr (.inl ⟨by simp [h0], by simp [h0], by simp [h2], hk.symm⟩)
      · rw [if_neg (by omega)] at hk; exact .inr (.inr ⟨by simp [h0], by simp [h0], by simp [h2], hk.symm⟩)
  rw [hr] at HRt
  obtain ⟨C, hC⟩ : ∃ C, C = cel a := ⟨_, rfl⟩
  have HSC : Aside0 (C.size = 16) := ⟨by rw [hC, cel_size, ha]⟩
  have HGT := Aside0.mk (fun (lo g : Nat) (W : World) (hW : HM lo W g (chunks k l0) (l0.length : Int) (l0.length : Int)) => get_wrong g a W ha hab hr)
  obtain ⟨N, hN⟩ : ∃ N, N = l0.length := ⟨_, rfl⟩
  have HNE := Aside0.mk hN
  rw [← hC] at HRt HSh HGT ⊢
  rw [← hN] at HOF HGT h ⊢
  have t1a : decide (3000 < (N : Int)) = false := decide_eq_false (by omega)
  have t1b : decide (3000 < N) = false := decide_eq_false (by omega)
  have t2 : decide (a1 < 0) = false := decide_eq_false (by omega)
  have HCS := Aside0.mk hcase
  clear hk hr0 hc0 hB hwf ha hab hC hN hcase h h1  hr
  have HC0 := Aside0.mk (blk_new w (.cells C 28))
  have HB0 := Aside0.mk (below_alloc (Below.refl w.heap.size w) (.cells C 28))
  go_enter Try.func5, Try.ntmps5
  go_wp2_with fail
  refine (law7_awake _).mono ?_
  rintro e w1 ⟨rfl, hb⟩
  have HC1 : Aside0 (w1.heap[w.heap.size]? = some (.cells C 28 (0, 0))) := ⟨(hb.block _ (blk_lt HC0.out)).trans HC0.out⟩
  have HB1 := Aside0.mk (below_step HB0.out hb)
  clear HC0 HB0 hb
  go_wp2_with fail
  refine (HOF.out _ ((Below.refl w.heap.size w).trans HB1.out)).mono ?_
  rintro e w3 ⟨g, rfl, hh, hb⟩
  have HC3 : Aside0 (w3.heap[w.heap.size]? = some (.cells C 28 (0, 0))) := ⟨(hb.block _ (blk_lt HC1.out)).trans HC1.out⟩
  have HB3 := Aside0.mk (below_step HB1.out hb)
  have HHM := Aside0.mk (HGT.out _ _ _ hh)
  clear HC1 HB1 hb hh HGT HOF
  rcases HCS.out with ⟨ta, tb, hk⟩ | ⟨ta, tb, tc, hk⟩ | ⟨ta, tb, tc, hk⟩
  all_goals (have HK := Aside0.mk hk; clear HCS hk)
  all_goals (
    go_wp2_with (first | ((with_reducible refine gate_dst (N := 39) rfl ?_); refine wpList_load_row rfl 28 _ rfl w.heap.size (by rfl) 28 C (0, 0) _ HC3.out Try.underlying28 rfl (by rw [info16, HSC.out]) ?_))
    try rw [HK.out]
    refine (HHM.out).mono ?_
    rintro e w4 ⟨rfl, hb⟩
    have HC4 : Aside0 (w4.heap[w.heap.size]? = some (.cells C 28 (0, 0))) := ⟨(hb.block _ (blk_lt HC3.out)).trans HC3.out⟩
    have HB4 := Aside0.mk (below_step HB3.out hb)
    clear HC3 HB3 hb
    go_wp2_with (first | ((with_reducible refine gate_dst (N := 43) rfl ?_); refine wpList_load_row rfl 28 _ rfl w.heap.size (by rfl) 28 C (0, 0) _ HC4.out Try.underlying28 rfl (by rw [info16, HSC.out]) ?_))
    refine (HRt.out _).mono ?_
    rintro e w5 ⟨rfl, hb⟩
    have HC5 : Aside0 (w5.heap[w.heap.size]? = some (.cells C 28 (0, 0))) := ⟨(hb.block _ (blk_lt HC4.out)).trans HC4.out⟩
    have HB5 := Aside0.mk (below_step HB4.out hb)
    clear HC4 HB4 hb
    go_wp2_with fail
    go_ret
    exact ⟨rfl, HB5.out⟩)
set_option maxHeartbeats 8000000 in
set_option maxRecDepth 100000 in
theorem HeapGets_short (A0 : Option Addr) (c0 : Nat) (l0 : List Int) (a1 : Int) (a : List Int) (w : World) (hc0 : l0.length ≤ c0) (hr0 : Kd.C (Kd.int .u8) w A0 l0.length l0) (hB : isB l0) (hwf : -9223372036854775808 ≤ a1 ∧ a1 ≤ 9223372036854775807) (ha : a.length = 16) (hab : isB a) (h : ¬ 3000 < l0.length) (h1 : ¬ a1 < 0) (hr : rightB a = true) (n : Nat) (hn : le4v a = (n : Int)) (h12 : n ≤ 12) :
    Calls Try.prog 5 #[.slice A0 l0.length c0, .int .i64 a1, .agg (cel a)] w fun e w' => e = .returned (.bool true) ∧ Below w.heap.size w w' := by
  have hkk : ∃ k : Nat, (k : Int) = if a1 < 1 ∨ 65536 < a1 then 65536 else a1 := by
    by_cases h : a1 < 1 ∨ 65536 < a1
    · exact ⟨65536, by rw [if_pos h]; rfl⟩
    · exact ⟨a1.toNat, by rw [if_neg h]; omega⟩
  obtain ⟨k, hk⟩ := hkk
  have hk1 : 1 ≤ k ∧ k ≤ 65536 := by
    by_cases h : a1 < 1 ∨ 65536 < a1
    · rw [if_pos h] at hk; omega
    · rw [if_neg h] at hk; omega
  have HOF := Aside0.mk (fun W hW => Of_ A0 c0 l0 a1 W hc0 (Kd.C_below hr0 hW) (by omega) k hk)
  have HRt := Aside0.mk (fun w => view_Right.calls a w ha hab)
  have HSh := Aside0.mk (fun w => view_Short.calls a w ha hab)
  have hcase : (decide (a1 = 0) = true ∧ (a1 == 0) = true ∧ (65536 : Int) = (k : Int)) ∨ (decide (a1 = 0) = false ∧ (a1 == 0) = false ∧ decide (65536 < a1) = true ∧ (65536 : Int) = (k : Int)) ∨ (decide (a1 = 0) = false ∧ (a1 == 0) = false ∧ decide (65536 < a1) = false ∧ a1 = (k : Int)) := by
    by_cases h0 : a1 = 0
    · rw [if_pos (by omega)] at hk; exact .inl ⟨by simp [h0], by simp [h0], hk.symm⟩
    · by_cases h2 : 65536 < a1
      · rw [if_pos (by omega)] at hk; exact .inr (.inl ⟨by simp [h0], by simp [h0], by simp [h2], hk.symm⟩)
      · rw [if_neg (by omega)] at hk; exact .inr (.inr ⟨by simp [h0], by simp [h0], by simp [h2], hk.symm⟩)
  rw [hr] at HRt
  rw [hn, decide_eq_true (show (n : Int) ≤ 12 by omega)] at HSh
  have HTx := Aside0.mk (fun w => view_Text.calls a w ha hab)
  rw [hn, if_pos (show (n : Int) ≤ 12 by omega), Int.toNat_natCast] at HTx
  obtain ⟨he, hsz⟩ := short_mk a hab ha hr n hn h12
  obtain ⟨T4, hT4⟩ : ∃ s, s = strOfNums ((a.drop 4).take n) := ⟨_, rfl⟩
  rw [← hT4] at he hsz HTx
  have hvw : VW a T4 := by have h9 := vw_S T4 (by omega); rwa [← he] at h9
  obtain ⟨C, hC⟩ : ∃ C, C = cel a := ⟨_, rfl⟩
  have HSC : Aside0 (C.size = 16) := ⟨by rw [hC, cel_size, ha]⟩
  have HGT := Aside0.mk (fun (lo g : Nat) (W : World) (hW : HM lo W g (chunks k l0) (l0.length : Int) (l0.length : Int)) => get_short g a T4 W hvw (by omega) he)
  obtain ⟨N, hN⟩ : ∃ N, N = l0.length := ⟨_, rfl⟩
  have HNE := Aside0.mk hN
  rw [← hC] at HRt HSh HGT HTx ⊢
  rw [← hN] at HOF HGT h ⊢
  have t1a : decide (3000 < (N : Int)) = false := decide_eq_false (by omega)
  have t1b : decide (3000 < N) = false := decide_eq_false (by omega)
  have t2 : decide (a1 < 0) = false := decide_eq_false (by omega)
  have HCS := Aside0.mk hcase
  clear hk hr0 hc0 hB hwf ha hab hC hN hcase h h1  hr hn h12 he hsz hT4 hvw
  have HC0 := Aside0.mk (blk_new w (.cells C 28))
  have HB0 := Aside0.mk (below_alloc (Below.refl w.heap.size w) (.cells C 28))
  go_enter Try.func5, Try.ntmps5
  go_wp2_with fail
  refine (law7_awake _).mono ?_
  rintro e w1 ⟨rfl, hb⟩
  have HC1 : Aside0 (w1.heap[w.heap.size]? = some (.cells C 28 (0, 0))) := ⟨(hb.block _ (blk_lt HC0.out)).trans HC0.out⟩
  have HB1 := Aside0.mk (below_step HB0.out hb)
  clear HC0 HB0 hb
  go_wp2_with fail
  refine (HOF.out _ ((Below.refl w.heap.size w).trans HB1.out)).mono ?_
  rintro e w3 ⟨g, rfl, hh, hb⟩
  have HC3 : Aside0 (w3.heap[w.heap.size]? = some (.cells C 28 (0, 0))) := ⟨(hb.block _ (blk_lt HC1.out)).trans HC1.out⟩
  have HB3 := Aside0.mk (below_step HB1.out hb)
  have HHM := Aside0.mk (HGT.out _ _ _ hh)
  clear HC1 HB1 hb hh HGT HOF
  rcases HCS.out with ⟨ta, tb, hk⟩ | ⟨ta, tb, tc, hk⟩ | ⟨ta, tb, tc, hk⟩
  all_goals (have HK := Aside0.mk hk; clear HCS hk)
  all_goals (
    go_wp2_with (first | ((with_reducible refine gate_dst (N := 39) rfl ?_); refine wpList_load_row rfl 28 _ rfl w.heap.size (by rfl) 28 C (0, 0) _ HC3.out Try.underlying28 rfl (by rw [info16, HSC.out]) ?_))
    try rw [HK.out]
    refine (HHM.out).mono ?_
    rintro e w4 ⟨rfl, hb⟩
    have HC4 : Aside0 (w4.heap[w.heap.size]? = some (.cells C 28 (0, 0))) := ⟨(hb.block _ (blk_lt HC3.out)).trans HC3.out⟩
    have HB4 := Aside0.mk (below_step HB3.out hb)
    clear HC3 HB3 hb
    go_wp2_with (first | ((with_reducible refine gate_dst (N := 43) rfl ?_); refine wpList_load_row rfl 28 _ rfl w.heap.size (by rfl) 28 C (0, 0) _ HC4.out Try.underlying28 rfl (by rw [info16, HSC.out]) ?_))
    refine (HRt.out _).mono ?_
    rintro e w5 ⟨rfl, hb⟩
    have HC5 : Aside0 (w5.heap[w.heap.size]? = some (.cells C 28 (0, 0))) := ⟨(hb.block _ (blk_lt HC4.out)).trans HC4.out⟩
    have HB5 := Aside0.mk (below_step HB4.out hb)
    clear HC4 HB4 hb
    go_wp2_with (first | ((with_reducible refine gate_dst (N := 52) rfl ?_); refine wpList_load_row rfl 28 _ rfl w.heap.size (by rfl) 28 C (0, 0) _ HC5.out Try.underlying28 rfl (by rw [info16, HSC.out]) ?_))
    refine (HSh.out _).mono ?_
    rintro e w6 ⟨rfl, hb⟩
    have HC6 : Aside0 (w6.heap[w.heap.size]? = some (.cells C 28 (0, 0))) := ⟨(hb.block _ (blk_lt HC5.out)).trans HC5.out⟩
    have HB6 := Aside0.mk (below_step HB5.out hb)
    clear HC5 HB5 hb
    go_wp2_with (first | ((with_reducible refine gate_dst (N := 57) rfl ?_); refine Go.BigFrame.wpList_want ?hw (fun K hK => ?_); (case hw => rfl); refine wp_load_row 28 _ rfl w.heap.size ?hx 28 C (0, 0) _ HC6.out Try.underlying28 rfl ?hi ?_; (case hx => rfl); (case hi => rw [info16, HSC.out]); refine hK _ _ ?_; clear hK K))
    refine (HTx.out _).mono ?_
    rintro e w7 ⟨rfl, hb⟩
    have HC7 : Aside0 (w7.heap[w.heap.size]? = some (.cells C 28 (0, 0))) := ⟨(hb.block _ (blk_lt HC6.out)).trans HC6.out⟩
    have HB7 := Aside0.mk (below_step HB6.out hb)
    clear HC6 HB6 hb
    go_wp2_with fail
    go_ret
    exact ⟨rfl, HB7.out⟩)
set_option maxHeartbeats 8000000 in
set_option maxRecDepth 100000 in
theorem HeapGets_overN (A0 : Option Addr) (c0 : Nat) (l0 : List Int) (a1 : Int) (a : List Int) (w : World) (hc0 : l0.length ≤ c0) (hr0 : Kd.C (Kd.int .u8) w A0 l0.length l0) (hB : isB l0) (hwf : -9223372036854775808 ≤ a1 ∧ a1 ≤ 9223372036854775807) (ha : a.length = 16) (hab : isB a) (h : ¬ 3000 < l0.length) (h1 : ¬ a1 < 0) (k0 : Nat) (hr : rightB a = true) (n : Nat) (hn : le4v a = (n : Int)) (h12 : 12 < n) (hn4 : n ≤ 4096) (q at_ : Nat) (hp8 : le4v (a.drop 8) = (q : Int)) (hp12 : le4v (a.drop 12) = (at_ : Int)) (h65 : at_ ≤ 65536) (hq : q ≤ 65535) (hE : l0.length < (q + 1) * k0)  (hk0 : (k0 : Int) = if a1 < 1 ∨ 65536 < a1 then 65536 else a1) (hov : endOf q k0 l0.length < q * k0 + at_ + n) :
    Calls Try.prog 5 #[.slice A0 l0.length c0, .int .i64 a1, .agg (cel a)] w fun e w' => e = .returned (.bool true) ∧ Below w.heap.size w w' := by
  have hkk : ∃ k : Nat, (k : Int) = if a1 < 1 ∨ 65536 < a1 then 65536 else a1 := by
    by_cases h : a1 < 1 ∨ 65536 < a1
    · exact ⟨65536, by rw [if_pos h]; rfl⟩
    · exact ⟨a1.toNat, by rw [if_neg h]; omega⟩
  obtain ⟨k, hk⟩ := hkk
  have hk1 : 1 ≤ k ∧ k ≤ 65536 := by
    by_cases h : a1 < 1 ∨ 65536 < a1
    · rw [if_pos h] at hk; omega
    · rw [if_neg h] at hk; omega
  have HOF := Aside0.mk (fun W hW => Of_ A0 c0 l0 a1 W hc0 (Kd.C_below hr0 hW) (by omega) k hk)
  have HRt := Aside0.mk (fun w => view_Right.calls a w ha hab)
  have HSh := Aside0.mk (fun w => view_Short.calls a w ha hab)
  have hcase : (decide (a1 = 0) = true ∧ (a1 == 0) = true ∧ (65536 : Int) = (k : Int)) ∨ (decide (a1 = 0) = false ∧ (a1 == 0) = false ∧ decide (65536 < a1) = true ∧ (65536 : Int) = (k : Int)) ∨ (decide (a1 = 0) = false ∧ (a1 == 0) = false ∧ decide (65536 < a1) = false ∧ a1 = (k : Int)) := by
    by_cases h0 : a1 = 0
    · rw [if_pos (by omega)] at hk; exact .inl ⟨by simp [h0], by simp [h0], hk.symm⟩
    · by_cases h2 : 65536 < a1
      · rw [if_pos (by omega)] at hk; exact .inr (.inl ⟨by simp [h0], by simp [h0], by simp [h2], hk.symm⟩)
      · rw [if_neg (by omega)] at hk; exact .inr (.inr ⟨by simp [h0], by simp [h0], by simp [h2], hk.symm⟩)
  obtain rfl : k0 = k := by omega
  have hend : endOf q k0 l0.length = l0.length := by unfold endOf; exact if_pos hE
  have HGT0 := fun (lo g : Nat) (W : World) (hW : HM lo W g (chunks k0 l0) (l0.length : Int) (l0.length : Int)) => get_over a n W hW hk1 (by omega) ha hab hr hn h12 hn4 q at_ hp8 hp12 h65 hov
  rw [hend] at hov
  rw [hr] at HRt
  rw [hn, decide_eq_false (show ¬ (n : Int) ≤ 12 by omega)] at HSh
  have HLn := Aside0.mk (fun w => view_Len.calls a w ha hab)
  have HPr := Aside0.mk (fun w => view_Prefix.calls a w ha hab)
  have HPl := Aside0.mk (fun w => view_Place.calls a w ha hab)
  rw [hn] at HLn HPl
  rw [if_neg (by omega), if_neg (by omega), hp8, hp12] at HPl
  obtain ⟨P9, hP9⟩ : ∃ P, P = pvw a := ⟨_, rfl⟩
  rw [show strOfNums ((a.drop 4).take (if le4v a < 4 then (le4v a).toNat else 4)) = P9 from hP9.symm] at HPr
  have hqk : q * k0 ≤ 65535 * 65536 := Nat.mul_le_mul hq hk1.2
  have hqk1 : (q + 1) * k0 = q * k0 + k0 := Nat.succ_mul q k0
  obtain ⟨QK, hQK⟩ : ∃ x, x = q * k0 := ⟨_, rfl⟩
  obtain ⟨E1, hE1⟩ : ∃ x, x = (q + 1) * k0 := ⟨_, rfl⟩
  have hc1 : ((q : Int) + 1) * (k0 : Int) = (E1 : Int) := by rw [hE1]; push_cast; rfl
  have hc2 : (q : Int) * (k0 : Int) = (QK : Int) := by rw [hQK]; push_cast; rfl
  rw [← hE1] at hqk1 hE
  rw [← hQK] at hqk hqk1 hov
  have HW := Aside0.mk (show wrap64 ((q : Int) + 1) = (q : Int) + 1 ∧ wrap64 (((q : Int) + 1) * (k0 : Int)) = (E1 : Int) ∧ wrap64 ((q : Int) * (k0 : Int)) = (QK : Int) ∧ wrap64 ((QK : Int) + (at_ : Int)) = ((QK + at_ : Nat) : Int) from ⟨wbig _ (by omega) (by omega), by rw [hc1]; exact wbig _ (by omega) (by omega), by rw [hc2]; exact wbig _ (by omega) (by omega), by rw [wbig _ (by omega) (by omega)]; rfl⟩)
  clear hc1 hc2
  obtain ⟨F, hF⟩ : ∃ x, x = QK + at_ := ⟨_, rfl⟩
  rw [← hF] at HW hov
  have HW5 := Aside0.mk (show wrap64 ((F : Int) + (n : Int)) = (F : Int) + (n : Int) from wbig _ (by omega) (by omega))
  obtain ⟨C, hC⟩ : ∃ C, C = cel a := ⟨_, rfl⟩
  have HSC : Aside0 (C.size = 16) := ⟨by rw [hC, cel_size, ha]⟩
  obtain ⟨N, hN⟩ : ∃ N, N = l0.length := ⟨_, rfl⟩
  have HNE := Aside0.mk hN
  rw [← hC] at HRt HSh HLn HPr HPl HGT0 ⊢
  rw [← hN] at HOF h HGT0 hov hE ⊢
  have HGT := Aside0.mk HGT0
  have t1a : decide (3000 < (N : Int)) = false := decide_eq_false (by omega)
  have t1b : decide (3000 < N) = false := decide_eq_false (by omega)
  have t2 : decide (a1 < 0) = false := decide_eq_false (by omega)
  have t5a : decide (N < (F : Int) + (n : Int)) = true := decide_eq_true (by omega)
  have t5b : decide (N < F + n) = true := decide_eq_true (by omega)
  have t6a : decide (N < (E1 : Int)) = true := decide_eq_true (by omega)
  have t6b : decide (N < E1) = true := decide_eq_true (by omega)
  have HCS := Aside0.mk hcase
  clear hk hr0 hc0 hB hwf ha hab hC hN hcase h h1 HGT0 hr hn h12 hn4 hp8 hp12 h65 hq hE hk0 hk1 hend hqk hqk1 hQK hE1 hF hP9 hov
  have HC0 := Aside0.mk (blk_new w (.cells C 28))
  have HB0 := Aside0.mk (below_alloc (Below.refl w.heap.size w) (.cells C 28))
  go_enter Try.func5, Try.ntmps5
  go_wp2_with fail
  refine (law7_awake _).mono ?_
  rintro e w1 ⟨rfl, hb⟩
  have HC1 : Aside0 (w1.heap[w.heap.size]? = some (.cells C 28 (0, 0))) := ⟨(hb.block _ (blk_lt HC0.out)).trans HC0.out⟩
  have HB1 := Aside0.mk (below_step HB0.out hb)
  clear HC0 HB0 hb
  go_wp2_with fail
  refine (HOF.out _ ((Below.refl w.heap.size w).trans HB1.out)).mono ?_
  rintro e w3 ⟨g, rfl, hh, hb⟩
  have HC3 : Aside0 (w3.heap[w.heap.size]? = some (.cells C 28 (0, 0))) := ⟨(hb.block _ (blk_lt HC1.out)).trans HC1.out⟩
  have HB3 := Aside0.mk (below_step HB1.out hb)
  have HHM := Aside0.mk (HGT.out _ _ _ hh)
  clear HC1 HB1 hb hh HGT HOF
  rcases HCS.out with ⟨ta, tb, hk⟩ | ⟨ta, tb, tc, hk⟩ | ⟨ta, tb, tc, hk⟩
  all_goals (have HK := Aside0.mk hk; clear HCS hk)
  all_goals (
    go_wp2_with (first | ((with_reducible refine gate_dst (N := 39) rfl ?_); refine wpList_load_row rfl 28 _ rfl w.heap.size (by rfl) 28 C (0, 0) _ HC3.out Try.underlying28 rfl (by rw [info16, HSC.out]) ?_))
    try rw [HK.out]
    refine (HHM.out).mono ?_
    rintro e w4 ⟨rfl, hb⟩
    have HC4 : Aside0 (w4.heap[w.heap.size]? = some (.cells C 28 (0, 0))) := ⟨(hb.block _ (blk_lt HC3.out)).trans HC3.out⟩
    have HB4 := Aside0.mk (below_step HB3.out hb)
    clear HC3 HB3 hb
    go_wp2_with (first | ((with_reducible refine gate_dst (N := 43) rfl ?_); refine wpList_load_row rfl 28 _ rfl w.heap.size (by rfl) 28 C (0, 0) _ HC4.out Try.underlying28 rfl (by rw [info16, HSC.out]) ?_))
    refine (HRt.out _).mono ?_
    rintro e w5 ⟨rfl, hb⟩
    have HC5 : Aside0 (w5.heap[w.heap.size]? = some (.cells C 28 (0, 0))) := ⟨(hb.block _ (blk_lt HC4.out)).trans HC4.out⟩
    have HB5 := Aside0.mk (below_step HB4.out hb)
    clear HC4 HB4 hb
    go_wp2_with (first | ((with_reducible refine gate_dst (N := 52) rfl ?_); refine wpList_load_row rfl 28 _ rfl w.heap.size (by rfl) 28 C (0, 0) _ HC5.out Try.underlying28 rfl (by rw [info16, HSC.out]) ?_))
    refine (HSh.out _).mono ?_
    rintro e w6 ⟨rfl, hb⟩
    have HC6 : Aside0 (w6.heap[w.heap.size]? = some (.cells C 28 (0, 0))) := ⟨(hb.block _ (blk_lt HC5.out)).trans HC5.out⟩
    have HB6 := Aside0.mk (below_step HB5.out hb)
    clear HC5 HB5 hb
    go_wp2_with (first | ((with_reducible refine gate_dst (N := 62) rfl ?_); refine wpList_load_row rfl 28 _ rfl w.heap.size (by rfl) 28 C (0, 0) _ HC6.out Try.underlying28 rfl (by rw [info16, HSC.out]) ?_))
    refine (HPl.out _).mono ?_
    rintro e w7 ⟨rfl, hb⟩
    have HC7 : Aside0 (w7.heap[w.heap.size]? = some (.cells C 28 (0, 0))) := ⟨(hb.block _ (blk_lt HC6.out)).trans HC6.out⟩
    have HB7 := Aside0.mk (below_step HB6.out hb)
    clear HC6 HB6 hb
    obtain ⟨hw1, hw2, hw3, hw4⟩ := HW.out
    go_wp2_with fail
    try rw [hw2]
    try rw [hw4]
    clear hw1 hw2 hw3 hw4
    have HC7d : Aside0 (w7.drew.heap[w.heap.size]? = some (.cells C 28 (0, 0))) := ⟨HC7.out⟩
    have HB7d := Aside0.mk (below_drew1 HB7.out)
    have hw5 := HW5.out
    refine start_ (n := 17) (S := fun w' => (loadVar 28 ⟨w.heap.size, 0, none⟩).run Try.prog w' = .ok (.agg C) w') (ds := []) #[false, false, false, false, false, false, false, false, false, false, false, false, false, false, false, false, false] (by kernel_rfl) rfl rfl ((load16 HC7d.out HSC.out)) (fun hHeld => ?_)
    refine pure_ (i := 0) (N := some 81) (v := ?_) (a' := ?_) #[true, false, false, false, false, false, false, false, false, false, false, false, false, false, false, false, false] rfl rfl (by kernel_rfl) (fun _ _ _ h => h) (Or.inl ⟨by rfl, ?_⟩) ?_ ?_
    rotate_left
    · intro w'
      go_simp
      with_reducible rfl
    rotate_left
    · simp only [Act.put, List.setIfInBounds_toArray, List.set_cons_zero, List.set_cons_succ, i64_w, i32_w]
      rfl
    refine pure_ (i := 4) (N := some 85) (v := ?_) (a' := ?_) #[true, false, false, false, true, false, false, false, false, false, false, false, false, false, false, false, false] rfl rfl (by kernel_rfl) (fun _ _ _ h => h) (Or.inl ⟨by rfl, ?_⟩) ?_ ?_
    rotate_left
    · intro w'
      go_simp
      with_reducible rfl
    rotate_left
    · simp only [Act.put, List.setIfInBounds_toArray, List.set_cons_zero, List.set_cons_succ, i64_w, i32_w]
      rfl
    refine take_ (i := 1) (N := some 82) (v := ?_) (a' := ?_) #[true, true, false, false, true, false, false, false, false, false, false, false, false, false, false, false, false] rfl rfl (by kernel_rfl) (fun _ _ _ h => h) (Or.inl ⟨by rfl, ?_⟩) hHeld ?_ ?_
    rotate_left
    · intro w' s0
      refine Eq.trans (load_exec (by rfl) (by rfl) s0) ?_
      with_reducible rfl
    rotate_left
    · simp only [Act.put, List.setIfInBounds_toArray, List.set_cons_zero, List.set_cons_succ, i64_w, i32_w]
      rfl
    refine one_ (i := 2) (N := some 83) #[true, true, true, false, true, false, false, false, false, false, false, false, false, false, false, false, false] rfl rfl (by kernel_rfl) (by decide) (fun K hK => ?_)
    refine goes_ Try.func13 (by kernel_rfl) rfl #[.agg C] (by rfl) rfl rfl (by simp only [List.map_toArray, List.map_cons, List.map_nil]; rfl) ?_
    with_reducible refine (HLn.out _).mono ?_
    rintro e w8 ⟨rfl, hb⟩
    refine ⟨_, rfl, ?_⟩
    have HC8 : Aside0 (w8.heap[w.heap.size]? = some (.cells C 28 (0, 0))) := ⟨(hb.block _ (blk_lt HC7d.out)).trans HC7d.out⟩
    have HB8 := Aside0.mk (below_step HB7d.out hb)
    clear hb
    refine hK.out _ _ ((load16 HC8.out HSC.out)) (fun hHeld => ?_)
    clear hK K
    refine norm_ (a' := ?_) ?_ ?_
    rotate_left
    · show Act.put _ (some 83) _ = _
      simp only [Act.put, List.setIfInBounds_toArray, List.set_cons_zero, List.set_cons_succ, i64_w, i32_w]
      rfl
    refine pure_ (i := 3) (N := some 84) (v := ?_) (a' := ?_) #[true, true, true, true, true, false, false, false, false, false, false, false, false, false, false, false, false] rfl rfl (by kernel_rfl) (fun _ _ _ h => h) (Or.inl ⟨by rfl, ?_⟩) ?_ ?_
    rotate_left
    · intro w'
      go_simp
      with_reducible rfl
    rotate_left
    · simp only [Act.put, List.setIfInBounds_toArray, List.set_cons_zero, List.set_cons_succ, i64_w, i32_w]
      rfl
    refine pure_ (i := 5) (N := some 86) (v := ?_) (a' := ?_) #[true, true, true, true, true, true, false, false, false, false, false, false, false, false, false, false, false] rfl rfl (by kernel_rfl) (fun _ _ _ h => h) (Or.inl ⟨by rfl, ?_⟩) ?_ ?_
    rotate_left
    · intro w'
      go_simp
      with_reducible rfl
    rotate_left
    · simp only [Act.put, List.setIfInBounds_toArray, List.set_cons_zero, List.set_cons_succ, i64_w, i32_w]
      rfl
    refine pure_ (i := 6) (N := some 87) (v := ?_) (a' := ?_) #[true, true, true, true, true, true, true, false, false, false, false, false, false, false, false, false, false] rfl rfl (by kernel_rfl) (fun _ _ _ h => h) (Or.inl ⟨by rfl, ?_⟩) ?_ ?_
    rotate_left
    · intro w'
      go_simp
      with_reducible rfl
    rotate_left
    · simp only [Act.put, List.setIfInBounds_toArray, List.set_cons_zero, List.set_cons_succ, i64_w, i32_w]
      rfl
    refine pure_ (i := 7) (N := some 88) (v := undef) (a' := ?_) #[true, true, true, true, true, true, true, true, false, false, false, false, false, false, false, false, false] rfl rfl (by kernel_rfl) (fun _ _ _ h => h) (Or.inr ⟨by rfl, rfl⟩) ?_ ?_
    rotate_left
    · simp only [Act.put, List.setIfInBounds_toArray, List.set_cons_zero, List.set_cons_succ, i64_w, i32_w]
      rfl
    refine pure_ (i := 8) (N := some 89) (v := undef) (a' := ?_) #[true, true, true, true, true, true, true, true, true, false, false, false, false, false, false, false, false] rfl rfl (by kernel_rfl) (fun _ _ _ h => h) (Or.inr ⟨by rfl, rfl⟩) ?_ ?_
    rotate_left
    · simp only [Act.put, List.setIfInBounds_toArray, List.set_cons_zero, List.set_cons_succ, i64_w, i32_w]
      rfl
    refine pure_ (i := 9) (N := some 90) (v := undef) (a' := ?_) #[true, true, true, true, true, true, true, true, true, true, false, false, false, false, false, false, false] rfl rfl (by kernel_rfl) (fun _ _ _ h => h) (Or.inr ⟨by rfl, rfl⟩) ?_ ?_
    rotate_left
    · simp only [Act.put, List.setIfInBounds_toArray, List.set_cons_zero, List.set_cons_succ, i64_w, i32_w]
      rfl
    refine pure_ (i := 10) (N := some 91) (v := undef) (a' := ?_) #[true, true, true, true, true, true, true, true, true, true, true, false, false, false, false, false, false] rfl rfl (by kernel_rfl) (fun _ _ _ h => h) (Or.inr ⟨by rfl, rfl⟩) ?_ ?_
    rotate_left
    · simp only [Act.put, List.setIfInBounds_toArray, List.set_cons_zero, List.set_cons_succ, i64_w, i32_w]
      rfl
    refine pure_ (i := 11) (N := some 92) (v := undef) (a' := ?_) #[true, true, true, true, true, true, true, true, true, true, true, true, false, false, false, false, false] rfl rfl (by kernel_rfl) (fun _ _ _ h => h) (Or.inr ⟨by rfl, rfl⟩) ?_ ?_
    rotate_left
    · simp only [Act.put, List.setIfInBounds_toArray, List.set_cons_zero, List.set_cons_succ, i64_w, i32_w]
      rfl
    refine pure_ (i := 12) (N := some 93) (v := undef) (a' := ?_) #[true, true, true, true, true, true, true, true, true, true, true, true, true, false, false, false, false] rfl rfl (by kernel_rfl) (fun _ _ _ h => h) (Or.inr ⟨by rfl, rfl⟩) ?_ ?_
    rotate_left
    · simp only [Act.put, List.setIfInBounds_toArray, List.set_cons_zero, List.set_cons_succ, i64_w, i32_w]
      rfl
    refine pure_ (i := 13) (N := some 94) (v := undef) (a' := ?_) #[true, true, true, true, true, true, true, true, true, true, true, true, true, true, false, false, false] rfl rfl (by kernel_rfl) (fun _ _ _ h => h) (Or.inr ⟨by rfl, rfl⟩) ?_ ?_
    rotate_left
    · simp only [Act.put, List.setIfInBounds_toArray, List.set_cons_zero, List.set_cons_succ, i64_w, i32_w]
      rfl
    refine pure_ (i := 14) (N := some 95) (v := undef) (a' := ?_) #[true, true, true, true, true, true, true, true, true, true, true, true, true, true, true, false, false] rfl rfl (by kernel_rfl) (fun _ _ _ h => h) (Or.inr ⟨by rfl, rfl⟩) ?_ ?_
    rotate_left
    · simp only [Act.put, List.setIfInBounds_toArray, List.set_cons_zero, List.set_cons_succ, i64_w, i32_w]
      rfl
    refine pure_ (i := 15) (N := some 96) (v := undef) (a' := ?_) #[true, true, true, true, true, true, true, true, true, true, true, true, true, true, true, true, false] rfl rfl (by kernel_rfl) (fun _ _ _ h => h) (Or.inr ⟨by rfl, rfl⟩) ?_ ?_
    rotate_left
    · simp only [Act.put, List.setIfInBounds_toArray, List.set_cons_zero, List.set_cons_succ, i64_w, i32_w]
      rfl
    refine pure_ (i := 16) (N := some 97) (v := ?_) (a' := ?_) #[true, true, true, true, true, true, true, true, true, true, true, true, true, true, true, true, true] rfl rfl (by kernel_rfl) (fun _ _ _ h => h) (Or.inl ⟨by rfl, ?_⟩) ?_ ?_
    rotate_left
    · intro w'
      go_simp
      with_reducible rfl
    rotate_left
    · simp only [Act.put, List.setIfInBounds_toArray, List.set_cons_zero, List.set_cons_succ, i64_w, i32_w]
      rfl
    refine done_ (by kernel_rfl) ?_
    clear hw5
    go_wp2_with fail
    go_ret
    exact ⟨rfl, HB8.out⟩)
set_option maxHeartbeats 8000000 in
set_option maxRecDepth 100000 in
theorem HeapGets_overE (A0 : Option Addr) (c0 : Nat) (l0 : List Int) (a1 : Int) (a : List Int) (w : World) (hc0 : l0.length ≤ c0) (hr0 : Kd.C (Kd.int .u8) w A0 l0.length l0) (hB : isB l0) (hwf : -9223372036854775808 ≤ a1 ∧ a1 ≤ 9223372036854775807) (ha : a.length = 16) (hab : isB a) (h : ¬ 3000 < l0.length) (h1 : ¬ a1 < 0) (k0 : Nat) (hr : rightB a = true) (n : Nat) (hn : le4v a = (n : Int)) (h12 : 12 < n) (hn4 : n ≤ 4096) (q at_ : Nat) (hp8 : le4v (a.drop 8) = (q : Int)) (hp12 : le4v (a.drop 12) = (at_ : Int)) (h65 : at_ ≤ 65536) (hq : q ≤ 65535) (hE : ¬ l0.length < (q + 1) * k0)  (hk0 : (k0 : Int) = if a1 < 1 ∨ 65536 < a1 then 65536 else a1) (hov : endOf q k0 l0.length < q * k0 + at_ + n) :
    Calls Try.prog 5 #[.slice A0 l0.length c0, .int .i64 a1, .agg (cel a)] w fun e w' => e = .returned (.bool true) ∧ Below w.heap.size w w' := by
  have hkk : ∃ k : Nat, (k : Int) = if a1 < 1 ∨ 65536 < a1 then 65536 else a1 := by
    by_cases h : a1 < 1 ∨ 65536 < a1
    · exact ⟨65536, by rw [if_pos h]; rfl⟩
    · exact ⟨a1.toNat, by rw [if_neg h]; omega⟩
  obtain ⟨k, hk⟩ := hkk
  have hk1 : 1 ≤ k ∧ k ≤ 65536 := by
    by_cases h : a1 < 1 ∨ 65536 < a1
    · rw [if_pos h] at hk; omega
    · rw [if_neg h] at hk; omega
  have HOF := Aside0.mk (fun W hW => Of_ A0 c0 l0 a1 W hc0 (Kd.C_below hr0 hW) (by omega) k hk)
  have HRt := Aside0.mk (fun w => view_Right.calls a w ha hab)
  have HSh := Aside0.mk (fun w => view_Short.calls a w ha hab)
  have hcase : (decide (a1 = 0) = true ∧ (a1 == 0) = true ∧ (65536 : Int) = (k : Int)) ∨ (decide (a1 = 0) = false ∧ (a1 == 0) = false ∧ decide (65536 < a1) = true ∧ (65536 : Int) = (k : Int)) ∨ (decide (a1 = 0) = false ∧ (a1 == 0) = false ∧ decide (65536 < a1) = false ∧ a1 = (k : Int)) := by
    by_cases h0 : a1 = 0
    · rw [if_pos (by omega)] at hk; exact .inl ⟨by simp [h0], by simp [h0], hk.symm⟩
    · by_cases h2 : 65536 < a1
      · rw [if_pos (by omega)] at hk; exact .inr (.inl ⟨by simp [h0], by simp [h0], by simp [h2], hk.symm⟩)
      · rw [if_neg (by omega)] at hk; exact .inr (.inr ⟨by simp [h0], by simp [h0], by simp [h2], hk.symm⟩)
  obtain rfl : k0 = k := by omega
  have hend : endOf q k0 l0.length = (q + 1) * k0 := by unfold endOf; exact if_neg hE
  have HGT0 := fun (lo g : Nat) (W : World) (hW : HM lo W g (chunks k0 l0) (l0.length : Int) (l0.length : Int)) => get_over a n W hW hk1 (by omega) ha hab hr hn h12 hn4 q at_ hp8 hp12 h65 hov
  rw [hend] at hov
  rw [hr] at HRt
  rw [hn, decide_eq_false (show ¬ (n : Int) ≤ 12 by omega)] at HSh
  have HLn := Aside0.mk (fun w => view_Len.calls a w ha hab)
  have HPr := Aside0.mk (fun w => view_Prefix.calls a w ha hab)
  have HPl := Aside0.mk (fun w => view_Place.calls a w ha hab)
  rw [hn] at HLn HPl
  rw [if_neg (by omega), if_neg (by omega), hp8, hp12] at HPl
  obtain ⟨P9, hP9⟩ : ∃ P, P = pvw a := ⟨_, rfl⟩
  rw [show strOfNums ((a.drop 4).take (if le4v a < 4 then (le4v a).toNat else 4)) = P9 from hP9.symm] at HPr
  have hqk : q * k0 ≤ 65535 * 65536 := Nat.mul_le_mul hq hk1.2
  have hqk1 : (q + 1) * k0 = q * k0 + k0 := Nat.succ_mul q k0
  obtain ⟨QK, hQK⟩ : ∃ x, x = q * k0 := ⟨_, rfl⟩
  obtain ⟨E1, hE1⟩ : ∃ x, x = (q + 1) * k0 := ⟨_, rfl⟩
  have hc1 : ((q : Int) + 1) * (k0 : Int) = (E1 : Int) := by rw [hE1]; push_cast; rfl
  have hc2 : (q : Int) * (k0 : Int) = (QK : Int) := by rw [hQK]; push_cast; rfl
  rw [← hE1] at hqk1 hE hov
  rw [← hQK] at hqk hqk1 hov
  have HW := Aside0.mk (show wrap64 ((q : Int) + 1) = (q : Int) + 1 ∧ wrap64 (((q : Int) + 1) * (k0 : Int)) = (E1 : Int) ∧ wrap64 ((q : Int) * (k0 : Int)) = (QK : Int) ∧ wrap64 ((QK : Int) + (at_ : Int)) = ((QK + at_ : Nat) : Int) from ⟨wbig _ (by omega) (by omega), by rw [hc1]; exact wbig _ (by omega) (by omega), by rw [hc2]; exact wbig _ (by omega) (by omega), by rw [wbig _ (by omega) (by omega)]; rfl⟩)
  clear hc1 hc2
  obtain ⟨F, hF⟩ : ∃ x, x = QK + at_ := ⟨_, rfl⟩
  rw [← hF] at HW hov
  have HW5 := Aside0.mk (show wrap64 ((F : Int) + (n : Int)) = (F : Int) + (n : Int) from wbig _ (by omega) (by omega))
  obtain ⟨C, hC⟩ : ∃ C, C = cel a := ⟨_, rfl⟩
  have HSC : Aside0 (C.size = 16) := ⟨by rw [hC, cel_size, ha]⟩
  obtain ⟨N, hN⟩ : ∃ N, N = l0.length := ⟨_, rfl⟩
  have HNE := Aside0.mk hN
  rw [← hC] at HRt HSh HLn HPr HPl HGT0 ⊢
  rw [← hN] at HOF h HGT0  hE ⊢
  have HGT := Aside0.mk HGT0
  have t1a : decide (3000 < (N : Int)) = false := decide_eq_false (by omega)
  have t1b : decide (3000 < N) = false := decide_eq_false (by omega)
  have t2 : decide (a1 < 0) = false := decide_eq_false (by omega)
  have t5a : decide (E1 < (F : Int) + (n : Int)) = true := decide_eq_true (by omega)
  have t5b : decide (E1 < F + n) = true := decide_eq_true (by omega)
  have t6a : decide (N < (E1 : Int)) = false := decide_eq_false (by omega)
  have t6b : decide (N < E1) = false := decide_eq_false (by omega)
  have HCS := Aside0.mk hcase
  clear hk hr0 hc0 hB hwf ha hab hC hN hcase h h1 HGT0 hr hn h12 hn4 hp8 hp12 h65 hq hE hk0 hk1 hend hqk hqk1 hQK hE1 hF hP9 hov
  have HC0 := Aside0.mk (blk_new w (.cells C 28))
  have HB0 := Aside0.mk (below_alloc (Below.refl w.heap.size w) (.cells C 28))
  go_enter Try.func5, Try.ntmps5
  go_wp2_with fail
  refine (law7_awake _).mono ?_
  rintro e w1 ⟨rfl, hb⟩
  have HC1 : Aside0 (w1.heap[w.heap.size]? = some (.cells C 28 (0, 0))) := ⟨(hb.block _ (blk_lt HC0.out)).trans HC0.out⟩
  have HB1 := Aside0.mk (below_step HB0.out hb)
  clear HC0 HB0 hb
  go_wp2_with fail
  refine (HOF.out _ ((Below.refl w.heap.size w).trans HB1.out)).mono ?_
  rintro e w3 ⟨g, rfl, hh, hb⟩
  have HC3 : Aside0 (w3.heap[w.heap.size]? = some (.cells C 28 (0, 0))) := ⟨(hb.block _ (blk_lt HC1.out)).trans HC1.out⟩
  have HB3 := Aside0.mk (below_step HB1.out hb)
  have HHM := Aside0.mk (HGT.out _ _ _ hh)
  clear HC1 HB1 hb hh HGT HOF
  rcases HCS.out with ⟨ta, tb, hk⟩ | ⟨ta, tb, tc, hk⟩ | ⟨ta, tb, tc, hk⟩
  all_goals (have HK := Aside0.mk hk; clear HCS hk)
  all_goals (
    go_wp2_with (first | ((with_reducible refine gate_dst (N := 39) rfl ?_); refine wpList_load_row rfl 28 _ rfl w.heap.size (by rfl) 28 C (0, 0) _ HC3.out Try.underlying28 rfl (by rw [info16, HSC.out]) ?_))
    try rw [HK.out]
    refine (HHM.out).mono ?_
    rintro e w4 ⟨rfl, hb⟩
    have HC4 : Aside0 (w4.heap[w.heap.size]? = some (.cells C 28 (0, 0))) := ⟨(hb.block _ (blk_lt HC3.out)).trans HC3.out⟩
    have HB4 := Aside0.mk (below_step HB3.out hb)
    clear HC3 HB3 hb
    go_wp2_with (first | ((with_reducible refine gate_dst (N := 43) rfl ?_); refine wpList_load_row rfl 28 _ rfl w.heap.size (by rfl) 28 C (0, 0) _ HC4.out Try.underlying28 rfl (by rw [info16, HSC.out]) ?_))
    refine (HRt.out _).mono ?_
    rintro e w5 ⟨rfl, hb⟩
    have HC5 : Aside0 (w5.heap[w.heap.size]? = some (.cells C 28 (0, 0))) := ⟨(hb.block _ (blk_lt HC4.out)).trans HC4.out⟩
    have HB5 := Aside0.mk (below_step HB4.out hb)
    clear HC4 HB4 hb
    go_wp2_with (first | ((with_reducible refine gate_dst (N := 52) rfl ?_); refine wpList_load_row rfl 28 _ rfl w.heap.size (by rfl) 28 C (0, 0) _ HC5.out Try.underlying28 rfl (by rw [info16, HSC.out]) ?_))
    refine (HSh.out _).mono ?_
    rintro e w6 ⟨rfl, hb⟩
    have HC6 : Aside0 (w6.heap[w.heap.size]? = some (.cells C 28 (0, 0))) := ⟨(hb.block _ (blk_lt HC5.out)).trans HC5.out⟩
    have HB6 := Aside0.mk (below_step HB5.out hb)
    clear HC5 HB5 hb
    go_wp2_with (first | ((with_reducible refine gate_dst (N := 62) rfl ?_); refine wpList_load_row rfl 28 _ rfl w.heap.size (by rfl) 28 C (0, 0) _ HC6.out Try.underlying28 rfl (by rw [info16, HSC.out]) ?_))
    refine (HPl.out _).mono ?_
    rintro e w7 ⟨rfl, hb⟩
    have HC7 : Aside0 (w7.heap[w.heap.size]? = some (.cells C 28 (0, 0))) := ⟨(hb.block _ (blk_lt HC6.out)).trans HC6.out⟩
    have HB7 := Aside0.mk (below_step HB6.out hb)
    clear HC6 HB6 hb
    obtain ⟨hw1, hw2, hw3, hw4⟩ := HW.out
    go_wp2_with fail
    try rw [hw2]
    try rw [hw4]
    clear hw1 hw2 hw3 hw4
    have HC7d : Aside0 (w7.drew.heap[w.heap.size]? = some (.cells C 28 (0, 0))) := ⟨HC7.out⟩
    have HB7d := Aside0.mk (below_drew1 HB7.out)
    have hw5 := HW5.out
    refine start_ (n := 17) (S := fun w' => (loadVar 28 ⟨w.heap.size, 0, none⟩).run Try.prog w' = .ok (.agg C) w') (ds := []) #[false, false, false, false, false, false, false, false, false, false, false, false, false, false, false, false, false] (by kernel_rfl) rfl rfl ((load16 HC7d.out HSC.out)) (fun hHeld => ?_)
    refine pure_ (i := 0) (N := some 81) (v := ?_) (a' := ?_) #[true, false, false, false, false, false, false, false, false, false, false, false, false, false, false, false, false] rfl rfl (by kernel_rfl) (fun _ _ _ h => h) (Or.inl ⟨by rfl, ?_⟩) ?_ ?_
    rotate_left
    · intro w'
      go_simp
      with_reducible rfl
    rotate_left
    · simp only [Act.put, List.setIfInBounds_toArray, List.set_cons_zero, List.set_cons_succ, i64_w, i32_w]
      rfl
    refine pure_ (i := 4) (N := some 85) (v := ?_) (a' := ?_) #[true, false, false, false, true, false, false, false, false, false, false, false, false, false, false, false, false] rfl rfl (by kernel_rfl) (fun _ _ _ h => h) (Or.inl ⟨by rfl, ?_⟩) ?_ ?_
    rotate_left
    · intro w'
      go_simp
      with_reducible rfl
    rotate_left
    · simp only [Act.put, List.setIfInBounds_toArray, List.set_cons_zero, List.set_cons_succ, i64_w, i32_w]
      rfl
    refine take_ (i := 1) (N := some 82) (v := ?_) (a' := ?_) #[true, true, false, false, true, false, false, false, false, false, false, false, false, false, false, false, false] rfl rfl (by kernel_rfl) (fun _ _ _ h => h) (Or.inl ⟨by rfl, ?_⟩) hHeld ?_ ?_
    rotate_left
    · intro w' s0
      refine Eq.trans (load_exec (by rfl) (by rfl) s0) ?_
      with_reducible rfl
    rotate_left
    · simp only [Act.put, List.setIfInBounds_toArray, List.set_cons_zero, List.set_cons_succ, i64_w, i32_w]
      rfl
    refine one_ (i := 2) (N := some 83) #[true, true, true, false, true, false, false, false, false, false, false, false, false, false, false, false, false] rfl rfl (by kernel_rfl) (by decide) (fun K hK => ?_)
    refine goes_ Try.func13 (by kernel_rfl) rfl #[.agg C] (by rfl) rfl rfl (by simp only [List.map_toArray, List.map_cons, List.map_nil]; rfl) ?_
    with_reducible refine (HLn.out _).mono ?_
    rintro e w8 ⟨rfl, hb⟩
    refine ⟨_, rfl, ?_⟩
    have HC8 : Aside0 (w8.heap[w.heap.size]? = some (.cells C 28 (0, 0))) := ⟨(hb.block _ (blk_lt HC7d.out)).trans HC7d.out⟩
    have HB8 := Aside0.mk (below_step HB7d.out hb)
    clear hb
    refine hK.out _ _ ((load16 HC8.out HSC.out)) (fun hHeld => ?_)
    clear hK K
    refine norm_ (a' := ?_) ?_ ?_
    rotate_left
    · show Act.put _ (some 83) _ = _
      simp only [Act.put, List.setIfInBounds_toArray, List.set_cons_zero, List.set_cons_succ, i64_w, i32_w]
      rfl
    refine pure_ (i := 3) (N := some 84) (v := ?_) (a' := ?_) #[true, true, true, true, true, false, false, false, false, false, false, false, false, false, false, false, false] rfl rfl (by kernel_rfl) (fun _ _ _ h => h) (Or.inl ⟨by rfl, ?_⟩) ?_ ?_
    rotate_left
    · intro w'
      go_simp
      with_reducible rfl
    rotate_left
    · simp only [Act.put, List.setIfInBounds_toArray, List.set_cons_zero, List.set_cons_succ, i64_w, i32_w]
      rfl
    refine pure_ (i := 5) (N := some 86) (v := ?_) (a' := ?_) #[true, true, true, true, true, true, false, false, false, false, false, false, false, false, false, false, false] rfl rfl (by kernel_rfl) (fun _ _ _ h => h) (Or.inl ⟨by rfl, ?_⟩) ?_ ?_
    rotate_left
    · intro w'
      go_simp
      with_reducible rfl
    rotate_left
    · simp only [Act.put, List.setIfInBounds_toArray, List.set_cons_zero, List.set_cons_succ, i64_w, i32_w]
      rfl
    refine pure_ (i := 6) (N := some 87) (v := ?_) (a' := ?_) #[true, true, true, true, true, true, true, false, false, false, false, false, false, false, false, false, false] rfl rfl (by kernel_rfl) (fun _ _ _ h => h) (Or.inl ⟨by rfl, ?_⟩) ?_ ?_
    rotate_left
    · intro w'
      go_simp
      with_reducible rfl
    rotate_left
    · simp only [Act.put, List.setIfInBounds_toArray, List.set_cons_zero, List.set_cons_succ, i64_w, i32_w]
      rfl
    refine pure_ (i := 7) (N := some 88) (v := undef) (a' := ?_) #[true, true, true, true, true, true, true, true, false, false, false, false, false, false, false, false, false] rfl rfl (by kernel_rfl) (fun _ _ _ h => h) (Or.inr ⟨by rfl, rfl⟩) ?_ ?_
    rotate_left
    · simp only [Act.put, List.setIfInBounds_toArray, List.set_cons_zero, List.set_cons_succ, i64_w, i32_w]
      rfl
    refine pure_ (i := 8) (N := some 89) (v := undef) (a' := ?_) #[true, true, true, true, true, true, true, true, true, false, false, false, false, false, false, false, false] rfl rfl (by kernel_rfl) (fun _ _ _ h => h) (Or.inr ⟨by rfl, rfl⟩) ?_ ?_
    rotate_left
    · simp only [Act.put, List.setIfInBounds_toArray, List.set_cons_zero, List.set_cons_succ, i64_w, i32_w]
      rfl
    refine pure_ (i := 9) (N := some 90) (v := undef) (a' := ?_) #[true, true, true, true, true, true, true, true, true, true, false, false, false, false, false, false, false] rfl rfl (by kernel_rfl) (fun _ _ _ h => h) (Or.inr ⟨by rfl, rfl⟩) ?_ ?_
    rotate_left
    · simp only [Act.put, List.setIfInBounds_toArray, List.set_cons_zero, List.set_cons_succ, i64_w, i32_w]
      rfl
    refine pure_ (i := 10) (N := some 91) (v := undef) (a' := ?_) #[true, true, true, true, true, true, true, true, true, true, true, false, false, false, false, false, false] rfl rfl (by kernel_rfl) (fun _ _ _ h => h) (Or.inr ⟨by rfl, rfl⟩) ?_ ?_
    rotate_left
    · simp only [Act.put, List.setIfInBounds_toArray, List.set_cons_zero, List.set_cons_succ, i64_w, i32_w]
      rfl
    refine pure_ (i := 11) (N := some 92) (v := undef) (a' := ?_) #[true, true, true, true, true, true, true, true, true, true, true, true, false, false, false, false, false] rfl rfl (by kernel_rfl) (fun _ _ _ h => h) (Or.inr ⟨by rfl, rfl⟩) ?_ ?_
    rotate_left
    · simp only [Act.put, List.setIfInBounds_toArray, List.set_cons_zero, List.set_cons_succ, i64_w, i32_w]
      rfl
    refine pure_ (i := 12) (N := some 93) (v := undef) (a' := ?_) #[true, true, true, true, true, true, true, true, true, true, true, true, true, false, false, false, false] rfl rfl (by kernel_rfl) (fun _ _ _ h => h) (Or.inr ⟨by rfl, rfl⟩) ?_ ?_
    rotate_left
    · simp only [Act.put, List.setIfInBounds_toArray, List.set_cons_zero, List.set_cons_succ, i64_w, i32_w]
      rfl
    refine pure_ (i := 13) (N := some 94) (v := undef) (a' := ?_) #[true, true, true, true, true, true, true, true, true, true, true, true, true, true, false, false, false] rfl rfl (by kernel_rfl) (fun _ _ _ h => h) (Or.inr ⟨by rfl, rfl⟩) ?_ ?_
    rotate_left
    · simp only [Act.put, List.setIfInBounds_toArray, List.set_cons_zero, List.set_cons_succ, i64_w, i32_w]
      rfl
    refine pure_ (i := 14) (N := some 95) (v := undef) (a' := ?_) #[true, true, true, true, true, true, true, true, true, true, true, true, true, true, true, false, false] rfl rfl (by kernel_rfl) (fun _ _ _ h => h) (Or.inr ⟨by rfl, rfl⟩) ?_ ?_
    rotate_left
    · simp only [Act.put, List.setIfInBounds_toArray, List.set_cons_zero, List.set_cons_succ, i64_w, i32_w]
      rfl
    refine pure_ (i := 15) (N := some 96) (v := undef) (a' := ?_) #[true, true, true, true, true, true, true, true, true, true, true, true, true, true, true, true, false] rfl rfl (by kernel_rfl) (fun _ _ _ h => h) (Or.inr ⟨by rfl, rfl⟩) ?_ ?_
    rotate_left
    · simp only [Act.put, List.setIfInBounds_toArray, List.set_cons_zero, List.set_cons_succ, i64_w, i32_w]
      rfl
    refine pure_ (i := 16) (N := some 97) (v := ?_) (a' := ?_) #[true, true, true, true, true, true, true, true, true, true, true, true, true, true, true, true, true] rfl rfl (by kernel_rfl) (fun _ _ _ h => h) (Or.inl ⟨by rfl, ?_⟩) ?_ ?_
    rotate_left
    · intro w'
      go_simp
      with_reducible rfl
    rotate_left
    · simp only [Act.put, List.setIfInBounds_toArray, List.set_cons_zero, List.set_cons_succ, i64_w, i32_w]
      rfl
    refine done_ (by kernel_rfl) ?_
    clear hw5
    go_wp2_with fail
    go_ret
    exact ⟨rfl, HB8.out⟩)
set_option maxHeartbeats 8000000 in
set_option maxRecDepth 100000 in
theorem HeapGets_unlikeN (A0 : Option Addr) (c0 : Nat) (l0 : List Int) (a1 : Int) (a : List Int) (w : World) (hc0 : l0.length ≤ c0) (hr0 : Kd.C (Kd.int .u8) w A0 l0.length l0) (hB : isB l0) (hwf : -9223372036854775808 ≤ a1 ∧ a1 ≤ 9223372036854775807) (ha : a.length = 16) (hab : isB a) (h : ¬ 3000 < l0.length) (h1 : ¬ a1 < 0) (k0 : Nat) (hr : rightB a = true) (n : Nat) (hn : le4v a = (n : Int)) (h12 : 12 < n) (hn4 : n ≤ 4096) (q at_ : Nat) (hp8 : le4v (a.drop 8) = (q : Int)) (hp12 : le4v (a.drop 12) = (at_ : Int)) (h65 : at_ ≤ 65536) (hq : q ≤ 65535) (hE : l0.length < (q + 1) * k0)  (hk0 : (k0 : Int) = if a1 < 1 ∨ 65536 < a1 then 65536 else a1) (hin : ¬ endOf q k0 l0.length < q * k0 + at_ + n) (hu : strOfNums ((l0.drop (q * k0 + at_)).take 4) ≠ pvw a) :
    Calls Try.prog 5 #[.slice A0 l0.length c0, .int .i64 a1, .agg (cel a)] w fun e w' => e = .returned (.bool true) ∧ Below w.heap.size w w' := by
  have hkk : ∃ k : Nat, (k : Int) = if a1 < 1 ∨ 65536 < a1 then 65536 else a1 := by
    by_cases h : a1 < 1 ∨ 65536 < a1
    · exact ⟨65536, by rw [if_pos h]; rfl⟩
    · exact ⟨a1.toNat, by rw [if_neg h]; omega⟩
  obtain ⟨k, hk⟩ := hkk
  have hk1 : 1 ≤ k ∧ k ≤ 65536 := by
    by_cases h : a1 < 1 ∨ 65536 < a1
    · rw [if_pos h] at hk; omega
    · rw [if_neg h] at hk; omega
  have HOF := Aside0.mk (fun W hW => Of_ A0 c0 l0 a1 W hc0 (Kd.C_below hr0 hW) (by omega) k hk)
  have HRt := Aside0.mk (fun w => view_Right.calls a w ha hab)
  have HSh := Aside0.mk (fun w => view_Short.calls a w ha hab)
  have hcase : (decide (a1 = 0) = true ∧ (a1 == 0) = true ∧ (65536 : Int) = (k : Int)) ∨ (decide (a1 = 0) = false ∧ (a1 == 0) = false ∧ decide (65536 < a1) = true ∧ (65536 : Int) = (k : Int)) ∨ (decide (a1 = 0) = false ∧ (a1 == 0) = false ∧ decide (65536 < a1) = false ∧ a1 = (k : Int)) := by
    by_cases h0 : a1 = 0
    · rw [if_pos (by omega)] at hk; exact .inl ⟨by simp [h0], by simp [h0], hk.symm⟩
    · by_cases h2 : 65536 < a1
      · rw [if_pos (by omega)] at hk; exact .inr (.inl ⟨by simp [h0], by simp [h0], by simp [h2], hk.symm⟩)
      · rw [if_neg (by omega)] at hk; exact .inr (.inr ⟨by simp [h0], by simp [h0], by simp [h2], hk.symm⟩)
  obtain rfl : k0 = k := by omega
  have hend : endOf q k0 l0.length = l0.length := by unfold endOf; exact if_pos hE
  have HGT0 := fun (lo g : Nat) (W : World) (hW : HM lo W g (chunks k0 l0) (l0.length : Int) (l0.length : Int)) => get_unlike a n W hW hk1 (by omega) hB ha hab hr hn h12 hn4 q at_ hp8 hp12 h65 hin hu
  rw [hend] at hin
  rw [hr] at HRt
  rw [hn, decide_eq_false (show ¬ (n : Int) ≤ 12 by omega)] at HSh
  have HLn := Aside0.mk (fun w => view_Len.calls a w ha hab)
  have HPr := Aside0.mk (fun w => view_Prefix.calls a w ha hab)
  have HPl := Aside0.mk (fun w => view_Place.calls a w ha hab)
  rw [hn] at HLn HPl
  rw [if_neg (by omega), if_neg (by omega), hp8, hp12] at HPl
  obtain ⟨P9, hP9⟩ : ∃ P, P = pvw a := ⟨_, rfl⟩
  rw [show strOfNums ((a.drop 4).take (if le4v a < 4 then (le4v a).toNat else 4)) = P9 from hP9.symm] at HPr
  have hqk : q * k0 ≤ 65535 * 65536 := Nat.mul_le_mul hq hk1.2
  have hqk1 : (q + 1) * k0 = q * k0 + k0 := Nat.succ_mul q k0
  obtain ⟨QK, hQK⟩ : ∃ x, x = q * k0 := ⟨_, rfl⟩
  obtain ⟨E1, hE1⟩ : ∃ x, x = (q + 1) * k0 := ⟨_, rfl⟩
  have hc1 : ((q : Int) + 1) * (k0 : Int) = (E1 : Int) := by rw [hE1]; push_cast; rfl
  have hc2 : (q : Int) * (k0 : Int) = (QK : Int) := by rw [hQK]; push_cast; rfl
  rw [← hE1] at hqk1 hE
  rw [← hQK] at hqk hqk1 hin hu
  rw [← hP9] at hu
  have HW := Aside0.mk (show wrap64 ((q : Int) + 1) = (q : Int) + 1 ∧ wrap64 (((q : Int) + 1) * (k0 : Int)) = (E1 : Int) ∧ wrap64 ((q : Int) * (k0 : Int)) = (QK : Int) ∧ wrap64 ((QK : Int) + (at_ : Int)) = ((QK + at_ : Nat) : Int) from ⟨wbig _ (by omega) (by omega), by rw [hc1]; exact wbig _ (by omega) (by omega), by rw [hc2]; exact wbig _ (by omega) (by omega), by rw [wbig _ (by omega) (by omega)]; rfl⟩)
  clear hc1 hc2
  obtain ⟨F, hF⟩ : ∃ x, x = QK + at_ := ⟨_, rfl⟩
  rw [← hF] at HW hin hu
  have HW5 := Aside0.mk (show wrap64 ((F : Int) + (n : Int)) = (F : Int) + (n : Int) from wbig _ (by omega) (by omega))
  have hFl : F + n ≤ l0.length := by omega
  obtain ⟨A9, c9, hc9, hcut4, hcs4⟩ := cut_seg A0 c0 l0 hc0 F 4 (by omega)
  have hl4 : ((l0.drop F).take 4).length = 4 := by rw [List.length_take, List.length_drop]; omega
  rw [hl4] at hc9 hcut4 hcs4
  have hcut4 : ∀ W : World, (Instr.slice 36 (.slice A0 l0.length c0) (some (.int .i64 (F : Int))) (some (.int .i64 ((F : Int) + 4))) none).run Try.prog W = .ok (.slice A9 4 c9) W := hcut4
  obtain ⟨T4, hT4⟩ : ∃ s, s = strOfNums ((l0.drop F).take 4) := ⟨_, rfl⟩
  rw [← hT4] at hu
  have HCV4 : Aside0 (∀ W : World, Below w.heap.size w W → (convert 36 9 (.slice A9 4 c9)).run Try.prog W = .ok (.string T4) W) := ⟨fun W hW => by rw [hT4]; exact Kd.C_string (P := Try.prog) (c := c9) Try.underlying36 Try.underlying5 Try.underlying9 (hcs4 W (Kd.C_below hr0 hW))⟩
  have HW6 := Aside0.mk (show wrap64 ((F : Int) + 4) = (F : Int) + 4 from wbig _ (by omega) (by omega))
  obtain ⟨C, hC⟩ : ∃ C, C = cel a := ⟨_, rfl⟩
  have HSC : Aside0 (C.size = 16) := ⟨by rw [hC, cel_size, ha]⟩
  obtain ⟨N, hN⟩ : ∃ N, N = l0.length := ⟨_, rfl⟩
  have HNE := Aside0.mk hN
  rw [← hC] at HRt HSh HLn HPr HPl HGT0 ⊢
  rw [← hN] at HOF h HGT0 hin hE hcut4 hFl ⊢
  have HGT := Aside0.mk HGT0
  have t1a : decide (3000 < (N : Int)) = false := decide_eq_false (by omega)
  have t1b : decide (3000 < N) = false := decide_eq_false (by omega)
  have t2 : decide (a1 < 0) = false := decide_eq_false (by omega)
  have t5a : decide (N < (F : Int) + (n : Int)) = false := decide_eq_false (by omega)
  have t5b : decide (N < F + n) = false := decide_eq_false (by omega)
  have t6a : decide (N < (E1 : Int)) = true := decide_eq_true (by omega)
  have t6b : decide (N < E1) = true := decide_eq_true (by omega)
  have HCUT4 := Aside0.mk hcut4
  have tu : (T4.toList == P9.toList) = false := by rw [str_ne]; exact decide_eq_false hu
  have HCS := Aside0.mk hcase
  clear hk hr0 hc0 hB hwf ha hab hC hN hcase h h1 HGT0 hr hn h12 hn4 hp8 hp12 h65 hq hE hk0 hk1 hend hqk hqk1 hQK hE1 hF hP9 hin hu hFl hc9 hcut4 hcs4 hl4 hT4
  have HC0 := Aside0.mk (blk_new w (.cells C 28))
  have HB0 := Aside0.mk (below_alloc (Below.refl w.heap.size w) (.cells C 28))
  go_enter Try.func5, Try.ntmps5
  go_wp2_with fail
  refine (law7_awake _).mono ?_
  rintro e w1 ⟨rfl, hb⟩
  have HC1 : Aside0 (w1.heap[w.heap.size]? = some (.cells C 28 (0, 0))) := ⟨(hb.block _ (blk_lt HC0.out)).trans HC0.out⟩
  have HB1 := Aside0.mk (below_step HB0.out hb)
  clear HC0 HB0 hb
  go_wp2_with fail
  refine (HOF.out _ ((Below.refl w.heap.size w).trans HB1.out)).mono ?_
  rintro e w3 ⟨g, rfl, hh, hb⟩
  have HC3 : Aside0 (w3.heap[w.heap.size]? = some (.cells C 28 (0, 0))) := ⟨(hb.block _ (blk_lt HC1.out)).trans HC1.out⟩
  have HB3 := Aside0.mk (below_step HB1.out hb)
  have HHM := Aside0.mk (HGT.out _ _ _ hh)
  clear HC1 HB1 hb hh HGT HOF
  rcases HCS.out with ⟨ta, tb, hk⟩ | ⟨ta, tb, tc, hk⟩ | ⟨ta, tb, tc, hk⟩
  all_goals (have HK := Aside0.mk hk; clear HCS hk)
  all_goals (
    go_wp2_with (first | ((with_reducible refine gate_dst (N := 39) rfl ?_); refine wpList_load_row rfl 28 _ rfl w.heap.size (by rfl) 28 C (0, 0) _ HC3.out Try.underlying28 rfl (by rw [info16, HSC.out]) ?_))
    try rw [HK.out]
    refine (HHM.out).mono ?_
    rintro e w4 ⟨rfl, hb⟩
    have HC4 : Aside0 (w4.heap[w.heap.size]? = some (.cells C 28 (0, 0))) := ⟨(hb.block _ (blk_lt HC3.out)).trans HC3.out⟩
    have HB4 := Aside0.mk (below_step HB3.out hb)
    clear HC3 HB3 hb
    go_wp2_with (first | ((with_reducible refine gate_dst (N := 43) rfl ?_); refine wpList_load_row rfl 28 _ rfl w.heap.size (by rfl) 28 C (0, 0) _ HC4.out Try.underlying28 rfl (by rw [info16, HSC.out]) ?_))
    refine (HRt.out _).mono ?_
    rintro e w5 ⟨rfl, hb⟩
    have HC5 : Aside0 (w5.heap[w.heap.size]? = some (.cells C 28 (0, 0))) := ⟨(hb.block _ (blk_lt HC4.out)).trans HC4.out⟩
    have HB5 := Aside0.mk (below_step HB4.out hb)
    clear HC4 HB4 hb
    have hcut4 := HCUT4.out
    go_wp2_with (first | ((with_reducible refine gate_dst (N := 52) rfl ?_); refine wpList_load_row rfl 28 _ rfl w.heap.size (by rfl) 28 C (0, 0) _ HC5.out Try.underlying28 rfl (by rw [info16, HSC.out]) ?_))
    refine (HSh.out _).mono ?_
    rintro e w6 ⟨rfl, hb⟩
    have HC6 : Aside0 (w6.heap[w.heap.size]? = some (.cells C 28 (0, 0))) := ⟨(hb.block _ (blk_lt HC5.out)).trans HC5.out⟩
    have HB6 := Aside0.mk (below_step HB5.out hb)
    clear HC5 HB5 hb
    go_wp2_with (first | ((with_reducible refine gate_dst (N := 62) rfl ?_); refine wpList_load_row rfl 28 _ rfl w.heap.size (by rfl) 28 C (0, 0) _ HC6.out Try.underlying28 rfl (by rw [info16, HSC.out]) ?_))
    refine (HPl.out _).mono ?_
    rintro e w7 ⟨rfl, hb⟩
    have HC7 : Aside0 (w7.heap[w.heap.size]? = some (.cells C 28 (0, 0))) := ⟨(hb.block _ (blk_lt HC6.out)).trans HC6.out⟩
    have HB7 := Aside0.mk (below_step HB6.out hb)
    clear HC6 HB6 hb
    obtain ⟨hw1, hw2, hw3, hw4⟩ := HW.out
    go_wp2_with fail
    try rw [hw2]
    try rw [hw4]
    clear hw1 hw2 hw3 hw4
    have HC7d : Aside0 (w7.drew.heap[w.heap.size]? = some (.cells C 28 (0, 0))) := ⟨HC7.out⟩
    have HB7d := Aside0.mk (below_drew1 HB7.out)
    have hw5 := HW5.out
    have hw6 := HW6.out
    refine start_ (n := 17) (S := fun w' => (loadVar 28 ⟨w.heap.size, 0, none⟩).run Try.prog w' = .ok (.agg C) w' ∧ (convert 36 9 (.slice A9 4 c9)).run Try.prog w' = .ok (.string T4) w') (ds := []) #[false, false, false, false, false, false, false, false, false, false, false, false, false, false, false, false, false] (by kernel_rfl) rfl rfl ⟨(load16 HC7d.out HSC.out), (HCV4.out _ HB7d.out)⟩ (fun hHeld => ?_)
    refine pure_ (i := 0) (N := some 81) (v := ?_) (a' := ?_) #[true, false, false, false, false, false, false, false, false, false, false, false, false, false, false, false, false] rfl rfl (by kernel_rfl) (fun _ _ _ h => h) (Or.inl ⟨by rfl, ?_⟩) ?_ ?_
    rotate_left
    · intro w'
      go_simp
      with_reducible rfl
    rotate_left
    · simp only [Act.put, List.setIfInBounds_toArray, List.set_cons_zero, List.set_cons_succ, i64_w, i32_w]
      rfl
    refine pure_ (i := 4) (N := some 85) (v := ?_) (a' := ?_) #[true, false, false, false, true, false, false, false, false, false, false, false, false, false, false, false, false] rfl rfl (by kernel_rfl) (fun _ _ _ h => h) (Or.inl ⟨by rfl, ?_⟩) ?_ ?_
    rotate_left
    · intro w'
      go_simp
      with_reducible rfl
    rotate_left
    · simp only [Act.put, List.setIfInBounds_toArray, List.set_cons_zero, List.set_cons_succ, i64_w, i32_w]
      rfl
    refine take_ (i := 1) (N := some 82) (v := ?_) (a' := ?_) #[true, true, false, false, true, false, false, false, false, false, false, false, false, false, false, false, false] rfl rfl (by kernel_rfl) (fun _ _ _ h => h) (Or.inl ⟨by rfl, ?_⟩) hHeld ?_ ?_
    rotate_left
    · rintro w' ⟨s0, s1⟩
      refine Eq.trans (load_exec (by rfl) (by rfl) s0) ?_
      with_reducible rfl
    rotate_left
    · simp only [Act.put, List.setIfInBounds_toArray, List.set_cons_zero, List.set_cons_succ, i64_w, i32_w]
      rfl
    refine one_ (i := 2) (N := some 83) #[true, true, true, false, true, false, false, false, false, false, false, false, false, false, false, false, false] rfl rfl (by kernel_rfl) (by decide) (fun K hK => ?_)
    refine goes_ Try.func13 (by kernel_rfl) rfl #[.agg C] (by rfl) rfl rfl (by simp only [List.map_toArray, List.map_cons, List.map_nil]; rfl) ?_
    with_reducible refine (HLn.out _).mono ?_
    rintro e w8 ⟨rfl, hb⟩
    refine ⟨_, rfl, ?_⟩
    have HC8 : Aside0 (w8.heap[w.heap.size]? = some (.cells C 28 (0, 0))) := ⟨(hb.block _ (blk_lt HC7d.out)).trans HC7d.out⟩
    have HB8 := Aside0.mk (below_step HB7d.out hb)
    clear hb
    refine hK.out _ _ ⟨(load16 HC8.out HSC.out), (HCV4.out _ HB8.out)⟩ (fun hHeld => ?_)
    clear hK K
    refine norm_ (a' := ?_) ?_ ?_
    rotate_left
    · show Act.put _ (some 83) _ = _
      simp only [Act.put, List.setIfInBounds_toArray, List.set_cons_zero, List.set_cons_succ, i64_w, i32_w]
      rfl
    refine pure_ (i := 3) (N := some 84) (v := ?_) (a' := ?_) #[true, true, true, true, true, false, false, false, false, false, false, false, false, false, false, false, false] rfl rfl (by kernel_rfl) (fun _ _ _ h => h) (Or.inl ⟨by rfl, ?_⟩) ?_ ?_
    rotate_left
    · intro w'
      go_simp
      with_reducible rfl
    rotate_left
    · simp only [Act.put, List.setIfInBounds_toArray, List.set_cons_zero, List.set_cons_succ, i64_w, i32_w]
      rfl
    refine pure_ (i := 5) (N := some 86) (v := ?_) (a' := ?_) #[true, true, true, true, true, true, false, false, false, false, false, false, false, false, false, false, false] rfl rfl (by kernel_rfl) (fun _ _ _ h => h) (Or.inl ⟨by rfl, ?_⟩) ?_ ?_
    rotate_left
    · intro w'
      go_simp
      with_reducible rfl
    rotate_left
    · simp only [Act.put, List.setIfInBounds_toArray, List.set_cons_zero, List.set_cons_succ, i64_w, i32_w]
      rfl
    refine pure_ (i := 6) (N := some 87) (v := ?_) (a' := ?_) #[true, true, true, true, true, true, true, false, false, false, false, false, false, false, false, false, false] rfl rfl (by kernel_rfl) (fun _ _ _ h => h) (Or.inl ⟨by rfl, ?_⟩) ?_ ?_
    rotate_left
    · intro w'
      go_simp
      with_reducible rfl
    rotate_left
    · simp only [Act.put, List.setIfInBounds_toArray, List.set_cons_zero, List.set_cons_succ, i64_w, i32_w]
      rfl
    refine pure_ (i := 7) (N := some 88) (v := ?_) (a' := ?_) #[true, true, true, true, true, true, true, true, false, false, false, false, false, false, false, false, false] rfl rfl (by kernel_rfl) (fun _ _ _ h => h) (Or.inl ⟨by rfl, ?_⟩) ?_ ?_
    rotate_left
    · intro w'
      go_simp
      with_reducible rfl
    rotate_left
    · simp only [Act.put, List.setIfInBounds_toArray, List.set_cons_zero, List.set_cons_succ, i64_w, i32_w]
      rfl
    refine pure_ (i := 8) (N := some 89) (v := ?_) (a' := ?_) #[true, true, true, true, true, true, true, true, true, false, false, false, false, false, false, false, false] rfl rfl (by kernel_rfl) (fun _ _ _ h => h) (Or.inl ⟨by rfl, ?_⟩) ?_ ?_
    rotate_left
    · intro w'
      go_simp
      with_reducible rfl
    rotate_left
    · simp only [Act.put, List.setIfInBounds_toArray, List.set_cons_zero, List.set_cons_succ, i64_w, i32_w]
      rfl
    refine pure_ (i := 9) (N := some 90) (v := ?_) (a' := ?_) #[true, true, true, true, true, true, true, true, true, true, false, false, false, false, false, false, false] rfl rfl (by kernel_rfl) (fun _ _ _ h => h) (Or.inl ⟨by rfl, ?_⟩) ?_ ?_
    rotate_left
    · intro w'
      go_simp
      with_reducible rfl
    rotate_left
    · simp only [Act.put, List.setIfInBounds_toArray, List.set_cons_zero, List.set_cons_succ, i64_w, i32_w]
      rfl
    refine pure_ (i := 10) (N := some 91) (v := ?_) (a' := ?_) #[true, true, true, true, true, true, true, true, true, true, true, false, false, false, false, false, false] rfl rfl (by kernel_rfl) (fun _ _ _ h => h) (Or.inl ⟨by rfl, ?_⟩) ?_ ?_
    rotate_left
    · intro w'
      go_simp
      with_reducible rfl
    rotate_left
    · simp only [Act.put, List.setIfInBounds_toArray, List.set_cons_zero, List.set_cons_succ, i64_w, i32_w]
      rfl
    refine pure_ (i := 11) (N := some 92) (v := ?_) (a' := ?_) #[true, true, true, true, true, true, true, true, true, true, true, true, false, false, false, false, false] rfl rfl (by kernel_rfl) (fun _ _ _ h => h) (Or.inl ⟨by rfl, ?_⟩) ?_ ?_
    rotate_left
    · intro w'
      go_simp
      with_reducible rfl
    rotate_left
    · simp only [Act.put, List.setIfInBounds_toArray, List.set_cons_zero, List.set_cons_succ, i64_w, i32_w]
      rfl
    refine take_ (i := 12) (N := some 93) (v := ?_) (a' := ?_) #[true, true, true, true, true, true, true, true, true, true, true, true, true, false, false, false, false] rfl rfl (by kernel_rfl) (fun _ _ _ h => h) (Or.inl ⟨by rfl, ?_⟩) hHeld ?_ ?_
    rotate_left
    · rintro w' ⟨s0, s1⟩
      go_simp
      with_reducible rfl
    rotate_left
    · simp only [Act.put, List.setIfInBounds_toArray, List.set_cons_zero, List.set_cons_succ, i64_w, i32_w]
      rfl
    refine take_ (i := 13) (N := some 94) (v := ?_) (a' := ?_) #[true, true, true, true, true, true, true, true, true, true, true, true, true, true, false, false, false] rfl rfl (by kernel_rfl) (fun _ _ _ h => h) (Or.inl ⟨by rfl, ?_⟩) hHeld ?_ ?_
    rotate_left
    · rintro w' ⟨s0, s1⟩
      refine Eq.trans (load_exec (by rfl) (by rfl) s0) ?_
      with_reducible rfl
    rotate_left
    · simp only [Act.put, List.setIfInBounds_toArray, List.set_cons_zero, List.set_cons_succ, i64_w, i32_w]
      rfl
    refine one_ (i := 14) (N := some 95) #[true, true, true, true, true, true, true, true, true, true, true, true, true, true, true, false, false] rfl rfl (by kernel_rfl) (by decide) (fun K hK => ?_)
    refine goes_ Try.func24 (by kernel_rfl) rfl #[.agg C] (by rfl) rfl rfl (by simp only [List.map_toArray, List.map_cons, List.map_nil]; rfl) ?_
    with_reducible refine (HPr.out _).mono ?_
    rintro e w9 ⟨rfl, hb⟩
    refine ⟨_, rfl, ?_⟩
    have HC9 : Aside0 (w9.heap[w.heap.size]? = some (.cells C 28 (0, 0))) := ⟨(hb.block _ (blk_lt HC8.out)).trans HC8.out⟩
    have HB9 := Aside0.mk (below_step HB8.out hb)
    clear hb
    refine hK.out _ _ ⟨(load16 HC9.out HSC.out), (HCV4.out _ HB9.out)⟩ (fun hHeld => ?_)
    clear hK K
    refine norm_ (a' := ?_) ?_ ?_
    rotate_left
    · show Act.put _ (some 95) _ = _
      simp only [Act.put, List.setIfInBounds_toArray, List.set_cons_zero, List.set_cons_succ, i64_w, i32_w]
      rfl
    refine pure_ (i := 15) (N := some 96) (v := ?_) (a' := ?_) #[true, true, true, true, true, true, true, true, true, true, true, true, true, true, true, true, false] rfl rfl (by kernel_rfl) (fun _ _ _ h => h) (Or.inl ⟨by rfl, ?_⟩) ?_ ?_
    rotate_left
    · intro w'
      go_simp
      with_reducible rfl
    rotate_left
    · simp only [Act.put, List.setIfInBounds_toArray, List.set_cons_zero, List.set_cons_succ, i64_w, i32_w]
      rfl
    refine pure_ (i := 16) (N := some 97) (v := ?_) (a' := ?_) #[true, true, true, true, true, true, true, true, true, true, true, true, true, true, true, true, true] rfl rfl (by kernel_rfl) (fun _ _ _ h => h) (Or.inl ⟨by rfl, ?_⟩) ?_ ?_
    rotate_left
    · intro w'
      go_simp
      with_reducible rfl
    rotate_left
    · simp only [Act.put, List.setIfInBounds_toArray, List.set_cons_zero, List.set_cons_succ, i64_w, i32_w]
      rfl
    refine done_ (by kernel_rfl) ?_
    clear hw5 hw6
    go_wp2_with fail
    go_ret
    exact ⟨rfl, HB9.out⟩)
set_option maxHeartbeats 8000000 in
set_option maxRecDepth 100000 in
theorem HeapGets_unlikeE (A0 : Option Addr) (c0 : Nat) (l0 : List Int) (a1 : Int) (a : List Int) (w : World) (hc0 : l0.length ≤ c0) (hr0 : Kd.C (Kd.int .u8) w A0 l0.length l0) (hB : isB l0) (hwf : -9223372036854775808 ≤ a1 ∧ a1 ≤ 9223372036854775807) (ha : a.length = 16) (hab : isB a) (h : ¬ 3000 < l0.length) (h1 : ¬ a1 < 0) (k0 : Nat) (hr : rightB a = true) (n : Nat) (hn : le4v a = (n : Int)) (h12 : 12 < n) (hn4 : n ≤ 4096) (q at_ : Nat) (hp8 : le4v (a.drop 8) = (q : Int)) (hp12 : le4v (a.drop 12) = (at_ : Int)) (h65 : at_ ≤ 65536) (hq : q ≤ 65535) (hE : ¬ l0.length < (q + 1) * k0)  (hk0 : (k0 : Int) = if a1 < 1 ∨ 65536 < a1 then 65536 else a1) (hin : ¬ endOf q k0 l0.length < q * k0 + at_ + n) (hu : strOfNums ((l0.drop (q * k0 + at_)).take 4) ≠ pvw a) :
    Calls Try.prog 5 #[.slice A0 l0.length c0, .int .i64 a1, .agg (cel a)] w fun e w' => e = .returned (.bool true) ∧ Below w.heap.size w w' := by
  have hkk : ∃ k : Nat, (k : Int) = if a1 < 1 ∨ 65536 < a1 then 65536 else a1 := by
    by_cases h : a1 < 1 ∨ 65536 < a1
    · exact ⟨65536, by rw [if_pos h]; rfl⟩
    · exact ⟨a1.toNat, by rw [if_neg h]; omega⟩
  obtain ⟨k, hk⟩ := hkk
  have hk1 : 1 ≤ k ∧ k ≤ 65536 := by
    by_cases h : a1 < 1 ∨ 65536 < a1
    · rw [if_pos h] at hk; omega
    · rw [if_neg h] at hk; omega
  have HOF := Aside0.mk (fun W hW => Of_ A0 c0 l0 a1 W hc0 (Kd.C_below hr0 hW) (by omega) k hk)
  have HRt := Aside0.mk (fun w => view_Right.calls a w ha hab)
  have HSh := Aside0.mk (fun w => view_Short.calls a w ha hab)
  have hcase : (decide (a1 = 0) = true ∧ (a1 == 0) = true ∧ (65536 : Int) = (k : Int)) ∨ (decide (a1 = 0) = false ∧ (a1 == 0) = false ∧ decide (65536 < a1) = true ∧ (65536 : Int) = (k : Int)) ∨ (decide (a1 = 0) = false ∧ (a1 == 0) = false ∧ decide (65536 < a1) = false ∧ a1 = (k : Int)) := by
    by_cases h0 : a1 = 0
    · rw [if_pos (by omega)] at hk; exact .inl ⟨by simp [h0], by simp [h0], hk.symm⟩
    · by_cases h2 : 65536 < a1
      · rw [if_pos (by omega)] at hk; exact .inr (.inl ⟨by simp [h0], by simp [h0], by simp [h2], hk.symm⟩)
      · rw [if_neg (by omega)] at hk; exact .inr (.inr ⟨by simp [h0], by simp [h0], by simp [h2], hk.symm⟩)
  obtain rfl : k0 = k := by omega
  have hend : endOf q k0 l0.length = (q + 1) * k0 := by unfold endOf; exact if_neg hE
  have HGT0 := fun (lo g : Nat) (W : World) (hW : HM lo W g (chunks k0 l0) (l0.length : Int) (l0.length : Int)) => get_unlike a n W hW hk1 (by omega) hB ha hab hr hn h12 hn4 q at_ hp8 hp12 h65 hin hu
  rw [hend] at hin
  rw [hr] at HRt
  rw [hn, decide_eq_false (show ¬ (n : Int) ≤ 12 by omega)] at HSh
  have HLn := Aside0.mk (fun w => view_Len.calls a w ha hab)
  have HPr := Aside0.mk (fun w => view_Prefix.calls a w ha hab)
  have HPl := Aside0.mk (fun w => view_Place.calls a w ha hab)
  rw [hn] at HLn HPl
  rw [if_neg (by omega), if_neg (by omega), hp8, hp12] at HPl
  obtain ⟨P9, hP9⟩ : ∃ P, P = pvw a := ⟨_, rfl⟩
  rw [show strOfNums ((a.drop 4).take (if le4v a < 4 then (le4v a).toNat else 4)) = P9 from hP9.symm] at HPr
  have hqk : q * k0 ≤ 65535 * 65536 := Nat.mul_le_mul hq hk1.2
  have hqk1 : (q + 1) * k0 = q * k0 + k0 := Nat.succ_mul q k0
  obtain ⟨QK, hQK⟩ : ∃ x, x = q * k0 := ⟨_, rfl⟩
  obtain ⟨E1, hE1⟩ : ∃ x, x = (q + 1) * k0 := ⟨_, rfl⟩
  have hc1 : ((q : Int) + 1) * (k0 : Int) = (E1 : Int) := by rw [hE1]; push_cast; rfl
  have hc2 : (q : Int) * (k0 : Int) = (QK : Int) := by rw [hQK]; push_cast; rfl
  rw [← hE1] at hqk1 hE hin
  rw [← hQK] at hqk hqk1 hin hu
  rw [← hP9] at hu
  have HW := Aside0.mk (show wrap64 ((q : Int) + 1) = (q : Int) + 1 ∧ wrap64 (((q : Int) + 1) * (k0 : Int)) = (E1 : Int) ∧ wrap64 ((q : Int) * (k0 : Int)) = (QK : Int) ∧ wrap64 ((QK : Int) + (at_ : Int)) = ((QK + at_ : Nat) : Int) from ⟨wbig _ (by omega) (by omega), by rw [hc1]; exact wbig _ (by omega) (by omega), by rw [hc2]; exact wbig _ (by omega) (by omega), by rw [wbig _ (by omega) (by omega)]; rfl⟩)
  clear hc1 hc2
  obtain ⟨F, hF⟩ : ∃ x, x = QK + at_ := ⟨_, rfl⟩
  rw [← hF] at HW hin hu
  have HW5 := Aside0.mk (show wrap64 ((F : Int) + (n : Int)) = (F : Int) + (n : Int) from wbig _ (by omega) (by omega))
  have hFl : F + n ≤ l0.length := by omega
  obtain ⟨A9, c9, hc9, hcut4, hcs4⟩ := cut_seg A0 c0 l0 hc0 F 4 (by omega)
  have hl4 : ((l0.drop F).take 4).length = 4 := by rw [List.length_take, List.length_drop]; omega
  rw [hl4] at hc9 hcut4 hcs4
  have hcut4 : ∀ W : World, (Instr.slice 36 (.slice A0 l0.length c0) (some (.int .i64 (F : Int))) (some (.int .i64 ((F : Int) + 4))) none).run Try.prog W = .ok (.slice A9 4 c9) W := hcut4
  obtain ⟨T4, hT4⟩ : ∃ s, s = strOfNums ((l0.drop F).take 4) := ⟨_, rfl⟩
  rw [← hT4] at hu
  have HCV4 : Aside0 (∀ W : World, Below w.heap.size w W → (convert 36 9 (.slice A9 4 c9)).run Try.prog W = .ok (.string T4) W) := ⟨fun W hW => by rw [hT4]; exact Kd.C_string (P := Try.prog) (c := c9) Try.underlying36 Try.underlying5 Try.underlying9 (hcs4 W (Kd.C_below hr0 hW))⟩
  have HW6 := Aside0.mk (show wrap64 ((F : Int) + 4) = (F : Int) + 4 from wbig _ (by omega) (by omega))
  obtain ⟨C, hC⟩ : ∃ C, C = cel a := ⟨_, rfl⟩
  have HSC : Aside0 (C.size = 16) := ⟨by rw [hC, cel_size, ha]⟩
  obtain ⟨N, hN⟩ : ∃ N, N = l0.length := ⟨_, rfl⟩
  have HNE := Aside0.mk hN
  rw [← hC] at HRt HSh HLn HPr HPl HGT0 ⊢
  rw [← hN] at HOF h HGT0  hE hcut4 hFl ⊢
  have HGT := Aside0.mk HGT0
  have t1a : decide (3000 < (N : Int)) = false := decide_eq_false (by omega)
  have t1b : decide (3000 < N) = false := decide_eq_false (by omega)
  have t2 : decide (a1 < 0) = false := decide_eq_false (by omega)
  have t5a : decide (E1 < (F : Int) + (n : Int)) = false := decide_eq_false (by omega)
  have t5b : decide (E1 < F + n) = false := decide_eq_false (by omega)
  have t6a : decide (N < (E1 : Int)) = false := decide_eq_false (by omega)
  have t6b : decide (N < E1) = false := decide_eq_false (by omega)
  have HCUT4 := Aside0.mk hcut4
  have tu : (T4.toList == P9.toList) = false := by rw [str_ne]; exact decide_eq_false hu
  have HCS := Aside0.mk hcase
  clear hk hr0 hc0 hB hwf ha hab hC hN hcase h h1 HGT0 hr hn h12 hn4 hp8 hp12 h65 hq hE hk0 hk1 hend hqk hqk1 hQK hE1 hF hP9 hin hu hFl hc9 hcut4 hcs4 hl4 hT4
  have HC0 := Aside0.mk (blk_new w (.cells C 28))
  have HB0 := Aside0.mk (below_alloc (Below.refl w.heap.size w) (.cells C 28))
  go_enter Try.func5, Try.ntmps5
  go_wp2_with fail
  refine (law7_awake _).mono ?_
  rintro e w1 ⟨rfl, hb⟩
  have HC1 : Aside0 (w1.heap[w.heap.size]? = some (.cells C 28 (0, 0))) := ⟨(hb.block _ (blk_lt HC0.out)).trans HC0.out⟩
  have HB1 := Aside0.mk (below_step HB0.out hb)
  clear HC0 HB0 hb
  go_wp2_with fail
  refine (HOF.out _ ((Below.refl w.heap.size w).trans HB1.out)).mono ?_
  rintro e w3 ⟨g, rfl, hh, hb⟩
  have HC3 : Aside0 (w3.heap[w.heap.size]? = some (.cells C 28 (0, 0))) := ⟨(hb.block _ (blk_lt HC1.out)).trans HC1.out⟩
  have HB3 := Aside0.mk (below_step HB1.out hb)
  have HHM := Aside0.mk (HGT.out _ _ _ hh)
  clear HC1 HB1 hb hh HGT HOF
  rcases HCS.out with ⟨ta, tb, hk⟩ | ⟨ta, tb, tc, hk⟩ | ⟨ta, tb, tc, hk⟩
  all_goals (have HK := Aside0.mk hk; clear HCS hk)
  all_goals (
    go_wp2_with (first | ((with_reducible refine gate_dst (N := 39) rfl ?_); refine wpList_load_row rfl 28 _ rfl w.heap.size (by rfl) 28 C (0, 0) _ HC3.out Try.underlying28 rfl (by rw [info16, HSC.out]) ?_))
    try rw [HK.out]
    refine (HHM.out).mono ?_
    rintro e w4 ⟨rfl, hb⟩
    have HC4 : Aside0 (w4.heap[w.heap.size]? = some (.cells C 28 (0, 0))) := ⟨(hb.block _ (blk_lt HC3.out)).trans HC3.out⟩
    have HB4 := Aside0.mk (below_step HB3.out hb)
    clear HC3 HB3 hb
    go_wp2_with (first | ((with_reducible refine gate_dst (N := 43) rfl ?_); refine wpList_load_row rfl 28 _ rfl w.heap.size (by rfl) 28 C (0, 0) _ HC4.out Try.underlying28 rfl (by rw [info16, HSC.out]) ?_))
    refine (HRt.out _).mono ?_
    rintro e w5 ⟨rfl, hb⟩
    have HC5 : Aside0 (w5.heap[w.heap.size]? = some (.cells C 28 (0, 0))) := ⟨(hb.block _ (blk_lt HC4.out)).trans HC4.out⟩
    have HB5 := Aside0.mk (below_step HB4.out hb)
    clear HC4 HB4 hb
    have hcut4 := HCUT4.out
    go_wp2_with (first | ((with_reducible refine gate_dst (N := 52) rfl ?_); refine wpList_load_row rfl 28 _ rfl w.heap.size (by rfl) 28 C (0, 0) _ HC5.out Try.underlying28 rfl (by rw [info16, HSC.out]) ?_))
    refine (HSh.out _).mono ?_
    rintro e w6 ⟨rfl, hb⟩
    have HC6 : Aside0 (w6.heap[w.heap.size]? = some (.cells C 28 (0, 0))) := ⟨(hb.block _ (blk_lt HC5.out)).trans HC5.out⟩
    have HB6 := Aside0.mk (below_step HB5.out hb)
    clear HC5 HB5 hb
    go_wp2_with (first | ((with_reducible refine gate_dst (N := 62) rfl ?_); refine wpList_load_row rfl 28 _ rfl w.heap.size (by rfl) 28 C (0, 0) _ HC6.out Try.underlying28 rfl (by rw [info16, HSC.out]) ?_))
    refine (HPl.out _).mono ?_
    rintro e w7 ⟨rfl, hb⟩
    have HC7 : Aside0 (w7.heap[w.heap.size]? = some (.cells C 28 (0, 0))) := ⟨(hb.block _ (blk_lt HC6.out)).trans HC6.out⟩
    have HB7 := Aside0.mk (below_step HB6.out hb)
    clear HC6 HB6 hb
    obtain ⟨hw1, hw2, hw3, hw4⟩ := HW.out
    go_wp2_with fail
    try rw [hw2]
    try rw [hw4]
    clear hw1 hw2 hw3 hw4
    have HC7d : Aside0 (w7.drew.heap[w.heap.size]? = some (.cells C 28 (0, 0))) := ⟨HC7.out⟩
    have HB7d := Aside0.mk (below_drew1 HB7.out)
    have hw5 := HW5.out
    have hw6 := HW6.out
    refine start_ (n := 17) (S := fun w' => (loadVar 28 ⟨w.heap.size, 0, none⟩).run Try.prog w' = .ok (.agg C) w' ∧ (convert 36 9 (.slice A9 4 c9)).run Try.prog w' = .ok (.string T4) w') (ds := []) #[false, false, false, false, false, false, false, false, false, false, false, false, false, false, false, false, false] (by kernel_rfl) rfl rfl ⟨(load16 HC7d.out HSC.out), (HCV4.out _ HB7d.out)⟩ (fun hHeld => ?_)
    refine pure_ (i := 0) (N := some 81) (v := ?_) (a' := ?_) #[true, false, false, false, false, false, false, false, false, false, false, false, false, false, false, false, false] rfl rfl (by kernel_rfl) (fun _ _ _ h => h) (Or.inl ⟨by rfl, ?_⟩) ?_ ?_
    rotate_left
    · intro w'
      go_simp
      with_reducible rfl
    rotate_left
    · simp only [Act.put, List.setIfInBounds_toArray, List.set_cons_zero, List.set_cons_succ, i64_w, i32_w]
      rfl
    refine pure_ (i := 4) (N := some 85) (v := ?_) (a' := ?_) #[true, false, false, false, true, false, false, false, false, false, false, false, false, false, false, false, false] rfl rfl (by kernel_rfl) (fun _ _ _ h => h) (Or.inl ⟨by rfl, ?_⟩) ?_ ?_
    rotate_left
    · intro w'
      go_simp
      with_reducible rfl
    rotate_left
    · simp only [Act.put, List.setIfInBounds_toArray, List.set_cons_zero, List.set_cons_succ, i64_w, i32_w]
      rfl
    refine take_ (i := 1) (N := some 82) (v := ?_) (a' := ?_) #[true, true, false, false, true, false, false, false, false, false, false, false, false, false, false, false, false] rfl rfl (by kernel_rfl) (fun _ _ _ h => h) (Or.inl ⟨by rfl, ?_⟩) hHeld ?_ ?_
    rotate_left
    · rintro w' ⟨s0, s1⟩
      refine Eq.trans (load_exec (by rfl) (by rfl) s0) ?_
      with_reducible rfl
    rotate_left
    · simp only [Act.put, List.setIfInBounds_toArray, List.set_cons_zero, List.set_cons_succ, i64_w, i32_w]
      rfl
    refine one_ (i := 2) (N := some 83) #[true, true, true, false, true, false, false, false, false, false, false, false, false, false, false, false, false] rfl rfl (by kernel_rfl) (by decide) (fun K hK => ?_)
    refine goes_ Try.func13 (by kernel_rfl) rfl #[.agg C] (by rfl) rfl rfl (by simp only [List.map_toArray, List.map_cons, List.map_nil]; rfl) ?_
    with_reducible refine (HLn.out _).mono ?_
    rintro e w8 ⟨rfl, hb⟩
    refine ⟨_, rfl, ?_⟩
    have HC8 : Aside0 (w8.heap[w.heap.size]? = some (.cells C 28 (0, 0))) := ⟨(hb.block _ (blk_lt HC7d.out)).trans HC7d.out⟩
    have HB8 := Aside0.mk (below_step HB7d.out hb)
    clear hb
    refine hK.out _ _ ⟨(load16 HC8.out HSC.out), (HCV4.out _ HB8.out)⟩ (fun hHeld => ?_)
    clear hK K
    refine norm_ (a' := ?_) ?_ ?_
    rotate_left
    · show Act.put _ (some 83) _ = _
      simp only [Act.put, List.setIfInBounds_toArray, List.set_cons_zero, List.set_cons_succ, i64_w, i32_w]
      rfl
    refine pure_ (i := 3) (N := some 84) (v := ?_) (a' := ?_) #[true, true, true, true, true, false, false, false, false, false, false, false, false, false, false, false, false] rfl rfl (by kernel_rfl) (fun _ _ _ h => h) (Or.inl ⟨by rfl, ?_⟩) ?_ ?_
    rotate_left
    · intro w'
      go_simp
      with_reducible rfl
    rotate_left
    · simp only [Act.put, List.setIfInBounds_toArray, List.set_cons_zero, List.set_cons_succ, i64_w, i32_w]
      rfl
    refine pure_ (i := 5) (N := some 86) (v := ?_) (a' := ?_) #[true, true, true, true, true, true, false, false, false, false, false, false, false, false, false, false, false] rfl rfl (by kernel_rfl) (fun _ _ _ h => h) (Or.inl ⟨by rfl, ?_⟩) ?_ ?_
    rotate_left
    · intro w'
      go_simp
      with_reducible rfl
    rotate_left
    · simp only [Act.put, List.setIfInBounds_toArray, List.set_cons_zero, List.set_cons_succ, i64_w, i32_w]
      rfl
    refine pure_ (i := 6) (N := some 87) (v := ?_) (a' := ?_) #[true, true, true, true, true, true, true, false, false, false, false, false, false, false, false, false, false] rfl rfl (by kernel_rfl) (fun _ _ _ h => h) (Or.inl ⟨by rfl, ?_⟩) ?_ ?_
    rotate_left
    · intro w'
      go_simp
      with_reducible rfl
    rotate_left
    · simp only [Act.put, List.setIfInBounds_toArray, List.set_cons_zero, List.set_cons_succ, i64_w, i32_w]
      rfl
    refine pure_ (i := 7) (N := some 88) (v := ?_) (a' := ?_) #[true, true, true, true, true, true, true, true, false, false, false, false, false, false, false, false, false] rfl rfl (by kernel_rfl) (fun _ _ _ h => h) (Or.inl ⟨by rfl, ?_⟩) ?_ ?_
    rotate_left
    · intro w'
      go_simp
      with_reducible rfl
    rotate_left
    · simp only [Act.put, List.setIfInBounds_toArray, List.set_cons_zero, List.set_cons_succ, i64_w, i32_w]
      rfl
    refine pure_ (i := 8) (N := some 89) (v := ?_) (a' := ?_) #[true, true, true, true, true, true, true, true, true, false, false, false, false, false, false, false, false] rfl rfl (by kernel_rfl) (fun _ _ _ h => h) (Or.inl ⟨by rfl, ?_⟩) ?_ ?_
    rotate_left
    · intro w'
      go_simp
      with_reducible rfl
    rotate_left
    · simp only [Act.put, List.setIfInBounds_toArray, List.set_cons_zero, List.set_cons_succ, i64_w, i32_w]
      rfl
    refine pure_ (i := 9) (N := some 90) (v := ?_) (a' := ?_) #[true, true, true, true, true, true, true, true, true, true, false, false, false, false, false, false, false] rfl rfl (by kernel_rfl) (fun _ _ _ h => h) (Or.inl ⟨by rfl, ?_⟩) ?_ ?_
    rotate_left
    · intro w'
      go_simp
      with_reducible rfl
    rotate_left
    · simp only [Act.put, List.setIfInBounds_toArray, List.set_cons_zero, List.set_cons_succ, i64_w, i32_w]
      rfl
    refine pure_ (i := 10) (N := some 91) (v := ?_) (a' := ?_) #[true, true, true, true, true, true, true, true, true, true, true, false, false, false, false, false, false] rfl rfl (by kernel_rfl) (fun _ _ _ h => h) (Or.inl ⟨by rfl, ?_⟩) ?_ ?_
    rotate_left
    · intro w'
      go_simp
      with_reducible rfl
    rotate_left
    · simp only [Act.put, List.setIfInBounds_toArray, List.set_cons_zero, List.set_cons_succ, i64_w, i32_w]
      rfl
    refine pure_ (i := 11) (N := some 92) (v := ?_) (a' := ?_) #[true, true, true, true, true, true, true, true, true, true, true, true, false, false, false, false, false] rfl rfl (by kernel_rfl) (fun _ _ _ h => h) (Or.inl ⟨by rfl, ?_⟩) ?_ ?_
    rotate_left
    · intro w'
      go_simp
      with_reducible rfl
    rotate_left
    · simp only [Act.put, List.setIfInBounds_toArray, List.set_cons_zero, List.set_cons_succ, i64_w, i32_w]
      rfl
    refine take_ (i := 12) (N := some 93) (v := ?_) (a' := ?_) #[true, true, true, true, true, true, true, true, true, true, true, true, true, false, false, false, false] rfl rfl (by kernel_rfl) (fun _ _ _ h => h) (Or.inl ⟨by rfl, ?_⟩) hHeld ?_ ?_
    rotate_left
    · rintro w' ⟨s0, s1⟩
      go_simp
      with_reducible rfl
    rotate_left
    · simp only [Act.put, List.setIfInBounds_toArray, List.set_cons_zero, List.set_cons_succ, i64_w, i32_w]
      rfl
    refine take_ (i := 13) (N := some 94) (v := ?_) (a' := ?_) #[true, true, true, true, true, true, true, true, true, true, true, true, true, true, false, false, false] rfl rfl (by kernel_rfl) (fun _ _ _ h => h) (Or.inl ⟨by rfl, ?_⟩) hHeld ?_ ?_
    rotate_left
    · rintro w' ⟨s0, s1⟩
      refine Eq.trans (load_exec (by rfl) (by rfl) s0) ?_
      with_reducible rfl
    rotate_left
    · simp only [Act.put, List.setIfInBounds_toArray, List.set_cons_zero, List.set_cons_succ, i64_w, i32_w]
      rfl
    refine one_ (i := 14) (N := some 95) #[true, true, true, true, true, true, true, true, true, true, true, true, true, true, true, false, false] rfl rfl (by kernel_rfl) (by decide) (fun K hK => ?_)
    refine goes_ Try.func24 (by kernel_rfl) rfl #[.agg C] (by rfl) rfl rfl (by simp only [List.map_toArray, List.map_cons, List.map_nil]; rfl) ?_
    with_reducible refine (HPr.out _).mono ?_
    rintro e w9 ⟨rfl, hb⟩
    refine ⟨_, rfl, ?_⟩
    have HC9 : Aside0 (w9.heap[w.heap.size]? = some (.cells C 28 (0, 0))) := ⟨(hb.block _ (blk_lt HC8.out)).trans HC8.out⟩
    have HB9 := Aside0.mk (below_step HB8.out hb)
    clear hb
    refine hK.out _ _ ⟨(load16 HC9.out HSC.out), (HCV4.out _ HB9.out)⟩ (fun hHeld => ?_)
    clear hK K
    refine norm_ (a' := ?_) ?_ ?_
    rotate_left
    · show Act.put _ (some 95) _ = _
      simp only [Act.put, List.setIfInBounds_toArray, List.set_cons_zero, List.set_cons_succ, i64_w, i32_w]
      rfl
    refine pure_ (i := 15) (N := some 96) (v := ?_) (a' := ?_) #[true, true, true, true, true, true, true, true, true, true, true, true, true, true, true, true, false] rfl rfl (by kernel_rfl) (fun _ _ _ h => h) (Or.inl ⟨by rfl, ?_⟩) ?_ ?_
    rotate_left
    · intro w'
      go_simp
      with_reducible rfl
    rotate_left
    · simp only [Act.put, List.setIfInBounds_toArray, List.set_cons_zero, List.set_cons_succ, i64_w, i32_w]
      rfl
    refine pure_ (i := 16) (N := some 97) (v := ?_) (a' := ?_) #[true, true, true, true, true, true, true, true, true, true, true, true, true, true, true, true, true] rfl rfl (by kernel_rfl) (fun _ _ _ h => h) (Or.inl ⟨by rfl, ?_⟩) ?_ ?_
    rotate_left
    · intro w'
      go_simp
      with_reducible rfl
    rotate_left
    · simp only [Act.put, List.setIfInBounds_toArray, List.set_cons_zero, List.set_cons_succ, i64_w, i32_w]
      rfl
    refine done_ (by kernel_rfl) ?_
    clear hw5 hw6
    go_wp2_with fail
    go_ret
    exact ⟨rfl, HB9.out⟩)
set_option maxHeartbeats 8000000 in
set_option maxRecDepth 100000 in
theorem HeapGets_likeN (A0 : Option Addr) (c0 : Nat) (l0 : List Int) (a1 : Int) (a : List Int) (w : World) (hc0 : l0.length ≤ c0) (hr0 : Kd.C (Kd.int .u8) w A0 l0.length l0) (hB : isB l0) (hwf : -9223372036854775808 ≤ a1 ∧ a1 ≤ 9223372036854775807) (ha : a.length = 16) (hab : isB a) (h : ¬ 3000 < l0.length) (h1 : ¬ a1 < 0) (k0 : Nat) (hr : rightB a = true) (n : Nat) (hn : le4v a = (n : Int)) (h12 : 12 < n) (hn4 : n ≤ 4096) (q at_ : Nat) (hp8 : le4v (a.drop 8) = (q : Int)) (hp12 : le4v (a.drop 12) = (at_ : Int)) (h65 : at_ ≤ 65536) (hq : q ≤ 65535) (hE : l0.length < (q + 1) * k0)  (hk0 : (k0 : Int) = if a1 < 1 ∨ 65536 < a1 then 65536 else a1) (hin : ¬ endOf q k0 l0.length < q * k0 + at_ + n) (hu : strOfNums ((l0.drop (q * k0 + at_)).take 4) = pvw a) :
    Calls Try.prog 5 #[.slice A0 l0.length c0, .int .i64 a1, .agg (cel a)] w fun e w' => e = .returned (.bool true) ∧ Below w.heap.size w w' := by
  have hkk : ∃ k : Nat, (k : Int) = if a1 < 1 ∨ 65536 < a1 then 65536 else a1 := by
    by_cases h : a1 < 1 ∨ 65536 < a1
    · exact ⟨65536, by rw [if_pos h]; rfl⟩
    · exact ⟨a1.toNat, by rw [if_neg h]; omega⟩
  obtain ⟨k, hk⟩ := hkk
  have hk1 : 1 ≤ k ∧ k ≤ 65536 := by
    by_cases h : a1 < 1 ∨ 65536 < a1
    · rw [if_pos h] at hk; omega
    · rw [if_neg h] at hk; omega
  have HOF := Aside0.mk (fun W hW => Of_ A0 c0 l0 a1 W hc0 (Kd.C_below hr0 hW) (by omega) k hk)
  have HRt := Aside0.mk (fun w => view_Right.calls a w ha hab)
  have HSh := Aside0.mk (fun w => view_Short.calls a w ha hab)
  have hcase : (decide (a1 = 0) = true ∧ (a1 == 0) = true ∧ (65536 : Int) = (k : Int)) ∨ (decide (a1 = 0) = false ∧ (a1 == 0) = false ∧ decide (65536 < a1) = true ∧ (65536 : Int) = (k : Int)) ∨ (decide (a1 = 0) = false ∧ (a1 == 0) = false ∧ decide (65536 < a1) = false ∧ a1 = (k : Int)) := by
    by_cases h0 : a1 = 0
    · rw [if_pos (by omega)] at hk; exact .inl ⟨by simp [h0], by simp [h0], hk.symm⟩
    · by_cases h2 : 65536 < a1
      · rw [if_pos (by omega)] at hk; exact .inr (.inl ⟨by simp [h0], by simp [h0], by simp [h2], hk.symm⟩)
      · rw [if_neg (by omega)] at hk; exact .inr (.inr ⟨by simp [h0], by simp [h0], by simp [h2], hk.symm⟩)
  obtain rfl : k0 = k := by omega
  have hend : endOf q k0 l0.length = l0.length := by unfold endOf; exact if_pos hE
  have HGT0 := fun (lo g : Nat) (W : World) (hW : HM lo W g (chunks k0 l0) (l0.length : Int) (l0.length : Int)) => get_like a n W hW hk1 (by omega) hB ha hab hr hn h12 hn4 q at_ hp8 hp12 h65 hin hu
  rw [hend] at hin
  rw [hr] at HRt
  rw [hn, decide_eq_false (show ¬ (n : Int) ≤ 12 by omega)] at HSh
  have HLn := Aside0.mk (fun w => view_Len.calls a w ha hab)
  have HPr := Aside0.mk (fun w => view_Prefix.calls a w ha hab)
  have HPl := Aside0.mk (fun w => view_Place.calls a w ha hab)
  rw [hn] at HLn HPl
  rw [if_neg (by omega), if_neg (by omega), hp8, hp12] at HPl
  obtain ⟨P9, hP9⟩ : ∃ P, P = pvw a := ⟨_, rfl⟩
  rw [show strOfNums ((a.drop 4).take (if le4v a < 4 then (le4v a).toNat else 4)) = P9 from hP9.symm] at HPr
  have hqk : q * k0 ≤ 65535 * 65536 := Nat.mul_le_mul hq hk1.2
  have hqk1 : (q + 1) * k0 = q * k0 + k0 := Nat.succ_mul q k0
  obtain ⟨QK, hQK⟩ : ∃ x, x = q * k0 := ⟨_, rfl⟩
  obtain ⟨E1, hE1⟩ : ∃ x, x = (q + 1) * k0 := ⟨_, rfl⟩
  have hc1 : ((q : Int) + 1) * (k0 : Int) = (E1 : Int) := by rw [hE1]; push_cast; rfl
  have hc2 : (q : Int) * (k0 : Int) = (QK : Int) := by rw [hQK]; push_cast; rfl
  rw [← hE1] at hqk1 hE
  rw [← hQK] at hqk hqk1 hin hu HGT0
  rw [← hP9] at hu
  have HW := Aside0.mk (show wrap64 ((q : Int) + 1) = (q : Int) + 1 ∧ wrap64 (((q : Int) + 1) * (k0 : Int)) = (E1 : Int) ∧ wrap64 ((q : Int) * (k0 : Int)) = (QK : Int) ∧ wrap64 ((QK : Int) + (at_ : Int)) = ((QK + at_ : Nat) : Int) from ⟨wbig _ (by omega) (by omega), by rw [hc1]; exact wbig _ (by omega) (by omega), by rw [hc2]; exact wbig _ (by omega) (by omega), by rw [wbig _ (by omega) (by omega)]; rfl⟩)
  clear hc1 hc2
  obtain ⟨F, hF⟩ : ∃ x, x = QK + at_ := ⟨_, rfl⟩
  rw [← hF] at HW hin hu HGT0
  have HW5 := Aside0.mk (show wrap64 ((F : Int) + (n : Int)) = (F : Int) + (n : Int) from wbig _ (by omega) (by omega))
  have hFl : F + n ≤ l0.length := by omega
  obtain ⟨A9, c9, hc9, hcut4, hcs4⟩ := cut_seg A0 c0 l0 hc0 F 4 (by omega)
  have hl4 : ((l0.drop F).take 4).length = 4 := by rw [List.length_take, List.length_drop]; omega
  rw [hl4] at hc9 hcut4 hcs4
  have hcut4 : ∀ W : World, (Instr.slice 36 (.slice A0 l0.length c0) (some (.int .i64 (F : Int))) (some (.int .i64 ((F : Int) + 4))) none).run Try.prog W = .ok (.slice A9 4 c9) W := hcut4
  obtain ⟨T4, hT4⟩ : ∃ s, s = strOfNums ((l0.drop F).take 4) := ⟨_, rfl⟩
  rw [← hT4] at hu
  have HCV4 : Aside0 (∀ W : World, Below w.heap.size w W → (convert 36 9 (.slice A9 4 c9)).run Try.prog W = .ok (.string T4) W) := ⟨fun W hW => by rw [hT4]; exact Kd.C_string (P := Try.prog) (c := c9) Try.underlying36 Try.underlying5 Try.underlying9 (hcs4 W (Kd.C_below hr0 hW))⟩
  have HW6 := Aside0.mk (show wrap64 ((F : Int) + 4) = (F : Int) + 4 from wbig _ (by omega) (by omega))
  obtain ⟨A8, c8, hc8, hcut8, hcs8⟩ := cut_seg A0 c0 l0 hc0 F n (by omega)
  have hl8 : ((l0.drop F).take n).length = n := by rw [List.length_take, List.length_drop]; omega
  rw [hl8] at hc8 hcut8 hcs8
  obtain ⟨T8, hT8⟩ : ∃ s, s = strOfNums ((l0.drop F).take n) := ⟨_, rfl⟩
  rw [← hT8] at HGT0
  have HCV8 : Aside0 (∀ W : World, Below w.heap.size w W → (convert 36 9 (.slice A8 n c8)).run Try.prog W = .ok (.string T8) W) := ⟨fun W hW => by rw [hT8]; exact Kd.C_string (P := Try.prog) (c := c8) Try.underlying36 Try.underlying5 Try.underlying9 (hcs8 W (Kd.C_below hr0 hW))⟩
  obtain ⟨C, hC⟩ : ∃ C, C = cel a := ⟨_, rfl⟩
  have HSC : Aside0 (C.size = 16) := ⟨by rw [hC, cel_size, ha]⟩
  obtain ⟨N, hN⟩ : ∃ N, N = l0.length := ⟨_, rfl⟩
  have HNE := Aside0.mk hN
  rw [← hC] at HRt HSh HLn HPr HPl HGT0 ⊢
  rw [← hN] at HOF h HGT0 hin hE hcut4 hFl hcut8 ⊢
  have HGT := Aside0.mk HGT0
  have t1a : decide (3000 < (N : Int)) = false := decide_eq_false (by omega)
  have t1b : decide (3000 < N) = false := decide_eq_false (by omega)
  have t2 : decide (a1 < 0) = false := decide_eq_false (by omega)
  have t5a : decide (N < (F : Int) + (n : Int)) = false := decide_eq_false (by omega)
  have t5b : decide (N < F + n) = false := decide_eq_false (by omega)
  have t6a : decide (N < (E1 : Int)) = true := decide_eq_true (by omega)
  have t6b : decide (N < E1) = true := decide_eq_true (by omega)
  have HCUT4 := Aside0.mk hcut4
  have tu : (T4.toList == P9.toList) = true := by rw [str_ne]; exact decide_eq_true hu
  have HCUT8 := Aside0.mk hcut8
  have HCS := Aside0.mk hcase
  clear hk hr0 hc0 hB hwf ha hab hC hN hcase h h1 HGT0 hr hn h12 hn4 hp8 hp12 h65 hq hE hk0 hk1 hend hqk hqk1 hQK hE1 hF hP9 hin hu hFl hc9 hcut4 hcs4 hl4 hT4 hc8 hcut8 hcs8 hl8 hT8
  have HC0 := Aside0.mk (blk_new w (.cells C 28))
  have HB0 := Aside0.mk (below_alloc (Below.refl w.heap.size w) (.cells C 28))
  go_enter Try.func5, Try.ntmps5
  go_wp2_with fail
  refine (law7_awake _).mono ?_
  rintro e w1 ⟨rfl, hb⟩
  have HC1 : Aside0 (w1.heap[w.heap.size]? = some (.cells C 28 (0, 0))) := ⟨(hb.block _ (blk_lt HC0.out)).trans HC0.out⟩
  have HB1 := Aside0.mk (below_step HB0.out hb)
  clear HC0 HB0 hb
  go_wp2_with fail
  refine (HOF.out _ ((Below.refl w.heap.size w).trans HB1.out)).mono ?_
  rintro e w3 ⟨g, rfl, hh, hb⟩
  have HC3 : Aside0 (w3.heap[w.heap.size]? = some (.cells C 28 (0, 0))) := ⟨(hb.block _ (blk_lt HC1.out)).trans HC1.out⟩
  have HB3 := Aside0.mk (below_step HB1.out hb)
  have HHM := Aside0.mk (HGT.out _ _ _ hh)
  clear HC1 HB1 hb hh HGT HOF
  rcases HCS.out with ⟨ta, tb, hk⟩ | ⟨ta, tb, tc, hk⟩ | ⟨ta, tb, tc, hk⟩
  all_goals (have HK := Aside0.mk hk; clear HCS hk)
  all_goals (
    go_wp2_with (first | ((with_reducible refine gate_dst (N := 39) rfl ?_); refine wpList_load_row rfl 28 _ rfl w.heap.size (by rfl) 28 C (0, 0) _ HC3.out Try.underlying28 rfl (by rw [info16, HSC.out]) ?_))
    try rw [HK.out]
    refine (HHM.out).mono ?_
    rintro e w4 ⟨rfl, hb⟩
    have HC4 : Aside0 (w4.heap[w.heap.size]? = some (.cells C 28 (0, 0))) := ⟨(hb.block _ (blk_lt HC3.out)).trans HC3.out⟩
    have HB4 := Aside0.mk (below_step HB3.out hb)
    clear HC3 HB3 hb
    go_wp2_with (first | ((with_reducible refine gate_dst (N := 43) rfl ?_); refine wpList_load_row rfl 28 _ rfl w.heap.size (by rfl) 28 C (0, 0) _ HC4.out Try.underlying28 rfl (by rw [info16, HSC.out]) ?_))
    refine (HRt.out _).mono ?_
    rintro e w5 ⟨rfl, hb⟩
    have HC5 : Aside0 (w5.heap[w.heap.size]? = some (.cells C 28 (0, 0))) := ⟨(hb.block _ (blk_lt HC4.out)).trans HC4.out⟩
    have HB5 := Aside0.mk (below_step HB4.out hb)
    clear HC4 HB4 hb
    have hcut4 := HCUT4.out
    go_wp2_with (first | ((with_reducible refine gate_dst (N := 52) rfl ?_); refine wpList_load_row rfl 28 _ rfl w.heap.size (by rfl) 28 C (0, 0) _ HC5.out Try.underlying28 rfl (by rw [info16, HSC.out]) ?_))
    refine (HSh.out _).mono ?_
    rintro e w6 ⟨rfl, hb⟩
    have HC6 : Aside0 (w6.heap[w.heap.size]? = some (.cells C 28 (0, 0))) := ⟨(hb.block _ (blk_lt HC5.out)).trans HC5.out⟩
    have HB6 := Aside0.mk (below_step HB5.out hb)
    clear HC5 HB5 hb
    go_wp2_with (first | ((with_reducible refine gate_dst (N := 62) rfl ?_); refine wpList_load_row rfl 28 _ rfl w.heap.size (by rfl) 28 C (0, 0) _ HC6.out Try.underlying28 rfl (by rw [info16, HSC.out]) ?_))
    refine (HPl.out _).mono ?_
    rintro e w7 ⟨rfl, hb⟩
    have HC7 : Aside0 (w7.heap[w.heap.size]? = some (.cells C 28 (0, 0))) := ⟨(hb.block _ (blk_lt HC6.out)).trans HC6.out⟩
    have HB7 := Aside0.mk (below_step HB6.out hb)
    clear HC6 HB6 hb
    obtain ⟨hw1, hw2, hw3, hw4⟩ := HW.out
    go_wp2_with fail
    try rw [hw2]
    try rw [hw4]
    clear hw1 hw2 hw3 hw4
    have HC7d : Aside0 (w7.drew.heap[w.heap.size]? = some (.cells C 28 (0, 0))) := ⟨HC7.out⟩
    have HB7d := Aside0.mk (below_drew1 HB7.out)
    have hw5 := HW5.out
    have hw6 := HW6.out
    refine start_ (n := 17) (S := fun w' => (loadVar 28 ⟨w.heap.size, 0, none⟩).run Try.prog w' = .ok (.agg C) w' ∧ (convert 36 9 (.slice A9 4 c9)).run Try.prog w' = .ok (.string T4) w') (ds := []) #[false, false, false, false, false, false, false, false, false, false, false, false, false, false, false, false, false] (by kernel_rfl) rfl rfl ⟨(load16 HC7d.out HSC.out), (HCV4.out _ HB7d.out)⟩ (fun hHeld => ?_)
    refine pure_ (i := 0) (N := some 81) (v := ?_) (a' := ?_) #[true, false, false, false, false, false, false, false, false, false, false, false, false, false, false, false, false] rfl rfl (by kernel_rfl) (fun _ _ _ h => h) (Or.inl ⟨by rfl, ?_⟩) ?_ ?_
    rotate_left
    · intro w'
      go_simp
      with_reducible rfl
    rotate_left
    · simp only [Act.put, List.setIfInBounds_toArray, List.set_cons_zero, List.set_cons_succ, i64_w, i32_w]
      rfl
    refine pure_ (i := 4) (N := some 85) (v := ?_) (a' := ?_) #[true, false, false, false, true, false, false, false, false, false, false, false, false, false, false, false, false] rfl rfl (by kernel_rfl) (fun _ _ _ h => h) (Or.inl ⟨by rfl, ?_⟩) ?_ ?_
    rotate_left
    · intro w'
      go_simp
      with_reducible rfl
    rotate_left
    · simp only [Act.put, List.setIfInBounds_toArray, List.set_cons_zero, List.set_cons_succ, i64_w, i32_w]
      rfl
    refine take_ (i := 1) (N := some 82) (v := ?_) (a' := ?_) #[true, true, false, false, true, false, false, false, false, false, false, false, false, false, false, false, false] rfl rfl (by kernel_rfl) (fun _ _ _ h => h) (Or.inl ⟨by rfl, ?_⟩) hHeld ?_ ?_
    rotate_left
    · rintro w' ⟨s0, s1⟩
      refine Eq.trans (load_exec (by rfl) (by rfl) s0) ?_
      with_reducible rfl
    rotate_left
    · simp only [Act.put, List.setIfInBounds_toArray, List.set_cons_zero, List.set_cons_succ, i64_w, i32_w]
      rfl
    refine one_ (i := 2) (N := some 83) #[true, true, true, false, true, false, false, false, false, false, false, false, false, false, false, false, false] rfl rfl (by kernel_rfl) (by decide) (fun K hK => ?_)
    refine goes_ Try.func13 (by kernel_rfl) rfl #[.agg C] (by rfl) rfl rfl (by simp only [List.map_toArray, List.map_cons, List.map_nil]; rfl) ?_
    with_reducible refine (HLn.out _).mono ?_
    rintro e w8 ⟨rfl, hb⟩
    refine ⟨_, rfl, ?_⟩
    have HC8 : Aside0 (w8.heap[w.heap.size]? = some (.cells C 28 (0, 0))) := ⟨(hb.block _ (blk_lt HC7d.out)).trans HC7d.out⟩
    have HB8 := Aside0.mk (below_step HB7d.out hb)
    clear hb
    refine hK.out _ _ ⟨(load16 HC8.out HSC.out), (HCV4.out _ HB8.out)⟩ (fun hHeld => ?_)
    clear hK K
    refine norm_ (a' := ?_) ?_ ?_
    rotate_left
    · show Act.put _ (some 83) _ = _
      simp only [Act.put, List.setIfInBounds_toArray, List.set_cons_zero, List.set_cons_succ, i64_w, i32_w]
      rfl
    refine pure_ (i := 3) (N := some 84) (v := ?_) (a' := ?_) #[true, true, true, true, true, false, false, false, false, false, false, false, false, false, false, false, false] rfl rfl (by kernel_rfl) (fun _ _ _ h => h) (Or.inl ⟨by rfl, ?_⟩) ?_ ?_
    rotate_left
    · intro w'
      go_simp
      with_reducible rfl
    rotate_left
    · simp only [Act.put, List.setIfInBounds_toArray, List.set_cons_zero, List.set_cons_succ, i64_w, i32_w]
      rfl
    refine pure_ (i := 5) (N := some 86) (v := ?_) (a' := ?_) #[true, true, true, true, true, true, false, false, false, false, false, false, false, false, false, false, false] rfl rfl (by kernel_rfl) (fun _ _ _ h => h) (Or.inl ⟨by rfl, ?_⟩) ?_ ?_
    rotate_left
    · intro w'
      go_simp
      with_reducible rfl
    rotate_left
    · simp only [Act.put, List.setIfInBounds_toArray, List.set_cons_zero, List.set_cons_succ, i64_w, i32_w]
      rfl
    refine pure_ (i := 6) (N := some 87) (v := ?_) (a' := ?_) #[true, true, true, true, true, true, true, false, false, false, false, false, false, false, false, false, false] rfl rfl (by kernel_rfl) (fun _ _ _ h => h) (Or.inl ⟨by rfl, ?_⟩) ?_ ?_
    rotate_left
    · intro w'
      go_simp
      with_reducible rfl
    rotate_left
    · simp only [Act.put, List.setIfInBounds_toArray, List.set_cons_zero, List.set_cons_succ, i64_w, i32_w]
      rfl
    refine pure_ (i := 7) (N := some 88) (v := ?_) (a' := ?_) #[true, true, true, true, true, true, true, true, false, false, false, false, false, false, false, false, false] rfl rfl (by kernel_rfl) (fun _ _ _ h => h) (Or.inl ⟨by rfl, ?_⟩) ?_ ?_
    rotate_left
    · intro w'
      go_simp
      with_reducible rfl
    rotate_left
    · simp only [Act.put, List.setIfInBounds_toArray, List.set_cons_zero, List.set_cons_succ, i64_w, i32_w]
      rfl
    refine pure_ (i := 8) (N := some 89) (v := ?_) (a' := ?_) #[true, true, true, true, true, true, true, true, true, false, false, false, false, false, false, false, false] rfl rfl (by kernel_rfl) (fun _ _ _ h => h) (Or.inl ⟨by rfl, ?_⟩) ?_ ?_
    rotate_left
    · intro w'
      go_simp
      with_reducible rfl
    rotate_left
    · simp only [Act.put, List.setIfInBounds_toArray, List.set_cons_zero, List.set_cons_succ, i64_w, i32_w]
      rfl
    refine pure_ (i := 9) (N := some 90) (v := ?_) (a' := ?_) #[true, true, true, true, true, true, true, true, true, true, false, false, false, false, false, false, false] rfl rfl (by kernel_rfl) (fun _ _ _ h => h) (Or.inl ⟨by rfl, ?_⟩) ?_ ?_
    rotate_left
    · intro w'
      go_simp
      with_reducible rfl
    rotate_left
    · simp only [Act.put, List.setIfInBounds_toArray, List.set_cons_zero, List.set_cons_succ, i64_w, i32_w]
      rfl
    refine pure_ (i := 10) (N := some 91) (v := ?_) (a' := ?_) #[true, true, true, true, true, true, true, true, true, true, true, false, false, false, false, false, false] rfl rfl (by kernel_rfl) (fun _ _ _ h => h) (Or.inl ⟨by rfl, ?_⟩) ?_ ?_
    rotate_left
    · intro w'
      go_simp
      with_reducible rfl
    rotate_left
    · simp only [Act.put, List.setIfInBounds_toArray, List.set_cons_zero, List.set_cons_succ, i64_w, i32_w]
      rfl
    refine pure_ (i := 11) (N := some 92) (v := ?_) (a' := ?_) #[true, true, true, true, true, true, true, true, true, true, true, true, false, false, false, false, false] rfl rfl (by kernel_rfl) (fun _ _ _ h => h) (Or.inl ⟨by rfl, ?_⟩) ?_ ?_
    rotate_left
    · intro w'
      go_simp
      with_reducible rfl
    rotate_left
    · simp only [Act.put, List.setIfInBounds_toArray, List.set_cons_zero, List.set_cons_succ, i64_w, i32_w]
      rfl
    refine take_ (i := 12) (N := some 93) (v := ?_) (a' := ?_) #[true, true, true, true, true, true, true, true, true, true, true, true, true, false, false, false, false] rfl rfl (by kernel_rfl) (fun _ _ _ h => h) (Or.inl ⟨by rfl, ?_⟩) hHeld ?_ ?_
    rotate_left
    · rintro w' ⟨s0, s1⟩
      go_simp
      with_reducible rfl
    rotate_left
    · simp only [Act.put, List.setIfInBounds_toArray, List.set_cons_zero, List.set_cons_succ, i64_w, i32_w]
      rfl
    refine take_ (i := 13) (N := some 94) (v := ?_) (a' := ?_) #[true, true, true, true, true, true, true, true, true, true, true, true, true, true, false, false, false] rfl rfl (by kernel_rfl) (fun _ _ _ h => h) (Or.inl ⟨by rfl, ?_⟩) hHeld ?_ ?_
    rotate_left
    · rintro w' ⟨s0, s1⟩
      refine Eq.trans (load_exec (by rfl) (by rfl) s0) ?_
      with_reducible rfl
    rotate_left
    · simp only [Act.put, List.setIfInBounds_toArray, List.set_cons_zero, List.set_cons_succ, i64_w, i32_w]
      rfl
    refine one_ (i := 14) (N := some 95) #[true, true, true, true, true, true, true, true, true, true, true, true, true, true, true, false, false] rfl rfl (by kernel_rfl) (by decide) (fun K hK => ?_)
    refine goes_ Try.func24 (by kernel_rfl) rfl #[.agg C] (by rfl) rfl rfl (by simp only [List.map_toArray, List.map_cons, List.map_nil]; rfl) ?_
    with_reducible refine (HPr.out _).mono ?_
    rintro e w9 ⟨rfl, hb⟩
    refine ⟨_, rfl, ?_⟩
    have HC9 : Aside0 (w9.heap[w.heap.size]? = some (.cells C 28 (0, 0))) := ⟨(hb.block _ (blk_lt HC8.out)).trans HC8.out⟩
    have HB9 := Aside0.mk (below_step HB8.out hb)
    clear hb
    refine hK.out _ _ ⟨(load16 HC9.out HSC.out), (HCV4.out _ HB9.out)⟩ (fun hHeld => ?_)
    clear hK K
    refine norm_ (a' := ?_) ?_ ?_
    rotate_left
    · show Act.put _ (some 95) _ = _
      simp only [Act.put, List.setIfInBounds_toArray, List.set_cons_zero, List.set_cons_succ, i64_w, i32_w]
      rfl
    refine pure_ (i := 15) (N := some 96) (v := ?_) (a' := ?_) #[true, true, true, true, true, true, true, true, true, true, true, true, true, true, true, true, false] rfl rfl (by kernel_rfl) (fun _ _ _ h => h) (Or.inl ⟨by rfl, ?_⟩) ?_ ?_
    rotate_left
    · intro w'
      go_simp
      with_reducible rfl
    rotate_left
    · simp only [Act.put, List.setIfInBounds_toArray, List.set_cons_zero, List.set_cons_succ, i64_w, i32_w]
      rfl
    refine pure_ (i := 16) (N := some 97) (v := ?_) (a' := ?_) #[true, true, true, true, true, true, true, true, true, true, true, true, true, true, true, true, true] rfl rfl (by kernel_rfl) (fun _ _ _ h => h) (Or.inl ⟨by rfl, ?_⟩) ?_ ?_
    rotate_left
    · intro w'
      go_simp
      with_reducible rfl
    rotate_left
    · simp only [Act.put, List.setIfInBounds_toArray, List.set_cons_zero, List.set_cons_succ, i64_w, i32_w]
      rfl
    refine done_ (by kernel_rfl) ?_
    clear hw5 hw6
    have HC9d := HC9
    have hcut8 := HCUT8.out
    go_wp2_with (first | ((with_reducible refine gate_dst (N := 110) rfl ?_); refine Go.BigFrame.wpList_want ?hw (fun K hK => ?_); (case hw => rfl); refine wp_load_row 28 _ rfl w.heap.size ?hx 28 C (0, 0) _ HC9.out Try.underlying28 rfl ?hi ?_; (case hx => rfl); (case hi => rw [info16, HSC.out]); refine hK _ _ ?_; clear hK K))
    refine (HLn.out _).mono ?_
    rintro e w10 ⟨rfl, hb⟩
    have HC10 : Aside0 (w10.heap[w.heap.size]? = some (.cells C 28 (0, 0))) := ⟨(hb.block _ (blk_lt HC9.out)).trans HC9.out⟩
    have HB10 := Aside0.mk (below_step HB9.out hb)
    clear HC9 HB9 hb
    have hcv8 := HCV8.out _ HB10.out
    have hw5 := HW5.out
    go_wp2_with fail
    go_ret
    exact ⟨rfl, HB10.out⟩)
set_option maxHeartbeats 8000000 in
set_option maxRecDepth 100000 in
theorem HeapGets_likeE (A0 : Option Addr) (c0 : Nat) (l0 : List Int) (a1 : Int) (a : List Int) (w : World) (hc0 : l0.length ≤ c0) (hr0 : Kd.C (Kd.int .u8) w A0 l0.length l0) (hB : isB l0) (hwf : -9223372036854775808 ≤ a1 ∧ a1 ≤ 9223372036854775807) (ha : a.length = 16) (hab : isB a) (h : ¬ 3000 < l0.length) (h1 : ¬ a1 < 0) (k0 : Nat) (hr : rightB a = true) (n : Nat) (hn : le4v a = (n : Int)) (h12 : 12 < n) (hn4 : n ≤ 4096) (q at_ : Nat) (hp8 : le4v (a.drop 8) = (q : Int)) (hp12 : le4v (a.drop 12) = (at_ : Int)) (h65 : at_ ≤ 65536) (hq : q ≤ 65535) (hE : ¬ l0.length < (q + 1) * k0)  (hk0 : (k0 : Int) = if a1 < 1 ∨ 65536 < a1 then 65536 else a1) (hin : ¬ endOf q k0 l0.length < q * k0 + at_ + n) (hu : strOfNums ((l0.drop (q * k0 + at_)).take 4) = pvw a) :
    Calls Try.prog 5 #[.slice A0 l0.length c0, .int .i64 a1, .agg (cel a)] w fun e w' => e = .returned (.bool true) ∧ Below w.heap.size w w' := by
  have hkk : ∃ k : Nat, (k : Int) = if a1 < 1 ∨ 65536 < a1 then 65536 else a1 := by
    by_cases h : a1 < 1 ∨ 65536 < a1
    · exact ⟨65536, by rw [if_pos h]; rfl⟩
    · exact ⟨a1.toNat, by rw [if_neg h]; omega⟩
  obtain ⟨k, hk⟩ := hkk
  have hk1 : 1 ≤ k ∧ k ≤ 65536 := by
    by_cases h : a1 < 1 ∨ 65536 < a1
    · rw [if_pos h] at hk; omega
    · rw [if_neg h] at hk; omega
  have HOF := Aside0.mk (fun W hW => Of_ A0 c0 l0 a1 W hc0 (Kd.C_below hr0 hW) (by omega) k hk)
  have HRt := Aside0.mk (fun w => view_Right.calls a w ha hab)
  have HSh := Aside0.mk (fun w => view_Short.calls a w ha hab)
  have hcase : (decide (a1 = 0) = true ∧ (a1 == 0) = true ∧ (65536 : Int) = (k : Int)) ∨ (decide (a1 = 0) = false ∧ (a1 == 0) = false ∧ decide (65536 < a1) = true ∧ (65536 : Int) = (k : Int)) ∨ (decide (a1 = 0) = false ∧ (a1 == 0) = false ∧ decide (65536 < a1) = false ∧ a1 = (k : Int)) := by
    by_cases h0 : a1 = 0
    · rw [if_pos (by omega)] at hk; exact .inl ⟨by simp [h0], by simp [h0], hk.symm⟩
    · by_cases h2 : 65536 < a1
      · rw [if_pos (by omega)] at hk; exact .inr (.inl ⟨by simp [h0], by simp [h0], by simp [h2], hk.symm⟩)
      · rw [if_neg (by omega)] at hk; exact .inr (.inr ⟨by simp [h0], by simp [h0], by simp [h2], hk.symm⟩)
  obtain rfl : k0 = k := by omega
  have hend : endOf q k0 l0.length = (q + 1) * k0 := by unfold endOf; exact if_neg hE
  have HGT0 := fun (lo g : Nat) (W : World) (hW : HM lo W g (chunks k0 l0) (l0.length : Int) (l0.length : Int)) => get_like a n W hW hk1 (by omega) hB ha hab hr hn h12 hn4 q at_ hp8 hp12 h65 hin hu
  rw [hend] at hin
  rw [hr] at HRt
  rw [hn, decide_eq_false (show ¬ (n : Int) ≤ 12 by omega)] at HSh
  have HLn := Aside0.mk (fun w => view_Len.calls a w ha hab)
  have HPr := Aside0.mk (fun w => view_Prefix.calls a w ha hab)
  have HPl := Aside0.mk (fun w => view_Place.calls a w ha hab)
  rw [hn] at HLn HPl
  rw [if_neg (by omega), if_neg (by omega), hp8, hp12] at HPl
  obtain ⟨P9, hP9⟩ : ∃ P, P = pvw a := ⟨_, rfl⟩
  rw [show strOfNums ((a.drop 4).take (if le4v a < 4 then (le4v a).toNat else 4)) = P9 from hP9.symm] at HPr
  have hqk : q * k0 ≤ 65535 * 65536 := Nat.mul_le_mul hq hk1.2
  have hqk1 : (q + 1) * k0 = q * k0 + k0 := Nat.succ_mul q k0
  obtain ⟨QK, hQK⟩ : ∃ x, x = q * k0 := ⟨_, rfl⟩
  obtain ⟨E1, hE1⟩ : ∃ x, x = (q + 1) * k0 := ⟨_, rfl⟩
  have hc1 : ((q : Int) + 1) * (k0 : Int) = (E1 : Int) := by rw [hE1]; push_cast; rfl
  have hc2 : (q : Int) * (k0 : Int) = (QK : Int) := by rw [hQK]; push_cast; rfl
  rw [← hE1] at hqk1 hE hin
  rw [← hQK] at hqk hqk1 hin hu HGT0
  rw [← hP9] at hu
  have HW := Aside0.mk (show wrap64 ((q : Int) + 1) = (q : Int) + 1 ∧ wrap64 (((q : Int) + 1) * (k0 : Int)) = (E1 : Int) ∧ wrap64 ((q : Int) * (k0 : Int)) = (QK : Int) ∧ wrap64 ((QK : Int) + (at_ : Int)) = ((QK + at_ : Nat) : Int) from ⟨wbig _ (by omega) (by omega), by rw [hc1]; exact wbig _ (by omega) (by omega), by rw [hc2]; exact wbig _ (by omega) (by omega), by rw [wbig _ (by omega) (by omega)]; rfl⟩)
  clear hc1 hc2
  obtain ⟨F, hF⟩ : ∃ x, x = QK + at_ := ⟨_, rfl⟩
  rw [← hF] at HW hin hu HGT0
  have HW5 := Aside0.mk (show wrap64 ((F : Int) + (n : Int)) = (F : Int) + (n : Int) from wbig _ (by omega) (by omega))
  have hFl : F + n ≤ l0.length := by omega
  obtain ⟨A9, c9, hc9, hcut4, hcs4⟩ := cut_seg A0 c0 l0 hc0 F 4 (by omega)
  have hl4 : ((l0.drop F).take 4).length = 4 := by rw [List.length_take, List.length_drop]; omega
  rw [hl4] at hc9 hcut4 hcs4
  have hcut4 : ∀ W : World, (Instr.slice 36 (.slice A0 l0.length c0) (some (.int .i64 (F : Int))) (some (.int .i64 ((F : Int) + 4))) none).run Try.prog W = .ok (.slice A9 4 c9) W := hcut4
  obtain ⟨T4, hT4⟩ : ∃ s, s = strOfNums ((l0.drop F).take 4) := ⟨_, rfl⟩
  rw [← hT4] at hu
  have HCV4 : Aside0 (∀ W : World, Below w.heap.size w W → (convert 36 9 (.slice A9 4 c9)).run Try.prog W = .ok (.string T4) W) := ⟨fun W hW => by rw [hT4]; exact Kd.C_string (P := Try.prog) (c := c9) Try.underlying36 Try.underlying5 Try.underlying9 (hcs4 W (Kd.C_below hr0 hW))⟩
  have HW6 := Aside0.mk (show wrap64 ((F : Int) + 4) = (F : Int) + 4 from wbig _ (by omega) (by omega))
  obtain ⟨A8, c8, hc8, hcut8, hcs8⟩ := cut_seg A0 c0 l0 hc0 F n (by omega)
  have hl8 : ((l0.drop F).take n).length = n := by rw [List.length_take, List.length_drop]; omega
  rw [hl8] at hc8 hcut8 hcs8
  obtain ⟨T8, hT8⟩ : ∃ s, s = strOfNums ((l0.drop F).take n) := ⟨_, rfl⟩
  rw [← hT8] at HGT0
  have HCV8 : Aside0 (∀ W : World, Below w.heap.size w W → (convert 36 9 (.slice A8 n c8)).run Try.prog W = .ok (.string T8) W) := ⟨fun W hW => by rw [hT8]; exact Kd.C_string (P := Try.prog) (c := c8) Try.underlying36 Try.underlying5 Try.underlying9 (hcs8 W (Kd.C_below hr0 hW))⟩
  obtain ⟨C, hC⟩ : ∃ C, C = cel a := ⟨_, rfl⟩
  have HSC : Aside0 (C.size = 16) := ⟨by rw [hC, cel_size, ha]⟩
  obtain ⟨N, hN⟩ : ∃ N, N = l0.length := ⟨_, rfl⟩
  have HNE := Aside0.mk hN
  rw [← hC] at HRt HSh HLn HPr HPl HGT0 ⊢
  rw [← hN] at HOF h HGT0  hE hcut4 hFl hcut8 ⊢
  have HGT := Aside0.mk HGT0
  have t1a : decide (3000 < (N : Int)) = false := decide_eq_false (by omega)
  have t1b : decide (3000 < N) = false := decide_eq_false (by omega)
  have t2 : decide (a1 < 0) = false := decide_eq_false (by omega)
  have t5a : decide (E1 < (F : Int) + (n : Int)) = false := decide_eq_false (by omega)
  have t5b : decide (E1 < F + n) = false := decide_eq_false (by omega)
  have t6a : decide (N < (E1 : Int)) = false := decide_eq_false (by omega)
  have t6b : decide (N < E1) = false := decide_eq_false (by omega)
  have HCUT4 := Aside0.mk hcut4
  have tu : (T4.toList == P9.toList) = true := by rw [str_ne]; exact decide_eq_true hu
  have HCUT8 := Aside0.mk hcut8
  have HCS := Aside0.mk hcase
  clear hk hr0 hc0 hB hwf ha hab hC hN hcase h h1 HGT0 hr hn h12 hn4 hp8 hp12 h65 hq hE hk0 hk1 hend hqk hqk1 hQK hE1 hF hP9 hin hu hFl hc9 hcut4 hcs4 hl4 hT4 hc8 hcut8 hcs8 hl8 hT8
  have HC0 := Aside0.mk (blk_new w (.cells C 28))
  have HB0 := Aside0.mk (below_alloc (Below.refl w.heap.size w) (.cells C 28))
  go_enter Try.func5, Try.ntmps5
  go_wp2_with fail
  refine (law7_awake _).mono ?_
  rintro e w1 ⟨rfl, hb⟩
  have HC1 : Aside0 (w1.heap[w.heap.size]? = some (.cells C 28 (0, 0))) := ⟨(hb.block _ (blk_lt HC0.out)).trans HC0.out⟩
  have HB1 := Aside0.mk (below_step HB0.out hb)
  clear HC0 HB0 hb
  go_wp2_with fail
  refine (HOF.out _ ((Below.refl w.heap.size w).trans HB1.out)).mono ?_
  rintro e w3 ⟨g, rfl, hh, hb⟩
  have HC3 : Aside0 (w3.heap[w.heap.size]? = some (.cells C 28 (0, 0))) := ⟨(hb.block _ (blk_lt HC1.out)).trans HC1.out⟩
  have HB3 := Aside0.mk (below_step HB1.out hb)
  have HHM := Aside0.mk (HGT.out _ _ _ hh)
  clear HC1 HB1 hb hh HGT HOF
  rcases HCS.out with ⟨ta, tb, hk⟩ | ⟨ta, tb, tc, hk⟩ | ⟨ta, tb, tc, hk⟩
  all_goals (have HK := Aside0.mk hk; clear HCS hk)
  all_goals (
    go_wp2_with (first | ((with_reducible refine gate_dst (N := 39) rfl ?_); refine wpList_load_row rfl 28 _ rfl w.heap.size (by rfl) 28 C (0, 0) _ HC3.out Try.underlying28 rfl (by rw [info16, HSC.out]) ?_))
    try rw [HK.out]
    refine (HHM.out).mono ?_
    rintro e w4 ⟨rfl, hb⟩
    have HC4 : Aside0 (w4.heap[w.heap.size]? = some (.cells C 28 (0, 0))) := ⟨(hb.block _ (blk_lt HC3.out)).trans HC3.out⟩
    have HB4 := Aside0.mk (below_step HB3.out hb)
    clear HC3 HB3 hb
    go_wp2_with (first | ((with_reducible refine gate_dst (N := 43) rfl ?_); refine wpList_load_row rfl 28 _ rfl w.heap.size (by rfl) 28 C (0, 0) _ HC4.out Try.underlying28 rfl (by rw [info16, HSC.out]) ?_))
    refine (HRt.out _).mono ?_
    rintro e w5 ⟨rfl, hb⟩
    have HC5 : Aside0 (w5.heap[w.heap.size]? = some (.cells C 28 (0, 0))) := ⟨(hb.block _ (blk_lt HC4.out)).trans HC4.out⟩
    have HB5 := Aside0.mk (below_step HB4.out hb)
    clear HC4 HB4 hb
    have hcut4 := HCUT4.out
    go_wp2_with (first | ((with_reducible refine gate_dst (N := 52) rfl ?_); refine wpList_load_row rfl 28 _ rfl w.heap.size (by rfl) 28 C (0, 0) _ HC5.out Try.underlying28 rfl (by rw [info16, HSC.out]) ?_))
    refine (HSh.out _).mono ?_
    rintro e w6 ⟨rfl, hb⟩
    have HC6 : Aside0 (w6.heap[w.heap.size]? = some (.cells C 28 (0, 0))) := ⟨(hb.block _ (blk_lt HC5.out)).trans HC5.out⟩
    have HB6 := Aside0.mk (below_step HB5.out hb)
    clear HC5 HB5 hb
    go_wp2_with (first | ((with_reducible refine gate_dst (N := 62) rfl ?_); refine wpList_load_row rfl 28 _ rfl w.heap.size (by rfl) 28 C (0, 0) _ HC6.out Try.underlying28 rfl (by rw [info16, HSC.out]) ?_))
    refine (HPl.out _).mono ?_
    rintro e w7 ⟨rfl, hb⟩
    have HC7 : Aside0 (w7.heap[w.heap.size]? = some (.cells C 28 (0, 0))) := ⟨(hb.block _ (blk_lt HC6.out)).trans HC6.out⟩
    have HB7 := Aside0.mk (below_step HB6.out hb)
    clear HC6 HB6 hb
    obtain ⟨hw1, hw2, hw3, hw4⟩ := HW.out
    go_wp2_with fail
    try rw [hw2]
    try rw [hw4]
    clear hw1 hw2 hw3 hw4
    have HC7d : Aside0 (w7.drew.heap[w.heap.size]? = some (.cells C 28 (0, 0))) := ⟨HC7.out⟩
    have HB7d := Aside0.mk (below_drew1 HB7.out)
    have hw5 := HW5.out
    have hw6 := HW6.out
    refine start_ (n := 17) (S := fun w' => (loadVar 28 ⟨w.heap.size, 0, none⟩).run Try.prog w' = .ok (.agg C) w' ∧ (convert 36 9 (.slice A9 4 c9)).run Try.prog w' = .ok (.string T4) w') (ds := []) #[false, false, false, false, false, false, false, false, false, false, false, false, false, false, false, false, false] (by kernel_rfl) rfl rfl ⟨(load16 HC7d.out HSC.out), (HCV4.out _ HB7d.out)⟩ (fun hHeld => ?_)
    refine pure_ (i := 0) (N := some 81) (v := ?_) (a' := ?_) #[true, false, false, false, false, false, false, false, false, false, false, false, false, false, false, false, false] rfl rfl (by kernel_rfl) (fun _ _ _ h => h) (Or.inl ⟨by rfl, ?_⟩) ?_ ?_
    rotate_left
    · intro w'
      go_simp
      with_reducible rfl
    rotate_left
    · simp only [Act.put, List.setIfInBounds_toArray, List.set_cons_zero, List.set_cons_succ, i64_w, i32_w]
      rfl
    refine pure_ (i := 4) (N := some 85) (v := ?_) (a' := ?_) #[true, false, false, false, true, false, false, false, false, false, false, false, false, false, false, false, false] rfl rfl (by kernel_rfl) (fun _ _ _ h => h) (Or.inl ⟨by rfl, ?_⟩) ?_ ?_
    rotate_left
    · intro w'
      go_simp
      with_reducible rfl
    rotate_left
    · simp only [Act.put, List.setIfInBounds_toArray, List.set_cons_zero, List.set_cons_succ, i64_w, i32_w]
      rfl
    refine take_ (i := 1) (N := some 82) (v := ?_) (a' := ?_) #[true, true, false, false, true, false, false, false, false, false, false, false, false, false, false, false, false] rfl rfl (by kernel_rfl) (fun _ _ _ h => h) (Or.inl ⟨by rfl, ?_⟩) hHeld ?_ ?_
    rotate_left
    · rintro w' ⟨s0, s1⟩
      refine Eq.trans (load_exec (by rfl) (by rfl) s0) ?_
      with_reducible rfl
    rotate_left
    · simp only [Act.put, List.setIfInBounds_toArray, List.set_cons_zero, List.set_cons_succ, i64_w, i32_w]
      rfl
    refine one_ (i := 2) (N := some 83) #[true, true, true, false, true, false, false, false, false, false, false, false, false, false, false, false, false] rfl rfl (by kernel_rfl) (by decide) (fun K hK => ?_)
    refine goes_ Try.func13 (by kernel_rfl) rfl #[.agg C] (by rfl) rfl rfl (by simp only [List.map_toArray, List.map_cons, List.map_nil]; rfl) ?_
    with_reducible refine (HLn.out _).mono ?_
    rintro e w8 ⟨rfl, hb⟩
    refine ⟨_, rfl, ?_⟩
    have HC8 : Aside0 (w8.heap[w.heap.size]? = some (.cells C 28 (0, 0))) := ⟨(hb.block _ (blk_lt HC7d.out)).trans HC7d.out⟩
    have HB8 := Aside0.mk (below_step HB7d.out hb)
    clear hb
    refine hK.out _ _ ⟨(load16 HC8.out HSC.out), (HCV4.out _ HB8.out)⟩ (fun hHeld => ?_)
    clear hK K
    refine norm_ (a' := ?_) ?_ ?_
    rotate_left
    · show Act.put _ (some 83) _ = _
      simp only [Act.put, List.setIfInBounds_toArray, List.set_cons_zero, List.set_cons_succ, i64_w, i32_w]
      rfl
    refine pure_ (i := 3) (N := some 84) (v := ?_) (a' := ?_) #[true, true, true, true, true, false, false, false, false, false, false, false, false, false, false, false, false] rfl rfl (by kernel_rfl) (fun _ _ _ h => h) (Or.inl ⟨by rfl, ?_⟩) ?_ ?_
    rotate_left
    · intro w'
      go_simp
      with_reducible rfl
    rotate_left
    · simp only [Act.put, List.setIfInBounds_toArray, List.set_cons_zero, List.set_cons_succ, i64_w, i32_w]
      rfl
    refine pure_ (i := 5) (N := some 86) (v := ?_) (a' := ?_) #[true, true, true, true, true, true, false, false, false, false, false, false, false, false, false, false, false] rfl rfl (by kernel_rfl) (fun _ _ _ h => h) (Or.inl ⟨by rfl, ?_⟩) ?_ ?_
    rotate_left
    · intro w'
      go_simp
      with_reducible rfl
    rotate_left
    · simp only [Act.put, List.setIfInBounds_toArray, List.set_cons_zero, List.set_cons_succ, i64_w, i32_w]
      rfl
    refine pure_ (i := 6) (N := some 87) (v := ?_) (a' := ?_) #[true, true, true, true, true, true, true, false, false, false, false, false, false, false, false, false, false] rfl rfl (by kernel_rfl) (fun _ _ _ h => h) (Or.inl ⟨by rfl, ?_⟩) ?_ ?_
    rotate_left
    · intro w'
      go_simp
      with_reducible rfl
    rotate_left
    · simp only [Act.put, List.setIfInBounds_toArray, List.set_cons_zero, List.set_cons_succ, i64_w, i32_w]
      rfl
    refine pure_ (i := 7) (N := some 88) (v := ?_) (a' := ?_) #[true, true, true, true, true, true, true, true, false, false, false, false, false, false, false, false, false] rfl rfl (by kernel_rfl) (fun _ _ _ h => h) (Or.inl ⟨by rfl, ?_⟩) ?_ ?_
    rotate_left
    · intro w'
      go_simp
      with_reducible rfl
    rotate_left
    · simp only [Act.put, List.setIfInBounds_toArray, List.set_cons_zero, List.set_cons_succ, i64_w, i32_w]
      rfl
    refine pure_ (i := 8) (N := some 89) (v := ?_) (a' := ?_) #[true, true, true, true, true, true, true, true, true, false, false, false, false, false, false, false, false] rfl rfl (by kernel_rfl) (fun _ _ _ h => h) (Or.inl ⟨by rfl, ?_⟩) ?_ ?_
    rotate_left
    · intro w'
      go_simp
      with_reducible rfl
    rotate_left
    · simp only [Act.put, List.setIfInBounds_toArray, List.set_cons_zero, List.set_cons_succ, i64_w, i32_w]
      rfl
    refine pure_ (i := 9) (N := some 90) (v := ?_) (a' := ?_) #[true, true, true, true, true, true, true, true, true, true, false, false, false, false, false, false, false] rfl rfl (by kernel_rfl) (fun _ _ _ h => h) (Or.inl ⟨by rfl, ?_⟩) ?_ ?_
    rotate_left
    · intro w'
      go_simp
      with_reducible rfl
    rotate_left
    · simp only [Act.put, List.setIfInBounds_toArray, List.set_cons_zero, List.set_cons_succ, i64_w, i32_w]
      rfl
    refine pure_ (i := 10) (N := some 91) (v := ?_) (a' := ?_) #[true, true, true, true, true, true, true, true, true, true, true, false, false, false, false, false, false] rfl rfl (by kernel_rfl) (fun _ _ _ h => h) (Or.inl ⟨by rfl, ?_⟩) ?_ ?_
    rotate_left
    · intro w'
      go_simp
      with_reducible rfl
    rotate_left
    · simp only [Act.put, List.setIfInBounds_toArray, List.set_cons_zero, List.set_cons_succ, i64_w, i32_w]
      rfl
    refine pure_ (i := 11) (N := some 92) (v := ?_) (a' := ?_) #[true, true, true, true, true, true, true, true, true, true, true, true, false, false, false, false, false] rfl rfl (by kernel_rfl) (fun _ _ _ h => h) (Or.inl ⟨by rfl, ?_⟩) ?_ ?_
    rotate_left
    · intro w'
      go_simp
      with_reducible rfl
    rotate_left
    · simp only [Act.put, List.setIfInBounds_toArray, List.set_cons_zero, List.set_cons_succ, i64_w, i32_w]
      rfl
    refine take_ (i := 12) (N := some 93) (v := ?_) (a' := ?_) #[true, true, true, true, true, true, true, true, true, true, true, true, true, false, false, false, false] rfl rfl (by kernel_rfl) (fun _ _ _ h => h) (Or.inl ⟨by rfl, ?_⟩) hHeld ?_ ?_
    rotate_left
    · rintro w' ⟨s0, s1⟩
      go_simp
      with_reducible rfl
    rotate_left
    · simp only [Act.put, List.setIfInBounds_toArray, List.set_cons_zero, List.set_cons_succ, i64_w, i32_w]
      rfl
    refine take_ (i := 13) (N := some 94) (v := ?_) (a' := ?_) #[true, true, true, true, true, true, true, true, true, true, true, true, true, true, false, false, false] rfl rfl (by kernel_rfl) (fun _ _ _ h => h) (Or.inl ⟨by rfl, ?_⟩) hHeld ?_ ?_
    rotate_left
    · rintro w' ⟨s0, s1⟩
      refine Eq.trans (load_exec (by rfl) (by rfl) s0) ?_
      with_reducible rfl
    rotate_left
    · simp only [Act.put, List.setIfInBounds_toArray, List.set_cons_zero, List.set_cons_succ, i64_w, i32_w]
      rfl
    refine one_ (i := 14) (N := some 95) #[true, true, true, true, true, true, true, true, true, true, true, true, true, true, true, false, false] rfl rfl (by kernel_rfl) (by decide) (fun K hK => ?_)
    refine goes_ Try.func24 (by kernel_rfl) rfl #[.agg C] (by rfl) rfl rfl (by simp only [List.map_toArray, List.map_cons, List.map_nil]; rfl) ?_
    with_reducible refine (HPr.out _).mono ?_
    rintro e w9 ⟨rfl, hb⟩
    refine ⟨_, rfl, ?_⟩
    have HC9 : Aside0 (w9.heap[w.heap.size]? = some (.cells C 28 (0, 0))) := ⟨(hb.block _ (blk_lt HC8.out)).trans HC8.out⟩
    have HB9 := Aside0.mk (below_step HB8.out hb)
    clear hb
    refine hK.out _ _ ⟨(load16 HC9.out HSC.out), (HCV4.out _ HB9.out)⟩ (fun hHeld => ?_)
    clear hK K
    refine norm_ (a' := ?_) ?_ ?_
    rotate_left
    · show Act.put _ (some 95) _ = _
      simp only [Act.put, List.setIfInBounds_toArray, List.set_cons_zero, List.set_cons_succ, i64_w, i32_w]
      rfl
    refine pure_ (i := 15) (N := some 96) (v := ?_) (a' := ?_) #[true, true, true, true, true, true, true, true, true, true, true, true, true, true, true, true, false] rfl rfl (by kernel_rfl) (fun _ _ _ h => h) (Or.inl ⟨by rfl, ?_⟩) ?_ ?_
    rotate_left
    · intro w'
      go_simp
      with_reducible rfl
    rotate_left
    · simp only [Act.put, List.setIfInBounds_toArray, List.set_cons_zero, List.set_cons_succ, i64_w, i32_w]
      rfl
    refine pure_ (i := 16) (N := some 97) (v := ?_) (a' := ?_) #[true, true, true, true, true, true, true, true, true, true, true, true, true, true, true, true, true] rfl rfl (by kernel_rfl) (fun _ _ _ h => h) (Or.inl ⟨by rfl, ?_⟩) ?_ ?_
    rotate_left
    · intro w'
      go_simp
      with_reducible rfl
    rotate_left
    · simp only [Act.put, List.setIfInBounds_toArray, List.set_cons_zero, List.set_cons_succ, i64_w, i32_w]
      rfl
    refine done_ (by kernel_rfl) ?_
    clear hw5 hw6
    have HC9d := HC9
    have hcut8 := HCUT8.out
    go_wp2_with (first | ((with_reducible refine gate_dst (N := 110) rfl ?_); refine Go.BigFrame.wpList_want ?hw (fun K hK => ?_); (case hw => rfl); refine wp_load_row 28 _ rfl w.heap.size ?hx 28 C (0, 0) _ HC9.out Try.underlying28 rfl ?hi ?_; (case hx => rfl); (case hi => rw [info16, HSC.out]); refine hK _ _ ?_; clear hK K))
    refine (HLn.out _).mono ?_
    rintro e w10 ⟨rfl, hb⟩
    have HC10 : Aside0 (w10.heap[w.heap.size]? = some (.cells C 28 (0, 0))) := ⟨(hb.block _ (blk_lt HC9.out)).trans HC9.out⟩
    have HB10 := Aside0.mk (below_step HB9.out hb)
    clear HC9 HB9 hb
    have hcv8 := HCV8.out _ HB10.out
    have hw5 := HW5.out
    go_wp2_with fail
    go_ret
    exact ⟨rfl, HB10.out⟩)
theorem HeapGets (A0 : Option Addr) (c0 : Nat) (l0 : List Int) (a1 : Int) (a : List Int) (w : World) (hr0 : Kd.C (Kd.int .u8) w A0 l0.length l0) (hc0 : l0.length ≤ c0) (hs0 : l0.length * 1 ≤ 140737488351232) (hw0 : ∀ x ∈ l0, (Lit.int .u8 x).wf = true) (w1 : (Lit.int .i64 a1).wf = true) (ha : a.length = 16) (hab : isB a) :
    Calls Try.prog 5 #[.slice A0 l0.length c0, .int .i64 a1, .agg (cel a)] w fun e w' => e = .returned (.bool true) ∧ Below w.heap.size w w' := by
  have hB := isB_wf hw0
  have hwf := wf_i64 w1
  by_cases h : 3000 < l0.length
  · exact HeapGets_a A0 c0 l0 a1 a w hc0 hr0 hB hwf ha hab h
  by_cases h1 : a1 < 0
  · exact HeapGets_b A0 c0 l0 a1 a w hc0 hr0 hB hwf ha hab h h1
  cases hr : rightB a with
  | false => exact HeapGets_wrong A0 c0 l0 a1 a w hc0 hr0 hB hwf ha hab h h1 hr
  | true =>
    obtain ⟨n, hn⟩ : ∃ n : Nat, le4v a = (n : Int) := ⟨(le4v a).toNat, by have := le4v_bd a hab (by omega); omega⟩
    by_cases h12 : n ≤ 12
    · exact HeapGets_short A0 c0 l0 a1 a w hc0 hr0 hB hwf ha hab h h1 hr n hn h12
    have hr2 := hr
    unfold rightB at hr2
    by_cases h4 : le4v a > 4096
    · rw [if_pos h4] at hr2; cases hr2
    rw [if_neg h4, if_neg (by omega)] at hr2
    unfold placedB at hr2
    have hpl := of_decide_eq_true hr2
    obtain ⟨q, hq⟩ : ∃ q : Nat, le4v (a.drop 8) = (q : Int) := ⟨(le4v (a.drop 8)).toNat, by omega⟩
    obtain ⟨at_, hat⟩ : ∃ q : Nat, le4v (a.drop 12) = (q : Int) := ⟨(le4v (a.drop 12)).toNat, by omega⟩
    obtain ⟨k, hk⟩ : ∃ k : Nat, (k : Int) = if a1 < 1 ∨ 65536 < a1 then 65536 else a1 := by
      by_cases h : a1 < 1 ∨ 65536 < a1
      · exact ⟨65536, by rw [if_pos h]; rfl⟩
      · exact ⟨a1.toNat, by rw [if_neg h]; omega⟩
    by_cases hE : l0.length < (q + 1) * k
    · by_cases ho : endOf q k l0.length < q * k + at_ + n
      · exact HeapGets_overN A0 c0 l0 a1 a w hc0 hr0 hB hwf ha hab h h1 k hr n hn (by omega) (by omega) q at_ hq hat (by omega) (by omega) hE hk ho
      · by_cases hu : strOfNums ((l0.drop (q * k + at_)).take 4) = pvw a
        · exact HeapGets_likeN A0 c0 l0 a1 a w hc0 hr0 hB hwf ha hab h h1 k hr n hn (by omega) (by omega) q at_ hq hat (by omega) (by omega) hE hk ho hu
        · exact HeapGets_unlikeN A0 c0 l0 a1 a w hc0 hr0 hB hwf ha hab h h1 k hr n hn (by omega) (by omega) q at_ hq hat (by omega) (by omega) hE hk ho hu
    · by_cases ho : endOf q k l0.length < q * k + at_ + n
      · exact HeapGets_overE A0 c0 l0 a1 a w hc0 hr0 hB hwf ha hab h h1 k hr n hn (by omega) (by omega) q at_ hq hat (by omega) (by omega) hE hk ho
      · by_cases hu : strOfNums ((l0.drop (q * k + at_)).take 4) = pvw a
        · exact HeapGets_likeE A0 c0 l0 a1 a w hc0 hr0 hB hwf ha hab h h1 k hr n hn (by omega) (by omega) q at_ hq hat (by omega) (by omega) hE hk ho hu
        · exact HeapGets_unlikeE A0 c0 l0 a1 a w hc0 hr0 hB hwf ha hab h h1 k hr n hn (by omega) (by omega) q at_ hq hat (by omega) (by omega) hE hk ho hu
end Go.Proofs.Ytpbplflocdhahaa.HW
