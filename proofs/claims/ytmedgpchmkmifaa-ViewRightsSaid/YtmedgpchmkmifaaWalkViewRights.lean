/- ViewRights: the law, walked. -/
import Derived.Test.YtmedgpchmkmifaaViewE
import Derived.Test.YtmedgpchmkmifaaHMk
import Derived.BigFrame
set_option linter.unusedVariables false
set_option linter.unusedSimpArgs false
namespace Go.Proofs.Ytmedgpchmkmifaa.HW
open Go.RowKit Go.Proofs.Ytmedgpchmkmifaa.P Go.Proofs.Ytmedgpchmkmifaa.HP Go.Proofs.YtmedgpchmkmifaaW.PrintWords Go.Proofs.YtmedgpchmkmifaaW.PrintLast Go.Proofs.YtmedgpchmkmifaaW.PrintMore
attribute [local go_sem] max2_int min2_int max_two min_two max_three min_three max_four min_four
theorem four_le (a : List Int) (hb : isB a) (ha : a.length = 16) : fourL (le4v a) = a.take 4 := by
  obtain ⟨x0, x1, x2, x3, hp⟩ := four_of (l := a.take 4) (by simp; omega)
  have e : le4v a = le4v (a.take 4) := by
    have h (j : Nat) (hj : j < 4) : rd (a.take 4) (j : Int) = rd a (j : Int) := by
      rw [rd_nat _ j (by simp; omega), rd_nat _ j (by omega)]; simp
    unfold le4v
    rw [show (0 : Int) = ((0 : Nat) : Int) from rfl, show (1 : Int) = ((1 : Nat) : Int) from rfl, show (2 : Int) = ((2 : Nat) : Int) from rfl, show (3 : Int) = ((3 : Nat) : Int) from rfl, h 0 (by omega), h 1 (by omega), h 2 (by omega), h 3 (by omega)]
  have hb4 := isB_take hb 4
  rw [e]
  rw [hp] at hb4 ⊢
  have b0 := hb4 x0 (by simp)
  have b1 := hb4 x1 (by simp)
  have b2 := hb4 x2 (by simp)
  have b3 := hb4 x3 (by simp)
  have e2 : le4v [x0, x1, x2, x3] = x0 + x1 * 256 + x2 * 65536 + x3 * 16777216 := by simp [le4v, rd]
  rw [e2]
  unfold fourL
  congr 1
  · omega
  congr 1
  · omega
  congr 1
  · omega
  congr 1
  omega
/-- What lies behind the string of a short view is all nought. -/
def zr (a : List Int) (n i : Nat) : Bool := ((a.drop (4 + n)).take (i - (4 + n))).all (· == 0)
theorem zr_0 (a : List Int) (n : Nat) : zr a n (4 + n) = true := by simp [zr]
theorem zr_step (a : List Int) (n i : Nat) (h : 4 + n ≤ i) (hi : i < a.length) : zr a n (i + 1) = (zr a n i && (a[i] == 0)) := by
  unfold zr
  rw [show i + 1 - (4 + n) = (i - (4 + n)) + 1 by omega, List.take_succ_eq_append_getElem (by simp; omega), List.all_append]
  simp [show 4 + n + (i - (4 + n)) = i by omega]
theorem short_r (a : List Int) (n : Nat) (hb : isB a) (ha : a.length = 16) (hn : le4v a = n) (h : n ≤ 12) : rightB a = zr a n 16 := by
  unfold rightB
  rw [if_neg (by omega), if_pos (by omega), hn, Int.toNat_natCast, Bool.eq_iff_iff, decide_eq_true_eq]
  have hz : put4 z16 0 (n : Int) 4 = fourL n ++ List.replicate 12 0 := put_z _
  have h4 : fourL (n : Int) = a.take 4 := by rw [← hn]; exact four_le a hb ha
  have hl : ((a.drop 4).take n).length = n := by simp; omega
  rw [hz, h4, setAt_app _ _ _ (by simp; omega) 4 (by simp; omega), hl, List.drop_replicate]
  have hsplit : a = a.take 4 ++ ((a.drop 4).take n ++ a.drop (4 + n)) := by
    rw [← List.drop_drop, List.take_append_drop, List.take_append_drop]
  unfold zr
  rw [List.take_of_length_le (show (a.drop (4 + n)).length ≤ 16 - (4 + n) by simp; omega)]
  constructor
  · intro he
    rw [← he] at hsplit
    have : a.drop (4 + n) = List.replicate (12 - n) 0 := by
      have h1 := congrArg (List.drop (4 + n)) he
      rw [← h1, ← List.append_assoc, List.drop_left' (by simp; omega)]
    rw [this, List.all_eq_true]
    intro x hx
    obtain ⟨_, rfl⟩ := List.mem_replicate.1 hx
    rfl
  · intro hall
    have : a.drop (4 + n) = List.replicate (12 - n) 0 := by
      rw [List.eq_replicate_iff]
      refine ⟨by simp; omega, fun x hx => ?_⟩
      have := List.all_eq_true.1 hall x hx
      simpa using this
    rw [← this]
    exact hsplit.symm
set_option maxHeartbeats 8000000 in
set_option maxRecDepth 100000 in
theorem ViewRights_big (a : List Int) (w : World) (ha : a.length = 16) (hb : isB a) (h : 4096 < le4v a) :
    Calls Try.prog 4 #[.agg (cel a)] w fun e w' => e = .returned (.bool true) ∧ Below w.heap.size w w' := by
  have HN0 := Aside0.mk (fun w => law_number0 a w ha hb)
  have HN8 := Aside0.mk (fun w => law_number8 a w ha hb)
  have HN12 := Aside0.mk (fun w => law_number12 a w ha hb)
  have HRt := Aside0.mk (fun w => view_Right.calls a w ha hb)
  have HLn := Aside0.mk (fun w => view_Len.calls a w ha hb)
  have HSh := Aside0.mk (fun w => view_Short.calls a w ha hb)
  have HTx := Aside0.mk (fun w => view_Text.calls a w ha hb)
  have HPr := Aside0.mk (fun w => view_Prefix.calls a w ha hb)
  have HPl := Aside0.mk (fun w => view_Place.calls a w ha hb)
  have hbd := le4v_bd a hb (by omega)
  have hbd8 := le4v_bd (a.drop 8) (isB_drop hb 8) (by simp; omega)
  have hbd12 := le4v_bd (a.drop 12) (isB_drop hb 12) (by simp; omega)
  rw [List.drop_zero] at HN0
  obtain ⟨n, hne⟩ : ∃ n : Nat, le4v a = (n : Int) := ⟨(le4v a).toNat, by omega⟩
  obtain ⟨p8, hp8⟩ : ∃ p, p = le4v (a.drop 8) := ⟨_, rfl⟩
  obtain ⟨p12, hp12⟩ : ∃ p, p = le4v (a.drop 12) := ⟨_, rfl⟩
  rw [← hp8] at HN8 hbd8
  rw [← hp12] at HN12 hbd12
  rw [← hp8, ← hp12] at HPl
  rw [hne] at HN0 HLn HSh HTx HPr HPl hbd
  have hrt : rightB a = false := by unfold rightB; rw [if_pos h]
  rw [hrt] at HRt
  rw [hne] at h
  have t1a : decide ((n : Int) ≤ 4096) = false := decide_eq_false (by omega)
  have t1b : decide (n ≤ 4096) = false := decide_eq_false (by omega)
  have t2a : decide ((n : Int) ≤ 12) = false := decide_eq_false (by omega)
  have t2b : decide (n ≤ 12) = false := decide_eq_false (by omega)
  obtain ⟨cs, hcs⟩ : ∃ cs, cs = cel a := ⟨_, rfl⟩
  rw [← hcs] at HN0 HN8 HN12 HRt HLn HSh HTx HPr HPl ⊢
  have HCS := Aside0.mk hcs
  have HSZ : Aside0 (cs.size = 16) := ⟨by rw [hcs, cel_size, ha]⟩
  have HG := Aside0.mk (blk_new w (.cells cs 23))
  have HB := Aside0.mk (below_alloc (Below.refl w.heap.size w) (.cells cs 23))
  clear hcs
  clear h hrt hbd hbd8 hbd12 hne hp8 hp12 ha hb
  go_enter Try.func4, Try.ntmps4
  go_wp2_with fail
  refine (law6_awake _).mono ?_
  rintro e w1 ⟨rfl, hb1⟩
  have HG1 := Aside0.mk ((hb1.block _ (blk_lt HG.out)).trans HG.out)
  have HB1 := Aside0.mk (below_step HB.out hb1)
  clear HB HG hb1
  go_wp2_with (first | ((with_reducible refine gate_dst (N := 11) rfl ?_); refine wpList_load_row rfl 23 _ rfl w.heap.size (by rfl) 23 cs (0, 0) _ HG1.out Try.underlying23 rfl (by rw [info16, HSZ.out]) ?_))
  refine (HN0.out _).mono ?_
  rintro e w2 ⟨rfl, hb1⟩
  have HG2 := Aside0.mk ((hb1.block _ (blk_lt HG1.out)).trans HG1.out)
  have HB2 := Aside0.mk (below_step HB1.out hb1)
  clear HB1 HG1 hb1
  go_wp2_with (first | ((with_reducible refine gate_dst (N := 41) rfl ?_); refine wpList_load_row rfl 23 _ rfl w.heap.size (by rfl) 23 cs (0, 0) _ HG2.out Try.underlying23 rfl (by rw [info16, HSZ.out]) ?_))
  refine (HRt.out _).mono ?_
  rintro e w3 ⟨rfl, hb1⟩
  have HG3 := Aside0.mk ((hb1.block _ (blk_lt HG2.out)).trans HG2.out)
  have HB3 := Aside0.mk (below_step HB2.out hb1)
  clear HB2 HG2 hb1
  go_wp2_with fail
  go_ret
  exact ⟨rfl, HB3.out⟩
set_option maxHeartbeats 8000000 in
set_option maxRecDepth 100000 in
theorem ViewRights_far8 (a : List Int) (w : World) (ha : a.length = 16) (hb : isB a) (h : 12 < le4v a) (h2 : le4v a ≤ 4096) (h3 : 65535 < le4v (a.drop 8)) :
    Calls Try.prog 4 #[.agg (cel a)] w fun e w' => e = .returned (.bool true) ∧ Below w.heap.size w w' := by
  have HN0 := Aside0.mk (fun w => law_number0 a w ha hb)
  have HN8 := Aside0.mk (fun w => law_number8 a w ha hb)
  have HN12 := Aside0.mk (fun w => law_number12 a w ha hb)
  have HRt := Aside0.mk (fun w => view_Right.calls a w ha hb)
  have HLn := Aside0.mk (fun w => view_Len.calls a w ha hb)
  have HSh := Aside0.mk (fun w => view_Short.calls a w ha hb)
  have HTx := Aside0.mk (fun w => view_Text.calls a w ha hb)
  have HPr := Aside0.mk (fun w => view_Prefix.calls a w ha hb)
  have HPl := Aside0.mk (fun w => view_Place.calls a w ha hb)
  have hbd := le4v_bd a hb (by omega)
  have hbd8 := le4v_bd (a.drop 8) (isB_drop hb 8) (by simp; omega)
  have hbd12 := le4v_bd (a.drop 12) (isB_drop hb 12) (by simp; omega)
  rw [List.drop_zero] at HN0
  obtain ⟨n, hne⟩ : ∃ n : Nat, le4v a = (n : Int) := ⟨(le4v a).toNat, by omega⟩
  obtain ⟨p8, hp8⟩ : ∃ p, p = le4v (a.drop 8) := ⟨_, rfl⟩
  obtain ⟨p12, hp12⟩ : ∃ p, p = le4v (a.drop 12) := ⟨_, rfl⟩
  rw [← hp8] at HN8 hbd8
  rw [← hp12] at HN12 hbd12
  rw [← hp8, ← hp12] at HPl
  rw [hne] at HN0 HLn HSh HTx HPr HPl hbd
  rw [← hp8] at h3
  have hrt : rightB a = false := by unfold rightB; rw [if_neg (by omega), if_neg (by omega), ← hp8, ← hp12]; unfold placedB; exact decide_eq_false (by omega)
  rw [hrt] at HRt
  rw [hne] at h h2
  have t1a : decide ((n : Int) ≤ 4096) = true := decide_eq_true (by omega)
  have t1b : decide (n ≤ 4096) = true := decide_eq_true (by omega)
  have t2a : decide ((n : Int) ≤ 12) = false := decide_eq_false (by omega)
  have t2b : decide (n ≤ 12) = false := decide_eq_false (by omega)
  have t3 : decide (p8 ≤ 65535) = false := decide_eq_false (by omega)
  obtain ⟨cs, hcs⟩ : ∃ cs, cs = cel a := ⟨_, rfl⟩
  rw [← hcs] at HN0 HN8 HN12 HRt HLn HSh HTx HPr HPl ⊢
  have HCS := Aside0.mk hcs
  have HSZ : Aside0 (cs.size = 16) := ⟨by rw [hcs, cel_size, ha]⟩
  have HG := Aside0.mk (blk_new w (.cells cs 23))
  have HB := Aside0.mk (below_alloc (Below.refl w.heap.size w) (.cells cs 23))
  clear hcs
  clear h h2 h3 hrt hbd hbd8 hbd12 hne hp8 hp12 ha hb
  go_enter Try.func4, Try.ntmps4
  go_wp2_with fail
  refine (law6_awake _).mono ?_
  rintro e w1 ⟨rfl, hb1⟩
  have HG1 := Aside0.mk ((hb1.block _ (blk_lt HG.out)).trans HG.out)
  have HB1 := Aside0.mk (below_step HB.out hb1)
  clear HB HG hb1
  go_wp2_with (first | ((with_reducible refine gate_dst (N := 11) rfl ?_); refine wpList_load_row rfl 23 _ rfl w.heap.size (by rfl) 23 cs (0, 0) _ HG1.out Try.underlying23 rfl (by rw [info16, HSZ.out]) ?_))
  refine (HN0.out _).mono ?_
  rintro e w2 ⟨rfl, hb1⟩
  have HG2 := Aside0.mk ((hb1.block _ (blk_lt HG1.out)).trans HG1.out)
  have HB2 := Aside0.mk (below_step HB1.out hb1)
  clear HB1 HG1 hb1
  go_wp2_with (first | ((with_reducible refine gate_dst (N := 32) rfl ?_); refine Go.BigFrame.wpList_want ?hw (fun K hK => ?_); (case hw => rfl); refine wp_load_row 23 _ rfl w.heap.size ?hx 23 cs (0, 0) _ HG2.out Try.underlying23 rfl ?hi ?_; (case hx => rfl); (case hi => rw [info16, HSZ.out]); refine hK _ _ ?_; clear hK K))
  refine (HN8.out _).mono ?_
  rintro e w3 ⟨rfl, hb1⟩
  have HG3 := Aside0.mk ((hb1.block _ (blk_lt HG2.out)).trans HG2.out)
  have HB3 := Aside0.mk (below_step HB2.out hb1)
  clear HB2 HG2 hb1
  go_wp2_with (first | ((with_reducible refine gate_dst (N := 41) rfl ?_); refine wpList_load_row rfl 23 _ rfl w.heap.size (by rfl) 23 cs (0, 0) _ HG3.out Try.underlying23 rfl (by rw [info16, HSZ.out]) ?_))
  refine (HRt.out _).mono ?_
  rintro e w4 ⟨rfl, hb1⟩
  have HG4 := Aside0.mk ((hb1.block _ (blk_lt HG3.out)).trans HG3.out)
  have HB4 := Aside0.mk (below_step HB3.out hb1)
  clear HB3 HG3 hb1
  go_wp2_with fail
  go_ret
  exact ⟨rfl, HB4.out⟩
set_option maxHeartbeats 8000000 in
set_option maxRecDepth 100000 in
theorem ViewRights_far12 (a : List Int) (w : World) (ha : a.length = 16) (hb : isB a) (h : 12 < le4v a) (h2 : le4v a ≤ 4096) (h3 : le4v (a.drop 8) ≤ 65535) (h4 : 65536 < le4v (a.drop 12)) :
    Calls Try.prog 4 #[.agg (cel a)] w fun e w' => e = .returned (.bool true) ∧ Below w.heap.size w w' := by
  have HN0 := Aside0.mk (fun w => law_number0 a w ha hb)
  have HN8 := Aside0.mk (fun w => law_number8 a w ha hb)
  have HN12 := Aside0.mk (fun w => law_number12 a w ha hb)
  have HRt := Aside0.mk (fun w => view_Right.calls a w ha hb)
  have HLn := Aside0.mk (fun w => view_Len.calls a w ha hb)
  have HSh := Aside0.mk (fun w => view_Short.calls a w ha hb)
  have HTx := Aside0.mk (fun w => view_Text.calls a w ha hb)
  have HPr := Aside0.mk (fun w => view_Prefix.calls a w ha hb)
  have HPl := Aside0.mk (fun w => view_Place.calls a w ha hb)
  have hbd := le4v_bd a hb (by omega)
  have hbd8 := le4v_bd (a.drop 8) (isB_drop hb 8) (by simp; omega)
  have hbd12 := le4v_bd (a.drop 12) (isB_drop hb 12) (by simp; omega)
  rw [List.drop_zero] at HN0
  obtain ⟨n, hne⟩ : ∃ n : Nat, le4v a = (n : Int) := ⟨(le4v a).toNat, by omega⟩
  obtain ⟨p8, hp8⟩ : ∃ p, p = le4v (a.drop 8) := ⟨_, rfl⟩
  obtain ⟨p12, hp12⟩ : ∃ p, p = le4v (a.drop 12) := ⟨_, rfl⟩
  rw [← hp8] at HN8 hbd8
  rw [← hp12] at HN12 hbd12
  rw [← hp8, ← hp12] at HPl
  rw [hne] at HN0 HLn HSh HTx HPr HPl hbd
  rw [← hp8] at h3
  rw [← hp12] at h4
  have hrt : rightB a = false := by unfold rightB; rw [if_neg (by omega), if_neg (by omega), ← hp8, ← hp12]; unfold placedB; exact decide_eq_false (by omega)
  rw [hrt] at HRt
  rw [hne] at h h2
  have t1a : decide ((n : Int) ≤ 4096) = true := decide_eq_true (by omega)
  have t1b : decide (n ≤ 4096) = true := decide_eq_true (by omega)
  have t2a : decide ((n : Int) ≤ 12) = false := decide_eq_false (by omega)
  have t2b : decide (n ≤ 12) = false := decide_eq_false (by omega)
  have t3 : decide (p8 ≤ 65535) = true := decide_eq_true (by omega)
  have t4 : decide (p12 ≤ 65536) = false := decide_eq_false (by omega)
  obtain ⟨cs, hcs⟩ : ∃ cs, cs = cel a := ⟨_, rfl⟩
  rw [← hcs] at HN0 HN8 HN12 HRt HLn HSh HTx HPr HPl ⊢
  have HCS := Aside0.mk hcs
  have HSZ : Aside0 (cs.size = 16) := ⟨by rw [hcs, cel_size, ha]⟩
  have HG := Aside0.mk (blk_new w (.cells cs 23))
  have HB := Aside0.mk (below_alloc (Below.refl w.heap.size w) (.cells cs 23))
  clear hcs
  clear h h2 h3 h4 hrt hbd hbd8 hbd12 hne hp8 hp12 ha hb
  go_enter Try.func4, Try.ntmps4
  go_wp2_with fail
  refine (law6_awake _).mono ?_
  rintro e w1 ⟨rfl, hb1⟩
  have HG1 := Aside0.mk ((hb1.block _ (blk_lt HG.out)).trans HG.out)
  have HB1 := Aside0.mk (below_step HB.out hb1)
  clear HB HG hb1
  go_wp2_with (first | ((with_reducible refine gate_dst (N := 11) rfl ?_); refine wpList_load_row rfl 23 _ rfl w.heap.size (by rfl) 23 cs (0, 0) _ HG1.out Try.underlying23 rfl (by rw [info16, HSZ.out]) ?_))
  refine (HN0.out _).mono ?_
  rintro e w2 ⟨rfl, hb1⟩
  have HG2 := Aside0.mk ((hb1.block _ (blk_lt HG1.out)).trans HG1.out)
  have HB2 := Aside0.mk (below_step HB1.out hb1)
  clear HB1 HG1 hb1
  go_wp2_with (first | ((with_reducible refine gate_dst (N := 32) rfl ?_); refine Go.BigFrame.wpList_want ?hw (fun K hK => ?_); (case hw => rfl); refine wp_load_row 23 _ rfl w.heap.size ?hx 23 cs (0, 0) _ HG2.out Try.underlying23 rfl ?hi ?_; (case hx => rfl); (case hi => rw [info16, HSZ.out]); refine hK _ _ ?_; clear hK K))
  refine (HN8.out _).mono ?_
  rintro e w3 ⟨rfl, hb1⟩
  have HG3 := Aside0.mk ((hb1.block _ (blk_lt HG2.out)).trans HG2.out)
  have HB3 := Aside0.mk (below_step HB2.out hb1)
  clear HB2 HG2 hb1
  go_wp2_with (first | ((with_reducible refine gate_dst (N := 37) rfl ?_); refine Go.BigFrame.wpList_want ?hw (fun K hK => ?_); (case hw => rfl); refine wp_load_row 23 _ rfl w.heap.size ?hx 23 cs (0, 0) _ HG3.out Try.underlying23 rfl ?hi ?_; (case hx => rfl); (case hi => rw [info16, HSZ.out]); refine hK _ _ ?_; clear hK K))
  refine (HN12.out _).mono ?_
  rintro e w4 ⟨rfl, hb1⟩
  have HG4 := Aside0.mk ((hb1.block _ (blk_lt HG3.out)).trans HG3.out)
  have HB4 := Aside0.mk (below_step HB3.out hb1)
  clear HB3 HG3 hb1
  go_wp2_with (first | ((with_reducible refine gate_dst (N := 41) rfl ?_); refine wpList_load_row rfl 23 _ rfl w.heap.size (by rfl) 23 cs (0, 0) _ HG4.out Try.underlying23 rfl (by rw [info16, HSZ.out]) ?_))
  refine (HRt.out _).mono ?_
  rintro e w5 ⟨rfl, hb1⟩
  have HG5 := Aside0.mk ((hb1.block _ (blk_lt HG4.out)).trans HG4.out)
  have HB5 := Aside0.mk (below_step HB4.out hb1)
  clear HB4 HG4 hb1
  go_wp2_with fail
  go_ret
  exact ⟨rfl, HB5.out⟩
set_option maxHeartbeats 8000000 in
set_option maxRecDepth 100000 in
theorem ViewRights_far (a : List Int) (w : World) (ha : a.length = 16) (hb : isB a) (h : 12 < le4v a) (h2 : le4v a ≤ 4096) (h3 : le4v (a.drop 8) ≤ 65535) (h4 : le4v (a.drop 12) ≤ 65536) :
    Calls Try.prog 4 #[.agg (cel a)] w fun e w' => e = .returned (.bool true) ∧ Below w.heap.size w w' := by
  have HN0 := Aside0.mk (fun w => law_number0 a w ha hb)
  have HN8 := Aside0.mk (fun w => law_number8 a w ha hb)
  have HN12 := Aside0.mk (fun w => law_number12 a w ha hb)
  have HRt := Aside0.mk (fun w => view_Right.calls a w ha hb)
  have HLn := Aside0.mk (fun w => view_Len.calls a w ha hb)
  have HSh := Aside0.mk (fun w => view_Short.calls a w ha hb)
  have HTx := Aside0.mk (fun w => view_Text.calls a w ha hb)
  have HPr := Aside0.mk (fun w => view_Prefix.calls a w ha hb)
  have HPl := Aside0.mk (fun w => view_Place.calls a w ha hb)
  have hbd := le4v_bd a hb (by omega)
  have hbd8 := le4v_bd (a.drop 8) (isB_drop hb 8) (by simp; omega)
  have hbd12 := le4v_bd (a.drop 12) (isB_drop hb 12) (by simp; omega)
  rw [List.drop_zero] at HN0
  obtain ⟨n, hne⟩ : ∃ n : Nat, le4v a = (n : Int) := ⟨(le4v a).toNat, by omega⟩
  obtain ⟨p8, hp8⟩ : ∃ p, p = le4v (a.drop 8) := ⟨_, rfl⟩
  obtain ⟨p12, hp12⟩ : ∃ p, p = le4v (a.drop 12) := ⟨_, rfl⟩
  rw [← hp8] at HN8 hbd8
  rw [← hp12] at HN12 hbd12
  rw [← hp8, ← hp12] at HPl
  rw [hne] at HN0 HLn HSh HTx HPr HPl hbd
  rw [← hp8] at h3
  rw [← hp12] at h4
  have hrt : rightB a = true := by unfold rightB; rw [if_neg (by omega), if_neg (by omega), ← hp8, ← hp12]; unfold placedB; exact decide_eq_true (by omega)
  rw [hrt] at HRt
  rw [hne] at h h2
  obtain ⟨P4, hP4⟩ : ∃ s, s = strOfNums ((a.drop 4).take 4) := ⟨_, rfl⟩
  rw [if_neg (by omega), ← hP4] at HPr
  rw [if_neg (by omega)] at HTx
  rw [if_neg (by omega), if_neg (by omega)] at HPl
  have t1a : decide ((n : Int) ≤ 4096) = true := decide_eq_true (by omega)
  have t1b : decide (n ≤ 4096) = true := decide_eq_true (by omega)
  have t2a : decide ((n : Int) ≤ 12) = false := decide_eq_false (by omega)
  have t2b : decide (n ≤ 12) = false := decide_eq_false (by omega)
  have t3 : decide (p8 ≤ 65535) = true := decide_eq_true (by omega)
  have t4 : decide (p12 ≤ 65536) = true := decide_eq_true (by omega)
  rw [t2a] at HSh
  obtain ⟨cs, hcs⟩ : ∃ cs, cs = cel a := ⟨_, rfl⟩
  rw [← hcs] at HN0 HN8 HN12 HRt HLn HSh HTx HPr HPl ⊢
  have HCS := Aside0.mk hcs
  have HSZ : Aside0 (cs.size = 16) := ⟨by rw [hcs, cel_size, ha]⟩
  have HG := Aside0.mk (blk_new w (.cells cs 23))
  have HB := Aside0.mk (below_alloc (Below.refl w.heap.size w) (.cells cs 23))
  clear hcs
  have HCV : ∀ W : World, W.heap[w.heap.size]? = some (.cells cs 23 (0, 0)) → (convert 27 9 (.slice (some ⟨w.heap.size, 4, none⟩) 4 12)).run Try.prog W = .ok (.string P4) W := fun W hW => by
    have hC := C_blk (a := a) (by rw [← HCS.out]; exact hW) 4 (by omega) (by omega)
    have hC2 := Kd.C_take (m := 4) hC (by simp; omega)
    have hcs := Kd.C_string (P := Try.prog) (c := 12) Try.underlying27 Try.underlying5 Try.underlying9 hC2
    rw [show ((a.drop 4).take 4).length = 4 by simp; omega] at hcs
    rw [hcs, hP4]
  clear h h2 h3 h4 hrt hbd hbd8 hbd12 hne hp8 hp12 hP4 ha hb
  have HCW := Aside0.mk HCV
  clear HCV
  go_enter Try.func4, Try.ntmps4
  go_wp2_with fail
  refine (law6_awake _).mono ?_
  rintro e w1 ⟨rfl, hb1⟩
  have HG1 := Aside0.mk ((hb1.block _ (blk_lt HG.out)).trans HG.out)
  have HB1 := Aside0.mk (below_step HB.out hb1)
  clear HB HG hb1
  go_wp2_with (first | ((with_reducible refine gate_dst (N := 11) rfl ?_); refine wpList_load_row rfl 23 _ rfl w.heap.size (by rfl) 23 cs (0, 0) _ HG1.out Try.underlying23 rfl (by rw [info16, HSZ.out]) ?_))
  refine (HN0.out _).mono ?_
  rintro e w2 ⟨rfl, hb1⟩
  have HG2 := Aside0.mk ((hb1.block _ (blk_lt HG1.out)).trans HG1.out)
  have HB2 := Aside0.mk (below_step HB1.out hb1)
  clear HB1 HG1 hb1
  go_wp2_with (first | ((with_reducible refine gate_dst (N := 32) rfl ?_); refine Go.BigFrame.wpList_want ?hw (fun K hK => ?_); (case hw => rfl); refine wp_load_row 23 _ rfl w.heap.size ?hx 23 cs (0, 0) _ HG2.out Try.underlying23 rfl ?hi ?_; (case hx => rfl); (case hi => rw [info16, HSZ.out]); refine hK _ _ ?_; clear hK K))
  refine (HN8.out _).mono ?_
  rintro e w3 ⟨rfl, hb1⟩
  have HG3 := Aside0.mk ((hb1.block _ (blk_lt HG2.out)).trans HG2.out)
  have HB3 := Aside0.mk (below_step HB2.out hb1)
  clear HB2 HG2 hb1
  go_wp2_with (first | ((with_reducible refine gate_dst (N := 37) rfl ?_); refine Go.BigFrame.wpList_want ?hw (fun K hK => ?_); (case hw => rfl); refine wp_load_row 23 _ rfl w.heap.size ?hx 23 cs (0, 0) _ HG3.out Try.underlying23 rfl ?hi ?_; (case hx => rfl); (case hi => rw [info16, HSZ.out]); refine hK _ _ ?_; clear hK K))
  refine (HN12.out _).mono ?_
  rintro e w4 ⟨rfl, hb1⟩
  have HG4 := Aside0.mk ((hb1.block _ (blk_lt HG3.out)).trans HG3.out)
  have HB4 := Aside0.mk (below_step HB3.out hb1)
  clear HB3 HG3 hb1
  go_wp2_with (first | ((with_reducible refine gate_dst (N := 41) rfl ?_); refine wpList_load_row rfl 23 _ rfl w.heap.size (by rfl) 23 cs (0, 0) _ HG4.out Try.underlying23 rfl (by rw [info16, HSZ.out]) ?_))
  refine (HRt.out _).mono ?_
  rintro e w5 ⟨rfl, hb1⟩
  have HG5 := Aside0.mk ((hb1.block _ (blk_lt HG4.out)).trans HG4.out)
  have HB5 := Aside0.mk (below_step HB4.out hb1)
  clear HB4 HG4 hb1
  go_wp2_with (first | ((with_reducible refine gate_dst (N := 48) rfl ?_); refine wpList_load_row rfl 23 _ rfl w.heap.size (by rfl) 23 cs (0, 0) _ HG5.out Try.underlying23 rfl (by rw [info16, HSZ.out]) ?_))
  refine (HPl.out _).mono ?_
  rintro e w6 ⟨rfl, hb1⟩
  have HG6 := Aside0.mk ((hb1.block _ (blk_lt HG5.out)).trans HG5.out)
  have HB6 := Aside0.mk (below_step HB5.out hb1)
  clear HB5 HG5 hb1
  go_wp2_with (first | ((with_reducible refine gate_dst (N := 52) rfl ?_); refine wpList_load_row rfl 23 _ rfl w.heap.size (by rfl) 23 cs (0, 0) _ HG6.out Try.underlying23 rfl (by rw [info16, HSZ.out]) ?_))
  refine (HLn.out _).mono ?_
  rintro e w7 ⟨rfl, hb1⟩
  have HG7 := Aside0.mk ((hb1.block _ (blk_lt HG6.out)).trans HG6.out)
  have HB7 := Aside0.mk (below_step HB6.out hb1)
  clear HB6 HG6 hb1
  go_wp2_with (first | ((with_reducible refine gate_dst (N := 57) rfl ?_); refine Go.BigFrame.wpList_want ?hw (fun K hK => ?_); (case hw => rfl); refine wp_load_row 23 _ rfl w.heap.size ?hx 23 cs (0, 0) _ HG7.out Try.underlying23 rfl ?hi ?_; (case hx => rfl); (case hi => rw [info16, HSZ.out]); refine hK _ _ ?_; clear hK K))
  refine (HSh.out _).mono ?_
  rintro e w8 ⟨rfl, hb1⟩
  have HG8 := Aside0.mk ((hb1.block _ (blk_lt HG7.out)).trans HG7.out)
  have HB8 := Aside0.mk (below_step HB7.out hb1)
  clear HB7 HG7 hb1
  go_wp2_with fail
  have HCV := HCW.out
  clear HCW
  refine start_ (n := 23) (S := fun w' => (convert 27 9 (.slice (some ⟨w.heap.size, 4, none⟩) 4 12)).run Try.prog w' = .ok (.string P4) w') (ds := []) #[false, false, false, false, false, false, false, false, false, false, false, false, false, false, false, false, false, false, false, false, false, false, false] (by kernel_rfl) rfl rfl ((HCV _ HG8.out)) (fun hHeld => ?_)
  refine one_ (i := 0) (N := some 92) #[true, false, false, false, false, false, false, false, false, false, false, false, false, false, false, false, false, false, false, false, false, false, false] rfl rfl (by kernel_rfl) (by decide) (fun K hK => ?_)
  rw [if_pos (by rfl)]
  refine wp_load_row 23 _ rfl w.heap.size (by rfl) 23 cs (0, 0) _ HG8.out Try.underlying23 rfl (by rw [info16, HSZ.out]) ?_
  refine hK.out _ _ ((HCV _ HG8.out)) (fun hHeld => ?_)
  clear hK K
  refine norm_ (a' := ?_) ?_ ?_
  rotate_left
  · show Act.put _ (some 92) _ = _
    simp only [Act.put, List.setIfInBounds_toArray, List.set_cons_zero, List.set_cons_succ, i64_w, i32_w]
    rfl
  refine one_ (i := 1) (N := some 93) #[true, true, false, false, false, false, false, false, false, false, false, false, false, false, false, false, false, false, false, false, false, false, false] rfl rfl (by kernel_rfl) (by decide) (fun K hK => ?_)
  refine goes_ Try.func19 (by kernel_rfl) rfl #[.agg cs] (by rfl) rfl rfl (by simp only [List.map_toArray, List.map_cons, List.map_nil]; rfl) ?_
  with_reducible refine (HTx.out _).mono ?_
  rintro e w9 ⟨rfl, hb1⟩
  refine ⟨_, rfl, ?_⟩
  have HG9 : Aside0 (w9.heap[w.heap.size]? = some (.cells cs 23 (0, 0))) := ⟨(hb1.block _ (blk_lt HG8.out)).trans HG8.out⟩
  have HB9 := Aside0.mk (below_step (below_drew1 HB8.out) hb1)
  clear hb1
  refine hK.out _ _ ((HCV _ HG9.out)) (fun hHeld => ?_)
  clear hK K
  refine norm_ (a' := ?_) ?_ ?_
  rotate_left
  · show Act.put _ (some 93) _ = _
    simp only [Act.put, List.setIfInBounds_toArray, List.set_cons_zero, List.set_cons_succ, i64_w, i32_w]
    rfl
  refine pure_ (i := 2) (N := some 94) (v := ?_) (a' := ?_) #[true, true, true, false, false, false, false, false, false, false, false, false, false, false, false, false, false, false, false, false, false, false, false] rfl rfl (by kernel_rfl) (fun _ _ _ h => h) (Or.inl ⟨by rfl, ?_⟩) ?_ ?_
  rotate_left
  · intro w'
    go_simp
    with_reducible rfl
  rotate_left
  · simp only [Act.put, List.setIfInBounds_toArray, List.set_cons_zero, List.set_cons_succ, i64_w, i32_w]
    rfl
  refine pure_ (i := 3) (N := some 95) (v := ?_) (a' := ?_) #[true, true, true, true, false, false, false, false, false, false, false, false, false, false, false, false, false, false, false, false, false, false, false] rfl rfl (by kernel_rfl) (fun _ _ _ h => h) (Or.inl ⟨by rfl, ?_⟩) ?_ ?_
  rotate_left
  · intro w'
    go_simp
    with_reducible rfl
  rotate_left
  · simp only [Act.put, List.setIfInBounds_toArray, List.set_cons_zero, List.set_cons_succ, i64_w, i32_w]
    rfl
  refine pure_ (i := 6) (N := some 98) (v := ?_) (a' := ?_) #[true, true, true, true, false, false, true, false, false, false, false, false, false, false, false, false, false, false, false, false, false, false, false] rfl rfl (by kernel_rfl) (fun _ _ _ h => h) (Or.inl ⟨by rfl, ?_⟩) ?_ ?_
  rotate_left
  · intro w'
    go_simp
    with_reducible rfl
  rotate_left
  · simp only [Act.put, List.setIfInBounds_toArray, List.set_cons_zero, List.set_cons_succ, i64_w, i32_w]
    rfl
  refine take_ (i := 7) (N := some 99) (v := ?_) (a' := ?_) #[true, true, true, true, false, false, true, true, false, false, false, false, false, false, false, false, false, false, false, false, false, false, false] rfl rfl (by kernel_rfl) (fun _ _ _ h => h) (Or.inl ⟨by rfl, ?_⟩) hHeld ?_ ?_
  rotate_left
  · intro w' s0
    go_simp
    with_reducible rfl
  rotate_left
  · simp only [Act.put, List.setIfInBounds_toArray, List.set_cons_zero, List.set_cons_succ, i64_w, i32_w]
    rfl
  refine one_ (i := 4) (N := some 96) #[true, true, true, true, true, false, true, true, false, false, false, false, false, false, false, false, false, false, false, false, false, false, false] rfl rfl (by kernel_rfl) (by decide) (fun K hK => ?_)
  rw [if_pos (by rfl)]
  refine wp_load_row 23 _ rfl w.heap.size (by rfl) 23 cs (0, 0) _ HG9.out Try.underlying23 rfl (by rw [info16, HSZ.out]) ?_
  refine hK.out _ _ ((HCV _ HG9.out)) (fun hHeld => ?_)
  clear hK K
  refine norm_ (a' := ?_) ?_ ?_
  rotate_left
  · show Act.put _ (some 96) _ = _
    simp only [Act.put, List.setIfInBounds_toArray, List.set_cons_zero, List.set_cons_succ, i64_w, i32_w]
    rfl
  refine one_ (i := 5) (N := some 97) #[true, true, true, true, true, true, true, true, false, false, false, false, false, false, false, false, false, false, false, false, false, false, false] rfl rfl (by kernel_rfl) (by decide) (fun K hK => ?_)
  refine goes_ Try.func20 (by kernel_rfl) rfl #[.agg cs] (by rfl) rfl rfl (by simp only [List.map_toArray, List.map_cons, List.map_nil]; rfl) ?_
  with_reducible refine (HPr.out _).mono ?_
  rintro e w10 ⟨rfl, hb1⟩
  refine ⟨_, rfl, ?_⟩
  have HG10 : Aside0 (w10.heap[w.heap.size]? = some (.cells cs 23 (0, 0))) := ⟨(hb1.block _ (blk_lt HG9.out)).trans HG9.out⟩
  have HB10 := Aside0.mk (below_step HB9.out hb1)
  clear hb1
  refine hK.out _ _ ((HCV _ HG10.out)) (fun hHeld => ?_)
  clear hK K
  refine norm_ (a' := ?_) ?_ ?_
  rotate_left
  · show Act.put _ (some 97) _ = _
    simp only [Act.put, List.setIfInBounds_toArray, List.set_cons_zero, List.set_cons_succ, i64_w, i32_w]
    rfl
  refine pure_ (i := 8) (N := some 100) (v := ?_) (a' := ?_) #[true, true, true, true, true, true, true, true, true, false, false, false, false, false, false, false, false, false, false, false, false, false, false] rfl rfl (by kernel_rfl) (fun _ _ _ h => h) (Or.inl ⟨by rfl, ?_⟩) ?_ ?_
  rotate_left
  · intro w'
    go_simp
    with_reducible rfl
  rotate_left
  · simp only [Act.put, List.setIfInBounds_toArray, List.set_cons_zero, List.set_cons_succ, i64_w, i32_w]
    rfl
  refine pure_ (i := 9) (N := some 101) (v := ?_) (a' := ?_) #[true, true, true, true, true, true, true, true, true, true, false, false, false, false, false, false, false, false, false, false, false, false, false] rfl rfl (by kernel_rfl) (fun _ _ _ h => h) (Or.inl ⟨by rfl, ?_⟩) ?_ ?_
  rotate_left
  · intro w'
    go_simp
    with_reducible rfl
  rotate_left
  · simp only [Act.put, List.setIfInBounds_toArray, List.set_cons_zero, List.set_cons_succ, i64_w, i32_w]
    rfl
  refine pure_ (i := 10) (N := some 102) (v := ?_) (a' := ?_) #[true, true, true, true, true, true, true, true, true, true, true, false, false, false, false, false, false, false, false, false, false, false, false] rfl rfl (by kernel_rfl) (fun _ _ _ h => h) (Or.inl ⟨by rfl, ?_⟩) ?_ ?_
  rotate_left
  · intro w'
    go_simp
    with_reducible rfl
  rotate_left
  · simp only [Act.put, List.setIfInBounds_toArray, List.set_cons_zero, List.set_cons_succ, i64_w, i32_w]
    rfl
  refine pure_ (i := 11) (N := some 103) (v := ?_) (a' := ?_) #[true, true, true, true, true, true, true, true, true, true, true, true, false, false, false, false, false, false, false, false, false, false, false] rfl rfl (by kernel_rfl) (fun _ _ _ h => h) (Or.inl ⟨by rfl, ?_⟩) ?_ ?_
  rotate_left
  · intro w'
    go_simp
    with_reducible rfl
  rotate_left
  · simp only [Act.put, List.setIfInBounds_toArray, List.set_cons_zero, List.set_cons_succ, i64_w, i32_w]
    rfl
  refine one_ (i := 12) (N := some 104) #[true, true, true, true, true, true, true, true, true, true, true, true, true, false, false, false, false, false, false, false, false, false, false] rfl rfl (by kernel_rfl) (by decide) (fun K hK => ?_)
  rw [if_pos (by rfl)]
  refine wp_load_row 23 _ rfl w.heap.size (by rfl) 23 cs (0, 0) _ HG10.out Try.underlying23 rfl (by rw [info16, HSZ.out]) ?_
  refine hK.out _ _ ((HCV _ HG10.out)) (fun hHeld => ?_)
  clear hK K
  refine norm_ (a' := ?_) ?_ ?_
  rotate_left
  · show Act.put _ (some 104) _ = _
    simp only [Act.put, List.setIfInBounds_toArray, List.set_cons_zero, List.set_cons_succ, i64_w, i32_w]
    rfl
  refine one_ (i := 13) (N := some 105) #[true, true, true, true, true, true, true, true, true, true, true, true, true, true, false, false, false, false, false, false, false, false, false] rfl rfl (by kernel_rfl) (by decide) (fun K hK => ?_)
  refine goes_ Try.func14 (by kernel_rfl) rfl #[.agg cs, .int .i64 8] (by rfl) rfl rfl (by simp only [List.map_toArray, List.map_cons, List.map_nil]; rfl) ?_
  with_reducible refine (HN8.out _).mono ?_
  rintro e w11 ⟨rfl, hb1⟩
  refine ⟨_, rfl, ?_⟩
  have HG11 : Aside0 (w11.heap[w.heap.size]? = some (.cells cs 23 (0, 0))) := ⟨(hb1.block _ (blk_lt HG10.out)).trans HG10.out⟩
  have HB11 := Aside0.mk (below_step HB10.out hb1)
  clear hb1
  refine hK.out _ _ ((HCV _ HG11.out)) (fun hHeld => ?_)
  clear hK K
  refine norm_ (a' := ?_) ?_ ?_
  rotate_left
  · show Act.put _ (some 105) _ = _
    simp only [Act.put, List.setIfInBounds_toArray, List.set_cons_zero, List.set_cons_succ, i64_w, i32_w]
    rfl
  refine pure_ (i := 14) (N := some 106) (v := ?_) (a' := ?_) #[true, true, true, true, true, true, true, true, true, true, true, true, true, true, true, false, false, false, false, false, false, false, false] rfl rfl (by kernel_rfl) (fun _ _ _ h => h) (Or.inl ⟨by rfl, ?_⟩) ?_ ?_
  rotate_left
  · intro w'
    go_simp
    with_reducible rfl
  rotate_left
  · simp only [Act.put, List.setIfInBounds_toArray, List.set_cons_zero, List.set_cons_succ, i64_w, i32_w]
    rfl
  refine pure_ (i := 15) (N := some 107) (v := ?_) (a' := ?_) #[true, true, true, true, true, true, true, true, true, true, true, true, true, true, true, true, false, false, false, false, false, false, false] rfl rfl (by kernel_rfl) (fun _ _ _ h => h) (Or.inl ⟨by rfl, ?_⟩) ?_ ?_
  rotate_left
  · intro w'
    go_simp
    with_reducible rfl
  rotate_left
  · simp only [Act.put, List.setIfInBounds_toArray, List.set_cons_zero, List.set_cons_succ, i64_w, i32_w]
    rfl
  refine pure_ (i := 16) (N := some 108) (v := ?_) (a' := ?_) #[true, true, true, true, true, true, true, true, true, true, true, true, true, true, true, true, true, false, false, false, false, false, false] rfl rfl (by kernel_rfl) (fun _ _ _ h => h) (Or.inl ⟨by rfl, ?_⟩) ?_ ?_
  rotate_left
  · intro w'
    go_simp
    with_reducible rfl
  rotate_left
  · simp only [Act.put, List.setIfInBounds_toArray, List.set_cons_zero, List.set_cons_succ, i64_w, i32_w]
    rfl
  refine pure_ (i := 17) (N := some 109) (v := ?_) (a' := ?_) #[true, true, true, true, true, true, true, true, true, true, true, true, true, true, true, true, true, true, false, false, false, false, false] rfl rfl (by kernel_rfl) (fun _ _ _ h => h) (Or.inl ⟨by rfl, ?_⟩) ?_ ?_
  rotate_left
  · intro w'
    go_simp
    with_reducible rfl
  rotate_left
  · simp only [Act.put, List.setIfInBounds_toArray, List.set_cons_zero, List.set_cons_succ, i64_w, i32_w]
    rfl
  refine one_ (i := 18) (N := some 110) #[true, true, true, true, true, true, true, true, true, true, true, true, true, true, true, true, true, true, true, false, false, false, false] rfl rfl (by kernel_rfl) (by decide) (fun K hK => ?_)
  rw [if_pos (by rfl)]
  refine wp_load_row 23 _ rfl w.heap.size (by rfl) 23 cs (0, 0) _ HG11.out Try.underlying23 rfl (by rw [info16, HSZ.out]) ?_
  refine hK.out _ _ ((HCV _ HG11.out)) (fun hHeld => ?_)
  clear hK K
  refine norm_ (a' := ?_) ?_ ?_
  rotate_left
  · show Act.put _ (some 110) _ = _
    simp only [Act.put, List.setIfInBounds_toArray, List.set_cons_zero, List.set_cons_succ, i64_w, i32_w]
    rfl
  refine one_ (i := 19) (N := some 111) #[true, true, true, true, true, true, true, true, true, true, true, true, true, true, true, true, true, true, true, true, false, false, false] rfl rfl (by kernel_rfl) (by decide) (fun K hK => ?_)
  refine goes_ Try.func14 (by kernel_rfl) rfl #[.agg cs, .int .i64 12] (by rfl) rfl rfl (by simp only [List.map_toArray, List.map_cons, List.map_nil]; rfl) ?_
  with_reducible refine (HN12.out _).mono ?_
  rintro e w12 ⟨rfl, hb1⟩
  refine ⟨_, rfl, ?_⟩
  have HG12 : Aside0 (w12.heap[w.heap.size]? = some (.cells cs 23 (0, 0))) := ⟨(hb1.block _ (blk_lt HG11.out)).trans HG11.out⟩
  have HB12 := Aside0.mk (below_step HB11.out hb1)
  clear hb1
  refine hK.out _ _ ((HCV _ HG12.out)) (fun hHeld => ?_)
  clear hK K
  refine norm_ (a' := ?_) ?_ ?_
  rotate_left
  · show Act.put _ (some 111) _ = _
    simp only [Act.put, List.setIfInBounds_toArray, List.set_cons_zero, List.set_cons_succ, i64_w, i32_w]
    rfl
  refine pure_ (i := 20) (N := some 112) (v := ?_) (a' := ?_) #[true, true, true, true, true, true, true, true, true, true, true, true, true, true, true, true, true, true, true, true, true, false, false] rfl rfl (by kernel_rfl) (fun _ _ _ h => h) (Or.inl ⟨by rfl, ?_⟩) ?_ ?_
  rotate_left
  · intro w'
    go_simp
    with_reducible rfl
  rotate_left
  · simp only [Act.put, List.setIfInBounds_toArray, List.set_cons_zero, List.set_cons_succ, i64_w, i32_w]
    rfl
  refine pure_ (i := 21) (N := some 113) (v := ?_) (a' := ?_) #[true, true, true, true, true, true, true, true, true, true, true, true, true, true, true, true, true, true, true, true, true, true, false] rfl rfl (by kernel_rfl) (fun _ _ _ h => h) (Or.inl ⟨by rfl, ?_⟩) ?_ ?_
  rotate_left
  · intro w'
    go_simp
    with_reducible rfl
  rotate_left
  · simp only [Act.put, List.setIfInBounds_toArray, List.set_cons_zero, List.set_cons_succ, i64_w, i32_w]
    rfl
  refine pure_ (i := 22) (N := some 2) (v := ?_) (a' := ?_) #[true, true, true, true, true, true, true, true, true, true, true, true, true, true, true, true, true, true, true, true, true, true, true] rfl rfl (by kernel_rfl) (fun _ _ _ h => h) (Or.inl ⟨by rfl, ?_⟩) ?_ ?_
  rotate_left
  · intro w'
    go_simp
    with_reducible rfl
  rotate_left
  · simp only [Act.put, List.setIfInBounds_toArray, List.set_cons_zero, List.set_cons_succ, i64_w, i32_w]
    rfl
  refine done_ (by kernel_rfl) ?_
  go_wp2
  go_ret
  exact ⟨rfl, by repeat (first | exact HB12.out | apply below_alloc | apply pw_below_drewN | apply below_drew1)⟩
set_option maxHeartbeats 8000000 in
set_option maxRecDepth 100000 in
theorem ViewRights_low (a : List Int) (w : World) (ha : a.length = 16) (hb : isB a) (h : le4v a ≤ 4) :
    Calls Try.prog 4 #[.agg (cel a)] w fun e w' => e = .returned (.bool true) ∧ Below w.heap.size w w' := by
  have HN0 := Aside0.mk (fun w => law_number0 a w ha hb)
  have HN8 := Aside0.mk (fun w => law_number8 a w ha hb)
  have HN12 := Aside0.mk (fun w => law_number12 a w ha hb)
  have HRt := Aside0.mk (fun w => view_Right.calls a w ha hb)
  have HLn := Aside0.mk (fun w => view_Len.calls a w ha hb)
  have HSh := Aside0.mk (fun w => view_Short.calls a w ha hb)
  have HTx := Aside0.mk (fun w => view_Text.calls a w ha hb)
  have HPr := Aside0.mk (fun w => view_Prefix.calls a w ha hb)
  have HPl := Aside0.mk (fun w => view_Place.calls a w ha hb)
  have hbd := le4v_bd a hb (by omega)
  have hbd8 := le4v_bd (a.drop 8) (isB_drop hb 8) (by simp; omega)
  have hbd12 := le4v_bd (a.drop 12) (isB_drop hb 12) (by simp; omega)
  rw [List.drop_zero] at HN0
  obtain ⟨n, hne⟩ : ∃ n : Nat, le4v a = (n : Int) := ⟨(le4v a).toNat, by omega⟩
  obtain ⟨p8, hp8⟩ : ∃ p, p = le4v (a.drop 8) := ⟨_, rfl⟩
  obtain ⟨p12, hp12⟩ : ∃ p, p = le4v (a.drop 12) := ⟨_, rfl⟩
  rw [← hp8] at HN8 hbd8
  rw [← hp12] at HN12 hbd12
  rw [← hp8, ← hp12] at HPl
  rw [hne] at HN0 HLn HSh HTx HPr HPl hbd
  have hrt := short_r a n hb ha hne (by omega)
  rw [hrt] at HRt
  rw [hne] at h
  obtain ⟨P1, hP1⟩ : ∃ s, s = strOfNums ((a.drop 4).take n) := ⟨_, rfl⟩
  rw [if_pos (by omega), Int.toNat_natCast, ← hP1] at HTx
  rw [if_pos (by omega), if_pos (by omega)] at HPl
  rw [show (if (n : Int) < 4 then (n : Int).toNat else 4) = n by split <;> omega, ← hP1] at HPr
  have t1a : decide ((n : Int) ≤ 4096) = true := decide_eq_true (by omega)
  have t1b : decide (n ≤ 4096) = true := decide_eq_true (by omega)
  have t2a : decide ((n : Int) ≤ 12) = true := decide_eq_true (by omega)
  have t2b : decide (n ≤ 12) = true := decide_eq_true (by omega)
  have t5 : decide ((4 : Int) < (n : Int)) = false := decide_eq_false (by omega)
  have t6 : decide (4 < n) = false := decide_eq_false (by omega)
  rw [t2a] at HSh
  have hw4 : wrap64 (4 + (n : Int)) = 4 + (n : Int) := ww _ (by omega) (by omega)
  have hw8 : wrap64 8 = 8 := ww _ (by decide) (by decide)
  have hcut := cut16 w.heap.size n (by omega)
  have HN := Aside0.mk (show n ≤ 12 by omega)
  have HA := Aside0.mk ha
  obtain ⟨cs, hcs⟩ : ∃ cs, cs = cel a := ⟨_, rfl⟩
  rw [← hcs] at HN0 HN8 HN12 HRt HLn HSh HTx HPr HPl ⊢
  have HCS := Aside0.mk hcs
  have HSZ : Aside0 (cs.size = 16) := ⟨by rw [hcs, cel_size, ha]⟩
  have HG := Aside0.mk (blk_new w (.cells cs 23))
  have HB := Aside0.mk (below_alloc (Below.refl w.heap.size w) (.cells cs 23))
  clear hcs
  have HCV1 : ∀ W : World, W.heap[w.heap.size]? = some (.cells cs 23 (0, 0)) → (convert 27 9 (.slice (some ⟨w.heap.size, 4, none⟩) n 12)).run Try.prog W = .ok (.string P1) W := fun W hW => by
    have hC := C_blk (a := a) (by rw [← HCS.out]; exact hW) 4 (by omega) (by omega)
    have hC2 := Kd.C_take (m := n) hC (by simp; omega)
    have hcs := Kd.C_string (P := Try.prog) (c := 12) Try.underlying27 Try.underlying5 Try.underlying9 hC2
    rw [show ((a.drop 4).take n).length = n by simp; omega] at hcs
    rw [hcs, hP1]
  clear h hrt hbd hbd8 hbd12 hne hp8 hp12 hP1 ha hb
  have HCW1 := Aside0.mk HCV1
  clear HCV1
  go_enter Try.func4, Try.ntmps4
  go_wp2_with fail
  refine (law6_awake _).mono ?_
  rintro e w1 ⟨rfl, hb1⟩
  have HG1 := Aside0.mk ((hb1.block _ (blk_lt HG.out)).trans HG.out)
  have HB1 := Aside0.mk (below_step HB.out hb1)
  clear HB HG hb1
  go_wp2_with (first | ((with_reducible refine gate_dst (N := 11) rfl ?_); refine wpList_load_row rfl 23 _ rfl w.heap.size (by rfl) 23 cs (0, 0) _ HG1.out Try.underlying23 rfl (by rw [info16, HSZ.out]) ?_))
  refine (HN0.out _).mono ?_
  rintro e w2 ⟨rfl, hb1⟩
  have HG2 := Aside0.mk ((hb1.block _ (blk_lt HG1.out)).trans HG1.out)
  have HB2 := Aside0.mk (below_step HB1.out hb1)
  clear HB1 HG1 hb1
  go_wp2_with fail
  obtain ⟨K, hK⟩ : ∃ K : Nat, K = 12 - n := ⟨_, rfl⟩
  have HK := Aside0.mk hK
  clear hK
  go_loopg [4, 5] (K : Nat) (fun kq v4 v5 w' => ∃ i : Nat, v5 = .int .i64 (i : Int) ∧ v4 = .bool (zr a n i) ∧ Aside0 (i + kq = 16) ∧ Aside0 (4 + n ≤ i) ∧ Aside0 (w'.heap[w.heap.size]? = some (.cells cs 23 (0, 0))) ∧ Aside0 (Below w.heap.size w w'))
  case atStart => exact ⟨4 + n, congrArg (Value.int .i64) (by rw [hw4]; omega), by rw [zr_0], ⟨by have := HK.out; have := HN.out; omega⟩, ⟨by omega⟩, HG2, HB2⟩
  case round =>
    clear HG2 HB2 HK
    obtain ⟨i, rfl, rfl, HI, HJ, HG2, HB2⟩ := hrel
    cases gk with
    | zero =>
      obtain rfl : i = 16 := by have := HI.out; omega
      obtain ⟨r, hr⟩ : ∃ r, zr a n 16 = r := ⟨_, rfl⟩
      rw [hr] at HRt ⊢
      clear hr HI HJ
      cases r with
      | false =>
        go_wp2_with (first | ((with_reducible refine gate_dst (N := 41) rfl ?_); refine wpList_load_row rfl 23 _ rfl w.heap.size (by rfl) 23 cs (0, 0) _ HG2.out Try.underlying23 rfl (by rw [info16, HSZ.out]) ?_))
        refine (HRt.out _).mono ?_
        rintro e w3 ⟨rfl, hb1⟩
        have HG3 := Aside0.mk ((hb1.block _ (blk_lt HG2.out)).trans HG2.out)
        have HB3 := Aside0.mk (below_step HB2.out hb1)
        clear HB2 HG2 hb1
        go_wp2_with fail
        go_ret
        exact ⟨rfl, HB3.out⟩
      | true =>
        go_wp2_with (first | ((with_reducible refine gate_dst (N := 41) rfl ?_); refine wpList_load_row rfl 23 _ rfl w.heap.size (by rfl) 23 cs (0, 0) _ HG2.out Try.underlying23 rfl (by rw [info16, HSZ.out]) ?_))
        refine (HRt.out _).mono ?_
        rintro e w5 ⟨rfl, hb1⟩
        have HG5 := Aside0.mk ((hb1.block _ (blk_lt HG2.out)).trans HG2.out)
        have HB5 := Aside0.mk (below_step HB2.out hb1)
        clear HB2 HG2 hb1
        go_wp2_with (first | ((with_reducible refine gate_dst (N := 48) rfl ?_); refine wpList_load_row rfl 23 _ rfl w.heap.size (by rfl) 23 cs (0, 0) _ HG5.out Try.underlying23 rfl (by rw [info16, HSZ.out]) ?_))
        refine (HPl.out _).mono ?_
        rintro e w6 ⟨rfl, hb1⟩
        have HG6 := Aside0.mk ((hb1.block _ (blk_lt HG5.out)).trans HG5.out)
        have HB6 := Aside0.mk (below_step HB5.out hb1)
        clear HB5 HG5 hb1
        go_wp2_with (first | ((with_reducible refine gate_dst (N := 52) rfl ?_); refine wpList_load_row rfl 23 _ rfl w.heap.size (by rfl) 23 cs (0, 0) _ HG6.out Try.underlying23 rfl (by rw [info16, HSZ.out]) ?_))
        refine (HLn.out _).mono ?_
        rintro e w7 ⟨rfl, hb1⟩
        have HG7 := Aside0.mk ((hb1.block _ (blk_lt HG6.out)).trans HG6.out)
        have HB7 := Aside0.mk (below_step HB6.out hb1)
        clear HB6 HG6 hb1
        go_wp2_with (first | ((with_reducible refine gate_dst (N := 57) rfl ?_); refine Go.BigFrame.wpList_want ?hw (fun K hK => ?_); (case hw => rfl); refine wp_load_row 23 _ rfl w.heap.size ?hx 23 cs (0, 0) _ HG7.out Try.underlying23 rfl ?hi ?_; (case hx => rfl); (case hi => rw [info16, HSZ.out]); refine hK _ _ ?_; clear hK K))
        refine (HSh.out _).mono ?_
        rintro e w8 ⟨rfl, hb1⟩
        have HG8 := Aside0.mk ((hb1.block _ (blk_lt HG7.out)).trans HG7.out)
        have HB8 := Aside0.mk (below_step HB7.out hb1)
        clear HB7 HG7 hb1
        go_wp2_with fail
        have HCV1 := HCW1.out
        clear HCW1
        refine start_ (n := 25) (S := fun w' => (convert 27 9 (.slice (some ⟨w.heap.size, 4, none⟩) n 12)).run Try.prog w' = .ok (.string P1) w') (ds := []) #[false, false, false, false, false, false, false, false, false, false, false, false, false, false, false, false, false, false, false, false, false, false, false, false, false] (by kernel_rfl) rfl rfl ((HCV1 _ HG8.out)) (fun hHeld => ?_)
        refine pure_ (i := 2) (N := some 70) (v := ?_) (a' := ?_) #[false, false, true, false, false, false, false, false, false, false, false, false, false, false, false, false, false, false, false, false, false, false, false, false, false] rfl rfl (by kernel_rfl) (fun _ _ _ h => h) (Or.inl ⟨by rfl, ?_⟩) ?_ ?_
        rotate_left
        · intro w'
          go_simp
          with_reducible rfl
        rotate_left
        · simp only [Act.put, List.setIfInBounds_toArray, List.set_cons_zero, List.set_cons_succ, i64_w, i32_w]
          rfl
        refine pure_ (i := 3) (N := some 71) (v := ?_) (a' := ?_) #[false, false, true, true, false, false, false, false, false, false, false, false, false, false, false, false, false, false, false, false, false, false, false, false, false] rfl rfl (by kernel_rfl) (fun _ _ _ h => h) (Or.inl ⟨by rfl, ?_⟩) ?_ ?_
        rotate_left
        · intro w'
          go_simp
          with_reducible rfl
        rotate_left
        · simp only [Act.put, List.setIfInBounds_toArray, List.set_cons_zero, List.set_cons_succ, i64_w, i32_w]
          rfl
        refine pure_ (i := 4) (N := some 72) (v := ?_) (a' := ?_) #[false, false, true, true, true, false, false, false, false, false, false, false, false, false, false, false, false, false, false, false, false, false, false, false, false] rfl rfl (by kernel_rfl) (fun _ _ _ h => h) (Or.inl ⟨by rfl, ?_⟩) ?_ ?_
        rotate_left
        · intro w'
          go_simp
          with_reducible rfl
        rotate_left
        · simp only [Act.put, List.setIfInBounds_toArray, List.set_cons_zero, List.set_cons_succ, i64_w, i32_w]
          rfl
        refine take_ (i := 5) (N := some 73) (v := ?_) (a' := ?_) #[false, false, true, true, true, true, false, false, false, false, false, false, false, false, false, false, false, false, false, false, false, false, false, false, false] rfl rfl (by kernel_rfl) (fun _ _ _ h => h) (Or.inl ⟨by rfl, ?_⟩) hHeld ?_ ?_
        rotate_left
        · intro w' s0
          go_simp
          with_reducible rfl
        rotate_left
        · simp only [Act.put, List.setIfInBounds_toArray, List.set_cons_zero, List.set_cons_succ, i64_w, i32_w]
          rfl
        refine one_ (i := 0) (N := some 68) #[true, false, true, true, true, true, false, false, false, false, false, false, false, false, false, false, false, false, false, false, false, false, false, false, false] rfl rfl (by kernel_rfl) (by decide) (fun K hK => ?_)
        rw [if_pos (by rfl)]
        refine wp_load_row 23 _ rfl w.heap.size (by rfl) 23 cs (0, 0) _ HG8.out Try.underlying23 rfl (by rw [info16, HSZ.out]) ?_
        refine hK.out _ _ ((HCV1 _ HG8.out)) (fun hHeld => ?_)
        clear hK K
        refine norm_ (a' := ?_) ?_ ?_
        rotate_left
        · show Act.put _ (some 68) _ = _
          simp only [Act.put, List.setIfInBounds_toArray, List.set_cons_zero, List.set_cons_succ, i64_w, i32_w]
          rfl
        refine one_ (i := 1) (N := some 69) #[true, true, true, true, true, true, false, false, false, false, false, false, false, false, false, false, false, false, false, false, false, false, false, false, false] rfl rfl (by kernel_rfl) (by decide) (fun K hK => ?_)
        refine goes_ Try.func19 (by kernel_rfl) rfl #[.agg cs] (by rfl) rfl rfl (by simp only [List.map_toArray, List.map_cons, List.map_nil]; rfl) ?_
        with_reducible refine (HTx.out _).mono ?_
        rintro e w9 ⟨rfl, hb1⟩
        refine ⟨_, rfl, ?_⟩
        have HG9 : Aside0 (w9.heap[w.heap.size]? = some (.cells cs 23 (0, 0))) := ⟨(hb1.block _ (blk_lt HG8.out)).trans HG8.out⟩
        have HB9 := Aside0.mk (below_step (below_drew1 HB8.out) hb1)
        clear hb1
        refine hK.out _ _ ((HCV1 _ HG9.out)) (fun hHeld => ?_)
        clear hK K
        refine norm_ (a' := ?_) ?_ ?_
        rotate_left
        · show Act.put _ (some 69) _ = _
          simp only [Act.put, List.setIfInBounds_toArray, List.set_cons_zero, List.set_cons_succ, i64_w, i32_w]
          rfl
        refine pure_ (i := 6) (N := some 74) (v := ?_) (a' := ?_) #[true, true, true, true, true, true, true, false, false, false, false, false, false, false, false, false, false, false, false, false, false, false, false, false, false] rfl rfl (by kernel_rfl) (fun _ _ _ h => h) (Or.inl ⟨by rfl, ?_⟩) ?_ ?_
        rotate_left
        · intro w'
          go_simp
          with_reducible rfl
        rotate_left
        · simp only [Act.put, List.setIfInBounds_toArray, List.set_cons_zero, List.set_cons_succ, i64_w, i32_w]
          rfl
        refine pure_ (i := 7) (N := some 75) (v := ?_) (a' := ?_) #[true, true, true, true, true, true, true, true, false, false, false, false, false, false, false, false, false, false, false, false, false, false, false, false, false] rfl rfl (by kernel_rfl) (fun _ _ _ h => h) (Or.inl ⟨by rfl, ?_⟩) ?_ ?_
        rotate_left
        · intro w'
          go_simp
          with_reducible rfl
        rotate_left
        · simp only [Act.put, List.setIfInBounds_toArray, List.set_cons_zero, List.set_cons_succ, i64_w, i32_w]
          rfl
        refine pure_ (i := 10) (N := some 78) (v := ?_) (a' := ?_) #[true, true, true, true, true, true, true, true, false, false, true, false, false, false, false, false, false, false, false, false, false, false, false, false, false] rfl rfl (by kernel_rfl) (fun _ _ _ h => h) (Or.inl ⟨by rfl, ?_⟩) ?_ ?_
        rotate_left
        · intro w'
          go_simp
          with_reducible rfl
        rotate_left
        · simp only [Act.put, List.setIfInBounds_toArray, List.set_cons_zero, List.set_cons_succ, i64_w, i32_w]
          rfl
        refine pure_ (i := 11) (N := some 79) (v := ?_) (a' := ?_) #[true, true, true, true, true, true, true, true, false, false, true, true, false, false, false, false, false, false, false, false, false, false, false, false, false] rfl rfl (by kernel_rfl) (fun _ _ _ h => h) (Or.inl ⟨by rfl, ?_⟩) ?_ ?_
        rotate_left
        · intro w'
          go_simp
          with_reducible rfl
        rotate_left
        · simp only [Act.put, List.setIfInBounds_toArray, List.set_cons_zero, List.set_cons_succ, i64_w, i32_w]
          rfl
        refine pure_ (i := 12) (N := some 80) (v := ?_) (a' := ?_) #[true, true, true, true, true, true, true, true, false, false, true, true, true, false, false, false, false, false, false, false, false, false, false, false, false] rfl rfl (by kernel_rfl) (fun _ _ _ h => h) (Or.inl ⟨by rfl, ?_⟩) ?_ ?_
        rotate_left
        · intro w'
          go_simp
          with_reducible rfl
        rotate_left
        · simp only [Act.put, List.setIfInBounds_toArray, List.set_cons_zero, List.set_cons_succ, i64_w, i32_w]
          rfl
        refine take_ (i := 13) (N := some 81) (v := ?_) (a' := ?_) #[true, true, true, true, true, true, true, true, false, false, true, true, true, true, false, false, false, false, false, false, false, false, false, false, false] rfl rfl (by kernel_rfl) (fun _ _ _ h => h) (Or.inl ⟨by rfl, ?_⟩) hHeld ?_ ?_
        rotate_left
        · intro w' s0
          go_simp
          with_reducible rfl
        rotate_left
        · simp only [Act.put, List.setIfInBounds_toArray, List.set_cons_zero, List.set_cons_succ, i64_w, i32_w]
          rfl
        refine one_ (i := 8) (N := some 76) #[true, true, true, true, true, true, true, true, true, false, true, true, true, true, false, false, false, false, false, false, false, false, false, false, false] rfl rfl (by kernel_rfl) (by decide) (fun K hK => ?_)
        rw [if_pos (by rfl)]
        refine wp_load_row 23 _ rfl w.heap.size (by rfl) 23 cs (0, 0) _ HG9.out Try.underlying23 rfl (by rw [info16, HSZ.out]) ?_
        refine hK.out _ _ ((HCV1 _ HG9.out)) (fun hHeld => ?_)
        clear hK K
        refine norm_ (a' := ?_) ?_ ?_
        rotate_left
        · show Act.put _ (some 76) _ = _
          simp only [Act.put, List.setIfInBounds_toArray, List.set_cons_zero, List.set_cons_succ, i64_w, i32_w]
          rfl
        refine one_ (i := 9) (N := some 77) #[true, true, true, true, true, true, true, true, true, true, true, true, true, true, false, false, false, false, false, false, false, false, false, false, false] rfl rfl (by kernel_rfl) (by decide) (fun K hK => ?_)
        refine goes_ Try.func20 (by kernel_rfl) rfl #[.agg cs] (by rfl) rfl rfl (by simp only [List.map_toArray, List.map_cons, List.map_nil]; rfl) ?_
        with_reducible refine (HPr.out _).mono ?_
        rintro e w10 ⟨rfl, hb1⟩
        refine ⟨_, rfl, ?_⟩
        have HG10 : Aside0 (w10.heap[w.heap.size]? = some (.cells cs 23 (0, 0))) := ⟨(hb1.block _ (blk_lt HG9.out)).trans HG9.out⟩
        have HB10 := Aside0.mk (below_step HB9.out hb1)
        clear hb1
        refine hK.out _ _ ((HCV1 _ HG10.out)) (fun hHeld => ?_)
        clear hK K
        refine norm_ (a' := ?_) ?_ ?_
        rotate_left
        · show Act.put _ (some 77) _ = _
          simp only [Act.put, List.setIfInBounds_toArray, List.set_cons_zero, List.set_cons_succ, i64_w, i32_w]
          rfl
        refine pure_ (i := 14) (N := some 82) (v := ?_) (a' := ?_) #[true, true, true, true, true, true, true, true, true, true, true, true, true, true, true, false, false, false, false, false, false, false, false, false, false] rfl rfl (by kernel_rfl) (fun _ _ _ h => h) (Or.inl ⟨by rfl, ?_⟩) ?_ ?_
        rotate_left
        · intro w'
          go_simp
          with_reducible rfl
        rotate_left
        · simp only [Act.put, List.setIfInBounds_toArray, List.set_cons_zero, List.set_cons_succ, i64_w, i32_w]
          rfl
        refine pure_ (i := 15) (N := some 83) (v := ?_) (a' := ?_) #[true, true, true, true, true, true, true, true, true, true, true, true, true, true, true, true, false, false, false, false, false, false, false, false, false] rfl rfl (by kernel_rfl) (fun _ _ _ h => h) (Or.inl ⟨by rfl, ?_⟩) ?_ ?_
        rotate_left
        · intro w'
          go_simp
          with_reducible rfl
        rotate_left
        · simp only [Act.put, List.setIfInBounds_toArray, List.set_cons_zero, List.set_cons_succ, i64_w, i32_w]
          rfl
        refine pure_ (i := 16) (N := some 84) (v := ?_) (a' := ?_) #[true, true, true, true, true, true, true, true, true, true, true, true, true, true, true, true, true, false, false, false, false, false, false, false, false] rfl rfl (by kernel_rfl) (fun _ _ _ h => h) (Or.inl ⟨by rfl, ?_⟩) ?_ ?_
        rotate_left
        · intro w'
          go_simp
          with_reducible rfl
        rotate_left
        · simp only [Act.put, List.setIfInBounds_toArray, List.set_cons_zero, List.set_cons_succ, i64_w, i32_w]
          rfl
        refine pure_ (i := 17) (N := some 85) (v := ?_) (a' := ?_) #[true, true, true, true, true, true, true, true, true, true, true, true, true, true, true, true, true, true, false, false, false, false, false, false, false] rfl rfl (by kernel_rfl) (fun _ _ _ h => h) (Or.inl ⟨by rfl, ?_⟩) ?_ ?_
        rotate_left
        · intro w'
          go_simp
          with_reducible rfl
        rotate_left
        · simp only [Act.put, List.setIfInBounds_toArray, List.set_cons_zero, List.set_cons_succ, i64_w, i32_w]
          rfl
        refine pure_ (i := 18) (N := some 86) (v := ?_) (a' := ?_) #[true, true, true, true, true, true, true, true, true, true, true, true, true, true, true, true, true, true, true, false, false, false, false, false, false] rfl rfl (by kernel_rfl) (fun _ _ _ h => h) (Or.inl ⟨by rfl, ?_⟩) ?_ ?_
        rotate_left
        · intro w'
          go_simp
          with_reducible rfl
        rotate_left
        · simp only [Act.put, List.setIfInBounds_toArray, List.set_cons_zero, List.set_cons_succ, i64_w, i32_w]
          rfl
        refine pure_ (i := 19) (N := some 87) (v := ?_) (a' := ?_) #[true, true, true, true, true, true, true, true, true, true, true, true, true, true, true, true, true, true, true, true, false, false, false, false, false] rfl rfl (by kernel_rfl) (fun _ _ _ h => h) (Or.inl ⟨by rfl, ?_⟩) ?_ ?_
        rotate_left
        · intro w'
          go_simp
          with_reducible rfl
        rotate_left
        · simp only [Act.put, List.setIfInBounds_toArray, List.set_cons_zero, List.set_cons_succ, i64_w, i32_w]
          rfl
        refine pure_ (i := 20) (N := some 88) (v := ?_) (a' := ?_) #[true, true, true, true, true, true, true, true, true, true, true, true, true, true, true, true, true, true, true, true, true, false, false, false, false] rfl rfl (by kernel_rfl) (fun _ _ _ h => h) (Or.inl ⟨by rfl, ?_⟩) ?_ ?_
        rotate_left
        · intro w'
          go_simp
          with_reducible rfl
        rotate_left
        · simp only [Act.put, List.setIfInBounds_toArray, List.set_cons_zero, List.set_cons_succ, i64_w, i32_w]
          rfl
        refine pure_ (i := 21) (N := some 89) (v := ?_) (a' := ?_) #[true, true, true, true, true, true, true, true, true, true, true, true, true, true, true, true, true, true, true, true, true, true, false, false, false] rfl rfl (by kernel_rfl) (fun _ _ _ h => h) (Or.inl ⟨by rfl, ?_⟩) ?_ ?_
        rotate_left
        · intro w'
          go_simp
          with_reducible rfl
        rotate_left
        · simp only [Act.put, List.setIfInBounds_toArray, List.set_cons_zero, List.set_cons_succ, i64_w, i32_w]
          rfl
        refine pure_ (i := 22) (N := some 90) (v := ?_) (a' := ?_) #[true, true, true, true, true, true, true, true, true, true, true, true, true, true, true, true, true, true, true, true, true, true, true, false, false] rfl rfl (by kernel_rfl) (fun _ _ _ h => h) (Or.inl ⟨by rfl, ?_⟩) ?_ ?_
        rotate_left
        · intro w'
          go_simp
          with_reducible rfl
        rotate_left
        · simp only [Act.put, List.setIfInBounds_toArray, List.set_cons_zero, List.set_cons_succ, i64_w, i32_w]
          rfl
        refine pure_ (i := 23) (N := some 91) (v := ?_) (a' := ?_) #[true, true, true, true, true, true, true, true, true, true, true, true, true, true, true, true, true, true, true, true, true, true, true, true, false] rfl rfl (by kernel_rfl) (fun _ _ _ h => h) (Or.inl ⟨by rfl, ?_⟩) ?_ ?_
        rotate_left
        · intro w'
          go_simp
          with_reducible rfl
        rotate_left
        · simp only [Act.put, List.setIfInBounds_toArray, List.set_cons_zero, List.set_cons_succ, i64_w, i32_w]
          rfl
        refine pure_ (i := 24) (N := some 2) (v := ?_) (a' := ?_) #[true, true, true, true, true, true, true, true, true, true, true, true, true, true, true, true, true, true, true, true, true, true, true, true, true] rfl rfl (by kernel_rfl) (fun _ _ _ h => h) (Or.inl ⟨by rfl, ?_⟩) ?_ ?_
        rotate_left
        · intro w'
          go_simp
          with_reducible rfl
        rotate_left
        · simp only [Act.put, List.setIfInBounds_toArray, List.set_cons_zero, List.set_cons_succ, i64_w, i32_w]
          rfl
        refine done_ (by kernel_rfl) ?_
        go_wp2
        go_ret
        exact ⟨rfl, by repeat (first | exact HB10.out | apply below_alloc | apply pw_below_drewN | apply below_drew1)⟩
    | succ k1 =>
      have hi16 : (i : Int) < 16 := by have := HI.out; omega
      have hi16n : i < 16 := by have := HI.out; omega
      have h16d : decide ((i : Int) < 16) = true := decide_eq_true hi16
      have h16e : decide (i < 16) = true := decide_eq_true hi16n
      have hwi : wrap64 ((i : Int) + 1) = ((i + 1 : Nat) : Int) := by rw [ww _ (by omega) (by omega)]; omega
      have hz := zr_step a n i HJ.out (by rw [HA.out]; exact hi16n)
      have hx := blk_cell HG2.out i
      rw [HCS.out, cel_get a i (by rw [HA.out]; exact hi16n)] at hx
      generalize a[i]'(by rw [HA.out]; exact hi16n) = x at hz hx
      have HZ := Aside0.mk hz
      clear hz
      obtain ⟨r, hr⟩ : ∃ r, zr a n i = r := ⟨_, rfl⟩
      rw [hr] at HZ ⊢
      cases r with
      | false =>
        go_wp2_with fail
        go_roundg k1
        case measure => omega
        case rel => exact ⟨i + 1, congrArg (Value.int .i64) (by omega), by rw [HZ.out]; rfl, ⟨by have := HI.out; omega⟩, ⟨by have := HJ.out; omega⟩, HG2, HB2⟩
      | true =>
        go_wp2_with fail
        go_roundg k1
        case measure => omega
        case rel => exact ⟨i + 1, congrArg (Value.int .i64) (by omega), by rw [HZ.out]; rfl, ⟨by have := HI.out; omega⟩, ⟨by have := HJ.out; omega⟩, HG2, HB2⟩
set_option maxHeartbeats 8000000 in
set_option maxRecDepth 100000 in
theorem ViewRights_mid (a : List Int) (w : World) (ha : a.length = 16) (hb : isB a) (h : le4v a ≤ 12) (h2 : 4 < le4v a) :
    Calls Try.prog 4 #[.agg (cel a)] w fun e w' => e = .returned (.bool true) ∧ Below w.heap.size w w' := by
  have HN0 := Aside0.mk (fun w => law_number0 a w ha hb)
  have HN8 := Aside0.mk (fun w => law_number8 a w ha hb)
  have HN12 := Aside0.mk (fun w => law_number12 a w ha hb)
  have HRt := Aside0.mk (fun w => view_Right.calls a w ha hb)
  have HLn := Aside0.mk (fun w => view_Len.calls a w ha hb)
  have HSh := Aside0.mk (fun w => view_Short.calls a w ha hb)
  have HTx := Aside0.mk (fun w => view_Text.calls a w ha hb)
  have HPr := Aside0.mk (fun w => view_Prefix.calls a w ha hb)
  have HPl := Aside0.mk (fun w => view_Place.calls a w ha hb)
  have hbd := le4v_bd a hb (by omega)
  have hbd8 := le4v_bd (a.drop 8) (isB_drop hb 8) (by simp; omega)
  have hbd12 := le4v_bd (a.drop 12) (isB_drop hb 12) (by simp; omega)
  rw [List.drop_zero] at HN0
  obtain ⟨n, hne⟩ : ∃ n : Nat, le4v a = (n : Int) := ⟨(le4v a).toNat, by omega⟩
  obtain ⟨p8, hp8⟩ : ∃ p, p = le4v (a.drop 8) := ⟨_, rfl⟩
  obtain ⟨p12, hp12⟩ : ∃ p, p = le4v (a.drop 12) := ⟨_, rfl⟩
  rw [← hp8] at HN8 hbd8
  rw [← hp12] at HN12 hbd12
  rw [← hp8, ← hp12] at HPl
  rw [hne] at HN0 HLn HSh HTx HPr HPl hbd
  have hrt := short_r a n hb ha hne (by omega)
  rw [hrt] at HRt
  rw [hne] at h
  rw [hne] at h2
  obtain ⟨P1, hP1⟩ : ∃ s, s = strOfNums ((a.drop 4).take n) := ⟨_, rfl⟩
  rw [if_pos (by omega), Int.toNat_natCast, ← hP1] at HTx
  rw [if_pos (by omega), if_pos (by omega)] at HPl
  obtain ⟨P2, hP2⟩ : ∃ s, s = strOfNums ((a.drop 4).take 4) := ⟨_, rfl⟩
  rw [if_neg (by omega), ← hP2] at HPr
  have t1a : decide ((n : Int) ≤ 4096) = true := decide_eq_true (by omega)
  have t1b : decide (n ≤ 4096) = true := decide_eq_true (by omega)
  have t2a : decide ((n : Int) ≤ 12) = true := decide_eq_true (by omega)
  have t2b : decide (n ≤ 12) = true := decide_eq_true (by omega)
  have t5 : decide ((4 : Int) < (n : Int)) = true := decide_eq_true (by omega)
  have t6 : decide (4 < n) = true := decide_eq_true (by omega)
  rw [t2a] at HSh
  have hw4 : wrap64 (4 + (n : Int)) = 4 + (n : Int) := ww _ (by omega) (by omega)
  have hw8 : wrap64 8 = 8 := ww _ (by decide) (by decide)
  have hcut := cut16 w.heap.size n (by omega)
  have HN := Aside0.mk (show n ≤ 12 by omega)
  have HA := Aside0.mk ha
  obtain ⟨cs, hcs⟩ : ∃ cs, cs = cel a := ⟨_, rfl⟩
  rw [← hcs] at HN0 HN8 HN12 HRt HLn HSh HTx HPr HPl ⊢
  have HCS := Aside0.mk hcs
  have HSZ : Aside0 (cs.size = 16) := ⟨by rw [hcs, cel_size, ha]⟩
  have HG := Aside0.mk (blk_new w (.cells cs 23))
  have HB := Aside0.mk (below_alloc (Below.refl w.heap.size w) (.cells cs 23))
  clear hcs
  have HCV1 : ∀ W : World, W.heap[w.heap.size]? = some (.cells cs 23 (0, 0)) → (convert 27 9 (.slice (some ⟨w.heap.size, 4, none⟩) n 12)).run Try.prog W = .ok (.string P1) W := fun W hW => by
    have hC := C_blk (a := a) (by rw [← HCS.out]; exact hW) 4 (by omega) (by omega)
    have hC2 := Kd.C_take (m := n) hC (by simp; omega)
    have hcs := Kd.C_string (P := Try.prog) (c := 12) Try.underlying27 Try.underlying5 Try.underlying9 hC2
    rw [show ((a.drop 4).take n).length = n by simp; omega] at hcs
    rw [hcs, hP1]
  have HCV2 : ∀ W : World, W.heap[w.heap.size]? = some (.cells cs 23 (0, 0)) → (convert 27 9 (.slice (some ⟨w.heap.size, 4, none⟩) 4 12)).run Try.prog W = .ok (.string P2) W := fun W hW => by
    have hC := C_blk (a := a) (by rw [← HCS.out]; exact hW) 4 (by omega) (by omega)
    have hC2 := Kd.C_take (m := 4) hC (by simp; omega)
    have hcs := Kd.C_string (P := Try.prog) (c := 12) Try.underlying27 Try.underlying5 Try.underlying9 hC2
    rw [show ((a.drop 4).take 4).length = 4 by simp; omega] at hcs
    rw [hcs, hP2]
  clear h h2 hrt hbd hbd8 hbd12 hne hp8 hp12 hP1 hP2 ha hb
  have HCW1 := Aside0.mk HCV1
  clear HCV1
  have HCW2 := Aside0.mk HCV2
  clear HCV2
  go_enter Try.func4, Try.ntmps4
  go_wp2_with fail
  refine (law6_awake _).mono ?_
  rintro e w1 ⟨rfl, hb1⟩
  have HG1 := Aside0.mk ((hb1.block _ (blk_lt HG.out)).trans HG.out)
  have HB1 := Aside0.mk (below_step HB.out hb1)
  clear HB HG hb1
  go_wp2_with (first | ((with_reducible refine gate_dst (N := 11) rfl ?_); refine wpList_load_row rfl 23 _ rfl w.heap.size (by rfl) 23 cs (0, 0) _ HG1.out Try.underlying23 rfl (by rw [info16, HSZ.out]) ?_))
  refine (HN0.out _).mono ?_
  rintro e w2 ⟨rfl, hb1⟩
  have HG2 := Aside0.mk ((hb1.block _ (blk_lt HG1.out)).trans HG1.out)
  have HB2 := Aside0.mk (below_step HB1.out hb1)
  clear HB1 HG1 hb1
  go_wp2_with fail
  obtain ⟨K, hK⟩ : ∃ K : Nat, K = 12 - n := ⟨_, rfl⟩
  have HK := Aside0.mk hK
  clear hK
  go_loopg [4, 5] (K : Nat) (fun kq v4 v5 w' => ∃ i : Nat, v5 = .int .i64 (i : Int) ∧ v4 = .bool (zr a n i) ∧ Aside0 (i + kq = 16) ∧ Aside0 (4 + n ≤ i) ∧ Aside0 (w'.heap[w.heap.size]? = some (.cells cs 23 (0, 0))) ∧ Aside0 (Below w.heap.size w w'))
  case atStart => exact ⟨4 + n, congrArg (Value.int .i64) (by rw [hw4]; omega), by rw [zr_0], ⟨by have := HK.out; have := HN.out; omega⟩, ⟨by omega⟩, HG2, HB2⟩
  case round =>
    clear HG2 HB2 HK
    obtain ⟨i, rfl, rfl, HI, HJ, HG2, HB2⟩ := hrel
    cases gk with
    | zero =>
      obtain rfl : i = 16 := by have := HI.out; omega
      obtain ⟨r, hr⟩ : ∃ r, zr a n 16 = r := ⟨_, rfl⟩
      rw [hr] at HRt ⊢
      clear hr HI HJ
      cases r with
      | false =>
        go_wp2_with (first | ((with_reducible refine gate_dst (N := 41) rfl ?_); refine wpList_load_row rfl 23 _ rfl w.heap.size (by rfl) 23 cs (0, 0) _ HG2.out Try.underlying23 rfl (by rw [info16, HSZ.out]) ?_))
        refine (HRt.out _).mono ?_
        rintro e w3 ⟨rfl, hb1⟩
        have HG3 := Aside0.mk ((hb1.block _ (blk_lt HG2.out)).trans HG2.out)
        have HB3 := Aside0.mk (below_step HB2.out hb1)
        clear HB2 HG2 hb1
        go_wp2_with fail
        go_ret
        exact ⟨rfl, HB3.out⟩
      | true =>
        go_wp2_with (first | ((with_reducible refine gate_dst (N := 41) rfl ?_); refine wpList_load_row rfl 23 _ rfl w.heap.size (by rfl) 23 cs (0, 0) _ HG2.out Try.underlying23 rfl (by rw [info16, HSZ.out]) ?_))
        refine (HRt.out _).mono ?_
        rintro e w5 ⟨rfl, hb1⟩
        have HG5 := Aside0.mk ((hb1.block _ (blk_lt HG2.out)).trans HG2.out)
        have HB5 := Aside0.mk (below_step HB2.out hb1)
        clear HB2 HG2 hb1
        go_wp2_with (first | ((with_reducible refine gate_dst (N := 48) rfl ?_); refine wpList_load_row rfl 23 _ rfl w.heap.size (by rfl) 23 cs (0, 0) _ HG5.out Try.underlying23 rfl (by rw [info16, HSZ.out]) ?_))
        refine (HPl.out _).mono ?_
        rintro e w6 ⟨rfl, hb1⟩
        have HG6 := Aside0.mk ((hb1.block _ (blk_lt HG5.out)).trans HG5.out)
        have HB6 := Aside0.mk (below_step HB5.out hb1)
        clear HB5 HG5 hb1
        go_wp2_with (first | ((with_reducible refine gate_dst (N := 52) rfl ?_); refine wpList_load_row rfl 23 _ rfl w.heap.size (by rfl) 23 cs (0, 0) _ HG6.out Try.underlying23 rfl (by rw [info16, HSZ.out]) ?_))
        refine (HLn.out _).mono ?_
        rintro e w7 ⟨rfl, hb1⟩
        have HG7 := Aside0.mk ((hb1.block _ (blk_lt HG6.out)).trans HG6.out)
        have HB7 := Aside0.mk (below_step HB6.out hb1)
        clear HB6 HG6 hb1
        go_wp2_with (first | ((with_reducible refine gate_dst (N := 57) rfl ?_); refine Go.BigFrame.wpList_want ?hw (fun K hK => ?_); (case hw => rfl); refine wp_load_row 23 _ rfl w.heap.size ?hx 23 cs (0, 0) _ HG7.out Try.underlying23 rfl ?hi ?_; (case hx => rfl); (case hi => rw [info16, HSZ.out]); refine hK _ _ ?_; clear hK K))
        refine (HSh.out _).mono ?_
        rintro e w8 ⟨rfl, hb1⟩
        have HG8 := Aside0.mk ((hb1.block _ (blk_lt HG7.out)).trans HG7.out)
        have HB8 := Aside0.mk (below_step HB7.out hb1)
        clear HB7 HG7 hb1
        go_wp2_with fail
        have HCV1 := HCW1.out
        clear HCW1
        have HCV2 := HCW2.out
        clear HCW2
        refine start_ (n := 25) (S := fun w' => (convert 27 9 (.slice (some ⟨w.heap.size, 4, none⟩) n 12)).run Try.prog w' = .ok (.string P1) w' ∧ (convert 27 9 (.slice (some ⟨w.heap.size, 4, none⟩) 4 12)).run Try.prog w' = .ok (.string P2) w') (ds := []) #[false, false, false, false, false, false, false, false, false, false, false, false, false, false, false, false, false, false, false, false, false, false, false, false, false] (by kernel_rfl) rfl rfl ⟨(HCV1 _ HG8.out), (HCV2 _ HG8.out)⟩ (fun hHeld => ?_)
        refine pure_ (i := 2) (N := some 70) (v := ?_) (a' := ?_) #[false, false, true, false, false, false, false, false, false, false, false, false, false, false, false, false, false, false, false, false, false, false, false, false, false] rfl rfl (by kernel_rfl) (fun _ _ _ h => h) (Or.inl ⟨by rfl, ?_⟩) ?_ ?_
        rotate_left
        · intro w'
          go_simp
          with_reducible rfl
        rotate_left
        · simp only [Act.put, List.setIfInBounds_toArray, List.set_cons_zero, List.set_cons_succ, i64_w, i32_w]
          rfl
        refine pure_ (i := 3) (N := some 71) (v := ?_) (a' := ?_) #[false, false, true, true, false, false, false, false, false, false, false, false, false, false, false, false, false, false, false, false, false, false, false, false, false] rfl rfl (by kernel_rfl) (fun _ _ _ h => h) (Or.inl ⟨by rfl, ?_⟩) ?_ ?_
        rotate_left
        · intro w'
          go_simp
          with_reducible rfl
        rotate_left
        · simp only [Act.put, List.setIfInBounds_toArray, List.set_cons_zero, List.set_cons_succ, i64_w, i32_w]
          rfl
        refine pure_ (i := 4) (N := some 72) (v := ?_) (a' := ?_) #[false, false, true, true, true, false, false, false, false, false, false, false, false, false, false, false, false, false, false, false, false, false, false, false, false] rfl rfl (by kernel_rfl) (fun _ _ _ h => h) (Or.inl ⟨by rfl, ?_⟩) ?_ ?_
        rotate_left
        · intro w'
          go_simp
          with_reducible rfl
        rotate_left
        · simp only [Act.put, List.setIfInBounds_toArray, List.set_cons_zero, List.set_cons_succ, i64_w, i32_w]
          rfl
        refine take_ (i := 5) (N := some 73) (v := ?_) (a' := ?_) #[false, false, true, true, true, true, false, false, false, false, false, false, false, false, false, false, false, false, false, false, false, false, false, false, false] rfl rfl (by kernel_rfl) (fun _ _ _ h => h) (Or.inl ⟨by rfl, ?_⟩) hHeld ?_ ?_
        rotate_left
        · rintro w' ⟨s0, s1⟩
          go_simp
          with_reducible rfl
        rotate_left
        · simp only [Act.put, List.setIfInBounds_toArray, List.set_cons_zero, List.set_cons_succ, i64_w, i32_w]
          rfl
        refine one_ (i := 0) (N := some 68) #[true, false, true, true, true, true, false, false, false, false, false, false, false, false, false, false, false, false, false, false, false, false, false, false, false] rfl rfl (by kernel_rfl) (by decide) (fun K hK => ?_)
        rw [if_pos (by rfl)]
        refine wp_load_row 23 _ rfl w.heap.size (by rfl) 23 cs (0, 0) _ HG8.out Try.underlying23 rfl (by rw [info16, HSZ.out]) ?_
        refine hK.out _ _ ⟨(HCV1 _ HG8.out), (HCV2 _ HG8.out)⟩ (fun hHeld => ?_)
        clear hK K
        refine norm_ (a' := ?_) ?_ ?_
        rotate_left
        · show Act.put _ (some 68) _ = _
          simp only [Act.put, List.setIfInBounds_toArray, List.set_cons_zero, List.set_cons_succ, i64_w, i32_w]
          rfl
        refine one_ (i := 1) (N := some 69) #[true, true, true, true, true, true, false, false, false, false, false, false, false, false, false, false, false, false, false, false, false, false, false, false, false] rfl rfl (by kernel_rfl) (by decide) (fun K hK => ?_)
        refine goes_ Try.func19 (by kernel_rfl) rfl #[.agg cs] (by rfl) rfl rfl (by simp only [List.map_toArray, List.map_cons, List.map_nil]; rfl) ?_
        with_reducible refine (HTx.out _).mono ?_
        rintro e w9 ⟨rfl, hb1⟩
        refine ⟨_, rfl, ?_⟩
        have HG9 : Aside0 (w9.heap[w.heap.size]? = some (.cells cs 23 (0, 0))) := ⟨(hb1.block _ (blk_lt HG8.out)).trans HG8.out⟩
        have HB9 := Aside0.mk (below_step (below_drew1 HB8.out) hb1)
        clear hb1
        refine hK.out _ _ ⟨(HCV1 _ HG9.out), (HCV2 _ HG9.out)⟩ (fun hHeld => ?_)
        clear hK K
        refine norm_ (a' := ?_) ?_ ?_
        rotate_left
        · show Act.put _ (some 69) _ = _
          simp only [Act.put, List.setIfInBounds_toArray, List.set_cons_zero, List.set_cons_succ, i64_w, i32_w]
          rfl
        refine pure_ (i := 6) (N := some 74) (v := ?_) (a' := ?_) #[true, true, true, true, true, true, true, false, false, false, false, false, false, false, false, false, false, false, false, false, false, false, false, false, false] rfl rfl (by kernel_rfl) (fun _ _ _ h => h) (Or.inl ⟨by rfl, ?_⟩) ?_ ?_
        rotate_left
        · intro w'
          go_simp
          with_reducible rfl
        rotate_left
        · simp only [Act.put, List.setIfInBounds_toArray, List.set_cons_zero, List.set_cons_succ, i64_w, i32_w]
          rfl
        refine pure_ (i := 7) (N := some 75) (v := ?_) (a' := ?_) #[true, true, true, true, true, true, true, true, false, false, false, false, false, false, false, false, false, false, false, false, false, false, false, false, false] rfl rfl (by kernel_rfl) (fun _ _ _ h => h) (Or.inl ⟨by rfl, ?_⟩) ?_ ?_
        rotate_left
        · intro w'
          go_simp
          with_reducible rfl
        rotate_left
        · simp only [Act.put, List.setIfInBounds_toArray, List.set_cons_zero, List.set_cons_succ, i64_w, i32_w]
          rfl
        refine pure_ (i := 10) (N := some 78) (v := ?_) (a' := ?_) #[true, true, true, true, true, true, true, true, false, false, true, false, false, false, false, false, false, false, false, false, false, false, false, false, false] rfl rfl (by kernel_rfl) (fun _ _ _ h => h) (Or.inl ⟨by rfl, ?_⟩) ?_ ?_
        rotate_left
        · intro w'
          go_simp
          with_reducible rfl
        rotate_left
        · simp only [Act.put, List.setIfInBounds_toArray, List.set_cons_zero, List.set_cons_succ, i64_w, i32_w]
          rfl
        refine pure_ (i := 11) (N := some 79) (v := ?_) (a' := ?_) #[true, true, true, true, true, true, true, true, false, false, true, true, false, false, false, false, false, false, false, false, false, false, false, false, false] rfl rfl (by kernel_rfl) (fun _ _ _ h => h) (Or.inl ⟨by rfl, ?_⟩) ?_ ?_
        rotate_left
        · intro w'
          go_simp
          with_reducible rfl
        rotate_left
        · simp only [Act.put, List.setIfInBounds_toArray, List.set_cons_zero, List.set_cons_succ, i64_w, i32_w]
          rfl
        refine pure_ (i := 12) (N := some 80) (v := ?_) (a' := ?_) #[true, true, true, true, true, true, true, true, false, false, true, true, true, false, false, false, false, false, false, false, false, false, false, false, false] rfl rfl (by kernel_rfl) (fun _ _ _ h => h) (Or.inl ⟨by rfl, ?_⟩) ?_ ?_
        rotate_left
        · intro w'
          go_simp
          with_reducible rfl
        rotate_left
        · simp only [Act.put, List.setIfInBounds_toArray, List.set_cons_zero, List.set_cons_succ, i64_w, i32_w]
          rfl
        refine take_ (i := 13) (N := some 81) (v := ?_) (a' := ?_) #[true, true, true, true, true, true, true, true, false, false, true, true, true, true, false, false, false, false, false, false, false, false, false, false, false] rfl rfl (by kernel_rfl) (fun _ _ _ h => h) (Or.inl ⟨by rfl, ?_⟩) hHeld ?_ ?_
        rotate_left
        · rintro w' ⟨s0, s1⟩
          go_simp
          with_reducible rfl
        rotate_left
        · simp only [Act.put, List.setIfInBounds_toArray, List.set_cons_zero, List.set_cons_succ, i64_w, i32_w]
          rfl
        refine one_ (i := 8) (N := some 76) #[true, true, true, true, true, true, true, true, true, false, true, true, true, true, false, false, false, false, false, false, false, false, false, false, false] rfl rfl (by kernel_rfl) (by decide) (fun K hK => ?_)
        rw [if_pos (by rfl)]
        refine wp_load_row 23 _ rfl w.heap.size (by rfl) 23 cs (0, 0) _ HG9.out Try.underlying23 rfl (by rw [info16, HSZ.out]) ?_
        refine hK.out _ _ ⟨(HCV1 _ HG9.out), (HCV2 _ HG9.out)⟩ (fun hHeld => ?_)
        clear hK K
        refine norm_ (a' := ?_) ?_ ?_
        rotate_left
        · show Act.put _ (some 76) _ = _
          simp only [Act.put, List.setIfInBounds_toArray, List.set_cons_zero, List.set_cons_succ, i64_w, i32_w]
          rfl
        refine one_ (i := 9) (N := some 77) #[true, true, true, true, true, true, true, true, true, true, true, true, true, true, false, false, false, false, false, false, false, false, false, false, false] rfl rfl (by kernel_rfl) (by decide) (fun K hK => ?_)
        refine goes_ Try.func20 (by kernel_rfl) rfl #[.agg cs] (by rfl) rfl rfl (by simp only [List.map_toArray, List.map_cons, List.map_nil]; rfl) ?_
        with_reducible refine (HPr.out _).mono ?_
        rintro e w10 ⟨rfl, hb1⟩
        refine ⟨_, rfl, ?_⟩
        have HG10 : Aside0 (w10.heap[w.heap.size]? = some (.cells cs 23 (0, 0))) := ⟨(hb1.block _ (blk_lt HG9.out)).trans HG9.out⟩
        have HB10 := Aside0.mk (below_step HB9.out hb1)
        clear hb1
        refine hK.out _ _ ⟨(HCV1 _ HG10.out), (HCV2 _ HG10.out)⟩ (fun hHeld => ?_)
        clear hK K
        refine norm_ (a' := ?_) ?_ ?_
        rotate_left
        · show Act.put _ (some 77) _ = _
          simp only [Act.put, List.setIfInBounds_toArray, List.set_cons_zero, List.set_cons_succ, i64_w, i32_w]
          rfl
        refine pure_ (i := 14) (N := some 82) (v := ?_) (a' := ?_) #[true, true, true, true, true, true, true, true, true, true, true, true, true, true, true, false, false, false, false, false, false, false, false, false, false] rfl rfl (by kernel_rfl) (fun _ _ _ h => h) (Or.inl ⟨by rfl, ?_⟩) ?_ ?_
        rotate_left
        · intro w'
          go_simp
          with_reducible rfl
        rotate_left
        · simp only [Act.put, List.setIfInBounds_toArray, List.set_cons_zero, List.set_cons_succ, i64_w, i32_w]
          rfl
        refine pure_ (i := 15) (N := some 83) (v := ?_) (a' := ?_) #[true, true, true, true, true, true, true, true, true, true, true, true, true, true, true, true, false, false, false, false, false, false, false, false, false] rfl rfl (by kernel_rfl) (fun _ _ _ h => h) (Or.inl ⟨by rfl, ?_⟩) ?_ ?_
        rotate_left
        · intro w'
          go_simp
          with_reducible rfl
        rotate_left
        · simp only [Act.put, List.setIfInBounds_toArray, List.set_cons_zero, List.set_cons_succ, i64_w, i32_w]
          rfl
        refine pure_ (i := 16) (N := some 84) (v := ?_) (a' := ?_) #[true, true, true, true, true, true, true, true, true, true, true, true, true, true, true, true, true, false, false, false, false, false, false, false, false] rfl rfl (by kernel_rfl) (fun _ _ _ h => h) (Or.inl ⟨by rfl, ?_⟩) ?_ ?_
        rotate_left
        · intro w'
          go_simp
          with_reducible rfl
        rotate_left
        · simp only [Act.put, List.setIfInBounds_toArray, List.set_cons_zero, List.set_cons_succ, i64_w, i32_w]
          rfl
        refine pure_ (i := 17) (N := some 85) (v := ?_) (a' := ?_) #[true, true, true, true, true, true, true, true, true, true, true, true, true, true, true, true, true, true, false, false, false, false, false, false, false] rfl rfl (by kernel_rfl) (fun _ _ _ h => h) (Or.inl ⟨by rfl, ?_⟩) ?_ ?_
        rotate_left
        · intro w'
          go_simp
          with_reducible rfl
        rotate_left
        · simp only [Act.put, List.setIfInBounds_toArray, List.set_cons_zero, List.set_cons_succ, i64_w, i32_w]
          rfl
        refine pure_ (i := 18) (N := some 86) (v := ?_) (a' := ?_) #[true, true, true, true, true, true, true, true, true, true, true, true, true, true, true, true, true, true, true, false, false, false, false, false, false] rfl rfl (by kernel_rfl) (fun _ _ _ h => h) (Or.inl ⟨by rfl, ?_⟩) ?_ ?_
        rotate_left
        · intro w'
          go_simp
          with_reducible rfl
        rotate_left
        · simp only [Act.put, List.setIfInBounds_toArray, List.set_cons_zero, List.set_cons_succ, i64_w, i32_w]
          rfl
        refine pure_ (i := 19) (N := some 87) (v := ?_) (a' := ?_) #[true, true, true, true, true, true, true, true, true, true, true, true, true, true, true, true, true, true, true, true, false, false, false, false, false] rfl rfl (by kernel_rfl) (fun _ _ _ h => h) (Or.inl ⟨by rfl, ?_⟩) ?_ ?_
        rotate_left
        · intro w'
          go_simp
          with_reducible rfl
        rotate_left
        · simp only [Act.put, List.setIfInBounds_toArray, List.set_cons_zero, List.set_cons_succ, i64_w, i32_w]
          rfl
        refine pure_ (i := 20) (N := some 88) (v := ?_) (a' := ?_) #[true, true, true, true, true, true, true, true, true, true, true, true, true, true, true, true, true, true, true, true, true, false, false, false, false] rfl rfl (by kernel_rfl) (fun _ _ _ h => h) (Or.inl ⟨by rfl, ?_⟩) ?_ ?_
        rotate_left
        · intro w'
          go_simp
          with_reducible rfl
        rotate_left
        · simp only [Act.put, List.setIfInBounds_toArray, List.set_cons_zero, List.set_cons_succ, i64_w, i32_w]
          rfl
        refine pure_ (i := 21) (N := some 89) (v := ?_) (a' := ?_) #[true, true, true, true, true, true, true, true, true, true, true, true, true, true, true, true, true, true, true, true, true, true, false, false, false] rfl rfl (by kernel_rfl) (fun _ _ _ h => h) (Or.inl ⟨by rfl, ?_⟩) ?_ ?_
        rotate_left
        · intro w'
          go_simp
          with_reducible rfl
        rotate_left
        · simp only [Act.put, List.setIfInBounds_toArray, List.set_cons_zero, List.set_cons_succ, i64_w, i32_w]
          rfl
        refine pure_ (i := 22) (N := some 90) (v := ?_) (a' := ?_) #[true, true, true, true, true, true, true, true, true, true, true, true, true, true, true, true, true, true, true, true, true, true, true, false, false] rfl rfl (by kernel_rfl) (fun _ _ _ h => h) (Or.inl ⟨by rfl, ?_⟩) ?_ ?_
        rotate_left
        · intro w'
          go_simp
          with_reducible rfl
        rotate_left
        · simp only [Act.put, List.setIfInBounds_toArray, List.set_cons_zero, List.set_cons_succ, i64_w, i32_w]
          rfl
        refine pure_ (i := 23) (N := some 91) (v := ?_) (a' := ?_) #[true, true, true, true, true, true, true, true, true, true, true, true, true, true, true, true, true, true, true, true, true, true, true, true, false] rfl rfl (by kernel_rfl) (fun _ _ _ h => h) (Or.inl ⟨by rfl, ?_⟩) ?_ ?_
        rotate_left
        · intro w'
          go_simp
          with_reducible rfl
        rotate_left
        · simp only [Act.put, List.setIfInBounds_toArray, List.set_cons_zero, List.set_cons_succ, i64_w, i32_w]
          rfl
        refine pure_ (i := 24) (N := some 2) (v := ?_) (a' := ?_) #[true, true, true, true, true, true, true, true, true, true, true, true, true, true, true, true, true, true, true, true, true, true, true, true, true] rfl rfl (by kernel_rfl) (fun _ _ _ h => h) (Or.inl ⟨by rfl, ?_⟩) ?_ ?_
        rotate_left
        · intro w'
          go_simp
          with_reducible rfl
        rotate_left
        · simp only [Act.put, List.setIfInBounds_toArray, List.set_cons_zero, List.set_cons_succ, i64_w, i32_w]
          rfl
        refine done_ (by kernel_rfl) ?_
        go_wp2
        go_ret
        exact ⟨rfl, by repeat (first | exact HB10.out | apply below_alloc | apply pw_below_drewN | apply below_drew1)⟩
    | succ k1 =>
      have hi16 : (i : Int) < 16 := by have := HI.out; omega
      have hi16n : i < 16 := by have := HI.out; omega
      have h16d : decide ((i : Int) < 16) = true := decide_eq_true hi16
      have h16e : decide (i < 16) = true := decide_eq_true hi16n
      have hwi : wrap64 ((i : Int) + 1) = ((i + 1 : Nat) : Int) := by rw [ww _ (by omega) (by omega)]; omega
      have hz := zr_step a n i HJ.out (by rw [HA.out]; exact hi16n)
      have hx := blk_cell HG2.out i
      rw [HCS.out, cel_get a i (by rw [HA.out]; exact hi16n)] at hx
      generalize a[i]'(by rw [HA.out]; exact hi16n) = x at hz hx
      have HZ := Aside0.mk hz
      clear hz
      obtain ⟨r, hr⟩ : ∃ r, zr a n i = r := ⟨_, rfl⟩
      rw [hr] at HZ ⊢
      cases r with
      | false =>
        go_wp2_with fail
        go_roundg k1
        case measure => omega
        case rel => exact ⟨i + 1, congrArg (Value.int .i64) (by omega), by rw [HZ.out]; rfl, ⟨by have := HI.out; omega⟩, ⟨by have := HJ.out; omega⟩, HG2, HB2⟩
      | true =>
        go_wp2_with fail
        go_roundg k1
        case measure => omega
        case rel => exact ⟨i + 1, congrArg (Value.int .i64) (by omega), by rw [HZ.out]; rfl, ⟨by have := HI.out; omega⟩, ⟨by have := HJ.out; omega⟩, HG2, HB2⟩
theorem ViewRights (a : List Int) (w : World) (ha : a.length = 16) (hb : isB a) :
    Calls Try.prog 4 #[.agg (cel a)] w fun e w' => e = .returned (.bool true) ∧ Below w.heap.size w w' := by
  by_cases h1 : le4v a ≤ 4
  · exact ViewRights_low a w ha hb h1
  by_cases h2 : le4v a ≤ 12
  · exact ViewRights_mid a w ha hb h2 (by omega)
  by_cases h3 : 4096 < le4v a
  · exact ViewRights_big a w ha hb h3
  by_cases h4 : 65535 < le4v (a.drop 8)
  · exact ViewRights_far8 a w ha hb (by omega) (by omega) h4
  by_cases h5 : 65536 < le4v (a.drop 12)
  · exact ViewRights_far12 a w ha hb (by omega) (by omega) (by omega) h5
  exact ViewRights_far a w ha hb (by omega) (by omega) (by omega) (by omega)
end Go.Proofs.Ytmedgpchmkmifaa.HW
