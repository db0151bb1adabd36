/- view.Right, walked. -/
import Derived.Test.YtpbplflocdhahaaViewB
import Derived.ChangeKeysEq
set_option linter.unusedVariables false
set_option linter.unusedSimpArgs false
namespace Go.Proofs.Ytpbplflocdhahaa.HW
open Go.RowKit Go.Proofs.Ytpbplflocdhahaa.P Go.Proofs.Ytpbplflocdhahaa.HP Go.Proofs.YtpbplflocdhahaaW.PrintWords Go.Proofs.YtpbplflocdhahaaW.PrintLast Go.Proofs.YtpbplflocdhahaaW.PrintMore
attribute [local go_sem] max2_int min2_int max_two min_two max_three min_three max_four min_four
theorem plain8 : Try.prog.plainKey 5 = true := by kernel_rfl
theorem guard16 : Try.prog.eqGuardType Try.prog.depth 28 = false := by kernel_rfl
theorem eq_items (x y : List Int) (d : Nat) (w : World) : ∀ is : List Nat, (∀ i ∈ is, i < x.length ∧ i < y.length) → (Op.eqItems (d + 1) 5 1 (cel x) (cel y) is).run Try.prog w = .ok (is.all (fun i => x.getD i 0 == y.getD i 0)) w
  | [], _ => by simp [Op.eqItems]
  | i :: is, h => by
    have hi := h i List.mem_cons_self
    have ih := eq_items x y d w is (fun j hj => h j (List.mem_cons_of_mem _ hj))
    have h1 : (part 5 (cel x) (i * 1)).run Try.prog w = .ok (.int .u8 x[i]) w := run_part_plain w plain8 (by rw [Nat.mul_one]; exact cel_get x i hi.1)
    have h2 : (part 5 (cel y) (i * 1)).run Try.prog w = .ok (.int .u8 y[i]) w := run_part_plain w plain8 (by rw [Nat.mul_one]; exact cel_get y i hi.2)
    have e1 : x.getD i 0 = x[i] := by simp [List.getD_eq_getElem?_getD, hi.1]
    have e2 : y.getD i 0 = y[i] := by simp [List.getD_eq_getElem?_getD, hi.2]
    simp only [Op.eqItems, Sem.run_bind, h1, h2, Result.andThen_ok, run_equalIn_int w d 5 .u8 .u8 x[i] y[i] Try.underlying5, Sem.run_ite, List.all_cons, e1, e2]
    cases hb : (x[i] == y[i])
    · simp
    · simp [ih]
theorem eq16 (x y : List Int) (hx : x.length = 16) (hy : y.length = 16) (w : World) : (Op.equalIn 10000 28 (.agg (cel x)) (.agg (cel y))).run Try.prog w = .ok (decide (x = y)) w := by
  have hi : (Try.prog.info? 5).isSome = true := by kernel_rfl
  obtain ⟨i, hi⟩ := Option.isSome_iff_exists.1 hi
  rw [show (10000 : Nat) = 9998 + 1 + 1 from rfl, run_equalIn_array w (9998 + 1) (cel x) (cel y) Try.underlying28 hi]
  rw [show Try.prog.cellsOf 5 = 1 by kernel_rfl, eq_items x y 9998 w _ (fun j hj => by simp at hj; omega)]
  congr 1
  rw [Bool.eq_iff_iff, List.all_eq_true, decide_eq_true_eq]
  constructor
  · intro h
    apply List.ext_getElem (by omega)
    intro j h1 h2
    have := h j (by simp; omega)
    simpa [List.getD_eq_getElem?_getD, h1, h2] using this
  · intro h j hj
    rw [h]
    simp
theorem bytes_str (l : List Int) (h : isB l) : bytesOf (strOfNums l) = l := by
  induction l with
  | nil => rfl
  | cons x t ih =>
    have hx := h x List.mem_cons_self
    have ih := ih (fun y hy => h y (List.mem_cons_of_mem _ hy))
    have e : bytesOf (strOfNums (x :: t)) = ((UInt8.ofNat x.toNat).toNat : Int) :: bytesOf (strOfNums t) := by
      unfold bytesOf strOfNums
      simp
    rw [e, ih]
    congr 1
    simp
    omega
theorem str_size (l : List Int) : (strOfNums l).size = l.length := by
  show ((l.map _).toArray).size = _
  simp
def rightB (a : List Int) : Bool := if le4v a > 4096 then false else if le4v a ≤ 12 then decide (setAt (put4 z16 0 (le4v a) 4) 4 ((a.drop 4).take (le4v a).toNat) = a) else placedB (le4v (a.drop 8)) (le4v (a.drop 12))
set_option maxHeartbeats 8000000 in
set_option maxRecDepth 100000 in
theorem view_Right.bad (a : List Int) (w : World) (ha : a.length = 16) (hb : isB a) (h : le4v a > 4096) : Calls Try.prog 20 #[.agg (cel a)] w fun e w' => e = .returned (.bool false) ∧ Below w.heap.size w w' := by
  have HLn := Aside0.mk (fun w => view_Len.calls a w ha hb)
  have HSh := Aside0.mk (fun w => view_Short.calls a w ha hb)
  have hbd := le4v_bd a hb (by omega)
  obtain ⟨n, hne⟩ : ∃ n : Nat, le4v a = (n : Int) := ⟨(le4v a).toNat, by omega⟩
  rw [hne] at HLn HSh h hbd
  have t1 : decide ((4096 : Int) < (n : Int)) = true := decide_eq_true h
  have t2 : decide (4096 < n) = true := decide_eq_true (by omega)
  clear h hbd hne
  obtain ⟨cs, hcs⟩ : ∃ cs, cs = cel a := ⟨_, rfl⟩
  rw [← hcs] at HLn HSh ⊢
  have HCS := Aside0.mk hcs
  have HSZ : Aside0 (cs.size = 16) := ⟨by rw [hcs, cel_size, ha]⟩
  have HG := Aside0.mk (blk_new w (.cells cs 28))
  have HB := Aside0.mk (below_alloc (Below.refl w.heap.size w) (.cells cs 28))
  clear hcs
  go_enter Try.func20, Try.ntmps20
  go_wp2_with (first | ((with_reducible refine gate_dst (N := 5) rfl ?_); refine wpList_load_row rfl 28 _ rfl w.heap.size (by rfl) 28 cs (0, 0) _ HG.out Try.underlying28 rfl (by rw [info16, HSZ.out]) ?_))
  refine (HLn.out _).mono ?_
  rintro e w1 ⟨rfl, hb1⟩
  have HG1 := Aside0.mk ((hb1.block _ (blk_lt HG.out)).trans HG.out)
  have HB1 := Aside0.mk (below_step HB.out hb1)
  clear HB HG hb1
  go_wp2_with fail
  go_ret
  exact ⟨rfl, HB1.out⟩
set_option maxHeartbeats 8000000 in
set_option maxRecDepth 100000 in
theorem view_Right.long (a : List Int) (w : World) (ha : a.length = 16) (hb : isB a) (h : ¬ le4v a > 4096) (h2 : ¬ le4v a ≤ 12) : Calls Try.prog 20 #[.agg (cel a)] w fun e w' => e = .returned (.bool (placedB (le4v (a.drop 8)) (le4v (a.drop 12)))) ∧ Below w.heap.size w w' := by
  have HLn := Aside0.mk (fun w => view_Len.calls a w ha hb)
  have HSh := Aside0.mk (fun w => view_Short.calls a w ha hb)
  have hbd := le4v_bd a hb (by omega)
  obtain ⟨n, hne⟩ : ∃ n : Nat, le4v a = (n : Int) := ⟨(le4v a).toNat, by omega⟩
  rw [hne] at HLn HSh h h2 hbd
  have hpl := fun w => view_Place.calls a w ha hb
  have t1 : decide ((4096 : Int) < (n : Int)) = false := decide_eq_false h
  have t2 : decide (4096 < n) = false := decide_eq_false (by omega)
  have t3 : decide ((n : Int) ≤ 12) = false := decide_eq_false h2
  rw [t3] at HSh
  rw [hne] at hpl
  simp only [if_neg h2] at hpl
  have HPl := Aside0.mk hpl
  obtain ⟨p, hp⟩ : ∃ p, p = le4v (a.drop 8) := ⟨_, rfl⟩
  obtain ⟨q, hq⟩ : ∃ q, q = le4v (a.drop 12) := ⟨_, rfl⟩
  rw [← hp, ← hq] at HPl ⊢
  clear h h2 hbd hne hpl t3 hp hq
  obtain ⟨cs, hcs⟩ : ∃ cs, cs = cel a := ⟨_, rfl⟩
  rw [← hcs] at HLn HSh HPl ⊢
  have HCS := Aside0.mk hcs
  have HSZ : Aside0 (cs.size = 16) := ⟨by rw [hcs, cel_size, ha]⟩
  have HG := Aside0.mk (blk_new w (.cells cs 28))
  have HB := Aside0.mk (below_alloc (Below.refl w.heap.size w) (.cells cs 28))
  clear hcs
  go_enter Try.func20, Try.ntmps20
  go_wp2_with (first | ((with_reducible refine gate_dst (N := 5) rfl ?_); refine wpList_load_row rfl 28 _ rfl w.heap.size (by rfl) 28 cs (0, 0) _ HG.out Try.underlying28 rfl (by rw [info16, HSZ.out]) ?_))
  refine (HLn.out _).mono ?_
  rintro e w1 ⟨rfl, hb1⟩
  have HG1 := Aside0.mk ((hb1.block _ (blk_lt HG.out)).trans HG.out)
  have HB1 := Aside0.mk (below_step HB.out hb1)
  clear HB HG hb1
  go_wp2_with (first | ((with_reducible refine gate_dst (N := 8) rfl ?_); refine wpList_load_row rfl 28 _ rfl w.heap.size (by rfl) 28 cs (0, 0) _ HG1.out Try.underlying28 rfl (by rw [info16, HSZ.out]) ?_))
  refine (HSh.out _).mono ?_
  rintro e w2 ⟨rfl, hb1⟩
  have HG2 := Aside0.mk ((hb1.block _ (blk_lt HG1.out)).trans HG1.out)
  have HB2 := Aside0.mk (below_step HB1.out hb1)
  clear HB1 HG1 hb1
  go_wp2_with (first | ((with_reducible refine gate_dst (N := 19) rfl ?_); refine wpList_load_row rfl 28 _ rfl w.heap.size (by rfl) 28 cs (0, 0) _ HG2.out Try.underlying28 rfl (by rw [info16, HSZ.out]) ?_))
  refine (HPl.out _).mono ?_
  rintro e w3 ⟨rfl, hb1⟩
  have HG3 := Aside0.mk ((hb1.block _ (blk_lt HG2.out)).trans HG2.out)
  have HB3 := Aside0.mk (below_step HB2.out hb1)
  clear HB2 HG2 hb1
  go_wp2_with fail
  refine (view_placed.calls p q (placedB p q) _ (placed_f p q)).mono ?_
  rintro e w4 ⟨rfl, n4, rfl⟩
  go_wp2_with fail
  go_ret
  exact ⟨rfl, pw_below_drewN HB3.out n4⟩
set_option maxHeartbeats 8000000 in
set_option maxRecDepth 100000 in
theorem view_Right.short (a : List Int) (w : World) (ha : a.length = 16) (hb : isB a) (h : le4v a ≤ 12) : Calls Try.prog 20 #[.agg (cel a)] w fun e w' => e = .returned (.bool (decide (setAt (put4 z16 0 (le4v a) 4) 4 ((a.drop 4).take (le4v a).toNat) = a))) ∧ Below w.heap.size w w' := by
  have HLn := Aside0.mk (fun w => view_Len.calls a w ha hb)
  have HSh := Aside0.mk (fun w => view_Short.calls a w ha hb)
  have hbd := le4v_bd a hb (by omega)
  obtain ⟨n, hne⟩ : ∃ n : Nat, le4v a = (n : Int) := ⟨(le4v a).toNat, by omega⟩
  rw [hne] at HLn HSh h hbd ⊢
  have htx := fun w => view_Text.calls a w ha hb
  have t1 : decide ((4096 : Int) < (n : Int)) = false := decide_eq_false (by omega)
  have t2 : decide (4096 < n) = false := decide_eq_false (by omega)
  have t3 : decide ((n : Int) ≤ 12) = true := decide_eq_true h
  rw [t3] at HSh
  rw [hne] at htx
  simp only [if_pos h, Int.toNat_natCast] at htx
  rw [Int.toNat_natCast]
  have hn : n ≤ 12 := by omega
  have hbt : isB ((a.drop 4).take n) := isB_take (isB_drop hb 4) n
  have htl : ((a.drop 4).take n).length = n := by simp; omega
  obtain ⟨T, hT⟩ : ∃ T, T = strOfNums ((a.drop 4).take n) := ⟨_, rfl⟩
  have hTs : T.size = n := by rw [hT, str_size, htl]
  have hmk := fun w => view_Make.short T 0 0 w (by omega)
  rw [hTs, show bytesOf T = (a.drop 4).take n by rw [hT, bytes_str _ hbt]] at hmk
  rw [← hT] at htx
  obtain ⟨v, hv⟩ : ∃ v, v = setAt (put4 z16 0 (n : Int) 4) 4 ((a.drop 4).take n) := ⟨_, rfl⟩
  have hvl : v.length = 16 := by rw [hv, setAt_len _ _ _ (by rw [put4_len, htl]; show 4 + n ≤ 16; omega), put4_len]; rfl
  have HEQ := Aside0.mk (eq16 v a hvl ha)
  rw [← hv] at hmk ⊢
  obtain ⟨C2, hC2⟩ : ∃ C2, C2 = cel v := ⟨_, rfl⟩
  have HS2 : Aside0 (C2.size = 16) := ⟨by rw [hC2, cel_size, hvl]⟩
  have H2C : Aside0 (C2.all (·.oneCell') = true) := ⟨by rw [hC2]; exact cel_one _⟩
  rw [← hC2] at hmk HEQ
  have HTx := Aside0.mk htx
  have HMk := Aside0.mk hmk
  obtain ⟨r, hr⟩ : ∃ r : Bool, decide (v = a) = r := ⟨_, rfl⟩
  rw [hr] at HEQ ⊢
  obtain ⟨Z, hZ⟩ : ∃ Z, Z = cel z16 := ⟨_, rfl⟩
  have hz := zero16
  rw [← hZ] at hz
  have HSQ : Aside0 (Z.size = 16) := ⟨by rw [hZ]; rfl⟩
  have hgd := guard16
  clear h hbd hne htx hmk t3 hn hbt htl hT hTs hv hvl hC2 hr hZ
  obtain ⟨cs, hcs⟩ : ∃ cs, cs = cel a := ⟨_, rfl⟩
  rw [← hcs] at HLn HSh HTx HEQ ⊢
  have HCS := Aside0.mk hcs
  have HSZ : Aside0 (cs.size = 16) := ⟨by rw [hcs, cel_size, ha]⟩
  have HG := Aside0.mk (blk_new w (.cells cs 28))
  have HB := Aside0.mk (below_alloc (Below.refl w.heap.size w) (.cells cs 28))
  clear hcs
  go_enter Try.func20, Try.ntmps20
  go_wp2_with (first | ((with_reducible refine gate_dst (N := 5) rfl ?_); refine wpList_load_row rfl 28 _ rfl w.heap.size (by rfl) 28 cs (0, 0) _ HG.out Try.underlying28 rfl (by rw [info16, HSZ.out]) ?_))
  refine (HLn.out _).mono ?_
  rintro e w1 ⟨rfl, hb1⟩
  have HG1 := Aside0.mk ((hb1.block _ (blk_lt HG.out)).trans HG.out)
  have HB1 := Aside0.mk (below_step HB.out hb1)
  clear HB HG hb1
  go_wp2_with (first | ((with_reducible refine gate_dst (N := 8) rfl ?_); refine wpList_load_row rfl 28 _ rfl w.heap.size (by rfl) 28 cs (0, 0) _ HG1.out Try.underlying28 rfl (by rw [info16, HSZ.out]) ?_))
  refine (HSh.out _).mono ?_
  rintro e w2 ⟨rfl, hb1⟩
  have HG2 := Aside0.mk ((hb1.block _ (blk_lt HG1.out)).trans HG1.out)
  have HB2 := Aside0.mk (below_step HB1.out hb1)
  clear HB1 HG1 hb1
  go_wp2_with (first | ((with_reducible refine gate_dst (N := 11) rfl ?_); refine wpList_load_row rfl 28 _ rfl w.heap.size (by rfl) 28 cs (0, 0) _ HG2.out Try.underlying28 rfl (by rw [info16, HSZ.out]) ?_))
  refine (HTx.out _).mono ?_
  rintro e w3 ⟨rfl, hb1⟩
  have HG3 := Aside0.mk ((hb1.block _ (blk_lt HG2.out)).trans HG2.out)
  have HB3 := Aside0.mk (below_step HB2.out hb1)
  clear HB2 HG2 hb1
  go_wp2_with fail
  refine (HMk.out _).mono ?_
  rintro e w4 ⟨rfl, hb1⟩
  have HG4 := Aside0.mk ((hb1.block _ (blk_lt HG3.out)).trans HG3.out)
  have HB4 := Aside0.mk (below_step HB3.out hb1)
  clear HB3 HG3 hb1
  have heq := fun W => HEQ.out W
  have HN4 := Aside0.mk (blk_new w4 (.cells Z 28))
  have HG5 : Aside0 ((w4.alloc (.cells Z 28)).heap[w.heap.size]? = some (.cells cs 28 (0, 0))) := ⟨((below_alloc (Below.refl _ w4) (.cells Z 28)).block _ (blk_lt HG4.out)).trans HG4.out⟩
  have HLT := Aside0.mk (blk_lt HG4.out)
  go_wp2_with (first | ((with_reducible refine gate_store (t := 28) (p := 3) rfl ?_); refine wpList_store_row rfl 28 _ _ rfl w4.heap.size C2 (by rfl) (by rfl) 28 Z HN4.out (by rw [info16, HS2.out]) (HSQ.out.trans HS2.out.symm) H2C.out ?_) | ((with_reducible refine gate_dst (N := 16) rfl ?_); refine wpList_load_row rfl 28 _ rfl w4.heap.size (by rfl) 28 C2 (0, 0) _ (setRow_heap _ _ _ _ _ _ HN4.out) Try.underlying28 rfl (by rw [info16, HS2.out]) ?_) | ((with_reducible refine gate_dst (N := 17) rfl ?_); refine wpList_load_row rfl 28 _ rfl w.heap.size (by rfl) 28 cs (0, 0) _ ((heap_row (by have := HLT.out; omega)).trans HG5.out) Try.underlying28 rfl (by rw [info16, HSZ.out]) ?_))
  go_ret
  exact ⟨rfl, below_row (below_alloc HB4.out _) (below_size HB4.out) _⟩
theorem view_Right.calls (a : List Int) (w : World) (ha : a.length = 16) (hb : isB a) : Calls Try.prog 20 #[.agg (cel a)] w fun e w' => e = .returned (.bool (rightB a)) ∧ Below w.heap.size w w' := by
  unfold rightB
  by_cases h : le4v a > 4096
  · rw [if_pos h]; exact view_Right.bad a w ha hb h
  · rw [if_neg h]
    by_cases h2 : le4v a ≤ 12
    · rw [if_pos h2]; exact view_Right.short a w ha hb h2
    · rw [if_neg h2]; exact view_Right.long a w ha hb h h2
end Go.Proofs.Ytpbplflocdhahaa.HW
