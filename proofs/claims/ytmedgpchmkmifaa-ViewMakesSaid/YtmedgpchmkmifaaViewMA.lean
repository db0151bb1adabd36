/- ViewMakes: the law, walked. -/
import Derived.Test.YtmedgpchmkmifaaViewE
import Derived.Test.YtmedgpchmkmifaaHMk
import Derived.BigFrame
import Derived.Test.YtmedgpchmkmifaaPx8
set_option linter.unusedVariables false
set_option linter.unusedSimpArgs false
namespace Go.Proofs.Ytmedgpchmkmifaa.HW
open Go.RowKit Go.Proofs.Ytmedgpchmkmifaa.P Go.Proofs.Ytmedgpchmkmifaa.HP Go.Proofs.YtmedgpchmkmifaaW.PrintWords Go.Proofs.YtmedgpchmkmifaaW.PrintLast Go.Proofs.YtmedgpchmkmifaaW.PrintMore
attribute [local go_sem] max2_int min2_int max_two min_two max_three min_three max_four min_four
set_option maxHeartbeats 8000000 in
set_option maxRecDepth 100000 in
theorem ViewMakes_huge (a0 : ByteArray) (a1 : Int) (a2 : Int) (w : World) (h : 5000 < a0.size) :
    Calls Try.prog 3 #[.string a0, .int .i64 a1, .int .i64 a2] w fun e w' => e = .returned (.bool true) ∧ Below w.heap.size w w' := by
  have t1 : decide (5000 < (a0.size : Int)) = true := decide_eq_true (by omega)
  have t2 : decide (5000 < a0.size) = true := decide_eq_true (by omega)
  clear h
  have HB := Aside0.mk (Below.refl w.heap.size w)
  go_enter Try.func3, Try.ntmps3
  go_wp2_with fail
  refine (law6_awake _).mono ?_
  rintro e w1 ⟨rfl, hb⟩
  have HB1 := Aside0.mk (below_step HB.out hb)
  clear HB hb
  go_wp2_with fail
  refine (law6_awake _).mono ?_
  rintro e w2 ⟨rfl, hb⟩
  have HB2 := Aside0.mk (below_step HB1.out hb)
  clear HB1 hb
  go_wp2_with fail
  go_ret
  exact ⟨rfl, HB2.out⟩
set_option maxHeartbeats 8000000 in
set_option maxRecDepth 100000 in
theorem ViewMakes_long (a0 : ByteArray) (a1 : Int) (a2 : Int) (w : World) (h : 4096 < a0.size) (h2 : a0.size ≤ 5000) :
    Calls Try.prog 3 #[.string a0, .int .i64 a1, .int .i64 a2] w fun e w' => e = .returned (.bool true) ∧ Below w.heap.size w w' := by
  have t1 : decide (5000 < (a0.size : Int)) = false := decide_eq_false (by omega)
  have t2 : decide (5000 < a0.size) = false := decide_eq_false (by omega)
  have t3 : decide (4096 < (a0.size : Int)) = true := decide_eq_true (by omega)
  have t4 : decide (4096 < a0.size) = true := decide_eq_true (by omega)
  have HMk := Aside0.mk (fun w => view_Make.bad1 a0 a1 a2 w h)
  clear h h2
  have hz := zero16
  obtain ⟨Z, hZ⟩ : ∃ Z, Z = cel z16 := ⟨_, rfl⟩
  have HEQ := Aside0.mk (eq16 z16 z16 rfl rfl)
  rw [decide_eq_true rfl] at HEQ
  have HBL : Aside0 (Try.prog.built 23 [] = some Z) := ⟨by rw [hZ]; kernel_rfl⟩
  rw [← hZ] at hz HMk HEQ
  have HSZ : Aside0 (Z.size = 16) := ⟨by rw [hZ]; rfl⟩
  have H1Z : Aside0 (Z.all (·.oneCell') = true) := ⟨by rw [hZ]; exact cel_one _⟩
  have hgd := guard16
  clear hZ
  have HB := Aside0.mk (Below.refl w.heap.size w)
  go_enter Try.func3, Try.ntmps3
  go_wp2_with fail
  refine (law6_awake _).mono ?_
  rintro e w1 ⟨rfl, hb⟩
  have HB1 := Aside0.mk (below_step HB.out hb)
  clear HB hb
  go_wp2_with fail
  refine (HMk.out _).mono ?_
  rintro e w2 ⟨rfl, hb⟩
  have HB2 := Aside0.mk (below_step HB1.out hb)
  have HN2 := Aside0.mk (blk_new w2 (.cells Z 23))
  have HG2 := Aside0.mk (setRow_heap _ _ _ Z _ _ HN2.out)
  have heq := fun W => HEQ.out W
  clear HB1 hb
  go_wp2_with (first | ((with_reducible refine gate_store (t := 23) (p := 7) rfl ?_); refine wpList_store_row rfl 23 _ _ rfl w2.heap.size Z (by rfl) (by rfl) 23 Z HN2.out (by rw [info16, HSZ.out]) (HSZ.out.trans HSZ.out.symm) H1Z.out ?_) | ((with_reducible refine gate_dst (N := 52) rfl ?_); refine Go.BigFrame.wpList_want ?hw (fun K hK => ?_); (case hw => rfl); refine wp_load_row 23 _ rfl w2.heap.size ?hx 23 Z (0, 0) _ HG2.out Try.underlying23 rfl ?hi ?_; (case hx => rfl); (case hi => rw [info16, HSZ.out]); refine hK _ _ ?_; clear hK K) | ((with_reducible refine gate_dst (N := 53) rfl ?_); refine Go.BigFrame.wpList_want ?hw (fun K hK => ?_); (case hw => rfl); refine wp_build 23 #[] rfl Z ?hbu ?_; (case hbu => exact HBL.out); refine hK _ _ ?_; clear hK K))
  go_ret
  exact ⟨rfl, below_row (below_alloc HB2.out _) (below_size HB2.out) _⟩
set_option maxHeartbeats 8000000 in
set_option maxRecDepth 100000 in
theorem ViewMakes_bad1 (a0 : ByteArray) (a1 : Int) (a2 : Int) (w : World) (h : 12 < a0.size) (h2 : a0.size ≤ 4096) (hp : a1 < 0) :
    Calls Try.prog 3 #[.string a0, .int .i64 a1, .int .i64 a2] w fun e w' => e = .returned (.bool true) ∧ Below w.heap.size w w' := by
  have t1 : decide (5000 < (a0.size : Int)) = false := decide_eq_false (by omega)
  have t2 : decide (5000 < a0.size) = false := decide_eq_false (by omega)
  have t3 : decide (4096 < (a0.size : Int)) = false := decide_eq_false (by omega)
  have t4 : decide (4096 < a0.size) = false := decide_eq_false (by omega)
  have t5 : decide (12 < (a0.size : Int)) = true := decide_eq_true (by omega)
  have t6 : decide (12 < a0.size) = true := decide_eq_true (by omega)
  have p0 : decide (a1 < 0) = true := decide_eq_true (by omega)
  have HMk := Aside0.mk (fun w => view_Make.bad2 a0 a1 a2 w h h2 (by unfold placedB; exact decide_eq_false (by omega)))
  clear h h2 hp
  have hz := zero16
  obtain ⟨Z, hZ⟩ : ∃ Z, Z = cel z16 := ⟨_, rfl⟩
  have HEQ := Aside0.mk (eq16 z16 z16 rfl rfl)
  rw [decide_eq_true rfl] at HEQ
  have HBL : Aside0 (Try.prog.built 23 [] = some Z) := ⟨by rw [hZ]; kernel_rfl⟩
  rw [← hZ] at hz HMk HEQ
  have HSZ : Aside0 (Z.size = 16) := ⟨by rw [hZ]; rfl⟩
  have H1Z : Aside0 (Z.all (·.oneCell') = true) := ⟨by rw [hZ]; exact cel_one _⟩
  have hgd := guard16
  clear hZ
  have HB := Aside0.mk (Below.refl w.heap.size w)
  go_enter Try.func3, Try.ntmps3
  go_wp2_with fail
  refine (law6_awake _).mono ?_
  rintro e w1 ⟨rfl, hb⟩
  have HB1 := Aside0.mk (below_step HB.out hb)
  clear HB hb
  go_wp2_with fail
  refine (HMk.out _).mono ?_
  rintro e w2 ⟨rfl, hb⟩
  have HB2 := Aside0.mk (below_step HB1.out hb)
  have HN2 := Aside0.mk (blk_new w2 (.cells Z 23))
  have HG2 := Aside0.mk (setRow_heap _ _ _ Z _ _ HN2.out)
  have heq := fun W => HEQ.out W
  clear HB1 hb
  go_wp2_with (first | ((with_reducible refine gate_store (t := 23) (p := 7) rfl ?_); refine wpList_store_row rfl 23 _ _ rfl w2.heap.size Z (by rfl) (by rfl) 23 Z HN2.out (by rw [info16, HSZ.out]) (HSZ.out.trans HSZ.out.symm) H1Z.out ?_) | ((with_reducible refine gate_dst (N := 52) rfl ?_); refine Go.BigFrame.wpList_want ?hw (fun K hK => ?_); (case hw => rfl); refine wp_load_row 23 _ rfl w2.heap.size ?hx 23 Z (0, 0) _ HG2.out Try.underlying23 rfl ?hi ?_; (case hx => rfl); (case hi => rw [info16, HSZ.out]); refine hK _ _ ?_; clear hK K) | ((with_reducible refine gate_dst (N := 53) rfl ?_); refine Go.BigFrame.wpList_want ?hw (fun K hK => ?_); (case hw => rfl); refine wp_build 23 #[] rfl Z ?hbu ?_; (case hbu => exact HBL.out); refine hK _ _ ?_; clear hK K))
  go_ret
  exact ⟨rfl, below_row (below_alloc HB2.out _) (below_size HB2.out) _⟩
set_option maxHeartbeats 8000000 in
set_option maxRecDepth 100000 in
theorem ViewMakes_bad2 (a0 : ByteArray) (a1 : Int) (a2 : Int) (w : World) (h : 12 < a0.size) (h2 : a0.size ≤ 4096) (hp : 0 ≤ a1 ∧ 65535 < a1) :
    Calls Try.prog 3 #[.string a0, .int .i64 a1, .int .i64 a2] w fun e w' => e = .returned (.bool true) ∧ Below w.heap.size w w' := by
  have t1 : decide (5000 < (a0.size : Int)) = false := decide_eq_false (by omega)
  have t2 : decide (5000 < a0.size) = false := decide_eq_false (by omega)
  have t3 : decide (4096 < (a0.size : Int)) = false := decide_eq_false (by omega)
  have t4 : decide (4096 < a0.size) = false := decide_eq_false (by omega)
  have t5 : decide (12 < (a0.size : Int)) = true := decide_eq_true (by omega)
  have t6 : decide (12 < a0.size) = true := decide_eq_true (by omega)
  have p0 : decide (a1 < 0) = false := decide_eq_false (by omega)
  have p1 : decide (65535 < a1) = true := decide_eq_true (by omega)
  have HMk := Aside0.mk (fun w => view_Make.bad2 a0 a1 a2 w h h2 (by unfold placedB; exact decide_eq_false (by omega)))
  clear h h2 hp
  have hz := zero16
  obtain ⟨Z, hZ⟩ : ∃ Z, Z = cel z16 := ⟨_, rfl⟩
  have HEQ := Aside0.mk (eq16 z16 z16 rfl rfl)
  rw [decide_eq_true rfl] at HEQ
  have HBL : Aside0 (Try.prog.built 23 [] = some Z) := ⟨by rw [hZ]; kernel_rfl⟩
  rw [← hZ] at hz HMk HEQ
  have HSZ : Aside0 (Z.size = 16) := ⟨by rw [hZ]; rfl⟩
  have H1Z : Aside0 (Z.all (·.oneCell') = true) := ⟨by rw [hZ]; exact cel_one _⟩
  have hgd := guard16
  clear hZ
  have HB := Aside0.mk (Below.refl w.heap.size w)
  go_enter Try.func3, Try.ntmps3
  go_wp2_with fail
  refine (law6_awake _).mono ?_
  rintro e w1 ⟨rfl, hb⟩
  have HB1 := Aside0.mk (below_step HB.out hb)
  clear HB hb
  go_wp2_with fail
  refine (HMk.out _).mono ?_
  rintro e w2 ⟨rfl, hb⟩
  have HB2 := Aside0.mk (below_step HB1.out hb)
  have HN2 := Aside0.mk (blk_new w2 (.cells Z 23))
  have HG2 := Aside0.mk (setRow_heap _ _ _ Z _ _ HN2.out)
  have heq := fun W => HEQ.out W
  clear HB1 hb
  go_wp2_with (first | ((with_reducible refine gate_store (t := 23) (p := 7) rfl ?_); refine wpList_store_row rfl 23 _ _ rfl w2.heap.size Z (by rfl) (by rfl) 23 Z HN2.out (by rw [info16, HSZ.out]) (HSZ.out.trans HSZ.out.symm) H1Z.out ?_) | ((with_reducible refine gate_dst (N := 52) rfl ?_); refine Go.BigFrame.wpList_want ?hw (fun K hK => ?_); (case hw => rfl); refine wp_load_row 23 _ rfl w2.heap.size ?hx 23 Z (0, 0) _ HG2.out Try.underlying23 rfl ?hi ?_; (case hx => rfl); (case hi => rw [info16, HSZ.out]); refine hK _ _ ?_; clear hK K) | ((with_reducible refine gate_dst (N := 53) rfl ?_); refine Go.BigFrame.wpList_want ?hw (fun K hK => ?_); (case hw => rfl); refine wp_build 23 #[] rfl Z ?hbu ?_; (case hbu => exact HBL.out); refine hK _ _ ?_; clear hK K))
  go_ret
  exact ⟨rfl, below_row (below_alloc HB2.out _) (below_size HB2.out) _⟩
set_option maxHeartbeats 8000000 in
set_option maxRecDepth 100000 in
theorem ViewMakes_bad3 (a0 : ByteArray) (a1 : Int) (a2 : Int) (w : World) (h : 12 < a0.size) (h2 : a0.size ≤ 4096) (hp : 0 ≤ a1 ∧ a1 ≤ 65535 ∧ a2 < 0) :
    Calls Try.prog 3 #[.string a0, .int .i64 a1, .int .i64 a2] w fun e w' => e = .returned (.bool true) ∧ Below w.heap.size w w' := by
  have t1 : decide (5000 < (a0.size : Int)) = false := decide_eq_false (by omega)
  have t2 : decide (5000 < a0.size) = false := decide_eq_false (by omega)
  have t3 : decide (4096 < (a0.size : Int)) = false := decide_eq_false (by omega)
  have t4 : decide (4096 < a0.size) = false := decide_eq_false (by omega)
  have t5 : decide (12 < (a0.size : Int)) = true := decide_eq_true (by omega)
  have t6 : decide (12 < a0.size) = true := decide_eq_true (by omega)
  have p0 : decide (a1 < 0) = false := decide_eq_false (by omega)
  have p1 : decide (65535 < a1) = false := decide_eq_false (by omega)
  have p2 : decide (a2 < 0) = true := decide_eq_true (by omega)
  have HMk := Aside0.mk (fun w => view_Make.bad2 a0 a1 a2 w h h2 (by unfold placedB; exact decide_eq_false (by omega)))
  clear h h2 hp
  have hz := zero16
  obtain ⟨Z, hZ⟩ : ∃ Z, Z = cel z16 := ⟨_, rfl⟩
  have HEQ := Aside0.mk (eq16 z16 z16 rfl rfl)
  rw [decide_eq_true rfl] at HEQ
  have HBL : Aside0 (Try.prog.built 23 [] = some Z) := ⟨by rw [hZ]; kernel_rfl⟩
  rw [← hZ] at hz HMk HEQ
  have HSZ : Aside0 (Z.size = 16) := ⟨by rw [hZ]; rfl⟩
  have H1Z : Aside0 (Z.all (·.oneCell') = true) := ⟨by rw [hZ]; exact cel_one _⟩
  have hgd := guard16
  clear hZ
  have HB := Aside0.mk (Below.refl w.heap.size w)
  go_enter Try.func3, Try.ntmps3
  go_wp2_with fail
  refine (law6_awake _).mono ?_
  rintro e w1 ⟨rfl, hb⟩
  have HB1 := Aside0.mk (below_step HB.out hb)
  clear HB hb
  go_wp2_with fail
  refine (HMk.out _).mono ?_
  rintro e w2 ⟨rfl, hb⟩
  have HB2 := Aside0.mk (below_step HB1.out hb)
  have HN2 := Aside0.mk (blk_new w2 (.cells Z 23))
  have HG2 := Aside0.mk (setRow_heap _ _ _ Z _ _ HN2.out)
  have heq := fun W => HEQ.out W
  clear HB1 hb
  go_wp2_with (first | ((with_reducible refine gate_store (t := 23) (p := 7) rfl ?_); refine wpList_store_row rfl 23 _ _ rfl w2.heap.size Z (by rfl) (by rfl) 23 Z HN2.out (by rw [info16, HSZ.out]) (HSZ.out.trans HSZ.out.symm) H1Z.out ?_) | ((with_reducible refine gate_dst (N := 52) rfl ?_); refine Go.BigFrame.wpList_want ?hw (fun K hK => ?_); (case hw => rfl); refine wp_load_row 23 _ rfl w2.heap.size ?hx 23 Z (0, 0) _ HG2.out Try.underlying23 rfl ?hi ?_; (case hx => rfl); (case hi => rw [info16, HSZ.out]); refine hK _ _ ?_; clear hK K) | ((with_reducible refine gate_dst (N := 53) rfl ?_); refine Go.BigFrame.wpList_want ?hw (fun K hK => ?_); (case hw => rfl); refine wp_build 23 #[] rfl Z ?hbu ?_; (case hbu => exact HBL.out); refine hK _ _ ?_; clear hK K))
  go_ret
  exact ⟨rfl, below_row (below_alloc HB2.out _) (below_size HB2.out) _⟩
set_option maxHeartbeats 8000000 in
set_option maxRecDepth 100000 in
theorem ViewMakes_bad4 (a0 : ByteArray) (a1 : Int) (a2 : Int) (w : World) (h : 12 < a0.size) (h2 : a0.size ≤ 4096) (hp : 0 ≤ a1 ∧ a1 ≤ 65535 ∧ 0 ≤ a2 ∧ 65536 < a2) :
    Calls Try.prog 3 #[.string a0, .int .i64 a1, .int .i64 a2] w fun e w' => e = .returned (.bool true) ∧ Below w.heap.size w w' := by
  have t1 : decide (5000 < (a0.size : Int)) = false := decide_eq_false (by omega)
  have t2 : decide (5000 < a0.size) = false := decide_eq_false (by omega)
  have t3 : decide (4096 < (a0.size : Int)) = false := decide_eq_false (by omega)
  have t4 : decide (4096 < a0.size) = false := decide_eq_false (by omega)
  have t5 : decide (12 < (a0.size : Int)) = true := decide_eq_true (by omega)
  have t6 : decide (12 < a0.size) = true := decide_eq_true (by omega)
  have p0 : decide (a1 < 0) = false := decide_eq_false (by omega)
  have p1 : decide (65535 < a1) = false := decide_eq_false (by omega)
  have p2 : decide (a2 < 0) = false := decide_eq_false (by omega)
  have p3 : decide (65536 < a2) = true := decide_eq_true (by omega)
  have HMk := Aside0.mk (fun w => view_Make.bad2 a0 a1 a2 w h h2 (by unfold placedB; exact decide_eq_false (by omega)))
  clear h h2 hp
  have hz := zero16
  obtain ⟨Z, hZ⟩ : ∃ Z, Z = cel z16 := ⟨_, rfl⟩
  have HEQ := Aside0.mk (eq16 z16 z16 rfl rfl)
  rw [decide_eq_true rfl] at HEQ
  have HBL : Aside0 (Try.prog.built 23 [] = some Z) := ⟨by rw [hZ]; kernel_rfl⟩
  rw [← hZ] at hz HMk HEQ
  have HSZ : Aside0 (Z.size = 16) := ⟨by rw [hZ]; rfl⟩
  have H1Z : Aside0 (Z.all (·.oneCell') = true) := ⟨by rw [hZ]; exact cel_one _⟩
  have hgd := guard16
  clear hZ
  have HB := Aside0.mk (Below.refl w.heap.size w)
  go_enter Try.func3, Try.ntmps3
  go_wp2_with fail
  refine (law6_awake _).mono ?_
  rintro e w1 ⟨rfl, hb⟩
  have HB1 := Aside0.mk (below_step HB.out hb)
  clear HB hb
  go_wp2_with fail
  refine (HMk.out _).mono ?_
  rintro e w2 ⟨rfl, hb⟩
  have HB2 := Aside0.mk (below_step HB1.out hb)
  have HN2 := Aside0.mk (blk_new w2 (.cells Z 23))
  have HG2 := Aside0.mk (setRow_heap _ _ _ Z _ _ HN2.out)
  have heq := fun W => HEQ.out W
  clear HB1 hb
  go_wp2_with (first | ((with_reducible refine gate_store (t := 23) (p := 7) rfl ?_); refine wpList_store_row rfl 23 _ _ rfl w2.heap.size Z (by rfl) (by rfl) 23 Z HN2.out (by rw [info16, HSZ.out]) (HSZ.out.trans HSZ.out.symm) H1Z.out ?_) | ((with_reducible refine gate_dst (N := 52) rfl ?_); refine Go.BigFrame.wpList_want ?hw (fun K hK => ?_); (case hw => rfl); refine wp_load_row 23 _ rfl w2.heap.size ?hx 23 Z (0, 0) _ HG2.out Try.underlying23 rfl ?hi ?_; (case hx => rfl); (case hi => rw [info16, HSZ.out]); refine hK _ _ ?_; clear hK K) | ((with_reducible refine gate_dst (N := 53) rfl ?_); refine Go.BigFrame.wpList_want ?hw (fun K hK => ?_); (case hw => rfl); refine wp_build 23 #[] rfl Z ?hbu ?_; (case hbu => exact HBL.out); refine hK _ _ ?_; clear hK K))
  go_ret
  exact ⟨rfl, below_row (below_alloc HB2.out _) (below_size HB2.out) _⟩
theorem info8 : (Try.prog.info? 5).map (fun i => (i.zero, i.size, i.bytes)) = some (some (.int .u8 0), 1, 1) := by kernel_rfl
set_option maxHeartbeats 8000000 in
set_option maxRecDepth 100000 in
theorem ViewMakes_short (a0 : ByteArray) (a1 : Int) (a2 : Int) (w : World) (h : a0.size ≤ 12) :
    Calls Try.prog 3 #[.string a0, .int .i64 a1, .int .i64 a2] w fun e w' => e = .returned (.bool true) ∧ Below w.heap.size w w' := by
  have t1 : decide (5000 < (a0.size : Int)) = false := decide_eq_false (by omega)
  have t2 : decide (5000 < a0.size) = false := decide_eq_false (by omega)
  have t3 : decide (4096 < (a0.size : Int)) = false := decide_eq_false (by omega)
  have t4 : decide (4096 < a0.size) = false := decide_eq_false (by omega)
  have t5 : decide (12 < (a0.size : Int)) = false := decide_eq_false (by omega)
  have t6 : decide (12 < a0.size) = false := decide_eq_false (by omega)
  have HMk := Aside0.mk (fun w => view_Make.short a0 a1 a2 w h)
  rw [mkS_e a0 h] at HMk
  obtain ⟨C, hC⟩ : ∃ C, C = cel (mkS a0) := ⟨_, rfl⟩
  rw [← hC] at HMk
  have HSC : Aside0 (C.size = 16) := ⟨by rw [hC, cel_size, mkS_len a0 h]⟩
  have H1C : Aside0 (C.all (·.oneCell') = true) := ⟨by rw [hC]; exact cel_one _⟩
  have HCE := Aside0.mk hC
  have HH := Aside0.mk h
  clear h hC
  have hz := zero16
  obtain ⟨Z, hZ⟩ : ∃ Z, Z = cel z16 := ⟨_, rfl⟩
  rw [← hZ] at hz
  have HSZ : Aside0 (Z.size = 16) := ⟨by rw [hZ]; rfl⟩
  clear hZ
  have HB := Aside0.mk (Below.refl w.heap.size w)
  go_enter Try.func3, Try.ntmps3
  go_wp2_with fail
  refine (law6_awake _).mono ?_
  rintro e w1 ⟨rfl, hb⟩
  have HB1 := Aside0.mk (below_step HB.out hb)
  clear HB hb
  go_wp2_with fail
  refine (HMk.out _).mono ?_
  rintro e w2 ⟨rfl, hb⟩
  have HB2 := Aside0.mk (below_step HB1.out hb)
  have HN2 := Aside0.mk (blk_new w2 (.cells Z 23))
  have HG2 := Aside0.mk (setRow_heap _ _ _ C _ _ HN2.out)
  have HB3 := Aside0.mk (below_row (below_alloc HB2.out (.cells Z 23)) (below_size HB2.out) C)
  clear HB1 HB2 hb
  go_wp2_with (first | ((with_reducible refine gate_store (t := 23) (p := 7) rfl ?_); refine wpList_store_row rfl 23 _ _ rfl w2.heap.size C (by rfl) (by rfl) 23 Z HN2.out (by rw [info16, HSC.out]) (HSZ.out.trans HSC.out.symm) H1C.out ?_))
  have hfo : hopperlaw06_four.f (a0.size : Int) = some (fourL a0.size) := by
    have := HH.out
    unfold hopperlaw06_four.f fourL
    rw [ww _ (by rw [Int.tdiv_eq_ediv_of_nonneg (by omega)]; omega) (by rw [Int.tdiv_eq_ediv_of_nonneg (by omega)]; omega), ww _ (by rw [Int.tdiv_eq_ediv_of_nonneg (by omega)]; omega) (by rw [Int.tdiv_eq_ediv_of_nonneg (by omega)]; omega), ww _ (by rw [Int.tdiv_eq_ediv_of_nonneg (by omega)]; omega) (by rw [Int.tdiv_eq_ediv_of_nonneg (by omega)]; omega)]
    simp only [Int.tdiv_eq_ediv_of_nonneg (show (0 : Int) ≤ (a0.size : Int) by omega)]
    rw [Int.tmod_eq_emod_of_nonneg (by omega), Int.tmod_eq_emod_of_nonneg (by omega), Int.tmod_eq_emod_of_nonneg (by omega), Int.tmod_eq_emod_of_nonneg (by omega)]
    simp only [Int.emod_emod]
  refine (hopperlaw06_four.calls (a0.size : Int) (fourL a0.size) _ hfo).mono ?_
  rintro e w4 ⟨v4, rfl, ho, hb⟩
  have HG4 := Aside0.mk ((hb.block _ (blk_lt HG2.out)).trans HG2.out)
  have HB4 := Aside0.mk (below_step HB3.out hb)
  have HB3' := HB3
  have HO4 := Aside0.mk ho
  clear HG2 ho hb hfo
  obtain ⟨W5, hW5⟩ : ∃ W, W = Go.Lib.bytesWorld w4 5 a0 := ⟨_, rfl⟩
  have hb5 : Below w4.heap.size w4 W5 := ⟨by rw [hW5]; rfl, by rw [hW5]; rfl, by rw [hW5]; rfl, by rw [hW5, Go.Lib.bytesWorld_size]; omega, fun k hk => by rw [hW5]; exact Go.Lib.bytesWorld_at_old w4 _ a0 k hk⟩
  have HR5 : Aside0 (Kd.C (Kd.int .u8) W5 (some ⟨w4.heap.size, 0, none⟩) (bytesOf a0).length (bytesOf a0)) := ⟨by
    refine Kd.C_of_reads (d := (0 : Int)) (h1 := fun _ => rfl) ⟨rfl, by rw [bytes_len]; have := HH.out; omega, fun _ => ⟨_, rfl, fun j hj => ?_⟩⟩
    rw [bytes_len] at hj
    rw [hW5, add_plain, Go.Lib.bytesWorld_cell w4 _ a0 j hj]
    simp [bytesOf, List.getD_eq_getElem?_getD, hj]⟩
  obtain ⟨cap, hcv⟩ : ∃ cap, (convert 9 27 (.string a0)).run Try.prog w4 = .ok (.slice (some ⟨w4.heap.size, 0, none⟩) (bytesOf a0).length cap) W5 := ⟨_, by rw [hW5, bytes_len]; exact Go.Lib.run_convert_string_bytes (P := Try.prog) w4 9 27 5 a0 Try.underlying9 Try.underlying27 Try.underlying5⟩
  have HG5 := Aside0.mk ((hb5.block _ (blk_lt HG4.out)).trans HG4.out)
  have HB5 := Aside0.mk (below_step HB4.out hb5)
  have HO5 := Aside0.mk (Kd.R_lower (Kd.R_below HO4.out hb5) (below_size HB3'.out))
  clear HG4 HB4 HO4 hb5 hW5
  go_wp2_with (first | ((with_reducible refine gate_builtin (b := .append) (xs := #[.tmp 58, .tmp 60]) rfl ?_); at_builtin; refine Kd.R_append_rows (Kd.int .u8) (w0 := w) w.heap.size rfl (.tmp 58) (.tmp 60) 27 5 (.int .u8 0) 1 rfl Try.underlying27 info8 rfl (by decide) (by omega) v4 (fourL a0.size) (bytesOf a0) _ _ _ (fun _ => True) (fun _ => False) rfl rfl ?aO ?aR (fun _ _ h => h) (fun _ h => h.elim) ?aF ?aB ?aS ?aL ?_; (case aR => exact HR5.out); (case aB => exact HB5.out); (case aF => exact (fun _ _ => trivial)); (case aO => exact HO5.out); (case aS => exact (below_size HB5.out)); (case aL => have := HH.out; rw [bytes_len]; simp [fourL]; omega); intro v6 w6 ho hb hg hat; have HG6 := Aside0.mk (blk_grown HG5.out hg (Kd.R_ne HO5.out HG5.out (by decide))); have HB6 := Aside0.mk hb; have HO6 := Aside0.mk ho; clear HO5 HR5; clear ho hb hat))
  obtain ⟨K, hK⟩ : ∃ K : Nat, K = 12 - a0.size := ⟨_, rfl⟩
  have HK := Aside0.mk hK
  clear hcv hK
  go_loopg [9] (K : Nat) (fun kq v9 w' => ∃ m : Nat, Aside0 (m + kq = K) ∧ Aside0 (Kd.R (Kd.int .u8) 5 w' w.heap.size (fun _ => True) v9 (fourL a0.size ++ (bytesOf a0 ++ List.replicate m 0))) ∧ Aside0 (w'.heap[w2.heap.size]? = some (.cells C 23 (0, 0))) ∧ Aside0 (Below w.heap.size w w'))
  case atStart => exact ⟨0, ⟨by omega⟩, ⟨by have := HO6.out; simpa using this⟩, HG6, HB6⟩
  case round =>
    clear HO6 HG6 HB6
    obtain ⟨m, HM, HO, HG, HB⟩ := hrel
    obtain ⟨l, hl⟩ : ∃ l, l = fourL a0.size ++ (bytesOf a0 ++ List.replicate m 0) := ⟨_, rfl⟩
    have hll : l.length = 4 + a0.size + m := by rw [hl]; simp [fourL, bytes_len]; omega
    rw [← hl] at HO
    have hrr := Kd.R_reads HO.out
    obtain ⟨A9, c9, hv9, hl9, hr9⟩ := hrr
    cases gk with
    | zero =>
      have he : l = mkS a0 := by rw [hl]; unfold mkS; rw [show m = 12 - a0.size by have := HM.out; have := HK.out; omega]
      subst hv9
      have h16 : l.length = 16 := by have := HM.out; have := HK.out; have := HH.out; omega
      rw [he] at hr9
      have HC9 := Aside0.mk hr9
      have HCg := Aside0.mk (C_blk (a := mkS a0) (by rw [← HCE.out]; exact HG.out) 0 (by rw [mkS_len a0 HH.out]; omega) (by rw [mkS_len a0 HH.out]; omega))
      rw [h16]
      clear hl hll he hr9 hl9 HO h16
      go_wp2_with fail
      have hc1 := Kd.C_string (P := Try.prog) (c := 16) Try.underlying27 Try.underlying5 Try.underlying9 (Kd.C_drew HCg.out)
      have hc2 := Kd.C_string (P := Try.prog) (c := c9) Try.underlying27 Try.underlying5 Try.underlying9 (Kd.C_drew HC9.out)
      rw [List.drop_zero] at hc1
      rw [mkS_len a0 HH.out] at hc1 hc2
      generalize strOfNums (mkS a0) = S at hc1 hc2
      refine start_ (n := 10) (S := fun w' => (convert 27 9 (.slice (some ⟨w2.heap.size, 0, none⟩) 16 16)).run Try.prog w' = .ok (.string S) w' ∧ (convert 27 9 (.slice A9 16 c9)).run Try.prog w' = .ok (.string S) w') (ds := []) #[false, false, false, false, false, false, false, false, false, false] (by kernel_rfl) rfl rfl ⟨hc1, hc2⟩ (fun hHeld => ?_)
      refine pure_ (i := 0) (N := some 84) (v := ?_) (a' := ?_) #[true, false, false, false, false, false, false, false, false, false] rfl rfl (by kernel_rfl) (fun _ _ _ h => h) (Or.inl ⟨by rfl, ?_⟩) ?_ ?_
      rotate_left
      · intro w'
        go_simp
        with_reducible rfl
      rotate_left
      · simp only [Act.put, List.setIfInBounds_toArray, List.set_cons_zero, List.set_cons_succ, i64_w, i32_w]
        rfl
      refine pure_ (i := 1) (N := some 85) (v := ?_) (a' := ?_) #[true, true, false, false, false, false, false, false, false, false] rfl rfl (by kernel_rfl) (fun _ _ _ h => h) (Or.inl ⟨by rfl, ?_⟩) ?_ ?_
      rotate_left
      · intro w'
        go_simp
        with_reducible rfl
      rotate_left
      · simp only [Act.put, List.setIfInBounds_toArray, List.set_cons_zero, List.set_cons_succ, i64_w, i32_w]
        rfl
      refine pure_ (i := 2) (N := some 86) (v := ?_) (a' := ?_) #[true, true, true, false, false, false, false, false, false, false] rfl rfl (by kernel_rfl) (fun _ _ _ h => h) (Or.inl ⟨by rfl, ?_⟩) ?_ ?_
      rotate_left
      · intro w'
        go_simp
        with_reducible rfl
      rotate_left
      · simp only [Act.put, List.setIfInBounds_toArray, List.set_cons_zero, List.set_cons_succ, i64_w, i32_w]
        rfl
      refine pure_ (i := 3) (N := some 87) (v := ?_) (a' := ?_) #[true, true, true, true, false, false, false, false, false, false] rfl rfl (by kernel_rfl) (fun _ _ _ h => h) (Or.inl ⟨by rfl, ?_⟩) ?_ ?_
      rotate_left
      · intro w'
        go_simp
        with_reducible rfl
      rotate_left
      · simp only [Act.put, List.setIfInBounds_toArray, List.set_cons_zero, List.set_cons_succ, i64_w, i32_w]
        rfl
      refine pure_ (i := 5) (N := some 89) (v := ?_) (a' := ?_) #[true, true, true, true, false, true, false, false, false, false] rfl rfl (by kernel_rfl) (fun _ _ _ h => h) (Or.inl ⟨by rfl, ?_⟩) ?_ ?_
      rotate_left
      · intro w'
        go_simp
        with_reducible rfl
      rotate_left
      · simp only [Act.put, List.setIfInBounds_toArray, List.set_cons_zero, List.set_cons_succ, i64_w, i32_w]
        rfl
      refine take_ (i := 4) (N := some 88) (v := ?_) (a' := ?_) #[true, true, true, true, true, true, false, false, false, false] rfl rfl (by kernel_rfl) (fun _ _ _ h => h) (Or.inl ⟨by rfl, ?_⟩) hHeld ?_ ?_
      rotate_left
      · rintro w' ⟨s0, s1⟩
        go_simp
        with_reducible rfl
      rotate_left
      · simp only [Act.put, List.setIfInBounds_toArray, List.set_cons_zero, List.set_cons_succ, i64_w, i32_w]
        rfl
      refine take_ (i := 6) (N := some 90) (v := ?_) (a' := ?_) #[true, true, true, true, true, true, true, false, false, false] rfl rfl (by kernel_rfl) (fun _ _ _ h => h) (Or.inl ⟨by rfl, ?_⟩) hHeld ?_ ?_
      rotate_left
      · rintro w' ⟨s0, s1⟩
        go_simp
        with_reducible rfl
      rotate_left
      · simp only [Act.put, List.setIfInBounds_toArray, List.set_cons_zero, List.set_cons_succ, i64_w, i32_w]
        rfl
      refine pure_ (i := 7) (N := some 91) (v := ?_) (a' := ?_) #[true, true, true, true, true, true, true, true, false, false] rfl rfl (by kernel_rfl) (fun _ _ _ h => h) (Or.inl ⟨by rfl, ?_⟩) ?_ ?_
      rotate_left
      · intro w'
        go_simp
        with_reducible rfl
      rotate_left
      · simp only [Act.put, List.setIfInBounds_toArray, List.set_cons_zero, List.set_cons_succ, i64_w, i32_w]
        rfl
      refine pure_ (i := 8) (N := some 92) (v := ?_) (a' := ?_) #[true, true, true, true, true, true, true, true, true, false] rfl rfl (by kernel_rfl) (fun _ _ _ h => h) (Or.inl ⟨by rfl, ?_⟩) ?_ ?_
      rotate_left
      · intro w'
        go_simp
        with_reducible rfl
      rotate_left
      · simp only [Act.put, List.setIfInBounds_toArray, List.set_cons_zero, List.set_cons_succ, i64_w, i32_w]
        rfl
      refine pure_ (i := 9) (N := some 6) (v := ?_) (a' := ?_) #[true, true, true, true, true, true, true, true, true, true] rfl rfl (by kernel_rfl) (fun _ _ _ h => h) (Or.inl ⟨by rfl, ?_⟩) ?_ ?_
      rotate_left
      · intro w'
        go_simp
        with_reducible rfl
      rotate_left
      · simp only [Act.put, List.setIfInBounds_toArray, List.set_cons_zero, List.set_cons_succ, i64_w, i32_w]
        rfl
      refine done_ (by kernel_rfl) ?_
      go_wp2
      go_ret
      exact ⟨rfl, by repeat (first | exact HB.out | apply below_alloc | apply pw_below_drewN | apply below_drew1)⟩
    | succ k1 =>
      subst hv9
      have h16 : decide ((l.length : Int) < 16) = true := decide_eq_true (by have := HM.out; have := HK.out; have := HH.out; omega)
      have h17 : decide (l.length < 16) = true := decide_eq_true (by have := HM.out; have := HK.out; have := HH.out; omega)
      have HLL : Aside0 (l.length ≤ 100) := ⟨by have := HM.out; have := HK.out; have := HH.out; omega⟩
      have HLE := Aside0.mk hl
      clear hl hll hl9 hr9
      go_wp2_with (first | ((with_reducible refine gate_builtin (b := .append) (xs := #[.tmp 81, .tmp 82]) rfl ?_); at_builtin; refine Kd.R_append (Kd.int .u8) (w0 := w) w.heap.size rfl (.tmp 81) (.tmp 82) 27 5 (.int .u8 0) 1 rfl Try.underlying27 info8 rfl (by decide) (by omega) (.slice A9 l.length c9) l 0 [.int .u8 0] (fun _ => True) (fun _ => False) rfl rfl ?aP (fun _ hk => hk.elim) ?aF ?aO ?aB ?aS ?aL ?_; (case aP => exact rfl); (case aB => exact HB.out); (case aF => exact (fun _ _ => trivial)); (case aO => exact HO.out); (case aS => exact below_size HB.out); (case aL => have := HLL.out; omega); intro v7 w7 ho hb hg hat; have HG7 := Aside0.mk (blk_grown HG.out hg (Kd.R_ne HO.out HG.out (by decide))); have HB7 := Aside0.mk hb; have HO7 := Aside0.mk ho; clear ho hb hg hat))
      go_roundg k1
      case measure => omega
      case rel => exact ⟨m + 1, ⟨by have := HM.out; omega⟩, ⟨by have := HO7.out; rw [HLE.out] at this; simpa [List.replicate_succ'] using this⟩, HG7, HB7⟩
end Go.Proofs.Ytmedgpchmkmifaa.HW
