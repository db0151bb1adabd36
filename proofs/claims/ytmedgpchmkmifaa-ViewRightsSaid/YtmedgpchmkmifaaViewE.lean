/- law 06's awake, walked. -/
import Derived.Test.YtmedgpchmkmifaaViewD
import Derived.BigFrame
set_option linter.unusedVariables false
set_option linter.unusedSimpArgs false
namespace Go.Proofs.Ytmedgpchmkmifaa.HW
open Go.RowKit Go.Proofs.Ytmedgpchmkmifaa.P Go.Proofs.Ytmedgpchmkmifaa.HP Go.Proofs.YtmedgpchmkmifaaW.PrintWords Go.Proofs.YtmedgpchmkmifaaW.PrintLast Go.Proofs.YtmedgpchmkmifaaW.PrintMore
attribute [local go_sem] max2_int min2_int max_two min_two max_three min_three max_four min_four
def av : List Int := [2, 0, 0, 0, 97, 98, 0, 0, 0, 0, 0, 0, 0, 0, 0, 0]
theorem av_e : setAt (put4 z16 0 ((⟨#[97, 98]⟩ : ByteArray).size : Int) 4) 4 (bytesOf ⟨#[97, 98]⟩) = av := by decide +kernel
theorem av_c : cel av = #[.int .u8 2, .int .u8 0, .int .u8 0, .int .u8 0, .int .u8 97, .int .u8 98, .int .u8 0, .int .u8 0, .int .u8 0, .int .u8 0, .int .u8 0, .int .u8 0, .int .u8 0, .int .u8 0, .int .u8 0, .int .u8 0] := rfl
theorem cells16 {W : World} {g : Nat} {C : Array Value} (hC : C = cel av) (h : W.heap[g]? = some (.cells C 23 (0, 0))) : W.cell? ⟨g, 0, none⟩ = some (.int .u8 2) ∧ W.cell? ⟨g, 1, none⟩ = some (.int .u8 0) ∧ W.cell? ⟨g, 2, none⟩ = some (.int .u8 0) ∧ W.cell? ⟨g, 3, none⟩ = some (.int .u8 0) ∧ W.cell? ⟨g, 4, none⟩ = some (.int .u8 97) ∧ W.cell? ⟨g, 5, none⟩ = some (.int .u8 98) ∧ W.cell? ⟨g, 6, none⟩ = some (.int .u8 0) ∧ W.cell? ⟨g, 7, none⟩ = some (.int .u8 0) ∧ W.cell? ⟨g, 8, none⟩ = some (.int .u8 0) ∧ W.cell? ⟨g, 9, none⟩ = some (.int .u8 0) ∧ W.cell? ⟨g, 10, none⟩ = some (.int .u8 0) ∧ W.cell? ⟨g, 11, none⟩ = some (.int .u8 0) ∧ W.cell? ⟨g, 12, none⟩ = some (.int .u8 0) ∧ W.cell? ⟨g, 13, none⟩ = some (.int .u8 0) ∧ W.cell? ⟨g, 14, none⟩ = some (.int .u8 0) ∧ W.cell? ⟨g, 15, none⟩ = some (.int .u8 0) := by
  subst hC
  refine ⟨?_, ?_, ?_, ?_, ?_, ?_, ?_, ?_, ?_, ?_, ?_, ?_, ?_, ?_, ?_, ?_⟩ <;> rw [blk_cell h] <;> rfl
theorem z16_c : cel z16 = #[.int .u8 0, .int .u8 0, .int .u8 0, .int .u8 0, .int .u8 0, .int .u8 0, .int .u8 0, .int .u8 0, .int .u8 0, .int .u8 0, .int .u8 0, .int .u8 0, .int .u8 0, .int .u8 0, .int .u8 0, .int .u8 0] := rfl
theorem av_b : isB av := by unfold isB; decide
theorem av_n : le4v av = 2 := by decide +kernel
theorem av_r : rightB av = true := by decide +kernel
theorem av_t : strOfNums ((av.drop 4).take 2) = ⟨#[97, 98]⟩ := by decide +kernel
set_option maxHeartbeats 8000000 in
set_option maxRecDepth 100000 in
theorem law6_awake (w : World) : Calls Try.prog 11 #[] w fun e w' => e = .returned (.bool true) ∧ Below w.heap.size w w' := by
  have HB := Aside0.mk (Below.refl w.heap.size w)
  obtain ⟨Z, hZ⟩ : ∃ Z, Z = cel z16 := ⟨_, rfl⟩
  have hz := zero16
  have HMb := Aside0.mk (fun w => view_Make.bad2 ⟨#[116, 104, 105, 114, 116, 101, 101, 110, 32, 108, 111, 110, 103]⟩ (-1) 0 w (by decide) (by decide) (by decide))
  rw [← hZ] at hz HMb
  have HSZ : Aside0 (Z.size = 16) := ⟨by rw [hZ]; rfl⟩
  have H1Z : Aside0 (Z.all (·.oneCell') = true) := ⟨by rw [hZ]; exact cel_one _⟩
  obtain ⟨C, hC⟩ : ∃ C, C = cel av := ⟨_, rfl⟩
  have HSC : Aside0 (C.size = 16) := ⟨by rw [hC]; rfl⟩
  have H1C : Aside0 (C.all (·.oneCell') = true) := ⟨by rw [hC]; exact cel_one _⟩
  have HMk := Aside0.mk (fun w => view_Make.short ⟨#[97, 98]⟩ 0 0 w (by decide))
  rw [av_e, ← hC] at HMk
  have HLn := Aside0.mk (fun w => view_Len.calls av w rfl av_b)
  have HSh := Aside0.mk (fun w => view_Short.calls av w rfl av_b)
  have HTx := Aside0.mk (fun w => view_Text.calls av w rfl av_b)
  have HRt := Aside0.mk (fun w => view_Right.calls av w rfl av_b)
  rw [av_n, av_c] at HLn
  rw [av_n, av_c, show decide ((2 : Int) ≤ 12) = true from rfl] at HSh
  rw [av_n, av_c, if_pos (by decide), show Int.toNat 2 = 2 from rfl, av_t] at HTx
  rw [av_r, av_c] at HRt
  have HEQ := Aside0.mk (eq16 av av rfl rfl)
  rw [decide_eq_true rfl, av_c] at HEQ
  have hbl : Try.prog.built 23 [(0, Value.int .u8 2), (1, Value.int .u8 0), (2, Value.int .u8 0), (3, Value.int .u8 0), (4, Value.int .u8 97), (5, Value.int .u8 98)] = some #[.int .u8 2, .int .u8 0, .int .u8 0, .int .u8 0, .int .u8 97, .int .u8 98, .int .u8 0, .int .u8 0, .int .u8 0, .int .u8 0, .int .u8 0, .int .u8 0, .int .u8 0, .int .u8 0, .int .u8 0, .int .u8 0] := by kernel_rfl
  have hbd := fun W => run_build (P := Try.prog) W 23 #[(0, Value.int .u8 2), (1, Value.int .u8 0), (2, Value.int .u8 0), (3, Value.int .u8 0), (4, Value.int .u8 97), (5, Value.int .u8 98)] _ hbl
  clear hbl
  have hgd := guard16
  have HCE := Aside0.mk hC
  clear hC
  rw [z16_c] at hZ
  subst hZ
  go_enter Try.func11, Try.ntmps11
  go_wp2_with fail
  refine (HMk.out _).mono ?_
  rintro e w1 ⟨rfl, hb1⟩
  have HB1 := Aside0.mk (below_step HB.out hb1)
  have HN1 := Aside0.mk (blk_new w1 (.cells (#[.int .u8 0, .int .u8 0, .int .u8 0, .int .u8 0, .int .u8 0, .int .u8 0, .int .u8 0, .int .u8 0, .int .u8 0, .int .u8 0, .int .u8 0, .int .u8 0, .int .u8 0, .int .u8 0, .int .u8 0, .int .u8 0] : Array Value) 23))
  clear HB hb1
  go_wp2_with (first | ((with_reducible refine gate_store (t := 23) (p := 1) rfl ?_); refine wpList_store_row rfl 23 _ _ rfl w1.heap.size C (by rfl) (by rfl) 23 (#[.int .u8 0, .int .u8 0, .int .u8 0, .int .u8 0, .int .u8 0, .int .u8 0, .int .u8 0, .int .u8 0, .int .u8 0, .int .u8 0, .int .u8 0, .int .u8 0, .int .u8 0, .int .u8 0, .int .u8 0, .int .u8 0] : Array Value) HN1.out (by rw [info16, HSC.out]) (HSZ.out.trans HSC.out.symm) H1C.out ?_))
  have HG1 := Aside0.mk (setRow_heap _ _ _ C _ _ HN1.out)
  have HB1' := Aside0.mk (below_row (below_alloc HB1.out (.cells (#[.int .u8 0, .int .u8 0, .int .u8 0, .int .u8 0, .int .u8 0, .int .u8 0, .int .u8 0, .int .u8 0, .int .u8 0, .int .u8 0, .int .u8 0, .int .u8 0, .int .u8 0, .int .u8 0, .int .u8 0, .int .u8 0] : Array Value) 23)) (below_size HB1.out) C)
  refine (HMb.out _).mono ?_
  rintro e w2 ⟨rfl, hb1⟩
  have HG2 := Aside0.mk ((hb1.block _ (blk_lt HG1.out)).trans HG1.out)
  have HB2 := Aside0.mk (below_step HB1'.out hb1)
  have HN2 := Aside0.mk (blk_new w2 (.cells (#[.int .u8 0, .int .u8 0, .int .u8 0, .int .u8 0, .int .u8 0, .int .u8 0, .int .u8 0, .int .u8 0, .int .u8 0, .int .u8 0, .int .u8 0, .int .u8 0, .int .u8 0, .int .u8 0, .int .u8 0, .int .u8 0] : Array Value) 23))
  have HG3 : Aside0 ((w2.alloc (.cells (#[.int .u8 0, .int .u8 0, .int .u8 0, .int .u8 0, .int .u8 0, .int .u8 0, .int .u8 0, .int .u8 0, .int .u8 0, .int .u8 0, .int .u8 0, .int .u8 0, .int .u8 0, .int .u8 0, .int .u8 0, .int .u8 0] : Array Value) 23)).heap[w1.heap.size]? = some (.cells C 23 (0, 0))) := ⟨((below_alloc (Below.refl _ w2) (.cells (#[.int .u8 0, .int .u8 0, .int .u8 0, .int .u8 0, .int .u8 0, .int .u8 0, .int .u8 0, .int .u8 0, .int .u8 0, .int .u8 0, .int .u8 0, .int .u8 0, .int .u8 0, .int .u8 0, .int .u8 0, .int .u8 0] : Array Value) 23)).block _ (blk_lt HG2.out)).trans HG2.out⟩
  have HLT := Aside0.mk (blk_lt HG2.out)
  have HG4 : Aside0 (((w2.alloc (.cells (#[.int .u8 0, .int .u8 0, .int .u8 0, .int .u8 0, .int .u8 0, .int .u8 0, .int .u8 0, .int .u8 0, .int .u8 0, .int .u8 0, .int .u8 0, .int .u8 0, .int .u8 0, .int .u8 0, .int .u8 0, .int .u8 0] : Array Value) 23)).setRow w2.heap.size (#[.int .u8 0, .int .u8 0, .int .u8 0, .int .u8 0, .int .u8 0, .int .u8 0, .int .u8 0, .int .u8 0, .int .u8 0, .int .u8 0, .int .u8 0, .int .u8 0, .int .u8 0, .int .u8 0, .int .u8 0, .int .u8 0] : Array Value)).heap[w1.heap.size]? = some (.cells C 23 (0, 0))) := ⟨(heap_row (by have := HLT.out; omega)).trans HG3.out⟩
  have HB4 := Aside0.mk (below_row (below_alloc HB2.out (.cells (#[.int .u8 0, .int .u8 0, .int .u8 0, .int .u8 0, .int .u8 0, .int .u8 0, .int .u8 0, .int .u8 0, .int .u8 0, .int .u8 0, .int .u8 0, .int .u8 0, .int .u8 0, .int .u8 0, .int .u8 0, .int .u8 0] : Array Value) 23)) (below_size HB2.out) (#[.int .u8 0, .int .u8 0, .int .u8 0, .int .u8 0, .int .u8 0, .int .u8 0, .int .u8 0, .int .u8 0, .int .u8 0, .int .u8 0, .int .u8 0, .int .u8 0, .int .u8 0, .int .u8 0, .int .u8 0, .int .u8 0] : Array Value))
  clear HB1 HB1' HG1 hb1 HG2 HB2 HG3
  have heq := fun W => HEQ.out W
  obtain ⟨k0, k1, k2, k3, k4, k5, k6, k7, k8, k9, k10, k11, k12, k13, k14, k15⟩ := cells16 HCE.out HG4.out
  go_wp2_with (first | ((with_reducible refine gate_store (t := 23) (p := 3) rfl ?_); refine wpList_store_row rfl 23 _ _ rfl w2.heap.size (#[.int .u8 0, .int .u8 0, .int .u8 0, .int .u8 0, .int .u8 0, .int .u8 0, .int .u8 0, .int .u8 0, .int .u8 0, .int .u8 0, .int .u8 0, .int .u8 0, .int .u8 0, .int .u8 0, .int .u8 0, .int .u8 0] : Array Value) (by rfl) (by rfl) 23 (#[.int .u8 0, .int .u8 0, .int .u8 0, .int .u8 0, .int .u8 0, .int .u8 0, .int .u8 0, .int .u8 0, .int .u8 0, .int .u8 0, .int .u8 0, .int .u8 0, .int .u8 0, .int .u8 0, .int .u8 0, .int .u8 0] : Array Value) HN2.out (by rw [info16, HSZ.out]) (HSZ.out.trans HSZ.out.symm) H1Z.out ?_))
  clear k0 k1 k2 k3 k4 k5 k6 k7 k8 k9 k10 k11 k12 k13 k14 k15
  refine (HLn.out _).mono ?_
  rintro e w5 ⟨rfl, hb1⟩
  have HG5 := Aside0.mk ((hb1.block _ (blk_lt HG4.out)).trans HG4.out)
  have HB5 := Aside0.mk (below_step HB4.out hb1)
  clear HG4 HB4 hb1
  obtain ⟨k0, k1, k2, k3, k4, k5, k6, k7, k8, k9, k10, k11, k12, k13, k14, k15⟩ := cells16 HCE.out HG5.out
  go_wp2_with fail
  clear k0 k1 k2 k3 k4 k5 k6 k7 k8 k9 k10 k11 k12 k13 k14 k15
  refine (HSh.out _).mono ?_
  rintro e w6 ⟨rfl, hb1⟩
  have HG6 := Aside0.mk ((hb1.block _ (blk_lt HG5.out)).trans HG5.out)
  have HB6 := Aside0.mk (below_step HB5.out hb1)
  clear HG5 HB5 hb1
  obtain ⟨k0, k1, k2, k3, k4, k5, k6, k7, k8, k9, k10, k11, k12, k13, k14, k15⟩ := cells16 HCE.out HG6.out
  go_wp2_with fail
  clear k0 k1 k2 k3 k4 k5 k6 k7 k8 k9 k10 k11 k12 k13 k14 k15
  refine (HTx.out _).mono ?_
  rintro e w7 ⟨rfl, hb1⟩
  have HG7 := Aside0.mk ((hb1.block _ (blk_lt HG6.out)).trans HG6.out)
  have HB7 := Aside0.mk (below_step HB6.out hb1)
  clear HG6 HB6 hb1
  obtain ⟨k0, k1, k2, k3, k4, k5, k6, k7, k8, k9, k10, k11, k12, k13, k14, k15⟩ := cells16 HCE.out HG7.out
  go_wp2_with fail
  clear k0 k1 k2 k3 k4 k5 k6 k7 k8 k9 k10 k11 k12 k13 k14 k15
  refine (HRt.out _).mono ?_
  rintro e w8 ⟨rfl, hb1⟩
  have HG8 := Aside0.mk ((hb1.block _ (blk_lt HG7.out)).trans HG7.out)
  have HB8 := Aside0.mk (below_step HB7.out hb1)
  clear HG7 HB7 hb1
  go_wp2_with fail
  go_ret
  exact ⟨rfl, HB8.out⟩
end Go.Proofs.Ytmedgpchmkmifaa.HW
