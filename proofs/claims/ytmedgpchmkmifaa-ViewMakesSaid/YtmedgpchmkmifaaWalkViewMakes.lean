/- ViewMakes: the law, walked. -/
import Derived.Test.YtmedgpchmkmifaaViewMA
set_option linter.unusedVariables false
set_option linter.unusedSimpArgs false
namespace Go.Proofs.Ytmedgpchmkmifaa.HW
open Go.RowKit Go.Proofs.Ytmedgpchmkmifaa.P Go.Proofs.Ytmedgpchmkmifaa.HP Go.Proofs.YtmedgpchmkmifaaW.PrintWords Go.Proofs.YtmedgpchmkmifaaW.PrintLast Go.Proofs.YtmedgpchmkmifaaW.PrintMore
attribute [local go_sem] max2_int min2_int max_two min_two max_three min_three max_four min_four
/-- The number's four bytes. -/
theorem four_fn (n : Int) (h0 : 0 ≤ n) (h1 : n < 1000000) : hopperlaw06_four.f n = some (fourL n) := by
  unfold hopperlaw06_four.f fourL
  rw [ww _ (by rw [Int.tdiv_eq_ediv_of_nonneg (by omega)]; omega) (by rw [Int.tdiv_eq_ediv_of_nonneg (by omega)]; omega), ww _ (by rw [Int.tdiv_eq_ediv_of_nonneg (by omega)]; omega) (by rw [Int.tdiv_eq_ediv_of_nonneg (by omega)]; omega), ww _ (by rw [Int.tdiv_eq_ediv_of_nonneg (by omega)]; omega) (by rw [Int.tdiv_eq_ediv_of_nonneg (by omega)]; omega)]
  simp only [Int.tdiv_eq_ediv_of_nonneg h0]
  rw [Int.tmod_eq_emod_of_nonneg (by omega), Int.tmod_eq_emod_of_nonneg (by omega), Int.tmod_eq_emod_of_nonneg (by omega), Int.tmod_eq_emod_of_nonneg (by omega)]
  simp only [Int.emod_emod]
theorem bw_below (W : World) (s : ByteArray) : Below W.heap.size W (Go.Lib.bytesWorld W 5 s) := ⟨rfl, rfl, rfl, by rw [Go.Lib.bytesWorld_size]; omega, fun k hk => Go.Lib.bytesWorld_at_old W _ s k hk⟩
theorem bw_row (W : World) (s : ByteArray) (hs : s.size ≤ 100000) : Kd.C (Kd.int .u8) (Go.Lib.bytesWorld W 5 s) (some ⟨W.heap.size, 0, none⟩) (bytesOf s).length (bytesOf s) := by
  refine Kd.C_of_reads (d := (0 : Int)) (h1 := fun _ => rfl) ⟨rfl, by rw [bytes_len]; omega, fun _ => ⟨_, rfl, fun j hj => ?_⟩⟩
  rw [bytes_len] at hj
  rw [add_plain, Go.Lib.bytesWorld_cell W _ s j hj]
  simp [bytesOf, List.getD_eq_getElem?_getD, hj]
set_option maxHeartbeats 8000000 in
set_option maxRecDepth 100000 in
theorem ViewMakes_placed (a0 : ByteArray) (a1 : Int) (a2 : Int) (w : World) (h : 12 < a0.size) (h2 : a0.size ≤ 4096) (hp : 0 ≤ a1 ∧ a1 ≤ 65535 ∧ 0 ≤ a2 ∧ a2 ≤ 65536) :
    Calls Try.prog 3 #[.string a0, .int .i64 a1, .int .i64 a2] w fun e w' => e = .returned (.bool true) ∧ Below w.heap.size w w' := by
  have t1 : decide (5000 < (a0.size : Int)) = false := decide_eq_false (by omega)
  have t2 : decide (5000 < a0.size) = false := decide_eq_false (by omega)
  have t3 : decide (4096 < (a0.size : Int)) = false := decide_eq_false (by omega)
  have t4 : decide (4096 < a0.size) = false := decide_eq_false (by omega)
  have t5 : decide (12 < (a0.size : Int)) = true := decide_eq_true (by omega)
  have t6 : decide (12 < a0.size) = true := decide_eq_true (by omega)
  have p1 : decide (a1 < 0) = false := decide_eq_false (by omega)
  have p2 : decide (65535 < a1) = false := decide_eq_false (by omega)
  have p3 : decide (a2 < 0) = false := decide_eq_false (by omega)
  have p4 : decide (65536 < a2) = false := decide_eq_false (by omega)
  have hlt : (4 : Int) ≤ (a0.size : Int) := by omega
  have hltn : 4 ≤ a0.size := by omega
  obtain ⟨p, hpe⟩ : ∃ p, p = a0.extract 0 4 := ⟨_, rfl⟩
  have hpb : bytesOf p = (bytesOf a0).take 4 := by rw [hpe]; simp [bytesOf, List.map_take]
  have hps : p.size = 4 := by rw [hpe, ByteArray.size_extract]; omega
  have HP : Aside0 (p.size ≤ 100000) := ⟨by omega⟩
  have HPL : Aside0 ((bytesOf p).length = 4) := ⟨by rw [bytes_len, hps]⟩
  have HPB := Aside0.mk hpb
  have hcv := fun W => Go.Lib.run_convert_string_bytes (P := Try.prog) W 9 27 5 p Try.underlying9 Try.underlying27 Try.underlying5
  have hpe' := hpe.symm
  clear hpb hps hpe
  have HMk := Aside0.mk (fun w => view_Make.long a0 a1 a2 w h h2 (by unfold placedB; exact decide_eq_true hp))
  rw [mkB_e a0 a1 a2 h] at HMk
  obtain ⟨C, hC⟩ : ∃ C, C = cel (mkB a0 a1 a2) := ⟨_, rfl⟩
  rw [← hC] at HMk
  have HSC : Aside0 (C.size = 16) := ⟨by rw [hC, cel_size, mkB_len a0 a1 a2 h]⟩
  have H1C : Aside0 (C.all (·.oneCell') = true) := ⟨by rw [hC]; exact cel_one _⟩
  have HCE := Aside0.mk hC
  have HH := Aside0.mk (show 12 < a0.size ∧ a0.size ≤ 4096 from ⟨h, h2⟩)
  have HF0 := Aside0.mk (four_fn (a0.size : Int) (by omega) (by omega))
  have HF1 := Aside0.mk (four_fn a1 (by omega) (by omega))
  have HF2 := Aside0.mk (four_fn a2 (by omega) (by omega))
  clear h h2 hp hC
  have hz := zero16
  obtain ⟨Z, hZ⟩ : ∃ Z, Z = cel z16 := ⟨_, rfl⟩
  rw [← hZ] at hz
  have HSZ : Aside0 (Z.size = 16) := ⟨by rw [hZ]; rfl⟩
  clear hZ
  have HB := Aside0.mk (Below.refl w.heap.size w)
  go_enter Try.func3, Try.ntmps3
  go_wp2_with fail
  refine (law6_awake _).mono ?_
  rintro e w1 ⟨rfl, hb⟩
  have HB1 := Aside0.mk (below_step HB.out hb)
  clear HB hb
  go_wp2_with fail
  refine (HMk.out _).mono ?_
  rintro e w2 ⟨rfl, hb⟩
  have HB2 := Aside0.mk (below_step HB1.out hb)
  have HN2 := Aside0.mk (blk_new w2 (.cells Z 23))
  have HG2 := Aside0.mk (setRow_heap _ _ _ C _ _ HN2.out)
  have HB3 := Aside0.mk (below_row (below_alloc HB2.out (.cells Z 23)) (below_size HB2.out) C)
  clear HB1 HB2 hb
  go_wp2_with (first | ((with_reducible refine gate_store (t := 23) (p := 7) rfl ?_); refine wpList_store_row rfl 23 _ _ rfl w2.heap.size C (by rfl) (by rfl) 23 Z HN2.out (by rw [info16, HSC.out]) (HSZ.out.trans HSC.out.symm) H1C.out ?_))
  have hfo := HF0.out
  refine (hopperlaw06_four.calls (a0.size : Int) (fourL a0.size) _ hfo).mono ?_
  rintro e w4 ⟨v4, rfl, ho, hb⟩
  have HG4 := Aside0.mk ((hb.block _ (blk_lt HG2.out)).trans HG2.out)
  have HB4 := Aside0.mk (below_step HB3.out hb)
  have HB3' := HB3
  have HO4 := Aside0.mk ho
  clear HG2 ho hb hfo
  obtain ⟨W5, hW5⟩ : ∃ W, W = Go.Lib.bytesWorld w4 5 a0 := ⟨_, rfl⟩
  have hb5 : Below w4.heap.size w4 W5 := ⟨by rw [hW5]; rfl, by rw [hW5]; rfl, by rw [hW5]; rfl, by rw [hW5, Go.Lib.bytesWorld_size]; omega, fun k hk => by rw [hW5]; exact Go.Lib.bytesWorld_at_old w4 _ a0 k hk⟩
  have HR5 : Aside0 (Kd.C (Kd.int .u8) W5 (some ⟨w4.heap.size, 0, none⟩) (bytesOf a0).length (bytesOf a0)) := ⟨by
    refine Kd.C_of_reads (d := (0 : Int)) (h1 := fun _ => rfl) ⟨rfl, by rw [bytes_len]; have := HH.out; omega, fun _ => ⟨_, rfl, fun j hj => ?_⟩⟩
    rw [bytes_len] at hj
    rw [hW5, add_plain, Go.Lib.bytesWorld_cell w4 _ a0 j hj]
    simp [bytesOf, List.getD_eq_getElem?_getD, hj]⟩
  obtain ⟨cap, hcv0⟩ : ∃ cap, (convert 9 27 (.string a0)).run Try.prog w4 = .ok (.slice (some ⟨w4.heap.size, 0, none⟩) (bytesOf a0).length cap) W5 := ⟨_, by rw [hW5, bytes_len]; exact Go.Lib.run_convert_string_bytes (P := Try.prog) w4 9 27 5 a0 Try.underlying9 Try.underlying27 Try.underlying5⟩
  have HG5 := Aside0.mk ((hb5.block _ (blk_lt HG4.out)).trans HG4.out)
  have HB5 := Aside0.mk (below_step HB4.out hb5)
  have HO5 := Aside0.mk (Kd.R_lower (Kd.R_below HO4.out hb5) (below_size HB3'.out))
  clear HG4 HB4 HO4 hb5 hW5
  go_wp2_with (first | ((with_reducible refine gate_builtin (b := .append) (xs := #[.tmp 58, .tmp 60]) rfl ?_); at_builtin; refine Kd.R_append_rows (Kd.int .u8) (w0 := w) w.heap.size rfl (.tmp 58) (.tmp 60) 27 5 (.int .u8 0) 1 rfl Try.underlying27 info8 rfl (by decide) (by omega) v4 (fourL a0.size) (bytesOf a0) _ _ _ (fun _ => True) (fun _ => False) rfl rfl ?aO ?aR (fun _ _ h => h) (fun _ h => h.elim) ?aF ?aB ?aS ?aL ?_; (case aR => exact HR5.out); (case aB => exact HB5.out); (case aF => exact (fun _ _ => trivial)); (case aO => exact HO5.out); (case aS => exact (below_size HB5.out)); (case aL => have := HH.out; rw [bytes_len]; simp [fourL]; omega); intro v6 w6 ho hb hg hat; have HG6 := Aside0.mk (blk_grown HG5.out hg (Kd.R_ne HO5.out HG5.out (by decide))); have HB6 := Aside0.mk hb; have HO6 := Aside0.mk ho; clear HO5 HR5; clear ho hb hat))
  go_wp2_with fail
  have HGD : Aside0 (w6.drew.heap[w2.heap.size]? = some (.cells C 23 (0, 0))) := ⟨HG6.out⟩
  have HBD := Aside0.mk (below_drew1 HB6.out)
  refine start_ (n := 14) (S := fun w' => True) (ds := []) #[false, false, false, false, false, false, false, false, false, false, false, false, false, false] (by kernel_rfl) rfl rfl trivial (fun hHeld => ?_)
  refine pure_ (i := 0) (N := some 65) (v := ?_) (a' := ?_) #[true, false, false, false, false, false, false, false, false, false, false, false, false, false] rfl rfl (by kernel_rfl) (fun _ _ _ h => h) (Or.inl ⟨by rfl, ?_⟩) ?_ ?_
  rotate_left
  · intro w'
    go_simp
    with_reducible rfl
  rotate_left
  · simp only [Act.put, List.setIfInBounds_toArray, List.set_cons_zero, List.set_cons_succ, i64_w, i32_w]
    rfl
  refine pure_ (i := 1) (N := some 66) (v := ?_) (a' := ?_) #[true, true, false, false, false, false, false, false, false, false, false, false, false, false] rfl rfl (by kernel_rfl) (fun _ _ _ h => h) (Or.inl ⟨by rfl, ?_⟩) ?_ ?_
  rotate_left
  · intro w'
    go_simp
    with_reducible rfl
  rotate_left
  · simp only [Act.put, List.setIfInBounds_toArray, List.set_cons_zero, List.set_cons_succ, i64_w, i32_w]
    rfl
  refine pure_ (i := 3) (N := some 68) (v := ?_) (a' := ?_) #[true, true, false, true, false, false, false, false, false, false, false, false, false, false] rfl rfl (by kernel_rfl) (fun _ _ _ h => h) (Or.inl ⟨by rfl, ?_⟩) ?_ ?_
  rotate_left
  · intro w'
    go_simp
    with_reducible rfl
  rotate_left
  · simp only [Act.put, List.setIfInBounds_toArray, List.set_cons_zero, List.set_cons_succ, i64_w, i32_w]
    rfl
  refine pure_ (i := 4) (N := some 69) (v := ?_) (a' := ?_) #[true, true, false, true, true, false, false, false, false, false, false, false, false, false] rfl rfl (by kernel_rfl) (fun _ _ _ h => h) (Or.inl ⟨by rfl, ?_⟩) ?_ ?_
  rotate_left
  · intro w'
    go_simp
    with_reducible rfl
  rotate_left
  · simp only [Act.put, List.setIfInBounds_toArray, List.set_cons_zero, List.set_cons_succ, i64_w, i32_w]
    rfl
  refine pure_ (i := 7) (N := some 72) (v := ?_) (a' := ?_) #[true, true, false, true, true, false, false, true, false, false, false, false, false, false] rfl rfl (by kernel_rfl) (fun _ _ _ h => h) (Or.inl ⟨by rfl, ?_⟩) ?_ ?_
  rotate_left
  · intro w'
    go_simp
    with_reducible rfl
  rotate_left
  · simp only [Act.put, List.setIfInBounds_toArray, List.set_cons_zero, List.set_cons_succ, i64_w, i32_w]
    rfl
  refine pure_ (i := 10) (N := some 75) (v := ?_) (a' := ?_) #[true, true, false, true, true, false, false, true, false, false, true, false, false, false] rfl rfl (by kernel_rfl) (fun _ _ _ h => h) (Or.inl ⟨by rfl, ?_⟩) ?_ ?_
  rotate_left
  · intro w'
    go_simp
    with_reducible rfl
  rotate_left
  · simp only [Act.put, List.setIfInBounds_toArray, List.set_cons_zero, List.set_cons_succ, i64_w, i32_w]
    rfl
  refine join_ (σ := Value × Value) 6 #[true, true, true, true, true, true, false, true, false, false, true, false, false, false] (fun s => [(67, s.1), (70, s.2)]) (fun s w' => Kd.R (Kd.int .u8) 5 w' w.heap.size (fun _ => True) s.1 (fourL a0.size) ∧ (∃ A c, s.2 = .slice A p.size c ∧ Kd.C (Kd.int .u8) w' A (bytesOf p).length (bytesOf p)) ∧ Below w6.drew.heap.size w6.drew w') ?_ ?_
  rotate_left
  · intro hCont
    refine two_ (i := 2) (j := 5) (Ni := some 67) (Nj := some 70) #[true, true, true, true, true, false, false, true, false, false, true, false, false, false] #[true, true, false, true, true, true, false, true, false, false, true, false, false, false] rfl rfl rfl rfl (by kernel_rfl) (by decide) (by decide) (fun K hK => ?_) (fun K hK => ?_)
    · skip
      refine goes_ Try.func13 (by kernel_rfl) rfl #[.int .i64 (a0.size : Int)] (by rfl) rfl rfl (by simp only [List.map_toArray, List.map_cons, List.map_nil]; rfl) ?_
      with_reducible refine (hopperlaw06_four.calls (a0.size : Int) (fourL (a0.size : Int)) _ HF0.out).mono ?_
      rintro e w8 ⟨v8, rfl, ho8, hb8⟩
      refine ⟨_, rfl, ?_⟩
      refine hK.out _ _ trivial (fun hHeld => ?_)
      clear hK K
      refine norm_ (a' := ?_) ?_ ?_
      rotate_left
      · show Act.put _ (some 67) _ = _
        simp only [Act.put, List.setIfInBounds_toArray, List.set_cons_zero, List.set_cons_succ, i64_w, i32_w]
        rfl
      refine one_ (i := 5) (N := some 70) #[true, true, true, true, true, true, false, true, false, false, true, false, false, false] rfl rfl (by kernel_rfl) (by decide) (fun K hK => ?_)
      refine event_step (w1 := Go.Lib.bytesWorld w8 5 p) (v := .slice (some ⟨w8.heap.size, 0, none⟩) p.size (grownCap w8 p.size 0 5)) (by rfl) ?ev ?_
      case ev => first | (go_simp; done) | (go_simp; rfl)
      refine hK.out _ _ trivial (fun hHeld => ?_)
      clear hK K
      refine norm_ (a' := ?_) ?_ ?_
      rotate_left
      · show Act.put _ (some 70) _ = _
        simp only [Act.put, List.setIfInBounds_toArray, List.set_cons_zero, List.set_cons_succ, i64_w, i32_w]
        rfl
      exact norm_ (by simp only [putAll, Act.put, List.setIfInBounds_toArray, List.set_cons_zero, List.set_cons_succ]) (hCont (v8, .slice (some ⟨w8.heap.size, 0, none⟩) p.size (grownCap w8 p.size 0 5)) _ ⟨Kd.R_lower (Kd.R_below ho8 (bw_below w8 p)) (below_size HBD.out), ⟨_, _, rfl, bw_row w8 p HP.out⟩, below_step hb8 (bw_below w8 p)⟩)
    · skip
      refine event_step (w1 := Go.Lib.bytesWorld w6.drew 5 p) (v := .slice (some ⟨w6.drew.heap.size, 0, none⟩) p.size (grownCap w6.drew p.size 0 5)) (by rfl) ?ev ?_
      case ev => first | (go_simp; done) | (go_simp; rfl)
      refine hK.out _ _ trivial (fun hHeld => ?_)
      clear hK K
      refine norm_ (a' := ?_) ?_ ?_
      rotate_left
      · show Act.put _ (some 70) _ = _
        simp only [Act.put, List.setIfInBounds_toArray, List.set_cons_zero, List.set_cons_succ, i64_w, i32_w]
        rfl
      refine one_ (i := 2) (N := some 67) #[true, true, true, true, true, true, false, true, false, false, true, false, false, false] rfl rfl (by kernel_rfl) (by decide) (fun K hK => ?_)
      refine goes_ Try.func13 (by kernel_rfl) rfl #[.int .i64 (a0.size : Int)] (by rfl) rfl rfl (by simp only [List.map_toArray, List.map_cons, List.map_nil]; rfl) ?_
      with_reducible refine (hopperlaw06_four.calls (a0.size : Int) (fourL (a0.size : Int)) _ HF0.out).mono ?_
      rintro e w8 ⟨v8, rfl, ho8, hb8⟩
      refine ⟨_, rfl, ?_⟩
      refine hK.out _ _ trivial (fun hHeld => ?_)
      clear hK K
      refine norm_ (a' := ?_) ?_ ?_
      rotate_left
      · show Act.put _ (some 67) _ = _
        simp only [Act.put, List.setIfInBounds_toArray, List.set_cons_zero, List.set_cons_succ, i64_w, i32_w]
        rfl
      exact norm_ (by simp only [putAll, Act.put, List.setIfInBounds_toArray, List.set_cons_zero, List.set_cons_succ]) (hCont (v8, .slice (some ⟨w6.drew.heap.size, 0, none⟩) p.size (grownCap w6.drew p.size 0 5)) _ ⟨Kd.R_lower ho8 (Nat.le_trans (below_size HBD.out) (below_size (bw_below w6.drew p))), ⟨_, _, rfl, Kd.C_below (bw_row w6.drew p HP.out) hb8⟩, below_step (bw_below w6.drew p) hb8⟩)
  rintro ⟨x67, x70⟩ w9 ⟨ho9, ⟨A9, c9, hx9, hr9⟩, hb9⟩
  dsimp only at ho9 hx9
  subst hx9
  have HG9 := Aside0.mk ((hb9.block _ (blk_lt HGD.out)).trans HGD.out)
  have HB9 := Aside0.mk (below_step HBD.out hb9)
  have HO9 := Aside0.mk ho9
  have HR9 := Aside0.mk hr9
  clear ho9 hr9 hb9
  have hHeld : True := trivial
  refine norm_ (a' := ?_) ?_ ?_
  rotate_left
  · simp only [putAll, Act.put, List.setIfInBounds_toArray, List.set_cons_zero, List.set_cons_succ]
    rfl
  refine one_ (i := 6) (N := some 71) #[true, true, true, true, true, true, true, true, false, false, true, false, false, false] rfl rfl (by kernel_rfl) (by decide) (fun K hK => ?_)
  refine Kd.R_append_rows_step (Kd.int .u8) (w0 := w) w.heap.size (by rfl) (.tmp 67) (.tmp 70) 27 5 (.int .u8 0) 1 (by rfl) Try.underlying27 info8 rfl (by decide) (by omega) x67 (fourL a0.size) (bytesOf p) (A9) (p.size) (c9) (fun _ => True) (fun _ => False) rfl rfl ?aO10 ?aR10 (fun _ _ h => h) (fun _ h => h.elim) ?aF10 ?aB10 ?aS10 ?aL10 ?_
  case aR10 => exact (by rw [← bytes_len p]; exact HR9.out)
  case aB10 => exact HB9.out
  case aF10 => exact (fun _ _ => trivial)
  case aO10 => exact HO9.out
  case aS10 => exact (below_size HB9.out)
  case aL10 => have hq := HP.out; have hq2 := HPL.out; rw [bytes_len] at hq2; simp [fourL, bytes_len]; try omega
  intro v10 w10 ho hb hg hat
  have HG10 := Aside0.mk (blk_grown HG9.out hg (Kd.R_ne HO9.out HG9.out (by decide)))
  have HB10 := Aside0.mk hb
  have HO10 := Aside0.mk ho
  clear ho hb hg hat
  refine hK.out _ _ trivial (fun hHeld => ?_)
  clear hK K
  refine norm_ (a' := ?_) ?_ ?_
  rotate_left
  · show Act.put _ (some 71) _ = _
    simp only [Act.put, List.setIfInBounds_toArray, List.set_cons_zero, List.set_cons_succ, i64_w, i32_w]
    rfl
  refine one_ (i := 8) (N := some 73) #[true, true, true, true, true, true, true, true, true, false, true, false, false, false] rfl rfl (by kernel_rfl) (by decide) (fun K hK => ?_)
  refine goes_ Try.func13 (by kernel_rfl) rfl #[.int .i64 a1] (by rfl) rfl rfl (by simp only [List.map_toArray, List.map_cons, List.map_nil]; rfl) ?_
  with_reducible refine (hopperlaw06_four.calls a1 (fourL a1) _ HF1.out).mono ?_
  rintro e w11 ⟨v11, rfl, ho, hb⟩
  refine ⟨_, rfl, ?_⟩
  obtain ⟨A11, c11, rfl, hl, hr⟩ := Kd.R_reads ho
  have HG11 := Aside0.mk ((hb.block _ (blk_lt HG10.out)).trans HG10.out)
  have HO11 := Aside0.mk (Kd.R_below HO10.out hb)
  have HB11 := Aside0.mk (below_step HB10.out hb)
  have HR11 := Aside0.mk hr
  clear ho hb hl hr
  refine hK.out _ _ trivial (fun hHeld => ?_)
  clear hK K
  refine norm_ (a' := ?_) ?_ ?_
  rotate_left
  · show Act.put _ (some 73) _ = _
    simp only [Act.put, List.setIfInBounds_toArray, List.set_cons_zero, List.set_cons_succ, i64_w, i32_w]
    rfl
  refine one_ (i := 9) (N := some 74) #[true, true, true, true, true, true, true, true, true, true, true, false, false, false] rfl rfl (by kernel_rfl) (by decide) (fun K hK => ?_)
  refine Kd.R_append_rows_step (Kd.int .u8) (w0 := w) w.heap.size (by rfl) (.tmp 71) (.tmp 73) 27 5 (.int .u8 0) 1 (by rfl) Try.underlying27 info8 rfl (by decide) (by omega) v10 (fourL a0.size ++ bytesOf p) (fourL a1) (A11) ((fourL a1).length) (c11) (fun _ => True) (fun _ => False) rfl rfl ?aO12 ?aR12 (fun _ _ h => h) (fun _ h => h.elim) ?aF12 ?aB12 ?aS12 ?aL12 ?_
  case aR12 => exact HR11.out
  case aB12 => exact HB11.out
  case aF12 => exact (fun _ _ => trivial)
  case aO12 => exact HO11.out
  case aS12 => exact (below_size HB11.out)
  case aL12 => have hq := HP.out; have hq2 := HPL.out; rw [bytes_len] at hq2; simp [fourL, bytes_len]; try omega
  intro v12 w12 ho hb hg hat
  have HG12 := Aside0.mk (blk_grown HG11.out hg (Kd.R_ne HO11.out HG11.out (by decide)))
  have HB12 := Aside0.mk hb
  have HO12 := Aside0.mk ho
  clear ho hb hg hat
  refine hK.out _ _ trivial (fun hHeld => ?_)
  clear hK K
  refine norm_ (a' := ?_) ?_ ?_
  rotate_left
  · show Act.put _ (some 74) _ = _
    simp only [Act.put, List.setIfInBounds_toArray, List.set_cons_zero, List.set_cons_succ, i64_w, i32_w]
    rfl
  refine one_ (i := 11) (N := some 76) #[true, true, true, true, true, true, true, true, true, true, true, true, false, false] rfl rfl (by kernel_rfl) (by decide) (fun K hK => ?_)
  refine goes_ Try.func13 (by kernel_rfl) rfl #[.int .i64 a2] (by rfl) rfl rfl (by simp only [List.map_toArray, List.map_cons, List.map_nil]; rfl) ?_
  with_reducible refine (hopperlaw06_four.calls a2 (fourL a2) _ HF2.out).mono ?_
  rintro e w13 ⟨v13, rfl, ho, hb⟩
  refine ⟨_, rfl, ?_⟩
  obtain ⟨A13, c13, rfl, hl, hr⟩ := Kd.R_reads ho
  have HG13 := Aside0.mk ((hb.block _ (blk_lt HG12.out)).trans HG12.out)
  have HO13 := Aside0.mk (Kd.R_below HO12.out hb)
  have HB13 := Aside0.mk (below_step HB12.out hb)
  have HR13 := Aside0.mk hr
  clear ho hb hl hr
  refine hK.out _ _ trivial (fun hHeld => ?_)
  clear hK K
  refine norm_ (a' := ?_) ?_ ?_
  rotate_left
  · show Act.put _ (some 76) _ = _
    simp only [Act.put, List.setIfInBounds_toArray, List.set_cons_zero, List.set_cons_succ, i64_w, i32_w]
    rfl
  refine one_ (i := 12) (N := some 77) #[true, true, true, true, true, true, true, true, true, true, true, true, true, false] rfl rfl (by kernel_rfl) (by decide) (fun K hK => ?_)
  refine Kd.R_append_rows_step (Kd.int .u8) (w0 := w) w.heap.size (by rfl) (.tmp 74) (.tmp 76) 27 5 (.int .u8 0) 1 (by rfl) Try.underlying27 info8 rfl (by decide) (by omega) v12 (fourL a0.size ++ bytesOf p ++ fourL a1) (fourL a2) (A13) ((fourL a2).length) (c13) (fun _ => True) (fun _ => False) rfl rfl ?aO14 ?aR14 (fun _ _ h => h) (fun _ h => h.elim) ?aF14 ?aB14 ?aS14 ?aL14 ?_
  case aR14 => exact HR13.out
  case aB14 => exact HB13.out
  case aF14 => exact (fun _ _ => trivial)
  case aO14 => exact HO13.out
  case aS14 => exact (below_size HB13.out)
  case aL14 => have hq := HP.out; have hq2 := HPL.out; rw [bytes_len] at hq2; simp [fourL, bytes_len]; try omega
  intro v14 w14 ho hb hg hat
  have HG14 := Aside0.mk (blk_grown HG13.out hg (Kd.R_ne HO13.out HG13.out (by decide)))
  have HB14 := Aside0.mk hb
  have HO14 := Aside0.mk ho
  clear ho hb hg hat
  refine hK.out _ _ trivial (fun hHeld => ?_)
  clear hK K
  refine norm_ (a' := ?_) ?_ ?_
  rotate_left
  · show Act.put _ (some 77) _ = _
    simp only [Act.put, List.setIfInBounds_toArray, List.set_cons_zero, List.set_cons_succ, i64_w, i32_w]
    rfl
  refine pure_ (i := 13) (N := some 9) (v := ?_) (a' := ?_) #[true, true, true, true, true, true, true, true, true, true, true, true, true, true] rfl rfl (by kernel_rfl) (fun _ _ _ h => h) (Or.inl ⟨by rfl, ?_⟩) ?_ ?_
  rotate_left
  · intro w'
    go_simp
    with_reducible rfl
  rotate_left
  · simp only [Act.put, List.setIfInBounds_toArray, List.set_cons_zero, List.set_cons_succ, i64_w, i32_w]
    rfl
  refine done_ (by kernel_rfl) ?_
  go_wp2_with fail
  have he14 : fourL a0.size ++ bytesOf p ++ fourL a1 ++ fourL a2 = mkB a0 a1 a2 := by unfold mkB; rw [HPB.out]; simp
  have hof := HO14.out
  rw [he14] at hof
  have HOF := Aside0.mk hof
  clear hof he14 hcv hcv0
  obtain ⟨K, hKe⟩ : ∃ K : Nat, K = 0 := ⟨_, rfl⟩
  clear hKe
  go_loopg [9] (K : Nat) (fun kq v9 w' => Aside0 (Kd.R (Kd.int .u8) 5 w' w.heap.size (fun _ => True) v9 (mkB a0 a1 a2)) ∧ Aside0 (w'.heap[w2.heap.size]? = some (.cells C 23 (0, 0))) ∧ Aside0 (Below w.heap.size w w'))
  case atStart => exact ⟨HOF, HG14, HB14⟩
  case round =>
    obtain ⟨HO, HG, HB⟩ := hrel
    have hrr := Kd.R_reads HO.out
    obtain ⟨A9, c9, hv9, hl9, hr9⟩ := hrr
    subst hv9
    have HC9 := Aside0.mk hr9
    have h16 := Aside0.mk (mkB_len a0 a1 a2 HH.out.1)
    have HCg := Aside0.mk (C_blk (a := mkB a0 a1 a2) (by rw [← HCE.out]; exact HG.out) 0 (by rw [h16.out]; omega) (by rw [h16.out]; omega))
    rw [h16.out]
    clear hl9 hr9 HO
    go_wp2_with fail
    have hc1 := Kd.C_string (P := Try.prog) (c := 16) Try.underlying27 Try.underlying5 Try.underlying9 (Kd.C_drew HCg.out)
    have hc2 := Kd.C_string (P := Try.prog) (c := c9) Try.underlying27 Try.underlying5 Try.underlying9 (Kd.C_drew HC9.out)
    rw [List.drop_zero] at hc1
    rw [h16.out] at hc1 hc2
    generalize strOfNums (mkB a0 a1 a2) = S at hc1 hc2
    refine start_ (n := 10) (S := fun w' => (convert 27 9 (.slice (some ⟨w2.heap.size, 0, none⟩) 16 16)).run Try.prog w' = .ok (.string S) w' ∧ (convert 27 9 (.slice A9 16 c9)).run Try.prog w' = .ok (.string S) w') (ds := []) #[false, false, false, false, false, false, false, false, false, false] (by kernel_rfl) rfl rfl ⟨hc1, hc2⟩ (fun hHeld => ?_)
    refine pure_ (i := 0) (N := some 84) (v := ?_) (a' := ?_) #[true, false, false, false, false, false, false, false, false, false] rfl rfl (by kernel_rfl) (fun _ _ _ h => h) (Or.inl ⟨by rfl, ?_⟩) ?_ ?_
    rotate_left
    · intro w'
      go_simp
      with_reducible rfl
    rotate_left
    · simp only [Act.put, List.setIfInBounds_toArray, List.set_cons_zero, List.set_cons_succ, i64_w, i32_w]
      rfl
    refine pure_ (i := 1) (N := some 85) (v := ?_) (a' := ?_) #[true, true, false, false, false, false, false, false, false, false] rfl rfl (by kernel_rfl) (fun _ _ _ h => h) (Or.inl ⟨by rfl, ?_⟩) ?_ ?_
    rotate_left
    · intro w'
      go_simp
      with_reducible rfl
    rotate_left
    · simp only [Act.put, List.setIfInBounds_toArray, List.set_cons_zero, List.set_cons_succ, i64_w, i32_w]
      rfl
    refine pure_ (i := 2) (N := some 86) (v := ?_) (a' := ?_) #[true, true, true, false, false, false, false, false, false, false] rfl rfl (by kernel_rfl) (fun _ _ _ h => h) (Or.inl ⟨by rfl, ?_⟩) ?_ ?_
    rotate_left
    · intro w'
      go_simp
      with_reducible rfl
    rotate_left
    · simp only [Act.put, List.setIfInBounds_toArray, List.set_cons_zero, List.set_cons_succ, i64_w, i32_w]
      rfl
    refine pure_ (i := 3) (N := some 87) (v := ?_) (a' := ?_) #[true, true, true, true, false, false, false, false, false, false] rfl rfl (by kernel_rfl) (fun _ _ _ h => h) (Or.inl ⟨by rfl, ?_⟩) ?_ ?_
    rotate_left
    · intro w'
      go_simp
      with_reducible rfl
    rotate_left
    · simp only [Act.put, List.setIfInBounds_toArray, List.set_cons_zero, List.set_cons_succ, i64_w, i32_w]
      rfl
    refine pure_ (i := 5) (N := some 89) (v := ?_) (a' := ?_) #[true, true, true, true, false, true, false, false, false, false] rfl rfl (by kernel_rfl) (fun _ _ _ h => h) (Or.inl ⟨by rfl, ?_⟩) ?_ ?_
    rotate_left
    · intro w'
      go_simp
      with_reducible rfl
    rotate_left
    · simp only [Act.put, List.setIfInBounds_toArray, List.set_cons_zero, List.set_cons_succ, i64_w, i32_w]
      rfl
    refine take_ (i := 4) (N := some 88) (v := ?_) (a' := ?_) #[true, true, true, true, true, true, false, false, false, false] rfl rfl (by kernel_rfl) (fun _ _ _ h => h) (Or.inl ⟨by rfl, ?_⟩) hHeld ?_ ?_
    rotate_left
    · rintro w' ⟨s0, s1⟩
      go_simp
      with_reducible rfl
    rotate_left
    · simp only [Act.put, List.setIfInBounds_toArray, List.set_cons_zero, List.set_cons_succ, i64_w, i32_w]
      rfl
    refine take_ (i := 6) (N := some 90) (v := ?_) (a' := ?_) #[true, true, true, true, true, true, true, false, false, false] rfl rfl (by kernel_rfl) (fun _ _ _ h => h) (Or.inl ⟨by rfl, ?_⟩) hHeld ?_ ?_
    rotate_left
    · rintro w' ⟨s0, s1⟩
      go_simp
      with_reducible rfl
    rotate_left
    · simp only [Act.put, List.setIfInBounds_toArray, List.set_cons_zero, List.set_cons_succ, i64_w, i32_w]
      rfl
    refine pure_ (i := 7) (N := some 91) (v := ?_) (a' := ?_) #[true, true, true, true, true, true, true, true, false, false] rfl rfl (by kernel_rfl) (fun _ _ _ h => h) (Or.inl ⟨by rfl, ?_⟩) ?_ ?_
    rotate_left
    · intro w'
      go_simp
      with_reducible rfl
    rotate_left
    · simp only [Act.put, List.setIfInBounds_toArray, List.set_cons_zero, List.set_cons_succ, i64_w, i32_w]
      rfl
    refine pure_ (i := 8) (N := some 92) (v := ?_) (a' := ?_) #[true, true, true, true, true, true, true, true, true, false] rfl rfl (by kernel_rfl) (fun _ _ _ h => h) (Or.inl ⟨by rfl, ?_⟩) ?_ ?_
    rotate_left
    · intro w'
      go_simp
      with_reducible rfl
    rotate_left
    · simp only [Act.put, List.setIfInBounds_toArray, List.set_cons_zero, List.set_cons_succ, i64_w, i32_w]
      rfl
    refine pure_ (i := 9) (N := some 6) (v := ?_) (a' := ?_) #[true, true, true, true, true, true, true, true, true, true] rfl rfl (by kernel_rfl) (fun _ _ _ h => h) (Or.inl ⟨by rfl, ?_⟩) ?_ ?_
    rotate_left
    · intro w'
      go_simp
      with_reducible rfl
    rotate_left
    · simp only [Act.put, List.setIfInBounds_toArray, List.set_cons_zero, List.set_cons_succ, i64_w, i32_w]
      rfl
    refine done_ (by kernel_rfl) ?_
    go_wp2
    go_ret
    exact ⟨rfl, by repeat (first | exact HB.out | apply below_alloc | apply pw_below_drewN | apply below_drew1)⟩
theorem ViewMakes (a0 : ByteArray) (a1 : Int) (a2 : Int) (w : World) (w0 : a0.size ≤ 140737488351232) (w1 : (Lit.int .i64 a1).wf = true) (w2 : (Lit.int .i64 a2).wf = true) :
    Calls Try.prog 3 #[.string a0, .int .i64 a1, .int .i64 a2] w fun e w' => e = .returned (.bool true) ∧ Below w.heap.size w w' := by
  by_cases h5 : 5000 < a0.size
  · exact ViewMakes_huge a0 a1 a2 w h5
  by_cases h4 : 4096 < a0.size
  · exact ViewMakes_long a0 a1 a2 w h4 (by omega)
  by_cases h12 : a0.size ≤ 12
  · exact ViewMakes_short a0 a1 a2 w h12
  by_cases p1 : a1 < 0
  · exact ViewMakes_bad1 a0 a1 a2 w (by omega) (by omega) p1
  by_cases p2 : 65535 < a1
  · exact ViewMakes_bad2 a0 a1 a2 w (by omega) (by omega) ⟨by omega, p2⟩
  by_cases p3 : a2 < 0
  · exact ViewMakes_bad3 a0 a1 a2 w (by omega) (by omega) ⟨by omega, by omega, p3⟩
  by_cases p4 : 65536 < a2
  · exact ViewMakes_bad4 a0 a1 a2 w (by omega) (by omega) ⟨by omega, by omega, by omega, p4⟩
  exact ViewMakes_placed a0 a1 a2 w (by omega) (by omega) ⟨by omega, by omega, by omega, by omega⟩
end Go.Proofs.Ytmedgpchmkmifaa.HW
