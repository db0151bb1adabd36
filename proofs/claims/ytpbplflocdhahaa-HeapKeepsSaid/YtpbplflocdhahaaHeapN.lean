/- The heap of any number of buffers: room. -/
import Derived.Test.YtpbplflocdhahaaHeapM
set_option linter.unusedVariables false
set_option linter.unusedSimpArgs false
namespace Go.Proofs.Ytpbplflocdhahaa.HW
open Go.RowKit Go.Proofs.Ytpbplflocdhahaa.P Go.Proofs.Ytpbplflocdhahaa.HP Go.Proofs.YtpbplflocdhahaaW.PrintWords Go.Proofs.YtpbplflocdhahaaW.PrintLast Go.Proofs.YtpbplflocdhahaaW.PrintMore
attribute [local go_sem] max2_int min2_int max_two min_two max_three min_three max_four min_four
set_option maxHeartbeats 8000000 in
set_option maxRecDepth 100000 in
theorem HM.room_none {lo g : Nat} {Bs : List (List Int)} {size m : Int} (n : Nat) (w : World) (h : HM lo w g Bs size m) (hlo : lo ≤ w.heap.size) (hbs : Bs.length ≤ 1000) (hB : Bs = []) : Calls Try.prog 26 #[.pointer (some ⟨g, 0, none⟩), .int .i64 (n : Int)] w fun e w' => e = .returned (.int .i64 (Bs.length : Int)) ∧ HM lo w' g (Bs ++ [[]]) size m ∧ Below lo w w' ∧ KR w w' := by
  obtain ⟨h0, vB, xs, hg, h1, hl, h2, h3⟩ := h
  have hx0 : xs = [] := by rw [hB] at hl; exact List.eq_nil_of_length_eq_zero hl
  obtain ⟨AB, cB, hvB, hcB, hrB⟩ := Kd.R_reads h1
  subst hx0
  rw [hvB] at hg h1
  simp only [List.length_nil] at hg h1
  have HG := Aside0.mk hg
  have HGE := Aside0.mk h0
  have HK := Aside0.mk h1
  have HLN := Aside0.mk hl
  have H2 := Aside0.mk h2
  have H3 := Aside0.mk h3
  have HLO := Aside0.mk hlo
  have HXN := Aside0.mk (show (0 : Nat) ≤ 1000 by omega)
  have HBx := Aside0.mk (Below.refl lo w)
  have hw1 : wrap64 (0 - 1) = -1 := by unfold wrap64; omega
  have hw2 : wrap64 (-1) = -1 := by unfold wrap64; omega
  clear h0 hg h1 h2 h3 hlo hbs hcB hrB hl hvB
  have hc0 := blk_cell HG.out 0
  have hf0 := blk_frozen HG.out 0
  simp only [List.getElem?_toArray, List.getElem?_cons_zero, List.getElem?_cons_succ] at hc0
  go_enter Try.func26, Try.ntmps26
  go_wp2_with (first | ((with_reducible refine gate_builtin (b := .append) (xs := #[.tmp 31, .tmp 32]) rfl ?_); at_builtin; refine Kd.R_append KS (w0 := w) lo rfl (.tmp 31) (.tmp 32) 51 36 (.slice none 0 0) 24 rfl Try.underlying51 infoSl rfl (by decide) (by omega) _ ([] : List (Option Addr × Nat × Nat)) (none, 0, 0) [.slice none 0 0] (fun _ => True) (fun _ => False) rfl rfl ?aP (fun _ hk => hk.elim) ?aF ?aO ?aB ?aS ?aL ?_; (case aP => exact rfl); (case aB => exact HBx.out); (case aF => exact (fun _ _ => trivial)); (case aO => exact HK.out); (case aS => exact HLO.out); (case aL => first | exact (by decide) | (have := HXN.out; omega)); intro v33 w3 ho hb hg hat; obtain ⟨gb3, cb3, rfl, hgb, hgl, _⟩ := Kd.R_form ho (by simp); have HO3 := Aside0.mk ho; have HGW := Aside0.mk hg; have HB3 := Aside0.mk hb; have HG3 := Aside0.mk (blk_grown HG.out hg (Kd.R_ne HK.out HG.out (by decide))); clear hc0 hf0; have hc0 := blk_cell HG3.out 0; have hf0 := blk_frozen HG3.out 0; simp only [List.getElem?_toArray, List.getElem?_cons_zero, List.getElem?_cons_succ] at hc0; clear ho hb hg hat hgb hgl))
  go_ret
  have h9 := HM.grow HGE.out HG.out HK.out HLN.out H2.out H3.out HGW.out HO3.out
  rw [List.length_append] at h9
  refine ⟨?_, h9, Below.setCell HB3.out HGE.out _, ?_⟩
  · first | (simp only [hw2]; rw [← HLN.out, HLQ.out]; rfl) | (rw [← HLN.out]; rfl)
  · obtain ⟨inner, ho⟩ := Kd.R_own HK.out
    exact KR.of_but HG.out ho (KeepBut.set_ (KeepBut.of_grown HGW.out g) _ _)
set_option maxHeartbeats 8000000 in
set_option maxRecDepth 100000 in
theorem HM.room_full {lo g : Nat} {Bs : List (List Int)} {size m : Int} (n : Nat) (w : World) (h : HM lo w g Bs size m) (hlo : lo ≤ w.heap.size) (hbs : Bs.length ≤ 1000) (b : List Int) (hb : Bs[Bs.length - 1]? = some b) (hpos : 0 < Bs.length) (hfull : ¬ b.length + n ≤ 65536) (hbl : b.length + n ≤ 1000000) : Calls Try.prog 26 #[.pointer (some ⟨g, 0, none⟩), .int .i64 (n : Int)] w fun e w' => e = .returned (.int .i64 (Bs.length : Int)) ∧ HM lo w' g (Bs ++ [[]]) size m ∧ Below lo w w' ∧ KR w w' := by
  obtain ⟨q, hq⟩ : ∃ q : Nat, Bs.length = q + 1 := ⟨Bs.length - 1, by omega⟩
  have hb' : Bs[q]? = some b := by rw [← hb]; congr 1; omega
  obtain ⟨gb, cb, c, A, xs, hp⟩ := h.parts q b hb'
  have HH := Aside0.mk h
  clear h
  obtain ⟨h0, hg, h1, hl, h2, h3, hx, hc, hr, hcell, _⟩ := hp
  have hlq : xs.length = q + 1 := by omega
  rw [hlq] at hg h1
  have HG := Aside0.mk hg
  have HGE := Aside0.mk h0
  have HK := Aside0.mk h1
  have HLN := Aside0.mk hl
  have H2 := Aside0.mk h2
  have H3 := Aside0.mk h3
  have HLO := Aside0.mk hlo
  have HXN := Aside0.mk (show xs.length ≤ 1000 by omega)
  have HBx := Aside0.mk (Below.refl lo w)
  have HLQ := Aside0.mk hlq
  have hcell2 : w.cell? ((⟨gb, 0, none⟩ : Addr).add q) = some (.slice A b.length c) := by rw [add_plain]; exact hcell
  have t1 : decide ((q : Int) < 0) = false := decide_eq_false (by omega)
  have t2 : decide ((65536 : Int) < (b.length : Int) + (n : Int)) = true := decide_eq_true (by omega)
  have p3 : ((0 : Int) ≤ (q : Int)) = True := eq_true (by omega)
  have q3 : ((q : Int) < ((q + 1 : Nat) : Int)) = True := eq_true (by omega)
  have q3b : ((q : Int) < (q : Int) + 1) = True := eq_true (by omega)
  have q3c : (q < q + 1) = True := eq_true (by omega)
  have e1 : ((q + 1 : Nat) : Int) - 1 = (q : Int) := by omega
  have e2 : (q : Int) + 1 - 1 = (q : Int) := by omega
  have hq9 : q ≤ 2000000 := by omega
  have hb9 : b.length + n ≤ 2000000 := by omega
  have hw1 : wrap64 (((q + 1 : Nat) : Int) - 1) = (q : Int) := by rw [e1]; exact wsm q hq9
  have hw1b : wrap64 ((q : Int) + 1 - 1) = (q : Int) := by rw [e2]; exact wsm q hq9
  have hw2 : wrap64 ((q : Int) + 1) = ((q + 1 : Nat) : Int) := wr1 q (Nat.lt_of_le_of_lt hq9 (by decide))
  have hw0 : wrap64 (q : Int) = (q : Int) := wsm q hq9
  have hw3 : wrap64 ((b.length : Int) + (n : Int)) = (b.length : Int) + (n : Int) := wsum b.length n hb9
  have HWS := Aside0.mk (And.intro hw1 (And.intro hw0 (And.intro hw2 hw3)))
  clear hw1 hw1b hw0 hw2 hw3
  obtain ⟨hw1, hw0, hw2, hw3⟩ := HWS.out
  have hcell1 : w.cell? ⟨gb, q, none⟩ = some (.slice A b.length c) := hcell
  clear e1 e2 h0 hg h1 h2 h3 hlo hbs hl hc hr hx hcell hb hb' hlq hq9 hb9 hfull
  have hc0 := blk_cell HG.out 0
  have hf0 := blk_frozen HG.out 0
  simp only [List.getElem?_toArray, List.getElem?_cons_zero, List.getElem?_cons_succ] at hc0
  clear hq hpos hbl
  go_enter Try.func26, Try.ntmps26
  go_wp2_with (first | ((with_reducible refine gate_builtin (b := .append) (xs := #[.tmp 31, .tmp 32]) rfl ?_); at_builtin; refine Kd.R_append KS (w0 := w) lo rfl (.tmp 31) (.tmp 32) 51 36 (.slice none 0 0) 24 rfl Try.underlying51 infoSl rfl (by decide) (by omega) _ xs (none, 0, 0) [.slice none 0 0] (fun _ => True) (fun _ => False) rfl rfl ?aP (fun _ hk => hk.elim) ?aF ?aO ?aB ?aS ?aL ?_; (case aP => exact rfl); (case aB => exact HBx.out); (case aF => exact (fun _ _ => trivial)); (case aO => exact HK.out); (case aS => exact HLO.out); (case aL => first | exact (by decide) | (have := HXN.out; omega)); intro v33 w3 ho hb hg hat; obtain ⟨gb3, cb3, rfl, hgb, hgl, _⟩ := Kd.R_form ho (by simp); have HO3 := Aside0.mk ho; have HGW := Aside0.mk hg; have HB3 := Aside0.mk hb; have HG3 := Aside0.mk (blk_grown HG.out hg (Kd.R_ne HK.out HG.out (by decide))); clear hc0 hf0; have hc0 := blk_cell HG3.out 0; have hf0 := blk_frozen HG3.out 0; simp only [List.getElem?_toArray, List.getElem?_cons_zero, List.getElem?_cons_succ] at hc0; clear ho hb hg hat hgb hgl))
  go_ret
  rw [← HLQ.out] at HG HK
  have h9 := HM.grow HGE.out HG.out HK.out HLN.out H2.out H3.out HGW.out HO3.out
  rw [List.length_append] at h9
  refine ⟨?_, h9, Below.setCell HB3.out HGE.out _, ?_⟩
  · first | (simp only [hw2]; rw [← HLN.out, HLQ.out]; rfl) | (rw [← HLN.out]; rfl)
  · obtain ⟨inner, ho⟩ := Kd.R_own HK.out
    exact KR.of_but HG.out ho (KeepBut.set_ (KeepBut.of_grown HGW.out g) _ _)
set_option maxHeartbeats 8000000 in
set_option maxRecDepth 100000 in
theorem HM.room_fit {lo g : Nat} {Bs : List (List Int)} {size m : Int} (n : Nat) (w : World) (h : HM lo w g Bs size m) (hlo : lo ≤ w.heap.size) (hbs : Bs.length ≤ 1000) (b : List Int) (hb : Bs[Bs.length - 1]? = some b) (hpos : 0 < Bs.length) (hfit : b.length + n ≤ 65536) : Calls Try.prog 26 #[.pointer (some ⟨g, 0, none⟩), .int .i64 (n : Int)] w fun e w' => e = .returned (.int .i64 ((Bs.length - 1 : Nat) : Int)) ∧ Below w.heap.size w w' := by
  obtain ⟨q, hq⟩ : ∃ q : Nat, Bs.length = q + 1 := ⟨Bs.length - 1, by omega⟩
  have hb' : Bs[q]? = some b := by rw [← hb]; congr 1; omega
  obtain ⟨gb, cb, c, A, xs, hp⟩ := h.parts q b hb'
  have HH := Aside0.mk h
  clear h
  obtain ⟨h0, hg, h1, hl, h2, h3, hx, hc, hr, hcell, _⟩ := hp
  have hlq : xs.length = q + 1 := by omega
  rw [hlq] at hg h1
  have HG := Aside0.mk hg
  have HGE := Aside0.mk h0
  have HK := Aside0.mk h1
  have HLN := Aside0.mk hl
  have H2 := Aside0.mk h2
  have H3 := Aside0.mk h3
  have HLO := Aside0.mk hlo
  have HXN := Aside0.mk (show xs.length ≤ 1000 by omega)
  have HBx := Aside0.mk (Below.refl lo w)
  have HLQ := Aside0.mk hlq
  have hcell2 : w.cell? ((⟨gb, 0, none⟩ : Addr).add q) = some (.slice A b.length c) := by rw [add_plain]; exact hcell
  have t1 : decide ((q : Int) < 0) = false := decide_eq_false (by omega)
  have t2 : decide ((65536 : Int) < (b.length : Int) + (n : Int)) = false := decide_eq_false (by omega)
  have p3 : ((0 : Int) ≤ (q : Int)) = True := eq_true (by omega)
  have q3 : ((q : Int) < ((q + 1 : Nat) : Int)) = True := eq_true (by omega)
  have q3b : ((q : Int) < (q : Int) + 1) = True := eq_true (by omega)
  have q3c : (q < q + 1) = True := eq_true (by omega)
  have e1 : ((q + 1 : Nat) : Int) - 1 = (q : Int) := by omega
  have e2 : (q : Int) + 1 - 1 = (q : Int) := by omega
  have hq9 : q ≤ 2000000 := by omega
  have hb9 : b.length + n ≤ 2000000 := by omega
  have hw1 : wrap64 (((q + 1 : Nat) : Int) - 1) = (q : Int) := by rw [e1]; exact wsm q hq9
  have hw1b : wrap64 ((q : Int) + 1 - 1) = (q : Int) := by rw [e2]; exact wsm q hq9
  have hw2 : wrap64 ((q : Int) + 1) = ((q + 1 : Nat) : Int) := wr1 q (Nat.lt_of_le_of_lt hq9 (by decide))
  have hw0 : wrap64 (q : Int) = (q : Int) := wsm q hq9
  have hw3 : wrap64 ((b.length : Int) + (n : Int)) = (b.length : Int) + (n : Int) := wsum b.length n hb9
  have HWS := Aside0.mk (And.intro hw1 (And.intro hw0 (And.intro hw2 hw3)))
  clear hw1 hw1b hw0 hw2 hw3
  obtain ⟨hw1, hw0, hw2, hw3⟩ := HWS.out
  have hcell1 : w.cell? ⟨gb, q, none⟩ = some (.slice A b.length c) := hcell
  clear e1 e2 h0 hg h1 h2 h3 hlo hbs hl hc hr hx hcell hb hb' hlq hq9 hb9 hfit
  have hc0 := blk_cell HG.out 0
  have hf0 := blk_frozen HG.out 0
  simp only [List.getElem?_toArray, List.getElem?_cons_zero, List.getElem?_cons_succ] at hc0
  have HBw := Aside0.mk (Below.refl w.heap.size w)
  have hq1 : Bs.length - 1 = q := by omega
  rw [hq1]
  clear hq hpos HG HK HLN H2 H3 hq1
  go_enter Try.func26, Try.ntmps26
  go_wp2_with fail
  go_ret
  exact ⟨by simp only [hw0]; rfl, by repeat (first | exact HBw.out | apply below_alloc | apply pw_below_drewN | apply below_drew1)⟩
/-- room: the number of a last buffer that takes so many bytes more. -/
theorem HM.room {lo g : Nat} {Bs : List (List Int)} {size m : Int} (n : Nat) (w : World) (h : HM lo w g Bs size m) (hlo : lo ≤ w.heap.size) (hbs : Bs.length ≤ 1000) (hn : n ≤ 5000) (hbl : ∀ b ∈ Bs, b.length ≤ 65536) : Calls Try.prog 26 #[.pointer (some ⟨g, 0, none⟩), .int .i64 (n : Int)] w fun e w' => ∃ (q : Nat) (Bs' : List (List Int)) (b : List Int), e = .returned (.int .i64 (q : Int)) ∧ (Bs' = Bs ∨ Bs' = Bs ++ [[]]) ∧ Bs'.length = q + 1 ∧ Bs'[q]? = some b ∧ b.length + n ≤ 65536 ∧ HM lo w' g Bs' size m ∧ Below lo w w' ∧ KR w w' := by
  by_cases hB : Bs = []
  · refine (h.room_none n w hlo hbs hB).mono ?_
    rintro e w1 ⟨rfl, hh, hb, hk⟩
    exact ⟨Bs.length, _, [], rfl, .inr rfl, by simp, by simp, by simp; omega, hh, hb, hk⟩
  · have hpos : 0 < Bs.length := List.length_pos_iff.2 hB
    obtain ⟨b, hb⟩ : ∃ b, Bs[Bs.length - 1]? = some b := ⟨_, List.getElem?_eq_getElem (by omega)⟩
    have hb6 := hbl b (List.mem_of_getElem? hb)
    by_cases hf : b.length + n ≤ 65536
    · refine (h.room_fit n w hlo hbs b hb hpos hf).mono ?_
      rintro e w1 ⟨rfl, hbw⟩
      exact ⟨Bs.length - 1, Bs, b, rfl, .inl rfl, by omega, hb, hf, h.below hbw, hbw.mono hlo, KR.of_below hbw⟩
    · refine (h.room_full n w hlo hbs b hb hpos hf (by omega)).mono ?_
      rintro e w1 ⟨rfl, hh, hb, hk⟩
      exact ⟨Bs.length, _, [], rfl, .inr rfl, by simp, by simp, by simp; omega, hh, hb, hk⟩
end Go.Proofs.Ytpbplflocdhahaa.HW
