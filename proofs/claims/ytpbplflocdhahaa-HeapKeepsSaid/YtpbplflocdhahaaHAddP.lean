/- HeapAdds: few strings; Add in one word. -/
import Derived.Test.YtpbplflocdhahaaHeapT
import Derived.Test.YtpbplflocdhahaaHeapE
import Derived.Test.YtpbplflocdhahaaPx2
import Derived.Great.BuildSlice
import Derived.Deep.Slices
set_option linter.unusedVariables false
set_option linter.unusedSimpArgs false
namespace Go.Proofs.Ytpbplflocdhahaa.HW
open Go.RowKit Go.Proofs.Ytpbplflocdhahaa.P Go.Proofs.Ytpbplflocdhahaa.HP Go.Proofs.YtpbplflocdhahaaW.PrintWords Go.Proofs.YtpbplflocdhahaaW.PrintLast Go.Proofs.YtpbplflocdhahaaW.PrintMore
attribute [local go_sem] max2_int min2_int max_two min_two max_three min_three max_four min_four
theorem fill16 (C base : Array Value) (hC : C.size = 16) (hb : base.size = 16) : Instr.fill (fun i => some (i * 16, 16)) base [(0, .agg C)] = some C := by
  obtain ⟨l⟩ := C
  obtain ⟨m⟩ := base
  match l, hC, m, hb with
  | [a0, a1, a2, a3, a4, a5, a6, a7, a8, a9, a10, a11, a12, a13, a14, a15], _, [b0, b1, b2, b3, b4, b5, b6, b7, b8, b9, b10, b11, b12, b13, b14, b15], _ => simp [Instr.fill, Value.cells]
theorem loadVar_at {P : Program} {w : World} (ty : TypeId) (ad : Addr) (cs : List Value) (hc : ∀ j v, cs[j]? = some v → w.cell? (ad.add j) = some v) (d : TypeDesc)
    (hu : P.underlying ty = some d) (hd : (match d with | .struct _ | .array _ _ => true | _ => false) = true) (hi : (P.info? ty).map (·.size) = some cs.length) : (loadVar ty ad).run P w = .ok (.agg cs.toArray) w := by
  have hl : (loadCells ad cs.length).run P w = .ok cs.toArray w := run_loadCells_list (P := P) w ad cs hc
  cases hq : P.info? ty with
  | none => simp [hq] at hi
  | some i =>
    have hs : i.size = cs.length := by simpa [hq] using hi
    have hagg : (isAgg ty).run P w = .ok true w := by
      unfold isAgg
      rw [Sem.run_bind, run_underlying hu w]
      cases d <;> simp_all
    simp [loadVar, Sem.run_bind, hagg, sizeOf, typeInfo, hq, hs, hl]
def vb (x : List Int) : List Value := x.map (Value.int .u8)
theorem cel_vb (x : List Int) : cel x = (vb x).toArray := rfl
theorem info16z : (Try.prog.info? 28).map (fun i => (i.zero, i.size, i.bytes)) = some (some (.agg (cel z16)), 16, 16) := by kernel_rfl
/-- A row of views stays where blocks of its type stay. -/
theorem raw_keep {lo : Nat} {W W' : World} {v : Value} {rows : List (List Value)} (h : (Kd.raw 16).R 28 W lo (fun _ => True) v rows) (k : KT W W') : (Kd.raw 16).R 28 W' lo (fun _ => True) v rows := by
  obtain ⟨inner, ho⟩ := Kd.R_own h
  refine Kd.raw_any (Kd.R_step (Kd.raw_tight h) (fun j hj _ => ?_))
  obtain ⟨cells, hc⟩ := own_typed ho j hj.symm
  rw [hc]
  exact k j cells _ hc (by decide) (by decide) (by decide)
theorem wp_run {P : Program} {o : Oper} {a : Act} {K : Act → World → Prop} {Q : Exit → Act → World → Prop} {W w1 : World} {v : Value} (hrun : (execOp a.eval o).run P W = .ok (.value v) w1) (h : K (a.put o.dst v) w1) : Oper.wp P o a W K Q := by
  unfold Oper.wp
  rw [hrun]
  exact h
theorem bytes_app (a b : ByteArray) : bytesOf (a ++ b) = bytesOf a ++ bytesOf b := by
  simp [bytesOf]
def fsum (l : List ByteArray) : Nat := (l.map (·.size)).sum
theorem fsum_take (l : List ByteArray) (i : Nat) (s : ByteArray) (h : l[i]? = some s) : fsum (l.take (i + 1)) = fsum (l.take i) + s.size := by
  unfold fsum
  rw [List.take_add_one, h]
  simp
theorem few_l (l : List ByteArray) : ∀ (d i : Nat), i + d = l.length → i ≤ 400 → (∀ (j : Nat) (s : ByteArray), j < i → l[j]? = some s → s.size ≤ 5000) → fsum (l.take i) ≤ 5000 * i →
    ∃ r, Ev (fun k => hopperref07_Few.l0 k l (fsum (l.take i) : Int) (i : Int)) r ∧ (r = true → l.length ≤ 300 ∧ (∀ s ∈ l, s.size ≤ 5000) ∧ fsum l ≤ 300000) := by
  intro d
  induction d with
  | zero =>
    intro i hi h4 hs hf
    have ht : l.take i = l := List.take_of_length_le (by omega)
    by_cases h3 : l.length ≤ 300
    · refine ⟨decide ((fsum (l.take i) : Int) ≤ 300000), Ev.step (fun k => by rw [hopperref07_Few.l0]) ?_, fun hr => ?_⟩
      · simp only [if_neg (show ¬ (i : Int) < (l.length : Int) by omega)]
        refine Ev.step (fun k => by rw [hopperref07_Few.j1]) ?_
        simp only [Bool.false_eq_true, if_false, if_pos (show (l.length : Int) ≤ 300 by omega)]
        exact Ev.now _
      · have := of_decide_eq_true hr
        rw [ht] at this
        refine ⟨h3, fun s hs' => ?_, by omega⟩
        obtain ⟨j, hj⟩ := List.getElem?_of_mem hs'
        exact hs j s (by have := (List.getElem?_eq_some_iff.1 hj).1; omega) hj
    · refine ⟨false, Ev.step (fun k => by rw [hopperref07_Few.l0]) ?_, fun hr => by cases hr⟩
      simp only [if_neg (show ¬ (i : Int) < (l.length : Int) by omega)]
      refine Ev.step (fun k => by rw [hopperref07_Few.j1]) ?_
      simp only [Bool.false_eq_true, if_false, if_neg (show ¬ (l.length : Int) ≤ 300 by omega)]
      exact Ev.now _
  | succ d ih =>
    intro i hi h4 hs hf
    by_cases h40 : i < 400
    · obtain ⟨s, hsi⟩ : ∃ s, l[i]? = some s := ⟨_, List.getElem?_eq_getElem (by omega)⟩
      have hrd : rdOf ByteArray.empty l (i : Int) = s := by simp [rdOf, List.getD_eq_getElem?_getD, hsi]
      by_cases h5 : s.size ≤ 5000
      · have hft := fsum_take l i s hsi
        obtain ⟨r, hr, hp⟩ := ih (i + 1) (by omega) (by omega) (fun j t hj ht => by
          by_cases e : j = i
          · subst e; rw [hsi] at ht; injection ht with ht; subst ht; exact h5
          · exact hs j t (by omega) ht) (by omega)
        refine ⟨r, Ev.step (fun k => by rw [hopperref07_Few.l0]) ?_, hp⟩
        simp only [if_pos (show (i : Int) < (l.length : Int) by omega), decide_eq_true (show (i : Int) < 400 by omega)]
        refine Ev.step (fun k => by rw [hopperref07_Few.j1]) ?_
        have w1 : wrap64 ((i : Int) + 1) = ((i + 1 : Nat) : Int) := wr1 i (by omega)
        have w2 : wrap64 ((fsum (l.take i) : Int) + (s.size : Int)) = (fsum (l.take (i + 1)) : Int) := by rw [hft, Int.natCast_add]; exact wsum _ _ (by omega)
        simp only [if_true, if_pos (show (0 : Int) ≤ (i : Int) by omega), if_pos (show (i : Int) < (l.length : Int) by omega), hrd, if_neg (show ¬ (s.size : Int) > 5000 by omega), w1, w2]
        exact hr
      · refine ⟨false, Ev.step (fun k => by rw [hopperref07_Few.l0]) ?_, fun hr => by cases hr⟩
        simp only [if_pos (show (i : Int) < (l.length : Int) by omega), decide_eq_true (show (i : Int) < 400 by omega)]
        refine Ev.step (fun k => by rw [hopperref07_Few.j1]) ?_
        simp only [if_true, if_pos (show (0 : Int) ≤ (i : Int) by omega), if_pos (show (i : Int) < (l.length : Int) by omega), hrd, if_pos (show (s.size : Int) > 5000 by omega)]
        exact Ev.now _
    · refine ⟨false, Ev.step (fun k => by rw [hopperref07_Few.l0]) ?_, fun hr => by cases hr⟩
      simp only [if_pos (show (i : Int) < (l.length : Int) by omega), decide_eq_false (show ¬ (i : Int) < 400 by omega)]
      refine Ev.step (fun k => by rw [hopperref07_Few.j1]) ?_
      simp only [Bool.false_eq_true, if_false, if_neg (show ¬ (l.length : Int) ≤ 300 by omega)]
      exact Ev.now _
theorem few_f (l : List ByteArray) : ∃ r, Ev (fun k => hopperref07_Few.f k l) r ∧ (r = true → l.length ≤ 300 ∧ (∀ s ∈ l, s.size ≤ 5000) ∧ fsum l ≤ 300000) := few_l l l.length 0 (Nat.zero_add _) (by omega) (fun j s hj => by omega) (by simp [fsum])
def GB (Bs : List (List Int)) : Prop := ∀ b ∈ Bs, b.length ≤ 65536 ∧ isB b
theorem set_last {Bs : List (List Int)} {q : Nat} {b t : List Int} (hl : Bs.length = q + 1) (hb : Bs[q]? = some b) : Bs = Bs.take q ++ [b] ∧ Bs.set q (b ++ t) = Bs.take q ++ [b ++ t] := by
  have hq : q < Bs.length := by omega
  have e : Bs = Bs.take q ++ [b] := by
    conv => lhs; rw [← List.take_append_drop q Bs]
    congr 1
    rw [List.drop_eq_getElem_cons hq, List.drop_eq_nil_of_le (by omega)]
    rw [List.getElem?_eq_getElem hq] at hb
    injection hb with hb
    rw [hb]
  refine ⟨e, ?_⟩
  rw [List.set_eq_take_append_cons_drop, if_pos hq, List.drop_eq_nil_of_le (by omega)]
theorem HoldsM.grow {Bs Bs' : List (List Int)} {q : Nat} {b t : List Int} {a : List Int} {s : ByteArray} (h : HoldsM Bs a s) (hB : Bs' = Bs ∨ Bs' = Bs ++ [[]]) (hb : Bs'[q]? = some b) (hbt : b.length + t.length ≤ 65536) : HoldsM (Bs'.set q (b ++ t)) a s := by
  obtain ⟨hv, h2, h3⟩ := h
  refine ⟨hv, h2, ?_⟩
  rcases h3 with h3 | ⟨h3, q0, at_, b0, hq0, he, hq5, hf, hl, hd⟩
  · exact .inl h3
  · have hq1 : Bs'[q0]? = some b0 := by
      rcases hB with e | e
      · rw [e]; exact hq0
      · rw [e, List.getElem?_append_left (List.getElem?_eq_some_iff.1 hq0).1]; exact hq0
    by_cases e : q0 = q
    · subst e
      rw [hb] at hq1
      injection hq1 with hq1
      subst hq1
      refine .inr ⟨h3, q0, at_, b ++ t, by rw [List.getElem?_set_self (List.getElem?_eq_some_iff.1 hb).1], he, hq5, by rw [List.length_append]; omega, by rw [List.length_append]; omega, ?_⟩
      rw [List.drop_append_of_le_length (by omega), List.take_append_of_le_length (by rw [List.length_drop]; omega), hd]
    · exact .inr ⟨h3, q0, at_, b0, by rw [List.getElem?_set_ne (fun h => e h.symm)]; exact hq1, he, hq5, hf, hl, hd⟩
/-- Add of a string that is taken. -/
theorem HM.add_in {lo g : Nat} {Bs : List (List Int)} {m : Int} (s : ByteArray) (w : World) (h : HM lo w g Bs (Bs.flatten.length : Int) m) (hlo : lo ≤ w.heap.size) (hbs : Bs.length ≤ 1000) (hbl : GB Bs) (hs2 : s.size ≤ 4096) (hm : 0 ≤ m ∧ m ≤ 9223372036854775807) (hn : Bs.flatten.length ≤ 2000000) (hfit : 12 < s.size → ¬ m - (Bs.flatten.length : Int) < (s.size : Int)) :
    Calls Try.prog 11 #[.pointer (some ⟨g, 0, none⟩), .string s] w fun e w' => ∃ (x : List Int) (Bs' : List (List Int)), e = .returned (.tuple #[.agg (cel x), .int .i64 0]) ∧ HM lo w' g Bs' (Bs'.flatten.length : Int) m ∧ Below lo w w' ∧ KT w w' ∧ HoldsM Bs' x s ∧ (∀ (a : List Int) (t : ByteArray), HoldsM Bs a t → HoldsM Bs' a t) ∧ Bs'.length ≤ Bs.length + 1 ∧ GB Bs' ∧ Bs'.flatten = Bs.flatten ++ (if 12 < s.size then bytesOf s else []) := by
  by_cases hs : s.size ≤ 12
  · refine (add_short g s w hs).mono ?_
    rintro e w1 ⟨rfl, hb⟩
    exact ⟨mkS s, Bs, rfl, h.below hb, hb.mono hlo, KT.of_below hb, ⟨vw_S s hs, hs2, .inl ⟨hs, rfl⟩⟩, fun _ _ h => h, by omega, hbl, by rw [if_neg (by omega)]; simp⟩
  · have hs' : 12 < s.size := by omega
    refine (HM.add_long s w h hlo hbs (fun b hb => (hbl b hb).1) hs' hs2 hm hn (hfit hs')).mono ?_
    rintro e w1 ⟨q, Bs', b, rfl, hB, hl, hb, hf, hh, hbw, hk⟩
    obtain ⟨e1, e2⟩ := set_last (t := bytesOf s) hl hb
    have hsl := bytes_len s
    have hfl : Bs'.flatten = Bs.flatten := by rcases hB with e | e <;> rw [e] <;> simp
    have hfl2 : (Bs'.set q (b ++ bytesOf s)).flatten = Bs.flatten ++ bytesOf s := by
      rw [e2, ← hfl]
      conv => rhs; rw [e1]
      simp
    have hql : Bs'.length ≤ Bs.length + 1 := by rcases hB with e | e <;> rw [e] <;> simp
    have hGB : GB Bs' := fun c hc => by
      rcases hB with e | e
      · rw [e] at hc; exact hbl c hc
      · rw [e] at hc
        rcases List.mem_append.1 hc with hc | hc
        · exact hbl c hc
        · simp at hc; subst hc; exact ⟨by simp, fun x hx => by simp at hx⟩
    refine ⟨_, _, rfl, by rw [hfl2, List.length_append, hsl]; exact hh, hbw, hk, ⟨vw_M s q b.length hs' hs2 (by omega) (by omega), hs2, .inr ⟨hs', q, b.length, b ++ bytesOf s, by rw [List.getElem?_set_self (by omega)], rfl, by omega, by rw [List.length_append, hsl]; omega, by rw [List.length_append, hsl]; omega, ?_⟩⟩, fun a t ht => ht.grow hB hb (by rw [hsl]; omega), by rw [List.length_set]; exact hql, fun c hc => ?_, by rw [if_pos hs', hfl2]⟩
    · rw [List.drop_left, ← hsl, List.take_length]
    · rw [e2] at hc
      rcases List.mem_append.1 hc with hc | hc
      · exact hGB c (List.mem_of_mem_take hc)
      · simp at hc
        subst hc
        exact ⟨by rw [List.length_append, hsl]; omega, isB_app (hGB b (List.mem_of_getElem? hb)).2 (bytes_b s)⟩
set_option maxHeartbeats 8000000 in
set_option maxRecDepth 100000 in
theorem add_big (g : Nat) (s : ByteArray) (w : World) (hs : 4096 < s.size) : Calls Try.prog 11 #[.pointer (some ⟨g, 0, none⟩), .string s] w fun e w' => e = .returned (.tuple #[.agg (cel z16), .int .i64 1]) ∧ Below w.heap.size w w' := by
  have HMk := Aside0.mk (fun w => view_Make.bad1 s 0 0 w hs)
  have hz := zero16
  obtain ⟨Z, hZ⟩ : ∃ Z, Z = cel z16 := ⟨_, rfl⟩
  rw [← hZ] at hz
  have HSZ : Aside0 (Z.size = 16) := ⟨by rw [hZ]; rfl⟩
  have H1Z : Aside0 (Z.all (·.oneCell') = true) := ⟨by rw [hZ]; exact cel_one _⟩
  rw [← hZ] at HMk ⊢
  clear hs hZ
  have HN := Aside0.mk (blk_new w (.cells Z 28))
  have HB := Aside0.mk (below_alloc (Below.refl w.heap.size w) (.cells Z 28))
  go_enter Try.func11, Try.ntmps11
  go_wp2_with fail
  refine (HMk.out _).mono ?_
  rintro e w1 ⟨rfl, hb⟩
  have HN1 := Aside0.mk ((hb.block _ (blk_lt HN.out)).trans HN.out)
  have HB1 := Aside0.mk (below_step HB.out hb)
  have HM1 := Aside0.mk (blk_new w1 (.cells Z 28))
  have HLT := Aside0.mk (blk_lt HN1.out)
  have HG1 := Aside0.mk (setRow_heap _ _ _ Z _ _ HM1.out)
  have HN2 : Aside0 (((w1.alloc (.cells Z 28)).setRow w1.heap.size Z).heap[w.heap.size]? = some (.cells Z 28 (0, 0))) := ⟨(heap_row (by have := HLT.out; omega)).trans (((below_alloc (Below.refl _ w1) (.cells Z 28)).block _ HLT.out).trans HN1.out)⟩
  have HB2 := Aside0.mk (below_row (below_alloc HB1.out (.cells Z 28)) (below_size HB1.out) Z)
  clear HN hb
  go_wp2_with (first | ((with_reducible refine gate_store (t := 28) (p := 6) rfl ?_); refine wpList_store_row rfl 28 _ _ rfl w1.heap.size Z (by rfl) (by rfl) 28 Z HM1.out (by rw [info16, HSZ.out]) (HSZ.out.trans HSZ.out.symm) H1Z.out ?_) | ((with_reducible refine gate_dst (N := 21) rfl ?_); refine wpList_load_row rfl 28 _ rfl w1.heap.size (by rfl) 28 Z (0, 0) _ HG1.out Try.underlying28 rfl (by rw [info16, HSZ.out]) ?_) | ((with_reducible refine gate_store (t := 28) (p := 4) rfl ?_); refine wpList_store_row rfl 28 _ _ rfl w.heap.size Z (by rfl) (by rfl) 28 Z HN2.out (by rw [info16, HSZ.out]) (HSZ.out.trans HSZ.out.symm) H1Z.out ?_))
  (try simp only [Exit.inBlock, Exit.then])
  refine bodyPost_ret (results_ct (p := 4) (u := 5) rfl _ _ w.heap.size 28 Z (0, 0) _ ?hp (setRow_heap _ _ _ _ _ _ HN2.out) Try.underlying28 rfl (by rw [info16, HSZ.out])) ?hd ?_
  case hp => rfl
  case hd => rfl
  exact ⟨rfl, below_row HB2.out (Nat.le_refl _) _⟩
end Go.Proofs.Ytpbplflocdhahaa.HW
