/- CursorActs: the law, walked. -/
import Derived.Test.YtkdncanoajbdgaaActS
import Derived.Test.YtkdncanoajbdgaaPx1
set_option linter.unusedVariables false
set_option linter.unusedSimpArgs false
namespace Go.Proofs.Ytkdncanoajbdgaa.HW
open Go.RowKit Go.Proofs.Ytkdncanoajbdgaa.P Go.Proofs.Ytkdncanoajbdgaa.HP Go.Proofs.YtkdncanoajbdgaaW.PrintWords Go.Proofs.YtkdncanoajbdgaaW.PrintLast Go.Proofs.YtkdncanoajbdgaaW.PrintMore
attribute [local go_sem] max2_int min2_int max_two min_two max_three min_three max_four min_four
theorem same_self (a : List Int) : hopperref01_Same.f a a = some true := by unfold hopperref01_Same.f; simp
theorem byte_bad (l : List Int) (a e : Int) (he : e ≠ 0) : cursor_Cursor_Byte.f l a e = some (0, a, e) := by unfold cursor_Cursor_Byte.f cursor_Cursor_Bytes.f; rw [if_neg he]; rfl
theorem bytes_bad (l : List Int) (a e N : Int) (he : e ≠ 0) : cursor_Cursor_Bytes.f l a e N = some ([], a, e) := by unfold cursor_Cursor_Bytes.f; rw [if_neg he]
theorem number_bad (l : List Int) (a e : Int) (he : e ≠ 0) : cursor_Cursor_Number.f l a e = some (0, a, e) := by unfold cursor_Cursor_Number.f; rw [if_neg he]
theorem fail_bad (l : List Int) (a e N : Int) (he : e ≠ 0) : cursor_Cursor_Fail.f l a e N = some (a, e) := by unfold cursor_Cursor_Fail.f; rw [if_neg he]
theorem fail_ok (l : List Int) (a N : Int) : cursor_Cursor_Fail.f l a 0 N = some (a, N) := by unfold cursor_Cursor_Fail.f; rw [if_pos rfl]
theorem most_bad (l : List Int) (a e N : Int) (he : e ≠ 0) : cursor_Cursor_Most.f l a e N = some (0, a, e) := by
  unfold cursor_Cursor_Most.f
  rw [number_bad l a e he]
  simp only [Option.bind_some, fail_bad l a e 3 he]
  split <;> rfl
theorem text_bad (l : List Int) (a e : Int) (he : e ≠ 0) : cursor_Cursor_Text.f l a e = some (strOfNums [], a, e) := by
  unfold cursor_Cursor_Text.f
  rw [most_bad l a e 4096 he]
  simp only [Option.bind_some, bytes_bad l a e 0 he, if_neg he]
theorem good_at (l : List Int) (a e : Int) : cursor_Cursor_Good.f l a e = some ((e == 0), a, e) := rfl
/-- A list of acts, as it lies. -/
def ActsC (w : World) (A : Option Addr) (l : List (Int × Int)) : Prop := ∀ (i : Nat) (h : i < l.length), ∃ ad, A = some ad ∧ w.cell? (ad.add (i * 2)) = some (.int .i64 l[i].1) ∧ w.cell? (ad.add (i * 2 + 1)) = some (.int .i64 l[i].2)
theorem cell_below {w w' : World} {B : Nat} {a : Addr} {v : Value} (h : w.cell? a = some v) (hb : Below w.heap.size w w') : w'.cell? a = some v := by
  have hl := World.block_lt_of_cell? _ _ h
  rw [← h]
  unfold World.cell?
  rw [hb.block _ hl]
theorem ActsC.below {w w' : World} {A : Option Addr} {l : List (Int × Int)} (h : ActsC w A l) (hb : Below w.heap.size w w') : ActsC w' A l := by
  intro i hi
  obtain ⟨ad, e, h0, h1⟩ := h i hi
  exact ⟨ad, e, cell_below (B := 0) h0 hb, cell_below (B := 0) h1 hb⟩
theorem infoAct : (Try.prog.info? 38).map (·.size) = some 2 := by kernel_rfl
theorem zeroAct : ∀ W : World, (zeroValue 38).run Try.prog W = .ok (.agg #[.int .i64 0, .int .i64 0]) W := by
  intro W
  kernel_rfl
theorem load_at {P : Program} {ops : Array Oper} {rest : List Oper} {o : Oper} {a : Act} {w : World} {Q : Exit → Act → World → Prop} (hgd : o.guard = none) (ty : TypeId) (x : Operand) (ho : o.op = .load ty x)
    (ad : Addr) (hx : a.eval x = .pointer (some ad)) (cs : List Value) (hc : ∀ j v, cs[j]? = some v → w.cell? (ad.add j) = some v) (d : TypeDesc)
    (hu : P.underlying ty = some d) (hd : (match d with | .struct _ | .array _ _ => true | _ => false) = true) (hi : (P.info? ty).map (·.size) = some cs.length)
    (h : wpList P ops Q rest (a.put o.dst (.agg cs.toArray)) w) : wpList P ops Q (o :: rest) a w := by
  have hl : (loadCells ad cs.length).run P w = .ok cs.toArray w := run_loadCells_list (P := P) w ad cs hc
  refine wpList_plain hgd fun _ hK => ?_
  cases hq : P.info? ty with
  | none => simp [hq] at hi
  | some i =>
    have hs : i.size = cs.length := by simpa [hq] using hi
    have hagg : (isAgg ty).run P w = .ok true w := by
      unfold isAgg
      rw [Sem.run_bind, run_underlying hu w]
      cases d <;> simp_all
    have hv : (loadVar ty ad).run P w = .ok (.agg cs.toArray) w := by simp [loadVar, Sem.run_bind, hagg, sizeOf, typeInfo, hq, hs, hl]
    unfold Oper.wp execOp
    simp only [ho, hx, Instr.loadAt, Instr.sureAddr, Sem.run_bind, Sem.run_pure, Result.andThen_ok, hv]
    exact hK _ _ h
theorem pair_at {w : World} {ad : Addr} {v0 v1 : Value} (i : Nat) (h0 : w.cell? (ad.add (i * 2)) = some v0) (h1 : w.cell? (ad.add (i * 2 + 1)) = some v1) : ∀ (j : Nat) (v : Value), [v0, v1][j]? = some v → w.cell? ((ad.add (i * 2)).add j) = some v := by
  intro j v hj
  have e : (ad.add (i * 2)).add j = ad.add (i * 2 + j) := by obtain ⟨b, o, u⟩ := ad; unfold Addr.add; split <;> simp_all [Nat.add_assoc] <;> split <;> simp_all [Nat.add_assoc]
  rw [e]
  match j, hj with
  | 0, hj => simp at hj; subst hj; exact h0
  | 1, hj => simp at hj; subst hj; exact h1
  | j + 2, hj => simp at hj
theorem heap_row {w : World} {g k : Nat} {c : Array Value} (hk : k ≠ g) : (w.setRow g c).heap[k]? = w.heap[k]? := by
  unfold World.setRow
  simp only
  rw [Array.getElem?_modify]
  rw [if_neg (fun e => hk e.symm)]
theorem size_row {w : World} {g : Nat} {c : Array Value} : (w.setRow g c).heap.size = w.heap.size := by simp [World.setRow]
theorem below_row {w W : World} {B g : Nat} (h : Below B w W) (hg : B ≤ g) (c : Array Value) : Below B w (W.setRow g c) :=
  ⟨h.os, h.tape, h.output, by rw [size_row]; exact h.size, fun k hk => (heap_row (by omega)).trans (h.block k hk)⟩
theorem n1 {α : Type} (l : List α) (i : Nat) (a : α) : l.toArray.setIfInBounds i a = (l.set i a).toArray := List.setIfInBounds_toArray ..
theorem n2 {α : Type} (a : α) (tl : List α) (b : α) : (a :: tl).set 0 b = b :: tl := rfl
theorem n3 {α : Type} (a : α) (tl : List α) (i : Nat) (b : α) : (a :: tl).set (i + 1) b = a :: tl.set i b := rfl
section
variable {P : Program} {ops : Array Oper} {Q : Exit → Act → World → Prop} {md : Region.Mode} {S : World → Prop} {ds : List Nat}
def bw (m : Nat) : Array Bool := ((List.range 59).map (fun i => m.testBit i)).toArray
theorem pu (i m : Nat) {N : Option Tmp} {oi : Oper} {v : Value} {fuel : Nat} {l : Array Bool} {a : Act} {w : World} (hi : ops[i]? = some oi) (hN : oi.dst = N) (hc : anyB md ops l (bw m) i = true) (hQ : ∀ c a w, Q (.panic c) (a.put oi.dst v) w → Q (.panic c) a w) (hw : Region.wanted oi (yielded ops a.tmps) = true) (hv : ∀ w', (execOp a.eval oi).run P w' = .ok (.value v) w') {a' : Act} (ha : a.put N v = a') (h : wpAnyLast P md ops Q S ds fuel (bw m) a' w) : wpAnyLast P md ops Q S ds (fuel + 1) l a w := pure_ _ hi hN hc hQ (Or.inl ⟨hw, hv⟩) ha h
theorem po (i m : Nat) {N : Option Tmp} {oi : Oper} {fuel : Nat} {l : Array Bool} {a : Act} {w : World} (hi : ops[i]? = some oi) (hN : oi.dst = N) (hc : anyB md ops l (bw m) i = true) (hQ : ∀ c a w, Q (.panic c) (a.put oi.dst undef) w → Q (.panic c) a w) (hw : Region.wanted oi (yielded ops a.tmps) = false) {a' : Act} (ha : a.put N undef = a') (h : wpAnyLast P md ops Q S ds fuel (bw m) a' w) : wpAnyLast P md ops Q S ds (fuel + 1) l a w := pure_ _ hi hN hc hQ (Or.inr ⟨hw, rfl⟩) ha h
theorem tk (i m : Nat) {N : Option Tmp} {oi : Oper} {v : Value} {fuel : Nat} {l : Array Bool} {a : Act} {w : World} (hi : ops[i]? = some oi) (hN : oi.dst = N) (hc : takeB md ops ds l (bw m) i = true) (hQ : ∀ c a w, Q (.panic c) (a.put oi.dst v) w → Q (.panic c) a w) (hw : Region.wanted oi (yielded ops a.tmps) = true) (hv : ∀ w', S w' → (execOp a.eval oi).run P w' = .ok (.value v) w') (hS : S w) {a' : Act} (ha : a.put N v = a') (h : wpAnyLast P md ops Q S ds fuel (bw m) a' w) : wpAnyLast P md ops Q S ds (fuel + 1) l a w := take_ _ hi hN hc hQ (Or.inl ⟨hw, hv⟩) hS ha h
end
theorem wx (x : Nat) (h : x ≤ 100000) : wrap64 (x : Int) = (x : Int) := by unfold wrap64; omega
set_option maxHeartbeats 80000000 in
set_option maxRecDepth 100000 in
theorem CursorActs (A0 : Option Addr) (c0 : Nat) (l0 : List Int) (A1 : Option Addr) (c1 : Nat) (l1 : List (Int × Int)) (w : World) (hr0 : Kd.C (Kd.int .u8) w A0 l0.length l0) (hc0 : l0.length ≤ c0) (hr1 : ActsC w A1 l1) (hw0 : ∀ x ∈ l0, (Lit.int .u8 x).wf = true) (hw1 : ∀ p ∈ l1, (-9223372036854775808 ≤ p.1 ∧ p.1 < 9223372036854775808) ∧ (-9223372036854775808 ≤ p.2 ∧ p.2 < 9223372036854775808)) :
    Calls Try.prog 6 #[.slice A0 l0.length c0, .slice A1 l1.length c1] w fun e w' => e = .returned (.bool true) ∧ Below w.heap.size w w' := by
  have HY := Aside0.mk (isBy_wf hw0)
  have HW := Aside0.mk hw1
  have HR0 := Aside0.mk hr0
  have HC0 := Aside0.mk hc0
  have HA := Aside0.mk hr1
  have HB := Aside0.mk (Below.refl w.heap.size w)
  clear hr0 hc0 hr1 hw0 hw1
  by_cases h5 : 2000 < l0.length
  · have t5a : decide (2000 < (l0.length : Int)) = true := decide_eq_true (by omega)
    have t5b : decide (2000 < l0.length) = true := decide_eq_true (by omega)
    clear h5
    go_enter Try.func6, Try.ntmps6
    go_wp2_with fail
    refine (hopperlaw01_awake.calls true _ rfl).mono ?_
    rintro e w1 ⟨rfl, hb⟩
    have HB1 := Aside0.mk (below_step HB.out hb)
    clear HB hb
    go_wp2_with fail
    refine (hopperlaw01_awake.calls true _ rfl).mono ?_
    rintro e w2 ⟨rfl, hb⟩
    have HB2 := Aside0.mk (below_step HB1.out hb)
    clear HB1 hb
    go_wp2_with fail
    go_ret
    exact ⟨rfl, HB2.out⟩
  have t5a : decide (2000 < (l0.length : Int)) = false := decide_eq_false (by omega)
  have t5b : decide (2000 < l0.length) = false := decide_eq_false (by omega)
  by_cases h6 : 80 < l1.length
  · have t6a : decide (80 < (l1.length : Int)) = true := decide_eq_true (by omega)
    have t6b : decide (80 < l1.length) = true := decide_eq_true (by omega)
    clear h5 h6
    go_enter Try.func6, Try.ntmps6
    go_wp2_with fail
    refine (hopperlaw01_awake.calls true _ rfl).mono ?_
    rintro e w1 ⟨rfl, hb⟩
    have HB1 := Aside0.mk (below_step HB.out hb)
    clear HB hb
    go_wp2_with fail
    refine (hopperlaw01_awake.calls true _ rfl).mono ?_
    rintro e w2 ⟨rfl, hb⟩
    have HB2 := Aside0.mk (below_step HB1.out hb)
    clear HB1 hb
    go_wp2_with fail
    go_ret
    exact ⟨rfl, HB2.out⟩
  have t6a : decide (80 < (l1.length : Int)) = false := decide_eq_false (by omega)
  have t6b : decide (80 < l1.length) = false := decide_eq_false (by omega)
  have HL := Aside0.mk (show l0.length ≤ 2000 ∧ l1.length ≤ 80 by omega)
  clear h5 h6
  have hz := zeroAct
  go_enter Try.func6, Try.ntmps6
  go_wp2_with fail
  refine (hopperlaw01_awake.calls true _ rfl).mono ?_
  rintro e w1 ⟨rfl, hb⟩
  have HB1 := Aside0.mk (below_step HB.out hb)
  clear HB hb
  go_wp2_with fail
  refine (Cur.make A0 c0 l0 _ (Kd.C_below HR0.out HB1.out) HC0.out (by have := HL.out; omega)).mono ?_
  rintro e w2 ⟨g, rfl, hc, hb⟩
  obtain ⟨lo, hlo⟩ : ∃ lo, Aside0 (lo = w1.heap.size ∧ w.heap.size ≤ lo) := ⟨_, ⟨rfl, below_size HB1.out⟩⟩
  have HB2 := Aside0.mk (below_step HB1.out hb)
  have HC2 : Aside0 (Cur lo w2 g l0 0 0) := ⟨by rw [hlo.out.1]; exact hc⟩
  clear HB1 hb hc
  go_wp2_with fail
  go_loopg [6, 7, 8] (l1.length : Nat) (fun kq v6 v7 v8 w' => ∃ (i a : Nat) (e : Int), v6 = .int .i64 (a : Int) ∧ v7 = .int .i64 e ∧ v8 = .int .i64 (i : Int) ∧ Aside0 (i + kq = l1.length) ∧ Aside0 (a ≤ l0.length ∧ 0 ≤ e ∧ e ≤ 8) ∧ Aside0 (Cur lo w' g l0 (a : Int) e) ∧ Aside0 (Below w.heap.size w w'))
  case atStart => exact ⟨0, 0, 0, rfl, rfl, rfl, ⟨by omega⟩, ⟨by omega⟩, HC2, HB2⟩
  case round =>
    clear HC2 HB2
    obtain ⟨i, a, e, rfl, rfl, rfl, HI, HE, HC, HB⟩ := hrel
    cases gk with
    | zero =>
      obtain rfl : i = l1.length := by have := HI.out; omega
      by_cases he : e = 0
      · subst he
        by_cases ha : a < l0.length
        · have ta : decide ((a : Int) < (l0.length : Int)) = true := decide_eq_true (by omega)
          have tb : decide (a < l0.length) = true := decide_eq_true (by omega)
          have HE2 := Aside0.mk (end_at l0 a (by have := HL.out; omega) (by omega))
          rw [if_pos ha] at HE2
          clear ha
          go_wp2_with fail
          refine (HC.out.end_ HE2.out).mono ?_
          rintro e w3 ⟨rfl, hc, hk, hb⟩
          have HB3 := Aside0.mk (Cur.wide2 HB.out hb hlo.out.2)
          clear hc hk hb
          go_wp2_with fail
          go_ret
          exact ⟨rfl, HB3.out⟩
        · have ta : decide ((a : Int) < (l0.length : Int)) = false := decide_eq_false (by omega)
          have tb : decide (a < l0.length) = false := decide_eq_false (by omega)
          have HE2 := Aside0.mk (end_at l0 a (by have := HL.out; omega) (by have := HE.out; omega))
          rw [if_neg ha] at HE2
          clear ha
          go_wp2_with fail
          refine (HC.out.end_ HE2.out).mono ?_
          rintro e w3 ⟨rfl, hc, hk, hb⟩
          have HB3 := Aside0.mk (Cur.wide2 HB.out hb hlo.out.2)
          clear hc hk hb
          go_wp2_with fail
          go_ret
          exact ⟨rfl, HB3.out⟩
      · have e1 : (e == 0) = false := by simpa using he
        have e3 : decide (e = 0) = false := decide_eq_false he
        have HE2 := Aside0.mk (end_bad l0 (a : Int) e he)
        clear he
        go_wp2_with fail
        refine (HC.out.end_ HE2.out).mono ?_
        rintro e' w3 ⟨rfl, hc, hk, hb⟩
        have HB3 := Aside0.mk (Cur.wide2 HB.out hb hlo.out.2)
        clear hc hk hb
        go_wp2_with fail
        go_ret
        exact ⟨rfl, HB3.out⟩
    | succ k1 =>
      have hi : i < l1.length := by have := HI.out; omega
      have ti : decide ((i : Int) < (l1.length : Int)) = true := decide_eq_true (by omega)
      have ti2 : decide (i < l1.length) = true := decide_eq_true hi
      have p3 : (0 : Int) ≤ (i : Int) := by omega
      have q3 : (i : Int) < (l1.length : Int) := by omega
      obtain ⟨ad, hA1, hx0, hx1⟩ := (HA.out.below HB.out) i hi
      have hN := HW.out l1[i] (List.getElem_mem hi)
      obtain ⟨d, hd⟩ : ∃ d, d = l1[i].1 := ⟨_, rfl⟩
      obtain ⟨N, hNe⟩ : ∃ N, N = l1[i].2 := ⟨_, rfl⟩
      rw [← hd] at hx0 hN
      rw [← hNe] at hx1 hN
      have HN := Aside0.mk hN
      have HX := Aside0.mk (pair_at i hx0 hx1)
      subst hA1
      clear hx0 hx1 hd hNe hN
      have HIL := Aside0.mk hi
      replace p3 := eq_true p3
      replace q3 := eq_true q3
      by_cases h : d < 0
      · as_aux_lemma =>
          have t1 : decide (d < 0) = true := decide_eq_true (by omega)
          have HG4 := Aside0.mk (blk_new wr (.cells #[.int .i64 d, .int .i64 N] 38))
          have HBa := Aside0.mk (below_alloc (Below.refl wr.heap.size wr) (.cells #[.int .i64 d, .int .i64 N] 38))
          have HB4 := Aside0.mk (below_step HB.out HBa.out)
          have HC4 := Aside0.mk (HC.out.below HBa.out)
          have hq0 := blk_cell HG4.out 0
          have hq1 := blk_cell HG4.out 1
          simp only [List.getElem?_toArray, List.getElem?_cons_zero, List.getElem?_cons_succ] at hq0 hq1
          clear HC HB HBa hi h
          go_wp2_with (first | ((with_reducible refine gate_dst (N := 40) rfl ?_); refine load_at rfl 38 _ rfl (ad.add (i * 2)) ?hx [.int .i64 d, .int .i64 N] HX.out _ Try.underlying38 rfl (by rw [infoAct]; rfl) ?_; (case hx => rfl)) | ((with_reducible refine gate_dst (N := 67) rfl ?_); refine wpList_load_row rfl 38 _ rfl wr.heap.size (by rfl) 38 #[.int .i64 d, .int .i64 N] (0, 0) _ HG4.out Try.underlying38 rfl (by rw [infoAct]; rfl) ?_))
          go_ret
          exact ⟨rfl, HB4.out⟩
      by_cases h2 : 5 < d
      · as_aux_lemma =>
          have t1 : decide (d < 0) = false := decide_eq_false (by omega)
          have t2 : decide (5 < d) = true := decide_eq_true (by omega)
          have HG4 := Aside0.mk (blk_new wr (.cells #[.int .i64 d, .int .i64 N] 38))
          have HBa := Aside0.mk (below_alloc (Below.refl wr.heap.size wr) (.cells #[.int .i64 d, .int .i64 N] 38))
          have HB4 := Aside0.mk (below_step HB.out HBa.out)
          have HC4 := Aside0.mk (HC.out.below HBa.out)
          have hq0 := blk_cell HG4.out 0
          have hq1 := blk_cell HG4.out 1
          simp only [List.getElem?_toArray, List.getElem?_cons_zero, List.getElem?_cons_succ] at hq0 hq1
          clear HC HB HBa hi h h2
          go_wp2_with (first | ((with_reducible refine gate_dst (N := 40) rfl ?_); refine load_at rfl 38 _ rfl (ad.add (i * 2)) ?hx [.int .i64 d, .int .i64 N] HX.out _ Try.underlying38 rfl (by rw [infoAct]; rfl) ?_; (case hx => rfl)) | ((with_reducible refine gate_dst (N := 67) rfl ?_); refine wpList_load_row rfl 38 _ rfl wr.heap.size (by rfl) 38 #[.int .i64 d, .int .i64 N] (0, 0) _ HG4.out Try.underlying38 rfl (by rw [infoAct]; rfl) ?_))
          go_ret
          exact ⟨rfl, HB4.out⟩
      by_cases hd0 : d = 0
      · subst hd0
        clear h h2
        by_cases he : e = 0
        · subst he
          as_aux_lemma =>
            have HG4 := Aside0.mk (blk_new wr (.cells #[.int .i64 0, .int .i64 N] 38))
            have HBa := Aside0.mk (below_alloc (Below.refl wr.heap.size wr) (.cells #[.int .i64 0, .int .i64 N] 38))
            have HB4 := Aside0.mk (below_step HB.out HBa.out)
            have HC4 := Aside0.mk (HC.out.below HBa.out)
            have hq0 := blk_cell HG4.out 0
            have hq1 := blk_cell HG4.out 1
            simp only [List.getElem?_toArray, List.getElem?_cons_zero, List.getElem?_cons_succ] at hq0 hq1
            have HLT := Aside0.mk HC.out.lt
            clear HC HB HBa hi
            go_wp2_with (first | ((with_reducible refine gate_dst (N := 40) rfl ?_); refine load_at rfl 38 _ rfl (ad.add (i * 2)) ?hx [.int .i64 0, .int .i64 N] HX.out _ Try.underlying38 rfl (by rw [infoAct]; rfl) ?_; (case hx => rfl)) | ((with_reducible refine gate_dst (N := 67) rfl ?_); refine wpList_load_row rfl 38 _ rfl wr.heap.size (by rfl) 38 #[.int .i64 0, .int .i64 N] (0, 0) _ HG4.out Try.underlying38 rfl (by rw [infoAct]; rfl) ?_))
            refine (step_0 A0 c0 l0 a N _ (Kd.C_below HR0.out HB4.out) HC0.out HY.out HL.out.1 HE.out.1 HN.out.2).mono ?_
            rintro e5 w5 ⟨n, bs, s, er, A5, c5, rfl, hR, hle, hcs, hb5⟩
            have HG5 := Aside0.mk ((hb5.block _ (blk_lt HG4.out)).trans HG4.out)
            have HB5 := Aside0.mk (below_step HB4.out hb5)
            have HC5 := Aside0.mk (HC4.out.below hb5)
            have HNE := Aside0.mk (show g < wr.heap.size from HLT.out)
            obtain ⟨x, hx⟩ : ∃ x : Nat, x = a + s := ⟨_, rfl⟩
            unfold StepR at hR
            rw [← hx] at hR
            have HX2 := Aside0.mk (show x ≤ l0.length ∧ 0 ≤ er ∧ er ≤ 8 from ⟨hR.1, hR.2.1⟩)
            have HXE := Aside0.mk hx
            have hs5 : (s : Int) = (x : Int) - (a : Int) := by omega
            have HF := Aside0.mk (hR.2.2.1 rfl)
            clear hR hle hcs hb5 hq0 hq1 hx HG4 HB4 HC4 hs5
            go_wp2_with fail
            have HQ : Aside0 (∀ W : World, W.heap[wr.heap.size]? = some (.cells #[.int .i64 0, .int .i64 N] 38 (0, 0)) → W.cell? ⟨wr.heap.size, 0, none⟩ = some (.int .i64 0) ∧ W.cell? ⟨wr.heap.size, 1, none⟩ = some (.int .i64 N)) := ⟨fun W hW => ⟨blk_cell hW 0, blk_cell hW 1⟩⟩
            have HGd : Aside0 (w5.drew.heap[wr.heap.size]? = some (.cells #[.int .i64 0, .int .i64 N] 38 (0, 0))) := ⟨HG5.out⟩
            have HBd := Aside0.mk (below_drew1 HB5.out)
            have HCd := Aside0.mk (HC5.out.below (below_drew1 (Below.refl _ w5)))
            clear HG5 HB5 HC5
            refine start_ (n := 59) (S := fun w' => w'.cell? ⟨wr.heap.size, 0, none⟩ = some (.int .i64 0) ∧ w'.cell? ⟨wr.heap.size, 1, none⟩ = some (.int .i64 N)) (ds := []) #[false, false, false, false, false, false, false, false, false, false, false, false, false, false, false, false, false, false, false, false, false, false, false, false, false, false, false, false, false, false, false, false, false, false, false, false, false, false, false, false, false, false, false, false, false, false, false, false, false, false, false, false, false, false, false, false, false, false, false] (by kernel_rfl) rfl rfl ⟨(HQ.out _ HGd.out).1, (HQ.out _ HGd.out).2⟩ (fun hHeld => ?_)
            refine pu 0 1 (N := some 75) (v := ?_) (a' := ?_) rfl rfl (by kernel_rfl) (fun _ _ _ h => h) (by rfl) ?_ ?_ ?_
            rotate_left
            · intro w'; go_simp; with_reducible rfl
            rotate_left
            · simp only [Act.put, n1, n2, n3]; rfl
            refine tk 1 3 (N := some 76) (v := ?_) (a' := ?_) rfl rfl (by kernel_rfl) (fun _ _ _ h => h) (by rfl) ?_ hHeld ?_ ?_
            rotate_left
            · rintro w' ⟨s0, s1⟩; go_simp; with_reducible rfl
            rotate_left
            · simp only [Act.put, n1, n2, n3]; rfl
            refine pu 2 7 (N := some 77) (v := ?_) (a' := ?_) rfl rfl (by kernel_rfl) (fun _ _ _ h => h) (by rfl) ?_ ?_ ?_
            rotate_left
            · intro w'; go_simp; with_reducible rfl
            rotate_left
            · simp only [Act.put, n1, n2, n3]; rfl
            refine pu 3 15 (N := some 78) (v := ?_) (a' := ?_) rfl rfl (by kernel_rfl) (fun _ _ _ h => h) (by rfl) ?_ ?_ ?_
            rotate_left
            · intro w'; go_simp; with_reducible rfl
            rotate_left
            · simp only [Act.put, n1, n2, n3]; rfl
            refine pu 4 31 (N := some 79) (v := ?_) (a' := ?_) rfl rfl (by kernel_rfl) (fun _ _ _ h => h) (by rfl) ?_ ?_ ?_
            rotate_left
            · intro w'; go_simp; with_reducible rfl
            rotate_left
            · simp only [Act.put, n1, n2, n3]; rfl
            refine pu 6 95 (N := some 81) (v := ?_) (a' := ?_) rfl rfl (by kernel_rfl) (fun _ _ _ h => h) (by rfl) ?_ ?_ ?_
            rotate_left
            · intro w'; go_simp; with_reducible rfl
            rotate_left
            · simp only [Act.put, n1, n2, n3]; rfl
            refine one_ (i := 5) (N := some 80) #[true, true, true, true, true, true, true, false, false, false, false, false, false, false, false, false, false, false, false, false, false, false, false, false, false, false, false, false, false, false, false, false, false, false, false, false, false, false, false, false, false, false, false, false, false, false, false, false, false, false, false, false, false, false, false, false, false, false, false] rfl rfl (by kernel_rfl) (by decide) (fun K hK => ?_)
            refine goes_ Try.func25 (by kernel_rfl) rfl #[.pointer (some ⟨g, 0, none⟩)] (by rfl) rfl rfl (by simp only [List.map_toArray, List.map_cons, List.map_nil]; rfl) ?_
            with_reducible refine (HCd.out.byte HF.out).mono ?_
            rintro e6 w6 ⟨rfl, hc6, hk6, hb6⟩
            refine ⟨_, rfl, ?_⟩
            have HG6 := Aside0.mk ((hk6.2 wr.heap.size (blk_lt HGd.out) (by have := HNE.out; omega) (by simp)).trans HGd.out)
            have HB6 := Aside0.mk (Cur.wide2 HBd.out hb6 hlo.out.2)
            have HC6 := Aside0.mk hc6
            clear hc6 hk6 hb6
            refine hK.out _ _ ⟨(HQ.out _ HG6.out).1, (HQ.out _ HG6.out).2⟩ (fun hHeld => ?_)
            clear hK K
            refine norm_ (a' := ?_) ?_ ?_
            rotate_left
            · show Act.put _ (some 80) _ = _
              simp only [Act.put, List.setIfInBounds_toArray, List.set_cons_zero, List.set_cons_succ, i64_w, i32_w]
              rfl
            refine pu 7 255 (N := some 82) (v := ?_) (a' := ?_) rfl rfl (by kernel_rfl) (fun _ _ _ h => h) (by rfl) ?_ ?_ ?_
            rotate_left
            · intro w'; go_simp; with_reducible rfl
            rotate_left
            · simp only [Act.put, n1, n2, n3]; rfl
            refine pu 8 511 (N := some 83) (v := ?_) (a' := ?_) rfl rfl (by kernel_rfl) (fun _ _ _ h => h) (by rfl) ?_ ?_ ?_
            rotate_left
            · intro w'; go_simp; with_reducible rfl
            rotate_left
            · simp only [Act.put, n1, n2, n3]; rfl
            refine pu 9 1023 (N := some 84) (v := ?_) (a' := ?_) rfl rfl (by kernel_rfl) (fun _ _ _ h => h) (by rfl) ?_ ?_ ?_
            rotate_left
            · intro w'; go_simp; with_reducible rfl
            rotate_left
            · simp only [Act.put, n1, n2, n3]; rfl
            refine pu 10 2047 (N := some 85) (v := ?_) (a' := ?_) rfl rfl (by kernel_rfl) (fun _ _ _ h => h) (by rfl) ?_ ?_ ?_
            rotate_left
            · intro w'; go_simp; with_reducible rfl
            rotate_left
            · simp only [Act.put, n1, n2, n3]; rfl
            refine tk 11 4095 (N := some 86) (v := ?_) (a' := ?_) rfl rfl (by kernel_rfl) (fun _ _ _ h => h) (by rfl) ?_ hHeld ?_ ?_
            rotate_left
            · rintro w' ⟨s0, s1⟩; go_simp; with_reducible rfl
            rotate_left
            · simp only [Act.put, n1, n2, n3]; rfl
            refine pu 12 8191 (N := some 87) (v := ?_) (a' := ?_) rfl rfl (by kernel_rfl) (fun _ _ _ h => h) (by rfl) ?_ ?_ ?_
            rotate_left
            · intro w'; go_simp; with_reducible rfl
            rotate_left
            · simp only [Act.put, n1, n2, n3]; rfl
            refine pu 13 16383 (N := some 88) (v := ?_) (a' := ?_) rfl rfl (by kernel_rfl) (fun _ _ _ h => h) (by rfl) ?_ ?_ ?_
            rotate_left
            · intro w'; go_simp; with_reducible rfl
            rotate_left
            · simp only [Act.put, n1, n2, n3]; rfl
            refine po 14 32767 (N := some 89) (a' := ?_) rfl rfl (by kernel_rfl) (fun _ _ _ h => h) (by rfl) ?_ ?_
            rotate_left
            · simp only [Act.put, n1, n2, n3]; rfl
            refine po 15 65535 (N := some 90) (a' := ?_) rfl rfl (by kernel_rfl) (fun _ _ _ h => h) (by rfl) ?_ ?_
            rotate_left
            · simp only [Act.put, n1, n2, n3]; rfl
            refine po 16 131071 (N := some 91) (a' := ?_) rfl rfl (by kernel_rfl) (fun _ _ _ h => h) (by rfl) ?_ ?_
            rotate_left
            · simp only [Act.put, n1, n2, n3]; rfl
            refine po 17 262143 (N := some 92) (a' := ?_) rfl rfl (by kernel_rfl) (fun _ _ _ h => h) (by rfl) ?_ ?_
            rotate_left
            · simp only [Act.put, n1, n2, n3]; rfl
            refine po 18 524287 (N := some 93) (a' := ?_) rfl rfl (by kernel_rfl) (fun _ _ _ h => h) (by rfl) ?_ ?_
            rotate_left
            · simp only [Act.put, n1, n2, n3]; rfl
            refine po 19 1048575 (N := some 94) (a' := ?_) rfl rfl (by kernel_rfl) (fun _ _ _ h => h) (by rfl) ?_ ?_
            rotate_left
            · simp only [Act.put, n1, n2, n3]; rfl
            refine po 20 2097151 (N := some 95) (a' := ?_) rfl rfl (by kernel_rfl) (fun _ _ _ h => h) (by rfl) ?_ ?_
            rotate_left
            · simp only [Act.put, n1, n2, n3]; rfl
            refine pu 21 4194303 (N := some 96) (v := ?_) (a' := ?_) rfl rfl (by kernel_rfl) (fun _ _ _ h => h) (by rfl) ?_ ?_ ?_
            rotate_left
            · intro w'; go_simp; with_reducible rfl
            rotate_left
            · simp only [Act.put, n1, n2, n3]; rfl
            refine pu 22 8388607 (N := some 97) (v := ?_) (a' := ?_) rfl rfl (by kernel_rfl) (fun _ _ _ h => h) (by rfl) ?_ ?_ ?_
            rotate_left
            · intro w'; go_simp; with_reducible rfl
            rotate_left
            · simp only [Act.put, n1, n2, n3]; rfl
            refine pu 23 16777215 (N := some 98) (v := ?_) (a' := ?_) rfl rfl (by kernel_rfl) (fun _ _ _ h => h) (by rfl) ?_ ?_ ?_
            rotate_left
            · intro w'; go_simp; with_reducible rfl
            rotate_left
            · simp only [Act.put, n1, n2, n3]; rfl
            refine pu 24 33554431 (N := some 99) (v := ?_) (a' := ?_) rfl rfl (by kernel_rfl) (fun _ _ _ h => h) (by rfl) ?_ ?_ ?_
            rotate_left
            · intro w'; go_simp; with_reducible rfl
            rotate_left
            · simp only [Act.put, n1, n2, n3]; rfl
            refine tk 25 67108863 (N := some 100) (v := ?_) (a' := ?_) rfl rfl (by kernel_rfl) (fun _ _ _ h => h) (by rfl) ?_ hHeld ?_ ?_
            rotate_left
            · rintro w' ⟨s0, s1⟩; go_simp; with_reducible rfl
            rotate_left
            · simp only [Act.put, n1, n2, n3]; rfl
            refine pu 26 134217727 (N := some 101) (v := ?_) (a' := ?_) rfl rfl (by kernel_rfl) (fun _ _ _ h => h) (by rfl) ?_ ?_ ?_
            rotate_left
            · intro w'; go_simp; with_reducible rfl
            rotate_left
            · simp only [Act.put, n1, n2, n3]; rfl
            refine pu 27 268435455 (N := some 102) (v := ?_) (a' := ?_) rfl rfl (by kernel_rfl) (fun _ _ _ h => h) (by rfl) ?_ ?_ ?_
            rotate_left
            · intro w'; go_simp; with_reducible rfl
            rotate_left
            · simp only [Act.put, n1, n2, n3]; rfl
            refine po 28 536870911 (N := some 103) (a' := ?_) rfl rfl (by kernel_rfl) (fun _ _ _ h => h) (by rfl) ?_ ?_
            rotate_left
            · simp only [Act.put, n1, n2, n3]; rfl
            refine po 29 1073741823 (N := some 104) (a' := ?_) rfl rfl (by kernel_rfl) (fun _ _ _ h => h) (by rfl) ?_ ?_
            rotate_left
            · simp only [Act.put, n1, n2, n3]; rfl
            refine po 30 2147483647 (N := some 105) (a' := ?_) rfl rfl (by kernel_rfl) (fun _ _ _ h => h) (by rfl) ?_ ?_
            rotate_left
            · simp only [Act.put, n1, n2, n3]; rfl
            refine po 31 4294967295 (N := some 106) (a' := ?_) rfl rfl (by kernel_rfl) (fun _ _ _ h => h) (by rfl) ?_ ?_
            rotate_left
            · simp only [Act.put, n1, n2, n3]; rfl
            refine pu 32 8589934591 (N := some 107) (v := ?_) (a' := ?_) rfl rfl (by kernel_rfl) (fun _ _ _ h => h) (by rfl) ?_ ?_ ?_
            rotate_left
            · intro w'; go_simp; with_reducible rfl
            rotate_left
            · simp only [Act.put, n1, n2, n3]; rfl
            refine pu 33 17179869183 (N := some 108) (v := ?_) (a' := ?_) rfl rfl (by kernel_rfl) (fun _ _ _ h => h) (by rfl) ?_ ?_ ?_
            rotate_left
            · intro w'; go_simp; with_reducible rfl
            rotate_left
            · simp only [Act.put, n1, n2, n3]; rfl
            refine pu 34 34359738367 (N := some 109) (v := ?_) (a' := ?_) rfl rfl (by kernel_rfl) (fun _ _ _ h => h) (by rfl) ?_ ?_ ?_
            rotate_left
            · intro w'; go_simp; with_reducible rfl
            rotate_left
            · simp only [Act.put, n1, n2, n3]; rfl
            refine pu 35 68719476735 (N := some 110) (v := ?_) (a' := ?_) rfl rfl (by kernel_rfl) (fun _ _ _ h => h) (by rfl) ?_ ?_ ?_
            rotate_left
            · intro w'; go_simp; with_reducible rfl
            rotate_left
            · simp only [Act.put, n1, n2, n3]; rfl
            refine tk 36 137438953471 (N := some 111) (v := ?_) (a' := ?_) rfl rfl (by kernel_rfl) (fun _ _ _ h => h) (by rfl) ?_ hHeld ?_ ?_
            rotate_left
            · rintro w' ⟨s0, s1⟩; go_simp; with_reducible rfl
            rotate_left
            · simp only [Act.put, n1, n2, n3]; rfl
            refine pu 37 274877906943 (N := some 112) (v := ?_) (a' := ?_) rfl rfl (by kernel_rfl) (fun _ _ _ h => h) (by rfl) ?_ ?_ ?_
            rotate_left
            · intro w'; go_simp; with_reducible rfl
            rotate_left
            · simp only [Act.put, n1, n2, n3]; rfl
            refine pu 38 549755813887 (N := some 113) (v := ?_) (a' := ?_) rfl rfl (by kernel_rfl) (fun _ _ _ h => h) (by rfl) ?_ ?_ ?_
            rotate_left
            · intro w'; go_simp; with_reducible rfl
            rotate_left
            · simp only [Act.put, n1, n2, n3]; rfl
            refine po 39 1099511627775 (N := some 114) (a' := ?_) rfl rfl (by kernel_rfl) (fun _ _ _ h => h) (by rfl) ?_ ?_
            rotate_left
            · simp only [Act.put, n1, n2, n3]; rfl
            refine po 40 2199023255551 (N := some 115) (a' := ?_) rfl rfl (by kernel_rfl) (fun _ _ _ h => h) (by rfl) ?_ ?_
            rotate_left
            · simp only [Act.put, n1, n2, n3]; rfl
            refine po 41 4398046511103 (N := some 116) (a' := ?_) rfl rfl (by kernel_rfl) (fun _ _ _ h => h) (by rfl) ?_ ?_
            rotate_left
            · simp only [Act.put, n1, n2, n3]; rfl
            refine po 42 8796093022207 (N := some 117) (a' := ?_) rfl rfl (by kernel_rfl) (fun _ _ _ h => h) (by rfl) ?_ ?_
            rotate_left
            · simp only [Act.put, n1, n2, n3]; rfl
            refine po 43 17592186044415 (N := some 118) (a' := ?_) rfl rfl (by kernel_rfl) (fun _ _ _ h => h) (by rfl) ?_ ?_
            rotate_left
            · simp only [Act.put, n1, n2, n3]; rfl
            refine po 44 35184372088831 (N := some 119) (a' := ?_) rfl rfl (by kernel_rfl) (fun _ _ _ h => h) (by rfl) ?_ ?_
            rotate_left
            · simp only [Act.put, n1, n2, n3]; rfl
            refine pu 45 70368744177663 (N := some 120) (v := ?_) (a' := ?_) rfl rfl (by kernel_rfl) (fun _ _ _ h => h) (by rfl) ?_ ?_ ?_
            rotate_left
            · intro w'; go_simp; with_reducible rfl
            rotate_left
            · simp only [Act.put, n1, n2, n3]; rfl
            refine pu 46 140737488355327 (N := some 121) (v := ?_) (a' := ?_) rfl rfl (by kernel_rfl) (fun _ _ _ h => h) (by rfl) ?_ ?_ ?_
            rotate_left
            · intro w'; go_simp; with_reducible rfl
            rotate_left
            · simp only [Act.put, n1, n2, n3]; rfl
            refine pu 47 281474976710655 (N := some 122) (v := ?_) (a' := ?_) rfl rfl (by kernel_rfl) (fun _ _ _ h => h) (by rfl) ?_ ?_ ?_
            rotate_left
            · intro w'; go_simp; with_reducible rfl
            rotate_left
            · simp only [Act.put, n1, n2, n3]; rfl
            refine pu 48 562949953421311 (N := some 123) (v := ?_) (a' := ?_) rfl rfl (by kernel_rfl) (fun _ _ _ h => h) (by rfl) ?_ ?_ ?_
            rotate_left
            · intro w'; go_simp; with_reducible rfl
            rotate_left
            · simp only [Act.put, n1, n2, n3]; rfl
            refine tk 49 1125899906842623 (N := some 124) (v := ?_) (a' := ?_) rfl rfl (by kernel_rfl) (fun _ _ _ h => h) (by rfl) ?_ hHeld ?_ ?_
            rotate_left
            · rintro w' ⟨s0, s1⟩; go_simp; with_reducible rfl
            rotate_left
            · simp only [Act.put, n1, n2, n3]; rfl
            refine pu 50 2251799813685247 (N := some 125) (v := ?_) (a' := ?_) rfl rfl (by kernel_rfl) (fun _ _ _ h => h) (by rfl) ?_ ?_ ?_
            rotate_left
            · intro w'; go_simp; with_reducible rfl
            rotate_left
            · simp only [Act.put, n1, n2, n3]; rfl
            refine pu 51 4503599627370495 (N := some 126) (v := ?_) (a' := ?_) rfl rfl (by kernel_rfl) (fun _ _ _ h => h) (by rfl) ?_ ?_ ?_
            rotate_left
            · intro w'; go_simp; with_reducible rfl
            rotate_left
            · simp only [Act.put, n1, n2, n3]; rfl
            refine po 52 9007199254740991 (N := some 127) (a' := ?_) rfl rfl (by kernel_rfl) (fun _ _ _ h => h) (by rfl) ?_ ?_
            rotate_left
            · simp only [Act.put, n1, n2, n3]; rfl
            refine po 53 18014398509481983 (N := some 128) (a' := ?_) rfl rfl (by kernel_rfl) (fun _ _ _ h => h) (by rfl) ?_ ?_
            rotate_left
            · simp only [Act.put, n1, n2, n3]; rfl
            refine po 54 36028797018963967 (N := some 129) (a' := ?_) rfl rfl (by kernel_rfl) (fun _ _ _ h => h) (by rfl) ?_ ?_
            rotate_left
            · simp only [Act.put, n1, n2, n3]; rfl
            refine po 55 72057594037927935 (N := some 130) (a' := ?_) rfl rfl (by kernel_rfl) (fun _ _ _ h => h) (by rfl) ?_ ?_
            rotate_left
            · simp only [Act.put, n1, n2, n3]; rfl
            refine po 56 144115188075855871 (N := some 131) (a' := ?_) rfl rfl (by kernel_rfl) (fun _ _ _ h => h) (by rfl) ?_ ?_
            rotate_left
            · simp only [Act.put, n1, n2, n3]; rfl
            refine pu 57 288230376151711743 (N := some 132) (v := ?_) (a' := ?_) rfl rfl (by kernel_rfl) (fun _ _ _ h => h) (by rfl) ?_ ?_ ?_
            rotate_left
            · intro w'; go_simp; with_reducible rfl
            rotate_left
            · simp only [Act.put, n1, n2, n3]; rfl
            refine pu 58 576460752303423487 (N := some 133) (v := ?_) (a' := ?_) rfl rfl (by kernel_rfl) (fun _ _ _ h => h) (by rfl) ?_ ?_ ?_
            rotate_left
            · intro w'; go_simp; with_reducible rfl
            rotate_left
            · simp only [Act.put, n1, n2, n3]; rfl
            refine done_ (by kernel_rfl) ?_
            have hq0 := (HQ.out _ HG6.out).1
            have hq1 := (HQ.out _ HG6.out).2
            have hwa : wrap64 ((a : Int) + (s : Int)) = (x : Int) := by rw [show (a : Int) + (s : Int) = (x : Int) by have := HXE.out; omega]; exact wx x (by have := HX2.out; have := HL.out; omega)
            have HWA := Aside0.mk hwa
            clear hwa
            obtain ⟨y, hy⟩ : ∃ y : Nat, y = l0.length - x := ⟨_, rfl⟩
            have hwl : wrap64 ((l0.length : Int) - (x : Int)) = (y : Int) := by rw [show (l0.length : Int) - (x : Int) = (y : Int) by have := HX2.out; omega]; exact wx y (by have := HL.out; omega)
            have HLF := Aside0.mk (left_at l0 x er (by have := HL.out; omega) (by have := HX2.out; omega))
            rw [← hy] at HLF
            obtain ⟨q, hq⟩ : ∃ q, (er == 0) = q := ⟨_, rfl⟩
            have hq2 : decide (er = 0) = q := by rw [← hq]; rfl
            have HGF := Aside0.mk (good_at l0 (x : Int) er)
            rw [hq] at HGF
            have hwa := HWA.out
            clear hy
            go_wp2_with fail
            refine (HC6.out.left HLF.out).mono ?_
            rintro e7 w8 ⟨rfl, hc8, hk8, hb8⟩
            have HB8 := Aside0.mk (Cur.wide2 HB6.out hb8 hlo.out.2)
            have HC8 := Aside0.mk hc8
            clear hc8 hk8 hb8
            go_wp2_with fail
            refine (HC8.out.good HGF.out).mono ?_
            rintro e8 w9 ⟨rfl, hc9, hk9, hb9⟩
            have HB9 := Aside0.mk (Cur.wide2 HB8.out hb9 hlo.out.2)
            have HC9 := Aside0.mk hc9
            clear hc9 hk9 hb9
            go_wp2_with fail
            clear hwa hwl
            go_roundg k1
            case measure => omega
            case rel => exact ⟨i + 1, x, er, by first | rfl | (rw [HWA.out]) | (congr 1; exact HWA.out), rfl, by first | rfl | exact congrArg (Value.int .i64) (wr1 i (by have := HIL.out; have := HL.out; omega)), ⟨by have := HI.out; omega⟩, HX2, HC9, HB9⟩
        · as_aux_lemma =>
            have e1 : (e == 0) = false := by simpa using he
            have e2 : (e != 0) = true := by simpa using he
            have e3 : decide (e = 0) = false := decide_eq_false he
            have HNZ := Aside0.mk he
            have HG4 := Aside0.mk (blk_new wr (.cells #[.int .i64 0, .int .i64 N] 38))
            have HBa := Aside0.mk (below_alloc (Below.refl wr.heap.size wr) (.cells #[.int .i64 0, .int .i64 N] 38))
            have HB4 := Aside0.mk (below_step HB.out HBa.out)
            have HC4 := Aside0.mk (HC.out.below HBa.out)
            have hq0 := blk_cell HG4.out 0
            have hq1 := blk_cell HG4.out 1
            simp only [List.getElem?_toArray, List.getElem?_cons_zero, List.getElem?_cons_succ] at hq0 hq1
            have HLT := Aside0.mk HC.out.lt
            clear HC HB HBa hi he
            go_wp2_with (first | ((with_reducible refine gate_dst (N := 40) rfl ?_); refine load_at rfl 38 _ rfl (ad.add (i * 2)) ?hx [.int .i64 0, .int .i64 N] HX.out _ Try.underlying38 rfl (by rw [infoAct]; rfl) ?_; (case hx => rfl)) | ((with_reducible refine gate_dst (N := 67) rfl ?_); refine wpList_load_row rfl 38 _ rfl wr.heap.size (by rfl) 38 #[.int .i64 0, .int .i64 N] (0, 0) _ HG4.out Try.underlying38 rfl (by rw [infoAct]; rfl) ?_))
            refine (step_0 A0 c0 l0 a N _ (Kd.C_below HR0.out HB4.out) HC0.out HY.out HL.out.1 HE.out.1 HN.out.2).mono ?_
            rintro e5 w5 ⟨n, bs, s, er, A5, c5, rfl, hR, hle, hcs, hb5⟩
            have HG5 := Aside0.mk ((hb5.block _ (blk_lt HG4.out)).trans HG4.out)
            have HB5 := Aside0.mk (below_step HB4.out hb5)
            have HC5 := Aside0.mk (HC4.out.below hb5)
            have HNE := Aside0.mk (show g < wr.heap.size from HLT.out)
            obtain ⟨x, hx⟩ : ∃ x : Nat, x = a := ⟨_, rfl⟩
            have HX2 := Aside0.mk (show x ≤ l0.length ∧ 0 ≤ e ∧ e ≤ 8 by rw [hx]; exact HE.out)
            have HXE := Aside0.mk hx
            have HF := Aside0.mk (byte_bad l0 (a : Int) e HNZ.out)
            clear hR hle hcs hb5 hq0 hq1 hx HG4 HB4 HC4
            go_wp2_with fail
            have HQ : Aside0 (∀ W : World, W.heap[wr.heap.size]? = some (.cells #[.int .i64 0, .int .i64 N] 38 (0, 0)) → W.cell? ⟨wr.heap.size, 0, none⟩ = some (.int .i64 0) ∧ W.cell? ⟨wr.heap.size, 1, none⟩ = some (.int .i64 N)) := ⟨fun W hW => ⟨blk_cell hW 0, blk_cell hW 1⟩⟩
            have HGd : Aside0 (w5.drew.heap[wr.heap.size]? = some (.cells #[.int .i64 0, .int .i64 N] 38 (0, 0))) := ⟨HG5.out⟩
            have HBd := Aside0.mk (below_drew1 HB5.out)
            have HCd := Aside0.mk (HC5.out.below (below_drew1 (Below.refl _ w5)))
            clear HG5 HB5 HC5
            refine start_ (n := 59) (S := fun w' => w'.cell? ⟨wr.heap.size, 0, none⟩ = some (.int .i64 0) ∧ w'.cell? ⟨wr.heap.size, 1, none⟩ = some (.int .i64 N)) (ds := []) #[false, false, false, false, false, false, false, false, false, false, false, false, false, false, false, false, false, false, false, false, false, false, false, false, false, false, false, false, false, false, false, false, false, false, false, false, false, false, false, false, false, false, false, false, false, false, false, false, false, false, false, false, false, false, false, false, false, false, false] (by kernel_rfl) rfl rfl ⟨(HQ.out _ HGd.out).1, (HQ.out _ HGd.out).2⟩ (fun hHeld => ?_)
            refine pu 0 1 (N := some 75) (v := ?_) (a' := ?_) rfl rfl (by kernel_rfl) (fun _ _ _ h => h) (by rfl) ?_ ?_ ?_
            rotate_left
            · intro w'; go_simp; with_reducible rfl
            rotate_left
            · simp only [Act.put, n1, n2, n3]; rfl
            refine tk 1 3 (N := some 76) (v := ?_) (a' := ?_) rfl rfl (by kernel_rfl) (fun _ _ _ h => h) (by rfl) ?_ hHeld ?_ ?_
            rotate_left
            · rintro w' ⟨s0, s1⟩; go_simp; with_reducible rfl
            rotate_left
            · simp only [Act.put, n1, n2, n3]; rfl
            refine pu 2 7 (N := some 77) (v := ?_) (a' := ?_) rfl rfl (by kernel_rfl) (fun _ _ _ h => h) (by rfl) ?_ ?_ ?_
            rotate_left
            · intro w'; go_simp; with_reducible rfl
            rotate_left
            · simp only [Act.put, n1, n2, n3]; rfl
            refine pu 3 15 (N := some 78) (v := ?_) (a' := ?_) rfl rfl (by kernel_rfl) (fun _ _ _ h => h) (by rfl) ?_ ?_ ?_
            rotate_left
            · intro w'; go_simp; with_reducible rfl
            rotate_left
            · simp only [Act.put, n1, n2, n3]; rfl
            refine pu 4 31 (N := some 79) (v := ?_) (a' := ?_) rfl rfl (by kernel_rfl) (fun _ _ _ h => h) (by rfl) ?_ ?_ ?_
            rotate_left
            · intro w'; go_simp; with_reducible rfl
            rotate_left
            · simp only [Act.put, n1, n2, n3]; rfl
            refine pu 6 95 (N := some 81) (v := ?_) (a' := ?_) rfl rfl (by kernel_rfl) (fun _ _ _ h => h) (by rfl) ?_ ?_ ?_
            rotate_left
            · intro w'; go_simp; with_reducible rfl
            rotate_left
            · simp only [Act.put, n1, n2, n3]; rfl
            refine one_ (i := 5) (N := some 80) #[true, true, true, true, true, true, true, false, false, false, false, false, false, false, false, false, false, false, false, false, false, false, false, false, false, false, false, false, false, false, false, false, false, false, false, false, false, false, false, false, false, false, false, false, false, false, false, false, false, false, false, false, false, false, false, false, false, false, false] rfl rfl (by kernel_rfl) (by decide) (fun K hK => ?_)
            refine goes_ Try.func25 (by kernel_rfl) rfl #[.pointer (some ⟨g, 0, none⟩)] (by rfl) rfl rfl (by simp only [List.map_toArray, List.map_cons, List.map_nil]; rfl) ?_
            with_reducible refine (HCd.out.byte HF.out).mono ?_
            rintro e6 w6 ⟨rfl, hc6, hk6, hb6⟩
            refine ⟨_, rfl, ?_⟩
            have HG6 := Aside0.mk ((hk6.2 wr.heap.size (blk_lt HGd.out) (by have := HNE.out; omega) (by simp)).trans HGd.out)
            have HB6 := Aside0.mk (Cur.wide2 HBd.out hb6 hlo.out.2)
            have HC6 := Aside0.mk hc6
            clear hc6 hk6 hb6
            refine hK.out _ _ ⟨(HQ.out _ HG6.out).1, (HQ.out _ HG6.out).2⟩ (fun hHeld => ?_)
            clear hK K
            refine norm_ (a' := ?_) ?_ ?_
            rotate_left
            · show Act.put _ (some 80) _ = _
              simp only [Act.put, List.setIfInBounds_toArray, List.set_cons_zero, List.set_cons_succ, i64_w, i32_w]
              rfl
            refine pu 7 255 (N := some 82) (v := ?_) (a' := ?_) rfl rfl (by kernel_rfl) (fun _ _ _ h => h) (by rfl) ?_ ?_ ?_
            rotate_left
            · intro w'; go_simp; with_reducible rfl
            rotate_left
            · simp only [Act.put, n1, n2, n3]; rfl
            refine pu 8 511 (N := some 83) (v := ?_) (a' := ?_) rfl rfl (by kernel_rfl) (fun _ _ _ h => h) (by rfl) ?_ ?_ ?_
            rotate_left
            · intro w'; go_simp; with_reducible rfl
            rotate_left
            · simp only [Act.put, n1, n2, n3]; rfl
            refine pu 9 1023 (N := some 84) (v := ?_) (a' := ?_) rfl rfl (by kernel_rfl) (fun _ _ _ h => h) (by rfl) ?_ ?_ ?_
            rotate_left
            · intro w'; go_simp; with_reducible rfl
            rotate_left
            · simp only [Act.put, n1, n2, n3]; rfl
            refine pu 10 2047 (N := some 85) (v := ?_) (a' := ?_) rfl rfl (by kernel_rfl) (fun _ _ _ h => h) (by rfl) ?_ ?_ ?_
            rotate_left
            · intro w'; go_simp; with_reducible rfl
            rotate_left
            · simp only [Act.put, n1, n2, n3]; rfl
            refine tk 11 4095 (N := some 86) (v := ?_) (a' := ?_) rfl rfl (by kernel_rfl) (fun _ _ _ h => h) (by rfl) ?_ hHeld ?_ ?_
            rotate_left
            · rintro w' ⟨s0, s1⟩; go_simp; with_reducible rfl
            rotate_left
            · simp only [Act.put, n1, n2, n3]; rfl
            refine pu 12 8191 (N := some 87) (v := ?_) (a' := ?_) rfl rfl (by kernel_rfl) (fun _ _ _ h => h) (by rfl) ?_ ?_ ?_
            rotate_left
            · intro w'; go_simp; with_reducible rfl
            rotate_left
            · simp only [Act.put, n1, n2, n3]; rfl
            refine pu 13 16383 (N := some 88) (v := ?_) (a' := ?_) rfl rfl (by kernel_rfl) (fun _ _ _ h => h) (by rfl) ?_ ?_ ?_
            rotate_left
            · intro w'; go_simp; with_reducible rfl
            rotate_left
            · simp only [Act.put, n1, n2, n3]; rfl
            refine po 14 32767 (N := some 89) (a' := ?_) rfl rfl (by kernel_rfl) (fun _ _ _ h => h) (by rfl) ?_ ?_
            rotate_left
            · simp only [Act.put, n1, n2, n3]; rfl
            refine po 15 65535 (N := some 90) (a' := ?_) rfl rfl (by kernel_rfl) (fun _ _ _ h => h) (by rfl) ?_ ?_
            rotate_left
            · simp only [Act.put, n1, n2, n3]; rfl
            refine po 16 131071 (N := some 91) (a' := ?_) rfl rfl (by kernel_rfl) (fun _ _ _ h => h) (by rfl) ?_ ?_
            rotate_left
            · simp only [Act.put, n1, n2, n3]; rfl
            refine po 17 262143 (N := some 92) (a' := ?_) rfl rfl (by kernel_rfl) (fun _ _ _ h => h) (by rfl) ?_ ?_
            rotate_left
            · simp only [Act.put, n1, n2, n3]; rfl
            refine po 18 524287 (N := some 93) (a' := ?_) rfl rfl (by kernel_rfl) (fun _ _ _ h => h) (by rfl) ?_ ?_
            rotate_left
            · simp only [Act.put, n1, n2, n3]; rfl
            refine po 19 1048575 (N := some 94) (a' := ?_) rfl rfl (by kernel_rfl) (fun _ _ _ h => h) (by rfl) ?_ ?_
            rotate_left
            · simp only [Act.put, n1, n2, n3]; rfl
            refine po 20 2097151 (N := some 95) (a' := ?_) rfl rfl (by kernel_rfl) (fun _ _ _ h => h) (by rfl) ?_ ?_
            rotate_left
            · simp only [Act.put, n1, n2, n3]; rfl
            refine pu 21 4194303 (N := some 96) (v := ?_) (a' := ?_) rfl rfl (by kernel_rfl) (fun _ _ _ h => h) (by rfl) ?_ ?_ ?_
            rotate_left
            · intro w'; go_simp; with_reducible rfl
            rotate_left
            · simp only [Act.put, n1, n2, n3]; rfl
            refine pu 22 8388607 (N := some 97) (v := ?_) (a' := ?_) rfl rfl (by kernel_rfl) (fun _ _ _ h => h) (by rfl) ?_ ?_ ?_
            rotate_left
            · intro w'; go_simp; with_reducible rfl
            rotate_left
            · simp only [Act.put, n1, n2, n3]; rfl
            refine pu 23 16777215 (N := some 98) (v := ?_) (a' := ?_) rfl rfl (by kernel_rfl) (fun _ _ _ h => h) (by rfl) ?_ ?_ ?_
            rotate_left
            · intro w'; go_simp; with_reducible rfl
            rotate_left
            · simp only [Act.put, n1, n2, n3]; rfl
            refine pu 24 33554431 (N := some 99) (v := ?_) (a' := ?_) rfl rfl (by kernel_rfl) (fun _ _ _ h => h) (by rfl) ?_ ?_ ?_
            rotate_left
            · intro w'; go_simp; with_reducible rfl
            rotate_left
            · simp only [Act.put, n1, n2, n3]; rfl
            refine tk 25 67108863 (N := some 100) (v := ?_) (a' := ?_) rfl rfl (by kernel_rfl) (fun _ _ _ h => h) (by rfl) ?_ hHeld ?_ ?_
            rotate_left
            · rintro w' ⟨s0, s1⟩; go_simp; with_reducible rfl
            rotate_left
            · simp only [Act.put, n1, n2, n3]; rfl
            refine pu 26 134217727 (N := some 101) (v := ?_) (a' := ?_) rfl rfl (by kernel_rfl) (fun _ _ _ h => h) (by rfl) ?_ ?_ ?_
            rotate_left
            · intro w'; go_simp; with_reducible rfl
            rotate_left
            · simp only [Act.put, n1, n2, n3]; rfl
            refine pu 27 268435455 (N := some 102) (v := ?_) (a' := ?_) rfl rfl (by kernel_rfl) (fun _ _ _ h => h) (by rfl) ?_ ?_ ?_
            rotate_left
            · intro w'; go_simp; with_reducible rfl
            rotate_left
            · simp only [Act.put, n1, n2, n3]; rfl
            refine po 28 536870911 (N := some 103) (a' := ?_) rfl rfl (by kernel_rfl) (fun _ _ _ h => h) (by rfl) ?_ ?_
            rotate_left
            · simp only [Act.put, n1, n2, n3]; rfl
            refine po 29 1073741823 (N := some 104) (a' := ?_) rfl rfl (by kernel_rfl) (fun _ _ _ h => h) (by rfl) ?_ ?_
            rotate_left
            · simp only [Act.put, n1, n2, n3]; rfl
            refine po 30 2147483647 (N := some 105) (a' := ?_) rfl rfl (by kernel_rfl) (fun _ _ _ h => h) (by rfl) ?_ ?_
            rotate_left
            · simp only [Act.put, n1, n2, n3]; rfl
            refine po 31 4294967295 (N := some 106) (a' := ?_) rfl rfl (by kernel_rfl) (fun _ _ _ h => h) (by rfl) ?_ ?_
            rotate_left
            · simp only [Act.put, n1, n2, n3]; rfl
            refine pu 32 8589934591 (N := some 107) (v := ?_) (a' := ?_) rfl rfl (by kernel_rfl) (fun _ _ _ h => h) (by rfl) ?_ ?_ ?_
            rotate_left
            · intro w'; go_simp; with_reducible rfl
            rotate_left
            · simp only [Act.put, n1, n2, n3]; rfl
            refine pu 33 17179869183 (N := some 108) (v := ?_) (a' := ?_) rfl rfl (by kernel_rfl) (fun _ _ _ h => h) (by rfl) ?_ ?_ ?_
            rotate_left
            · intro w'; go_simp; with_reducible rfl
            rotate_left
            · simp only [Act.put, n1, n2, n3]; rfl
            refine pu 34 34359738367 (N := some 109) (v := ?_) (a' := ?_) rfl rfl (by kernel_rfl) (fun _ _ _ h => h) (by rfl) ?_ ?_ ?_
            rotate_left
            · intro w'; go_simp; with_reducible rfl
            rotate_left
            · simp only [Act.put, n1, n2, n3]; rfl
            refine pu 35 68719476735 (N := some 110) (v := ?_) (a' := ?_) rfl rfl (by kernel_rfl) (fun _ _ _ h => h) (by rfl) ?_ ?_ ?_
            rotate_left
            · intro w'; go_simp; with_reducible rfl
            rotate_left
            · simp only [Act.put, n1, n2, n3]; rfl
            refine tk 36 137438953471 (N := some 111) (v := ?_) (a' := ?_) rfl rfl (by kernel_rfl) (fun _ _ _ h => h) (by rfl) ?_ hHeld ?_ ?_
            rotate_left
            · rintro w' ⟨s0, s1⟩; go_simp; with_reducible rfl
            rotate_left
            · simp only [Act.put, n1, n2, n3]; rfl
            refine pu 37 274877906943 (N := some 112) (v := ?_) (a' := ?_) rfl rfl (by kernel_rfl) (fun _ _ _ h => h) (by rfl) ?_ ?_ ?_
            rotate_left
            · intro w'; go_simp; with_reducible rfl
            rotate_left
            · simp only [Act.put, n1, n2, n3]; rfl
            refine pu 38 549755813887 (N := some 113) (v := ?_) (a' := ?_) rfl rfl (by kernel_rfl) (fun _ _ _ h => h) (by rfl) ?_ ?_ ?_
            rotate_left
            · intro w'; go_simp; with_reducible rfl
            rotate_left
            · simp only [Act.put, n1, n2, n3]; rfl
            refine po 39 1099511627775 (N := some 114) (a' := ?_) rfl rfl (by kernel_rfl) (fun _ _ _ h => h) (by rfl) ?_ ?_
            rotate_left
            · simp only [Act.put, n1, n2, n3]; rfl
            refine po 40 2199023255551 (N := some 115) (a' := ?_) rfl rfl (by kernel_rfl) (fun _ _ _ h => h) (by rfl) ?_ ?_
            rotate_left
            · simp only [Act.put, n1, n2, n3]; rfl
            refine po 41 4398046511103 (N := some 116) (a' := ?_) rfl rfl (by kernel_rfl) (fun _ _ _ h => h) (by rfl) ?_ ?_
            rotate_left
            · simp only [Act.put, n1, n2, n3]; rfl
            refine po 42 8796093022207 (N := some 117) (a' := ?_) rfl rfl (by kernel_rfl) (fun _ _ _ h => h) (by rfl) ?_ ?_
            rotate_left
            · simp only [Act.put, n1, n2, n3]; rfl
            refine po 43 17592186044415 (N := some 118) (a' := ?_) rfl rfl (by kernel_rfl) (fun _ _ _ h => h) (by rfl) ?_ ?_
            rotate_left
            · simp only [Act.put, n1, n2, n3]; rfl
            refine po 44 35184372088831 (N := some 119) (a' := ?_) rfl rfl (by kernel_rfl) (fun _ _ _ h => h) (by rfl) ?_ ?_
            rotate_left
            · simp only [Act.put, n1, n2, n3]; rfl
            refine pu 45 70368744177663 (N := some 120) (v := ?_) (a' := ?_) rfl rfl (by kernel_rfl) (fun _ _ _ h => h) (by rfl) ?_ ?_ ?_
            rotate_left
            · intro w'; go_simp; with_reducible rfl
            rotate_left
            · simp only [Act.put, n1, n2, n3]; rfl
            refine pu 46 140737488355327 (N := some 121) (v := ?_) (a' := ?_) rfl rfl (by kernel_rfl) (fun _ _ _ h => h) (by rfl) ?_ ?_ ?_
            rotate_left
            · intro w'; go_simp; with_reducible rfl
            rotate_left
            · simp only [Act.put, n1, n2, n3]; rfl
            refine pu 47 281474976710655 (N := some 122) (v := ?_) (a' := ?_) rfl rfl (by kernel_rfl) (fun _ _ _ h => h) (by rfl) ?_ ?_ ?_
            rotate_left
            · intro w'; go_simp; with_reducible rfl
            rotate_left
            · simp only [Act.put, n1, n2, n3]; rfl
            refine pu 48 562949953421311 (N := some 123) (v := ?_) (a' := ?_) rfl rfl (by kernel_rfl) (fun _ _ _ h => h) (by rfl) ?_ ?_ ?_
            rotate_left
            · intro w'; go_simp; with_reducible rfl
            rotate_left
            · simp only [Act.put, n1, n2, n3]; rfl
            refine tk 49 1125899906842623 (N := some 124) (v := ?_) (a' := ?_) rfl rfl (by kernel_rfl) (fun _ _ _ h => h) (by rfl) ?_ hHeld ?_ ?_
            rotate_left
            · rintro w' ⟨s0, s1⟩; go_simp; with_reducible rfl
            rotate_left
            · simp only [Act.put, n1, n2, n3]; rfl
            refine pu 50 2251799813685247 (N := some 125) (v := ?_) (a' := ?_) rfl rfl (by kernel_rfl) (fun _ _ _ h => h) (by rfl) ?_ ?_ ?_
            rotate_left
            · intro w'; go_simp; with_reducible rfl
            rotate_left
            · simp only [Act.put, n1, n2, n3]; rfl
            refine pu 51 4503599627370495 (N := some 126) (v := ?_) (a' := ?_) rfl rfl (by kernel_rfl) (fun _ _ _ h => h) (by rfl) ?_ ?_ ?_
            rotate_left
            · intro w'; go_simp; with_reducible rfl
            rotate_left
            · simp only [Act.put, n1, n2, n3]; rfl
            refine po 52 9007199254740991 (N := some 127) (a' := ?_) rfl rfl (by kernel_rfl) (fun _ _ _ h => h) (by rfl) ?_ ?_
            rotate_left
            · simp only [Act.put, n1, n2, n3]; rfl
            refine po 53 18014398509481983 (N := some 128) (a' := ?_) rfl rfl (by kernel_rfl) (fun _ _ _ h => h) (by rfl) ?_ ?_
            rotate_left
            · simp only [Act.put, n1, n2, n3]; rfl
            refine po 54 36028797018963967 (N := some 129) (a' := ?_) rfl rfl (by kernel_rfl) (fun _ _ _ h => h) (by rfl) ?_ ?_
            rotate_left
            · simp only [Act.put, n1, n2, n3]; rfl
            refine po 55 72057594037927935 (N := some 130) (a' := ?_) rfl rfl (by kernel_rfl) (fun _ _ _ h => h) (by rfl) ?_ ?_
            rotate_left
            · simp only [Act.put, n1, n2, n3]; rfl
            refine po 56 144115188075855871 (N := some 131) (a' := ?_) rfl rfl (by kernel_rfl) (fun _ _ _ h => h) (by rfl) ?_ ?_
            rotate_left
            · simp only [Act.put, n1, n2, n3]; rfl
            refine pu 57 288230376151711743 (N := some 132) (v := ?_) (a' := ?_) rfl rfl (by kernel_rfl) (fun _ _ _ h => h) (by rfl) ?_ ?_ ?_
            rotate_left
            · intro w'; go_simp; with_reducible rfl
            rotate_left
            · simp only [Act.put, n1, n2, n3]; rfl
            refine pu 58 576460752303423487 (N := some 133) (v := ?_) (a' := ?_) rfl rfl (by kernel_rfl) (fun _ _ _ h => h) (by rfl) ?_ ?_ ?_
            rotate_left
            · intro w'; go_simp; with_reducible rfl
            rotate_left
            · simp only [Act.put, n1, n2, n3]; rfl
            refine done_ (by kernel_rfl) ?_
            have hq0 := (HQ.out _ HG6.out).1
            have hq1 := (HQ.out _ HG6.out).2
            have hwa : wrap64 (a : Int) = (x : Int) := by rw [show (a : Int) = (x : Int) by have := HXE.out; omega]; exact wx x (by have := HX2.out; have := HL.out; omega)
            have hxa : a = x := HXE.out.symm
            have HWA := Aside0.mk hwa
            clear hwa
            obtain ⟨y, hy⟩ : ∃ y : Nat, y = l0.length - x := ⟨_, rfl⟩
            have hwl : wrap64 ((l0.length : Int) - (x : Int)) = (y : Int) := by rw [show (l0.length : Int) - (x : Int) = (y : Int) by have := HX2.out; omega]; exact wx y (by have := HL.out; omega)
            have HLF := Aside0.mk (left_at l0 x e (by have := HL.out; omega) (by have := HX2.out; omega))
            rw [← hy] at HLF
            obtain ⟨q, hq⟩ : ∃ q, (e == 0) = q := ⟨_, rfl⟩
            have hq2 : decide (e = 0) = q := by rw [← hq]; rfl
            have HGF := Aside0.mk (good_at l0 (x : Int) e)
            rw [hq] at HGF
            have hwa := HWA.out
            clear hy
            rw [hxa] at HC6
            clear hxa
            rw [e1] at hq
            subst hq
            clear hq2
            go_wp2_with fail
            refine (HC6.out.left HLF.out).mono ?_
            rintro e7 w8 ⟨rfl, hc8, hk8, hb8⟩
            have HB8 := Aside0.mk (Cur.wide2 HB6.out hb8 hlo.out.2)
            have HC8 := Aside0.mk hc8
            clear hc8 hk8 hb8
            go_wp2_with fail
            refine (HC8.out.good HGF.out).mono ?_
            rintro e8 w9 ⟨rfl, hc9, hk9, hb9⟩
            have HB9 := Aside0.mk (Cur.wide2 HB8.out hb9 hlo.out.2)
            have HC9 := Aside0.mk hc9
            clear hc9 hk9 hb9
            go_wp2_with fail
            clear hwa hwl
            go_roundg k1
            case measure => omega
            case rel => exact ⟨i + 1, x, e, by first | rfl | (rw [HWA.out]) | (congr 1; exact HWA.out), rfl, by first | rfl | exact congrArg (Value.int .i64) (wr1 i (by have := HIL.out; have := HL.out; omega)), ⟨by have := HI.out; omega⟩, HX2, HC9, HB9⟩
      by_cases hd1 : d = 1
      · subst hd1
        clear h h2
        by_cases he : e = 0
        · subst he
          as_aux_lemma =>
            have HG4 := Aside0.mk (blk_new wr (.cells #[.int .i64 1, .int .i64 N] 38))
            have HBa := Aside0.mk (below_alloc (Below.refl wr.heap.size wr) (.cells #[.int .i64 1, .int .i64 N] 38))
            have HB4 := Aside0.mk (below_step HB.out HBa.out)
            have HC4 := Aside0.mk (HC.out.below HBa.out)
            have hq0 := blk_cell HG4.out 0
            have hq1 := blk_cell HG4.out 1
            simp only [List.getElem?_toArray, List.getElem?_cons_zero, List.getElem?_cons_succ] at hq0 hq1
            have HLT := Aside0.mk HC.out.lt
            clear HC HB HBa hi
            go_wp2_with (first | ((with_reducible refine gate_dst (N := 40) rfl ?_); refine load_at rfl 38 _ rfl (ad.add (i * 2)) ?hx [.int .i64 1, .int .i64 N] HX.out _ Try.underlying38 rfl (by rw [infoAct]; rfl) ?_; (case hx => rfl)) | ((with_reducible refine gate_dst (N := 67) rfl ?_); refine wpList_load_row rfl 38 _ rfl wr.heap.size (by rfl) 38 #[.int .i64 1, .int .i64 N] (0, 0) _ HG4.out Try.underlying38 rfl (by rw [infoAct]; rfl) ?_))
            refine (step_1 A0 c0 l0 a N _ (Kd.C_below HR0.out HB4.out) HC0.out HY.out HL.out.1 HE.out.1 HN.out.2).mono ?_
            rintro e5 w5 ⟨n, bs, s, er, A5, c5, rfl, hR, hle, hcs, hb5⟩
            have HG5 := Aside0.mk ((hb5.block _ (blk_lt HG4.out)).trans HG4.out)
            have HB5 := Aside0.mk (below_step HB4.out hb5)
            have HC5 := Aside0.mk (HC4.out.below hb5)
            have HNE := Aside0.mk (show g < wr.heap.size from HLT.out)
            obtain ⟨x, hx⟩ : ∃ x : Nat, x = a + s := ⟨_, rfl⟩
            unfold StepR at hR
            rw [← hx] at hR
            have HX2 := Aside0.mk (show x ≤ l0.length ∧ 0 ≤ er ∧ er ≤ 8 from ⟨hR.1, hR.2.1⟩)
            have HXE := Aside0.mk hx
            have hs5 : (s : Int) = (x : Int) - (a : Int) := by omega
            have HF := Aside0.mk (hR.2.2.2.1 rfl)
            have HLE := Aside0.mk hle
            have HCS := Aside0.mk hcs
            clear hR hle hcs hb5 hq0 hq1 hx HG4 HB4 HC4 hs5
            go_wp2_with fail
            have HQ : Aside0 (∀ W : World, W.heap[wr.heap.size]? = some (.cells #[.int .i64 1, .int .i64 N] 38 (0, 0)) → W.cell? ⟨wr.heap.size, 0, none⟩ = some (.int .i64 1) ∧ W.cell? ⟨wr.heap.size, 1, none⟩ = some (.int .i64 N)) := ⟨fun W hW => ⟨blk_cell hW 0, blk_cell hW 1⟩⟩
            have HGd : Aside0 (w5.drew.heap[wr.heap.size]? = some (.cells #[.int .i64 1, .int .i64 N] 38 (0, 0))) := ⟨HG5.out⟩
            have HBd := Aside0.mk (below_drew1 HB5.out)
            have HCd := Aside0.mk (HC5.out.below (below_drew1 (Below.refl _ w5)))
            clear HG5 HB5 HC5
            refine start_ (n := 59) (S := fun w' => w'.cell? ⟨wr.heap.size, 0, none⟩ = some (.int .i64 1) ∧ w'.cell? ⟨wr.heap.size, 1, none⟩ = some (.int .i64 N)) (ds := []) #[false, false, false, false, false, false, false, false, false, false, false, false, false, false, false, false, false, false, false, false, false, false, false, false, false, false, false, false, false, false, false, false, false, false, false, false, false, false, false, false, false, false, false, false, false, false, false, false, false, false, false, false, false, false, false, false, false, false, false] (by kernel_rfl) rfl rfl ⟨(HQ.out _ HGd.out).1, (HQ.out _ HGd.out).2⟩ (fun hHeld => ?_)
            refine pu 0 1 (N := some 75) (v := ?_) (a' := ?_) rfl rfl (by kernel_rfl) (fun _ _ _ h => h) (by rfl) ?_ ?_ ?_
            rotate_left
            · intro w'; go_simp; with_reducible rfl
            rotate_left
            · simp only [Act.put, n1, n2, n3]; rfl
            refine tk 1 3 (N := some 76) (v := ?_) (a' := ?_) rfl rfl (by kernel_rfl) (fun _ _ _ h => h) (by rfl) ?_ hHeld ?_ ?_
            rotate_left
            · rintro w' ⟨s0, s1⟩; go_simp; with_reducible rfl
            rotate_left
            · simp only [Act.put, n1, n2, n3]; rfl
            refine pu 2 7 (N := some 77) (v := ?_) (a' := ?_) rfl rfl (by kernel_rfl) (fun _ _ _ h => h) (by rfl) ?_ ?_ ?_
            rotate_left
            · intro w'; go_simp; with_reducible rfl
            rotate_left
            · simp only [Act.put, n1, n2, n3]; rfl
            refine pu 3 15 (N := some 78) (v := ?_) (a' := ?_) rfl rfl (by kernel_rfl) (fun _ _ _ h => h) (by rfl) ?_ ?_ ?_
            rotate_left
            · intro w'; go_simp; with_reducible rfl
            rotate_left
            · simp only [Act.put, n1, n2, n3]; rfl
            refine po 4 31 (N := some 79) (a' := ?_) rfl rfl (by kernel_rfl) (fun _ _ _ h => h) (by rfl) ?_ ?_
            rotate_left
            · simp only [Act.put, n1, n2, n3]; rfl
            refine po 5 63 (N := some 80) (a' := ?_) rfl rfl (by kernel_rfl) (fun _ _ _ h => h) (by rfl) ?_ ?_
            rotate_left
            · simp only [Act.put, n1, n2, n3]; rfl
            refine po 6 127 (N := some 81) (a' := ?_) rfl rfl (by kernel_rfl) (fun _ _ _ h => h) (by rfl) ?_ ?_
            rotate_left
            · simp only [Act.put, n1, n2, n3]; rfl
            refine po 7 255 (N := some 82) (a' := ?_) rfl rfl (by kernel_rfl) (fun _ _ _ h => h) (by rfl) ?_ ?_
            rotate_left
            · simp only [Act.put, n1, n2, n3]; rfl
            refine pu 8 511 (N := some 83) (v := ?_) (a' := ?_) rfl rfl (by kernel_rfl) (fun _ _ _ h => h) (by rfl) ?_ ?_ ?_
            rotate_left
            · intro w'; go_simp; with_reducible rfl
            rotate_left
            · simp only [Act.put, n1, n2, n3]; rfl
            refine pu 9 1023 (N := some 84) (v := ?_) (a' := ?_) rfl rfl (by kernel_rfl) (fun _ _ _ h => h) (by rfl) ?_ ?_ ?_
            rotate_left
            · intro w'; go_simp; with_reducible rfl
            rotate_left
            · simp only [Act.put, n1, n2, n3]; rfl
            refine pu 10 2047 (N := some 85) (v := ?_) (a' := ?_) rfl rfl (by kernel_rfl) (fun _ _ _ h => h) (by rfl) ?_ ?_ ?_
            rotate_left
            · intro w'; go_simp; with_reducible rfl
            rotate_left
            · simp only [Act.put, n1, n2, n3]; rfl
            refine tk 11 4095 (N := some 86) (v := ?_) (a' := ?_) rfl rfl (by kernel_rfl) (fun _ _ _ h => h) (by rfl) ?_ hHeld ?_ ?_
            rotate_left
            · rintro w' ⟨s0, s1⟩; go_simp; with_reducible rfl
            rotate_left
            · simp only [Act.put, n1, n2, n3]; rfl
            refine pu 12 8191 (N := some 87) (v := ?_) (a' := ?_) rfl rfl (by kernel_rfl) (fun _ _ _ h => h) (by rfl) ?_ ?_ ?_
            rotate_left
            · intro w'; go_simp; with_reducible rfl
            rotate_left
            · simp only [Act.put, n1, n2, n3]; rfl
            refine pu 13 16383 (N := some 88) (v := ?_) (a' := ?_) rfl rfl (by kernel_rfl) (fun _ _ _ h => h) (by rfl) ?_ ?_ ?_
            rotate_left
            · intro w'; go_simp; with_reducible rfl
            rotate_left
            · simp only [Act.put, n1, n2, n3]; rfl
            refine pu 14 32767 (N := some 89) (v := ?_) (a' := ?_) rfl rfl (by kernel_rfl) (fun _ _ _ h => h) (by rfl) ?_ ?_ ?_
            rotate_left
            · intro w'; go_simp; with_reducible rfl
            rotate_left
            · simp only [Act.put, n1, n2, n3]; rfl
            refine pu 15 65535 (N := some 90) (v := ?_) (a' := ?_) rfl rfl (by kernel_rfl) (fun _ _ _ h => h) (by rfl) ?_ ?_ ?_
            rotate_left
            · intro w'; go_simp; with_reducible rfl
            rotate_left
            · simp only [Act.put, n1, n2, n3]; rfl
            refine pu 18 327679 (N := some 93) (v := ?_) (a' := ?_) rfl rfl (by kernel_rfl) (fun _ _ _ h => h) (by rfl) ?_ ?_ ?_
            rotate_left
            · intro w'; go_simp; with_reducible rfl
            rotate_left
            · simp only [Act.put, n1, n2, n3]; rfl
            refine tk 16 393215 (N := some 91) (v := ?_) (a' := ?_) rfl rfl (by kernel_rfl) (fun _ _ _ h => h) (by rfl) ?_ hHeld ?_ ?_
            rotate_left
            · rintro w' ⟨s0, s1⟩; go_simp; with_reducible rfl
            rotate_left
            · simp only [Act.put, n1, n2, n3]; rfl
            refine one_ (i := 17) (N := some 92) #[true, true, true, true, true, true, true, true, true, true, true, true, true, true, true, true, true, true, true, false, false, false, false, false, false, false, false, false, false, false, false, false, false, false, false, false, false, false, false, false, false, false, false, false, false, false, false, false, false, false, false, false, false, false, false, false, false, false, false] rfl rfl (by kernel_rfl) (by decide) (fun K hK => ?_)
            refine goes_ Try.func23 (by kernel_rfl) rfl #[.pointer (some ⟨g, 0, none⟩), .int .i64 N] (by rfl) rfl rfl (by simp only [List.map_toArray, List.map_cons, List.map_nil]; rfl) ?_
            with_reducible refine (HCd.out.bytes HF.out).mono ?_
            rintro e6 w6 ⟨v6, rfl, ho6, hc6, hk6, hb6⟩
            refine ⟨_, rfl, ?_⟩
            obtain ⟨A6, c6, rfl, hl6, hr6⟩ := Kd.R_reads ho6
            have HR6 := Aside0.mk hr6
            have HL6 := Aside0.mk hl6
            have HG6 := Aside0.mk ((hk6.2 wr.heap.size (blk_lt HGd.out) (by have := HNE.out; omega) (by simp)).trans HGd.out)
            have HB6 := Aside0.mk (Cur.wide2 HBd.out hb6 hlo.out.2)
            have HC6 := Aside0.mk hc6
            clear hc6 hk6 hb6 ho6 hr6 hl6
            refine hK.out _ _ ⟨(HQ.out _ HG6.out).1, (HQ.out _ HG6.out).2⟩ (fun hHeld => ?_)
            clear hK K
            refine norm_ (a' := ?_) ?_ ?_
            rotate_left
            · show Act.put _ (some 92) _ = _
              simp only [Act.put, List.setIfInBounds_toArray, List.set_cons_zero, List.set_cons_succ, i64_w, i32_w]
              rfl
            refine one_ (i := 19) (N := some 94) #[true, true, true, true, true, true, true, true, true, true, true, true, true, true, true, true, true, true, true, true, false, false, false, false, false, false, false, false, false, false, false, false, false, false, false, false, false, false, false, false, false, false, false, false, false, false, false, false, false, false, false, false, false, false, false, false, false, false, false] rfl rfl (by kernel_rfl) (by decide) (fun K hK => ?_)
            refine goes_ Try.func13 (by kernel_rfl) rfl #[.slice A6 bs.length c6, .slice A5 bs.length c5] (by rfl) rfl rfl (by simp only [List.map_toArray, List.map_cons, List.map_nil]; rfl) ?_
            with_reducible refine (hopperref01_Same.calls A6 c6 bs A5 c5 bs true _ HR6.out HL6.out (HCS.out _ (Kd.C_below HR0.out HB6.out)) HLE.out (same_self _)).mono ?_
            rintro e7 w7 ⟨rfl, n7, rfl⟩
            refine ⟨_, rfl, ?_⟩
            have HG7 : Aside0 ((w6.drewN n7).heap[wr.heap.size]? = some (.cells #[.int .i64 1, .int .i64 N] 38 (0, 0))) := ⟨HG6.out⟩
            have HB7 := Aside0.mk (pw_below_drewN HB6.out n7)
            have HC7 := Aside0.mk (HC6.out.below (pw_below_drewN (Below.refl _ _) n7))
            refine hK.out _ _ ⟨(HQ.out _ HG7.out).1, (HQ.out _ HG7.out).2⟩ (fun hHeld => ?_)
            clear hK K
            refine norm_ (a' := ?_) ?_ ?_
            rotate_left
            · show Act.put _ (some 94) _ = _
              simp only [Act.put, List.setIfInBounds_toArray, List.set_cons_zero, List.set_cons_succ, i64_w, i32_w]
              rfl
            refine pu 20 2097151 (N := some 95) (v := ?_) (a' := ?_) rfl rfl (by kernel_rfl) (fun _ _ _ h => h) (by rfl) ?_ ?_ ?_
            rotate_left
            · intro w'; go_simp; with_reducible rfl
            rotate_left
            · simp only [Act.put, n1, n2, n3]; rfl
            refine pu 21 4194303 (N := some 96) (v := ?_) (a' := ?_) rfl rfl (by kernel_rfl) (fun _ _ _ h => h) (by rfl) ?_ ?_ ?_
            rotate_left
            · intro w'; go_simp; with_reducible rfl
            rotate_left
            · simp only [Act.put, n1, n2, n3]; rfl
            refine pu 22 8388607 (N := some 97) (v := ?_) (a' := ?_) rfl rfl (by kernel_rfl) (fun _ _ _ h => h) (by rfl) ?_ ?_ ?_
            rotate_left
            · intro w'; go_simp; with_reducible rfl
            rotate_left
            · simp only [Act.put, n1, n2, n3]; rfl
            refine pu 23 16777215 (N := some 98) (v := ?_) (a' := ?_) rfl rfl (by kernel_rfl) (fun _ _ _ h => h) (by rfl) ?_ ?_ ?_
            rotate_left
            · intro w'; go_simp; with_reducible rfl
            rotate_left
            · simp only [Act.put, n1, n2, n3]; rfl
            refine pu 24 33554431 (N := some 99) (v := ?_) (a' := ?_) rfl rfl (by kernel_rfl) (fun _ _ _ h => h) (by rfl) ?_ ?_ ?_
            rotate_left
            · intro w'; go_simp; with_reducible rfl
            rotate_left
            · simp only [Act.put, n1, n2, n3]; rfl
            refine tk 25 67108863 (N := some 100) (v := ?_) (a' := ?_) rfl rfl (by kernel_rfl) (fun _ _ _ h => h) (by rfl) ?_ hHeld ?_ ?_
            rotate_left
            · rintro w' ⟨s0, s1⟩; go_simp; with_reducible rfl
            rotate_left
            · simp only [Act.put, n1, n2, n3]; rfl
            refine pu 26 134217727 (N := some 101) (v := ?_) (a' := ?_) rfl rfl (by kernel_rfl) (fun _ _ _ h => h) (by rfl) ?_ ?_ ?_
            rotate_left
            · intro w'; go_simp; with_reducible rfl
            rotate_left
            · simp only [Act.put, n1, n2, n3]; rfl
            refine pu 27 268435455 (N := some 102) (v := ?_) (a' := ?_) rfl rfl (by kernel_rfl) (fun _ _ _ h => h) (by rfl) ?_ ?_ ?_
            rotate_left
            · intro w'; go_simp; with_reducible rfl
            rotate_left
            · simp only [Act.put, n1, n2, n3]; rfl
            refine po 28 536870911 (N := some 103) (a' := ?_) rfl rfl (by kernel_rfl) (fun _ _ _ h => h) (by rfl) ?_ ?_
            rotate_left
            · simp only [Act.put, n1, n2, n3]; rfl
            refine po 29 1073741823 (N := some 104) (a' := ?_) rfl rfl (by kernel_rfl) (fun _ _ _ h => h) (by rfl) ?_ ?_
            rotate_left
            · simp only [Act.put, n1, n2, n3]; rfl
            refine po 30 2147483647 (N := some 105) (a' := ?_) rfl rfl (by kernel_rfl) (fun _ _ _ h => h) (by rfl) ?_ ?_
            rotate_left
            · simp only [Act.put, n1, n2, n3]; rfl
            refine po 31 4294967295 (N := some 106) (a' := ?_) rfl rfl (by kernel_rfl) (fun _ _ _ h => h) (by rfl) ?_ ?_
            rotate_left
            · simp only [Act.put, n1, n2, n3]; rfl
            refine pu 32 8589934591 (N := some 107) (v := ?_) (a' := ?_) rfl rfl (by kernel_rfl) (fun _ _ _ h => h) (by rfl) ?_ ?_ ?_
            rotate_left
            · intro w'; go_simp; with_reducible rfl
            rotate_left
            · simp only [Act.put, n1, n2, n3]; rfl
            refine pu 33 17179869183 (N := some 108) (v := ?_) (a' := ?_) rfl rfl (by kernel_rfl) (fun _ _ _ h => h) (by rfl) ?_ ?_ ?_
            rotate_left
            · intro w'; go_simp; with_reducible rfl
            rotate_left
            · simp only [Act.put, n1, n2, n3]; rfl
            refine pu 34 34359738367 (N := some 109) (v := ?_) (a' := ?_) rfl rfl (by kernel_rfl) (fun _ _ _ h => h) (by rfl) ?_ ?_ ?_
            rotate_left
            · intro w'; go_simp; with_reducible rfl
            rotate_left
            · simp only [Act.put, n1, n2, n3]; rfl
            refine pu 35 68719476735 (N := some 110) (v := ?_) (a' := ?_) rfl rfl (by kernel_rfl) (fun _ _ _ h => h) (by rfl) ?_ ?_ ?_
            rotate_left
            · intro w'; go_simp; with_reducible rfl
            rotate_left
            · simp only [Act.put, n1, n2, n3]; rfl
            refine tk 36 137438953471 (N := some 111) (v := ?_) (a' := ?_) rfl rfl (by kernel_rfl) (fun _ _ _ h => h) (by rfl) ?_ hHeld ?_ ?_
            rotate_left
            · rintro w' ⟨s0, s1⟩; go_simp; with_reducible rfl
            rotate_left
            · simp only [Act.put, n1, n2, n3]; rfl
            refine pu 37 274877906943 (N := some 112) (v := ?_) (a' := ?_) rfl rfl (by kernel_rfl) (fun _ _ _ h => h) (by rfl) ?_ ?_ ?_
            rotate_left
            · intro w'; go_simp; with_reducible rfl
            rotate_left
            · simp only [Act.put, n1, n2, n3]; rfl
            refine pu 38 549755813887 (N := some 113) (v := ?_) (a' := ?_) rfl rfl (by kernel_rfl) (fun _ _ _ h => h) (by rfl) ?_ ?_ ?_
            rotate_left
            · intro w'; go_simp; with_reducible rfl
            rotate_left
            · simp only [Act.put, n1, n2, n3]; rfl
            refine po 39 1099511627775 (N := some 114) (a' := ?_) rfl rfl (by kernel_rfl) (fun _ _ _ h => h) (by rfl) ?_ ?_
            rotate_left
            · simp only [Act.put, n1, n2, n3]; rfl
            refine po 40 2199023255551 (N := some 115) (a' := ?_) rfl rfl (by kernel_rfl) (fun _ _ _ h => h) (by rfl) ?_ ?_
            rotate_left
            · simp only [Act.put, n1, n2, n3]; rfl
            refine po 41 4398046511103 (N := some 116) (a' := ?_) rfl rfl (by kernel_rfl) (fun _ _ _ h => h) (by rfl) ?_ ?_
            rotate_left
            · simp only [Act.put, n1, n2, n3]; rfl
            refine po 42 8796093022207 (N := some 117) (a' := ?_) rfl rfl (by kernel_rfl) (fun _ _ _ h => h) (by rfl) ?_ ?_
            rotate_left
            · simp only [Act.put, n1, n2, n3]; rfl
            refine po 43 17592186044415 (N := some 118) (a' := ?_) rfl rfl (by kernel_rfl) (fun _ _ _ h => h) (by rfl) ?_ ?_
            rotate_left
            · simp only [Act.put, n1, n2, n3]; rfl
            refine po 44 35184372088831 (N := some 119) (a' := ?_) rfl rfl (by kernel_rfl) (fun _ _ _ h => h) (by rfl) ?_ ?_
            rotate_left
            · simp only [Act.put, n1, n2, n3]; rfl
            refine pu 45 70368744177663 (N := some 120) (v := ?_) (a' := ?_) rfl rfl (by kernel_rfl) (fun _ _ _ h => h) (by rfl) ?_ ?_ ?_
            rotate_left
            · intro w'; go_simp; with_reducible rfl
            rotate_left
            · simp only [Act.put, n1, n2, n3]; rfl
            refine pu 46 140737488355327 (N := some 121) (v := ?_) (a' := ?_) rfl rfl (by kernel_rfl) (fun _ _ _ h => h) (by rfl) ?_ ?_ ?_
            rotate_left
            · intro w'; go_simp; with_reducible rfl
            rotate_left
            · simp only [Act.put, n1, n2, n3]; rfl
            refine pu 47 281474976710655 (N := some 122) (v := ?_) (a' := ?_) rfl rfl (by kernel_rfl) (fun _ _ _ h => h) (by rfl) ?_ ?_ ?_
            rotate_left
            · intro w'; go_simp; with_reducible rfl
            rotate_left
            · simp only [Act.put, n1, n2, n3]; rfl
            refine pu 48 562949953421311 (N := some 123) (v := ?_) (a' := ?_) rfl rfl (by kernel_rfl) (fun _ _ _ h => h) (by rfl) ?_ ?_ ?_
            rotate_left
            · intro w'; go_simp; with_reducible rfl
            rotate_left
            · simp only [Act.put, n1, n2, n3]; rfl
            refine tk 49 1125899906842623 (N := some 124) (v := ?_) (a' := ?_) rfl rfl (by kernel_rfl) (fun _ _ _ h => h) (by rfl) ?_ hHeld ?_ ?_
            rotate_left
            · rintro w' ⟨s0, s1⟩; go_simp; with_reducible rfl
            rotate_left
            · simp only [Act.put, n1, n2, n3]; rfl
            refine pu 50 2251799813685247 (N := some 125) (v := ?_) (a' := ?_) rfl rfl (by kernel_rfl) (fun _ _ _ h => h) (by rfl) ?_ ?_ ?_
            rotate_left
            · intro w'; go_simp; with_reducible rfl
            rotate_left
            · simp only [Act.put, n1, n2, n3]; rfl
            refine pu 51 4503599627370495 (N := some 126) (v := ?_) (a' := ?_) rfl rfl (by kernel_rfl) (fun _ _ _ h => h) (by rfl) ?_ ?_ ?_
            rotate_left
            · intro w'; go_simp; with_reducible rfl
            rotate_left
            · simp only [Act.put, n1, n2, n3]; rfl
            refine po 52 9007199254740991 (N := some 127) (a' := ?_) rfl rfl (by kernel_rfl) (fun _ _ _ h => h) (by rfl) ?_ ?_
            rotate_left
            · simp only [Act.put, n1, n2, n3]; rfl
            refine po 53 18014398509481983 (N := some 128) (a' := ?_) rfl rfl (by kernel_rfl) (fun _ _ _ h => h) (by rfl) ?_ ?_
            rotate_left
            · simp only [Act.put, n1, n2, n3]; rfl
            refine po 54 36028797018963967 (N := some 129) (a' := ?_) rfl rfl (by kernel_rfl) (fun _ _ _ h => h) (by rfl) ?_ ?_
            rotate_left
            · simp only [Act.put, n1, n2, n3]; rfl
            refine po 55 72057594037927935 (N := some 130) (a' := ?_) rfl rfl (by kernel_rfl) (fun _ _ _ h => h) (by rfl) ?_ ?_
            rotate_left
            · simp only [Act.put, n1, n2, n3]; rfl
            refine po 56 144115188075855871 (N := some 131) (a' := ?_) rfl rfl (by kernel_rfl) (fun _ _ _ h => h) (by rfl) ?_ ?_
            rotate_left
            · simp only [Act.put, n1, n2, n3]; rfl
            refine pu 57 288230376151711743 (N := some 132) (v := ?_) (a' := ?_) rfl rfl (by kernel_rfl) (fun _ _ _ h => h) (by rfl) ?_ ?_ ?_
            rotate_left
            · intro w'; go_simp; with_reducible rfl
            rotate_left
            · simp only [Act.put, n1, n2, n3]; rfl
            refine pu 58 576460752303423487 (N := some 133) (v := ?_) (a' := ?_) rfl rfl (by kernel_rfl) (fun _ _ _ h => h) (by rfl) ?_ ?_ ?_
            rotate_left
            · intro w'; go_simp; with_reducible rfl
            rotate_left
            · simp only [Act.put, n1, n2, n3]; rfl
            refine done_ (by kernel_rfl) ?_
            have hq0 := (HQ.out _ HG7.out).1
            have hq1 := (HQ.out _ HG7.out).2
            have hwa : wrap64 ((a : Int) + (s : Int)) = (x : Int) := by rw [show (a : Int) + (s : Int) = (x : Int) by have := HXE.out; omega]; exact wx x (by have := HX2.out; have := HL.out; omega)
            have HWA := Aside0.mk hwa
            clear hwa
            obtain ⟨y, hy⟩ : ∃ y : Nat, y = l0.length - x := ⟨_, rfl⟩
            have hwl : wrap64 ((l0.length : Int) - (x : Int)) = (y : Int) := by rw [show (l0.length : Int) - (x : Int) = (y : Int) by have := HX2.out; omega]; exact wx y (by have := HL.out; omega)
            have HLF := Aside0.mk (left_at l0 x er (by have := HL.out; omega) (by have := HX2.out; omega))
            rw [← hy] at HLF
            obtain ⟨q, hq⟩ : ∃ q, (er == 0) = q := ⟨_, rfl⟩
            have hq2 : decide (er = 0) = q := by rw [← hq]; rfl
            have HGF := Aside0.mk (good_at l0 (x : Int) er)
            rw [hq] at HGF
            have hwa := HWA.out
            clear hy
            go_wp2_with fail
            refine (HC7.out.left HLF.out).mono ?_
            rintro e7 w8 ⟨rfl, hc8, hk8, hb8⟩
            have HB8 := Aside0.mk (Cur.wide2 HB7.out hb8 hlo.out.2)
            have HC8 := Aside0.mk hc8
            clear hc8 hk8 hb8
            go_wp2_with fail
            refine (HC8.out.good HGF.out).mono ?_
            rintro e8 w9 ⟨rfl, hc9, hk9, hb9⟩
            have HB9 := Aside0.mk (Cur.wide2 HB8.out hb9 hlo.out.2)
            have HC9 := Aside0.mk hc9
            clear hc9 hk9 hb9
            go_wp2_with fail
            clear hwa hwl
            go_roundg k1
            case measure => omega
            case rel => exact ⟨i + 1, x, er, by first | rfl | (rw [HWA.out]) | (congr 1; exact HWA.out), rfl, by first | rfl | exact congrArg (Value.int .i64) (wr1 i (by have := HIL.out; have := HL.out; omega)), ⟨by have := HI.out; omega⟩, HX2, HC9, HB9⟩
        · as_aux_lemma =>
            have e1 : (e == 0) = false := by simpa using he
            have e2 : (e != 0) = true := by simpa using he
            have e3 : decide (e = 0) = false := decide_eq_false he
            have HNZ := Aside0.mk he
            have HG4 := Aside0.mk (blk_new wr (.cells #[.int .i64 1, .int .i64 N] 38))
            have HBa := Aside0.mk (below_alloc (Below.refl wr.heap.size wr) (.cells #[.int .i64 1, .int .i64 N] 38))
            have HB4 := Aside0.mk (below_step HB.out HBa.out)
            have HC4 := Aside0.mk (HC.out.below HBa.out)
            have hq0 := blk_cell HG4.out 0
            have hq1 := blk_cell HG4.out 1
            simp only [List.getElem?_toArray, List.getElem?_cons_zero, List.getElem?_cons_succ] at hq0 hq1
            have HLT := Aside0.mk HC.out.lt
            clear HC HB HBa hi he
            go_wp2_with (first | ((with_reducible refine gate_dst (N := 40) rfl ?_); refine load_at rfl 38 _ rfl (ad.add (i * 2)) ?hx [.int .i64 1, .int .i64 N] HX.out _ Try.underlying38 rfl (by rw [infoAct]; rfl) ?_; (case hx => rfl)) | ((with_reducible refine gate_dst (N := 67) rfl ?_); refine wpList_load_row rfl 38 _ rfl wr.heap.size (by rfl) 38 #[.int .i64 1, .int .i64 N] (0, 0) _ HG4.out Try.underlying38 rfl (by rw [infoAct]; rfl) ?_))
            refine (step_1 A0 c0 l0 a N _ (Kd.C_below HR0.out HB4.out) HC0.out HY.out HL.out.1 HE.out.1 HN.out.2).mono ?_
            rintro e5 w5 ⟨n, bs, s, er, A5, c5, rfl, hR, hle, hcs, hb5⟩
            have HG5 := Aside0.mk ((hb5.block _ (blk_lt HG4.out)).trans HG4.out)
            have HB5 := Aside0.mk (below_step HB4.out hb5)
            have HC5 := Aside0.mk (HC4.out.below hb5)
            have HNE := Aside0.mk (show g < wr.heap.size from HLT.out)
            obtain ⟨x, hx⟩ : ∃ x : Nat, x = a := ⟨_, rfl⟩
            have HX2 := Aside0.mk (show x ≤ l0.length ∧ 0 ≤ e ∧ e ≤ 8 by rw [hx]; exact HE.out)
            have HXE := Aside0.mk hx
            have HF := Aside0.mk (bytes_bad l0 (a : Int) e N HNZ.out)
            clear hR hle hcs hb5 hq0 hq1 hx HG4 HB4 HC4
            go_wp2_with fail
            have HQ : Aside0 (∀ W : World, W.heap[wr.heap.size]? = some (.cells #[.int .i64 1, .int .i64 N] 38 (0, 0)) → W.cell? ⟨wr.heap.size, 0, none⟩ = some (.int .i64 1) ∧ W.cell? ⟨wr.heap.size, 1, none⟩ = some (.int .i64 N)) := ⟨fun W hW => ⟨blk_cell hW 0, blk_cell hW 1⟩⟩
            have HGd : Aside0 (w5.drew.heap[wr.heap.size]? = some (.cells #[.int .i64 1, .int .i64 N] 38 (0, 0))) := ⟨HG5.out⟩
            have HBd := Aside0.mk (below_drew1 HB5.out)
            have HCd := Aside0.mk (HC5.out.below (below_drew1 (Below.refl _ w5)))
            clear HG5 HB5 HC5
            refine start_ (n := 59) (S := fun w' => w'.cell? ⟨wr.heap.size, 0, none⟩ = some (.int .i64 1) ∧ w'.cell? ⟨wr.heap.size, 1, none⟩ = some (.int .i64 N)) (ds := []) #[false, false, false, false, false, false, false, false, false, false, false, false, false, false, false, false, false, false, false, false, false, false, false, false, false, false, false, false, false, false, false, false, false, false, false, false, false, false, false, false, false, false, false, false, false, false, false, false, false, false, false, false, false, false, false, false, false, false, false] (by kernel_rfl) rfl rfl ⟨(HQ.out _ HGd.out).1, (HQ.out _ HGd.out).2⟩ (fun hHeld => ?_)
            refine pu 0 1 (N := some 75) (v := ?_) (a' := ?_) rfl rfl (by kernel_rfl) (fun _ _ _ h => h) (by rfl) ?_ ?_ ?_
            rotate_left
            · intro w'; go_simp; with_reducible rfl
            rotate_left
            · simp only [Act.put, n1, n2, n3]; rfl
            refine tk 1 3 (N := some 76) (v := ?_) (a' := ?_) rfl rfl (by kernel_rfl) (fun _ _ _ h => h) (by rfl) ?_ hHeld ?_ ?_
            rotate_left
            · rintro w' ⟨s0, s1⟩; go_simp; with_reducible rfl
            rotate_left
            · simp only [Act.put, n1, n2, n3]; rfl
            refine pu 2 7 (N := some 77) (v := ?_) (a' := ?_) rfl rfl (by kernel_rfl) (fun _ _ _ h => h) (by rfl) ?_ ?_ ?_
            rotate_left
            · intro w'; go_simp; with_reducible rfl
            rotate_left
            · simp only [Act.put, n1, n2, n3]; rfl
            refine pu 3 15 (N := some 78) (v := ?_) (a' := ?_) rfl rfl (by kernel_rfl) (fun _ _ _ h => h) (by rfl) ?_ ?_ ?_
            rotate_left
            · intro w'; go_simp; with_reducible rfl
            rotate_left
            · simp only [Act.put, n1, n2, n3]; rfl
            refine po 4 31 (N := some 79) (a' := ?_) rfl rfl (by kernel_rfl) (fun _ _ _ h => h) (by rfl) ?_ ?_
            rotate_left
            · simp only [Act.put, n1, n2, n3]; rfl
            refine po 5 63 (N := some 80) (a' := ?_) rfl rfl (by kernel_rfl) (fun _ _ _ h => h) (by rfl) ?_ ?_
            rotate_left
            · simp only [Act.put, n1, n2, n3]; rfl
            refine po 6 127 (N := some 81) (a' := ?_) rfl rfl (by kernel_rfl) (fun _ _ _ h => h) (by rfl) ?_ ?_
            rotate_left
            · simp only [Act.put, n1, n2, n3]; rfl
            refine po 7 255 (N := some 82) (a' := ?_) rfl rfl (by kernel_rfl) (fun _ _ _ h => h) (by rfl) ?_ ?_
            rotate_left
            · simp only [Act.put, n1, n2, n3]; rfl
            refine pu 8 511 (N := some 83) (v := ?_) (a' := ?_) rfl rfl (by kernel_rfl) (fun _ _ _ h => h) (by rfl) ?_ ?_ ?_
            rotate_left
            · intro w'; go_simp; with_reducible rfl
            rotate_left
            · simp only [Act.put, n1, n2, n3]; rfl
            refine pu 9 1023 (N := some 84) (v := ?_) (a' := ?_) rfl rfl (by kernel_rfl) (fun _ _ _ h => h) (by rfl) ?_ ?_ ?_
            rotate_left
            · intro w'; go_simp; with_reducible rfl
            rotate_left
            · simp only [Act.put, n1, n2, n3]; rfl
            refine pu 10 2047 (N := some 85) (v := ?_) (a' := ?_) rfl rfl (by kernel_rfl) (fun _ _ _ h => h) (by rfl) ?_ ?_ ?_
            rotate_left
            · intro w'; go_simp; with_reducible rfl
            rotate_left
            · simp only [Act.put, n1, n2, n3]; rfl
            refine tk 11 4095 (N := some 86) (v := ?_) (a' := ?_) rfl rfl (by kernel_rfl) (fun _ _ _ h => h) (by rfl) ?_ hHeld ?_ ?_
            rotate_left
            · rintro w' ⟨s0, s1⟩; go_simp; with_reducible rfl
            rotate_left
            · simp only [Act.put, n1, n2, n3]; rfl
            refine pu 12 8191 (N := some 87) (v := ?_) (a' := ?_) rfl rfl (by kernel_rfl) (fun _ _ _ h => h) (by rfl) ?_ ?_ ?_
            rotate_left
            · intro w'; go_simp; with_reducible rfl
            rotate_left
            · simp only [Act.put, n1, n2, n3]; rfl
            refine pu 13 16383 (N := some 88) (v := ?_) (a' := ?_) rfl rfl (by kernel_rfl) (fun _ _ _ h => h) (by rfl) ?_ ?_ ?_
            rotate_left
            · intro w'; go_simp; with_reducible rfl
            rotate_left
            · simp only [Act.put, n1, n2, n3]; rfl
            refine pu 14 32767 (N := some 89) (v := ?_) (a' := ?_) rfl rfl (by kernel_rfl) (fun _ _ _ h => h) (by rfl) ?_ ?_ ?_
            rotate_left
            · intro w'; go_simp; with_reducible rfl
            rotate_left
            · simp only [Act.put, n1, n2, n3]; rfl
            refine pu 15 65535 (N := some 90) (v := ?_) (a' := ?_) rfl rfl (by kernel_rfl) (fun _ _ _ h => h) (by rfl) ?_ ?_ ?_
            rotate_left
            · intro w'; go_simp; with_reducible rfl
            rotate_left
            · simp only [Act.put, n1, n2, n3]; rfl
            refine pu 18 327679 (N := some 93) (v := ?_) (a' := ?_) rfl rfl (by kernel_rfl) (fun _ _ _ h => h) (by rfl) ?_ ?_ ?_
            rotate_left
            · intro w'; go_simp; with_reducible rfl
            rotate_left
            · simp only [Act.put, n1, n2, n3]; rfl
            refine tk 16 393215 (N := some 91) (v := ?_) (a' := ?_) rfl rfl (by kernel_rfl) (fun _ _ _ h => h) (by rfl) ?_ hHeld ?_ ?_
            rotate_left
            · rintro w' ⟨s0, s1⟩; go_simp; with_reducible rfl
            rotate_left
            · simp only [Act.put, n1, n2, n3]; rfl
            refine one_ (i := 17) (N := some 92) #[true, true, true, true, true, true, true, true, true, true, true, true, true, true, true, true, true, true, true, false, false, false, false, false, false, false, false, false, false, false, false, false, false, false, false, false, false, false, false, false, false, false, false, false, false, false, false, false, false, false, false, false, false, false, false, false, false, false, false] rfl rfl (by kernel_rfl) (by decide) (fun K hK => ?_)
            refine goes_ Try.func23 (by kernel_rfl) rfl #[.pointer (some ⟨g, 0, none⟩), .int .i64 N] (by rfl) rfl rfl (by simp only [List.map_toArray, List.map_cons, List.map_nil]; rfl) ?_
            with_reducible refine (HCd.out.bytes HF.out).mono ?_
            rintro e6 w6 ⟨v6, rfl, ho6, hc6, hk6, hb6⟩
            refine ⟨_, rfl, ?_⟩
            obtain ⟨A6, c6, rfl, hl6, hr6⟩ := Kd.R_reads ho6
            have HR6 := Aside0.mk hr6
            have HL6 := Aside0.mk hl6
            have HG6 := Aside0.mk ((hk6.2 wr.heap.size (blk_lt HGd.out) (by have := HNE.out; omega) (by simp)).trans HGd.out)
            have HB6 := Aside0.mk (Cur.wide2 HBd.out hb6 hlo.out.2)
            have HC6 := Aside0.mk hc6
            clear hc6 hk6 hb6 ho6 hr6 hl6
            refine hK.out _ _ ⟨(HQ.out _ HG6.out).1, (HQ.out _ HG6.out).2⟩ (fun hHeld => ?_)
            clear hK K
            refine norm_ (a' := ?_) ?_ ?_
            rotate_left
            · show Act.put _ (some 92) _ = _
              simp only [Act.put, List.setIfInBounds_toArray, List.set_cons_zero, List.set_cons_succ, i64_w, i32_w]
              rfl
            refine one_ (i := 19) (N := some 94) #[true, true, true, true, true, true, true, true, true, true, true, true, true, true, true, true, true, true, true, true, false, false, false, false, false, false, false, false, false, false, false, false, false, false, false, false, false, false, false, false, false, false, false, false, false, false, false, false, false, false, false, false, false, false, false, false, false, false, false] rfl rfl (by kernel_rfl) (by decide) (fun K hK => ?_)
            refine goes_ Try.func13 (by kernel_rfl) rfl #[.slice A6 ([] : List Int).length c6, .slice none 0 0] (by rfl) rfl rfl (by simp only [List.map_toArray, List.map_cons, List.map_nil]; rfl) ?_
            refine (hopperref01_Same.calls A6 c6 ([] : List Int) none 0 ([] : List Int) true _ HR6.out HL6.out (Kd.C_nil _ _) (Nat.le_refl _) (same_self _)).mono ?_
            rintro e7 w7 ⟨rfl, n7, rfl⟩
            refine ⟨_, rfl, ?_⟩
            have HG7 : Aside0 ((w6.drewN n7).heap[wr.heap.size]? = some (.cells #[.int .i64 1, .int .i64 N] 38 (0, 0))) := ⟨HG6.out⟩
            have HB7 := Aside0.mk (pw_below_drewN HB6.out n7)
            have HC7 := Aside0.mk (HC6.out.below (pw_below_drewN (Below.refl _ _) n7))
            refine hK.out _ _ ⟨(HQ.out _ HG7.out).1, (HQ.out _ HG7.out).2⟩ (fun hHeld => ?_)
            clear hK K
            refine norm_ (a' := ?_) ?_ ?_
            rotate_left
            · show Act.put _ (some 94) _ = _
              simp only [Act.put, List.setIfInBounds_toArray, List.set_cons_zero, List.set_cons_succ, i64_w, i32_w]
              rfl
            refine pu 20 2097151 (N := some 95) (v := ?_) (a' := ?_) rfl rfl (by kernel_rfl) (fun _ _ _ h => h) (by rfl) ?_ ?_ ?_
            rotate_left
            · intro w'; go_simp; with_reducible rfl
            rotate_left
            · simp only [Act.put, n1, n2, n3]; rfl
            refine pu 21 4194303 (N := some 96) (v := ?_) (a' := ?_) rfl rfl (by kernel_rfl) (fun _ _ _ h => h) (by rfl) ?_ ?_ ?_
            rotate_left
            · intro w'; go_simp; with_reducible rfl
            rotate_left
            · simp only [Act.put, n1, n2, n3]; rfl
            refine pu 22 8388607 (N := some 97) (v := ?_) (a' := ?_) rfl rfl (by kernel_rfl) (fun _ _ _ h => h) (by rfl) ?_ ?_ ?_
            rotate_left
            · intro w'; go_simp; with_reducible rfl
            rotate_left
            · simp only [Act.put, n1, n2, n3]; rfl
            refine pu 23 16777215 (N := some 98) (v := ?_) (a' := ?_) rfl rfl (by kernel_rfl) (fun _ _ _ h => h) (by rfl) ?_ ?_ ?_
            rotate_left
            · intro w'; go_simp; with_reducible rfl
            rotate_left
            · simp only [Act.put, n1, n2, n3]; rfl
            refine pu 24 33554431 (N := some 99) (v := ?_) (a' := ?_) rfl rfl (by kernel_rfl) (fun _ _ _ h => h) (by rfl) ?_ ?_ ?_
            rotate_left
            · intro w'; go_simp; with_reducible rfl
            rotate_left
            · simp only [Act.put, n1, n2, n3]; rfl
            refine tk 25 67108863 (N := some 100) (v := ?_) (a' := ?_) rfl rfl (by kernel_rfl) (fun _ _ _ h => h) (by rfl) ?_ hHeld ?_ ?_
            rotate_left
            · rintro w' ⟨s0, s1⟩; go_simp; with_reducible rfl
            rotate_left
            · simp only [Act.put, n1, n2, n3]; rfl
            refine pu 26 134217727 (N := some 101) (v := ?_) (a' := ?_) rfl rfl (by kernel_rfl) (fun _ _ _ h => h) (by rfl) ?_ ?_ ?_
            rotate_left
            · intro w'; go_simp; with_reducible rfl
            rotate_left
            · simp only [Act.put, n1, n2, n3]; rfl
            refine pu 27 268435455 (N := some 102) (v := ?_) (a' := ?_) rfl rfl (by kernel_rfl) (fun _ _ _ h => h) (by rfl) ?_ ?_ ?_
            rotate_left
            · intro w'; go_simp; with_reducible rfl
            rotate_left
            · simp only [Act.put, n1, n2, n3]; rfl
            refine po 28 536870911 (N := some 103) (a' := ?_) rfl rfl (by kernel_rfl) (fun _ _ _ h => h) (by rfl) ?_ ?_
            rotate_left
            · simp only [Act.put, n1, n2, n3]; rfl
            refine po 29 1073741823 (N := some 104) (a' := ?_) rfl rfl (by kernel_rfl) (fun _ _ _ h => h) (by rfl) ?_ ?_
            rotate_left
            · simp only [Act.put, n1, n2, n3]; rfl
            refine po 30 2147483647 (N := some 105) (a' := ?_) rfl rfl (by kernel_rfl) (fun _ _ _ h => h) (by rfl) ?_ ?_
            rotate_left
            · simp only [Act.put, n1, n2, n3]; rfl
            refine po 31 4294967295 (N := some 106) (a' := ?_) rfl rfl (by kernel_rfl) (fun _ _ _ h => h) (by rfl) ?_ ?_
            rotate_left
            · simp only [Act.put, n1, n2, n3]; rfl
            refine pu 32 8589934591 (N := some 107) (v := ?_) (a' := ?_) rfl rfl (by kernel_rfl) (fun _ _ _ h => h) (by rfl) ?_ ?_ ?_
            rotate_left
            · intro w'; go_simp; with_reducible rfl
            rotate_left
            · simp only [Act.put, n1, n2, n3]; rfl
            refine pu 33 17179869183 (N := some 108) (v := ?_) (a' := ?_) rfl rfl (by kernel_rfl) (fun _ _ _ h => h) (by rfl) ?_ ?_ ?_
            rotate_left
            · intro w'; go_simp; with_reducible rfl
            rotate_left
            · simp only [Act.put, n1, n2, n3]; rfl
            refine pu 34 34359738367 (N := some 109) (v := ?_) (a' := ?_) rfl rfl (by kernel_rfl) (fun _ _ _ h => h) (by rfl) ?_ ?_ ?_
            rotate_left
            · intro w'; go_simp; with_reducible rfl
            rotate_left
            · simp only [Act.put, n1, n2, n3]; rfl
            refine pu 35 68719476735 (N := some 110) (v := ?_) (a' := ?_) rfl rfl (by kernel_rfl) (fun _ _ _ h => h) (by rfl) ?_ ?_ ?_
            rotate_left
            · intro w'; go_simp; with_reducible rfl
            rotate_left
            · simp only [Act.put, n1, n2, n3]; rfl
            refine tk 36 137438953471 (N := some 111) (v := ?_) (a' := ?_) rfl rfl (by kernel_rfl) (fun _ _ _ h => h) (by rfl) ?_ hHeld ?_ ?_
            rotate_left
            · rintro w' ⟨s0, s1⟩; go_simp; with_reducible rfl
            rotate_left
            · simp only [Act.put, n1, n2, n3]; rfl
            refine pu 37 274877906943 (N := some 112) (v := ?_) (a' := ?_) rfl rfl (by kernel_rfl) (fun _ _ _ h => h) (by rfl) ?_ ?_ ?_
            rotate_left
            · intro w'; go_simp; with_reducible rfl
            rotate_left
            · simp only [Act.put, n1, n2, n3]; rfl
            refine pu 38 549755813887 (N := some 113) (v := ?_) (a' := ?_) rfl rfl (by kernel_rfl) (fun _ _ _ h => h) (by rfl) ?_ ?_ ?_
            rotate_left
            · intro w'; go_simp; with_reducible rfl
            rotate_left
            · simp only [Act.put, n1, n2, n3]; rfl
            refine po 39 1099511627775 (N := some 114) (a' := ?_) rfl rfl (by kernel_rfl) (fun _ _ _ h => h) (by rfl) ?_ ?_
            rotate_left
            · simp only [Act.put, n1, n2, n3]; rfl
            refine po 40 2199023255551 (N := some 115) (a' := ?_) rfl rfl (by kernel_rfl) (fun _ _ _ h => h) (by rfl) ?_ ?_
            rotate_left
            · simp only [Act.put, n1, n2, n3]; rfl
            refine po 41 4398046511103 (N := some 116) (a' := ?_) rfl rfl (by kernel_rfl) (fun _ _ _ h => h) (by rfl) ?_ ?_
            rotate_left
            · simp only [Act.put, n1, n2, n3]; rfl
            refine po 42 8796093022207 (N := some 117) (a' := ?_) rfl rfl (by kernel_rfl) (fun _ _ _ h => h) (by rfl) ?_ ?_
            rotate_left
            · simp only [Act.put, n1, n2, n3]; rfl
            refine po 43 17592186044415 (N := some 118) (a' := ?_) rfl rfl (by kernel_rfl) (fun _ _ _ h => h) (by rfl) ?_ ?_
            rotate_left
            · simp only [Act.put, n1, n2, n3]; rfl
            refine po 44 35184372088831 (N := some 119) (a' := ?_) rfl rfl (by kernel_rfl) (fun _ _ _ h => h) (by rfl) ?_ ?_
            rotate_left
            · simp only [Act.put, n1, n2, n3]; rfl
            refine pu 45 70368744177663 (N := some 120) (v := ?_) (a' := ?_) rfl rfl (by kernel_rfl) (fun _ _ _ h => h) (by rfl) ?_ ?_ ?_
            rotate_left
            · intro w'; go_simp; with_reducible rfl
            rotate_left
            · simp only [Act.put, n1, n2, n3]; rfl
            refine pu 46 140737488355327 (N := some 121) (v := ?_) (a' := ?_) rfl rfl (by kernel_rfl) (fun _ _ _ h => h) (by rfl) ?_ ?_ ?_
            rotate_left
            · intro w'; go_simp; with_reducible rfl
            rotate_left
            · simp only [Act.put, n1, n2, n3]; rfl
            refine pu 47 281474976710655 (N := some 122) (v := ?_) (a' := ?_) rfl rfl (by kernel_rfl) (fun _ _ _ h => h) (by rfl) ?_ ?_ ?_
            rotate_left
            · intro w'; go_simp; with_reducible rfl
            rotate_left
            · simp only [Act.put, n1, n2, n3]; rfl
            refine pu 48 562949953421311 (N := some 123) (v := ?_) (a' := ?_) rfl rfl (by kernel_rfl) (fun _ _ _ h => h) (by rfl) ?_ ?_ ?_
            rotate_left
            · intro w'; go_simp; with_reducible rfl
            rotate_left
            · simp only [Act.put, n1, n2, n3]; rfl
            refine tk 49 1125899906842623 (N := some 124) (v := ?_) (a' := ?_) rfl rfl (by kernel_rfl) (fun _ _ _ h => h) (by rfl) ?_ hHeld ?_ ?_
            rotate_left
            · rintro w' ⟨s0, s1⟩; go_simp; with_reducible rfl
            rotate_left
            · simp only [Act.put, n1, n2, n3]; rfl
            refine pu 50 2251799813685247 (N := some 125) (v := ?_) (a' := ?_) rfl rfl (by kernel_rfl) (fun _ _ _ h => h) (by rfl) ?_ ?_ ?_
            rotate_left
            · intro w'; go_simp; with_reducible rfl
            rotate_left
            · simp only [Act.put, n1, n2, n3]; rfl
            refine pu 51 4503599627370495 (N := some 126) (v := ?_) (a' := ?_) rfl rfl (by kernel_rfl) (fun _ _ _ h => h) (by rfl) ?_ ?_ ?_
            rotate_left
            · intro w'; go_simp; with_reducible rfl
            rotate_left
            · simp only [Act.put, n1, n2, n3]; rfl
            refine po 52 9007199254740991 (N := some 127) (a' := ?_) rfl rfl (by kernel_rfl) (fun _ _ _ h => h) (by rfl) ?_ ?_
            rotate_left
            · simp only [Act.put, n1, n2, n3]; rfl
            refine po 53 18014398509481983 (N := some 128) (a' := ?_) rfl rfl (by kernel_rfl) (fun _ _ _ h => h) (by rfl) ?_ ?_
            rotate_left
            · simp only [Act.put, n1, n2, n3]; rfl
            refine po 54 36028797018963967 (N := some 129) (a' := ?_) rfl rfl (by kernel_rfl) (fun _ _ _ h => h) (by rfl) ?_ ?_
            rotate_left
            · simp only [Act.put, n1, n2, n3]; rfl
            refine po 55 72057594037927935 (N := some 130) (a' := ?_) rfl rfl (by kernel_rfl) (fun _ _ _ h => h) (by rfl) ?_ ?_
            rotate_left
            · simp only [Act.put, n1, n2, n3]; rfl
            refine po 56 144115188075855871 (N := some 131) (a' := ?_) rfl rfl (by kernel_rfl) (fun _ _ _ h => h) (by rfl) ?_ ?_
            rotate_left
            · simp only [Act.put, n1, n2, n3]; rfl
            refine pu 57 288230376151711743 (N := some 132) (v := ?_) (a' := ?_) rfl rfl (by kernel_rfl) (fun _ _ _ h => h) (by rfl) ?_ ?_ ?_
            rotate_left
            · intro w'; go_simp; with_reducible rfl
            rotate_left
            · simp only [Act.put, n1, n2, n3]; rfl
            refine pu 58 576460752303423487 (N := some 133) (v := ?_) (a' := ?_) rfl rfl (by kernel_rfl) (fun _ _ _ h => h) (by rfl) ?_ ?_ ?_
            rotate_left
            · intro w'; go_simp; with_reducible rfl
            rotate_left
            · simp only [Act.put, n1, n2, n3]; rfl
            refine done_ (by kernel_rfl) ?_
            have hq0 := (HQ.out _ HG7.out).1
            have hq1 := (HQ.out _ HG7.out).2
            have hwa : wrap64 (a : Int) = (x : Int) := by rw [show (a : Int) = (x : Int) by have := HXE.out; omega]; exact wx x (by have := HX2.out; have := HL.out; omega)
            have hxa : a = x := HXE.out.symm
            have HWA := Aside0.mk hwa
            clear hwa
            obtain ⟨y, hy⟩ : ∃ y : Nat, y = l0.length - x := ⟨_, rfl⟩
            have hwl : wrap64 ((l0.length : Int) - (x : Int)) = (y : Int) := by rw [show (l0.length : Int) - (x : Int) = (y : Int) by have := HX2.out; omega]; exact wx y (by have := HL.out; omega)
            have HLF := Aside0.mk (left_at l0 x e (by have := HL.out; omega) (by have := HX2.out; omega))
            rw [← hy] at HLF
            obtain ⟨q, hq⟩ : ∃ q, (e == 0) = q := ⟨_, rfl⟩
            have hq2 : decide (e = 0) = q := by rw [← hq]; rfl
            have HGF := Aside0.mk (good_at l0 (x : Int) e)
            rw [hq] at HGF
            have hwa := HWA.out
            clear hy
            rw [hxa] at HC7
            clear hxa
            rw [e1] at hq
            subst hq
            clear hq2
            go_wp2_with fail
            refine (HC7.out.left HLF.out).mono ?_
            rintro e7 w8 ⟨rfl, hc8, hk8, hb8⟩
            have HB8 := Aside0.mk (Cur.wide2 HB7.out hb8 hlo.out.2)
            have HC8 := Aside0.mk hc8
            clear hc8 hk8 hb8
            go_wp2_with fail
            refine (HC8.out.good HGF.out).mono ?_
            rintro e8 w9 ⟨rfl, hc9, hk9, hb9⟩
            have HB9 := Aside0.mk (Cur.wide2 HB8.out hb9 hlo.out.2)
            have HC9 := Aside0.mk hc9
            clear hc9 hk9 hb9
            go_wp2_with fail
            clear hwa hwl
            go_roundg k1
            case measure => omega
            case rel => exact ⟨i + 1, x, e, by first | rfl | (rw [HWA.out]) | (congr 1; exact HWA.out), rfl, by first | rfl | exact congrArg (Value.int .i64) (wr1 i (by have := HIL.out; have := HL.out; omega)), ⟨by have := HI.out; omega⟩, HX2, HC9, HB9⟩
      by_cases hd2 : d = 2
      · subst hd2
        clear h h2
        by_cases he : e = 0
        · subst he
          as_aux_lemma =>
            have HG4 := Aside0.mk (blk_new wr (.cells #[.int .i64 2, .int .i64 N] 38))
            have HBa := Aside0.mk (below_alloc (Below.refl wr.heap.size wr) (.cells #[.int .i64 2, .int .i64 N] 38))
            have HB4 := Aside0.mk (below_step HB.out HBa.out)
            have HC4 := Aside0.mk (HC.out.below HBa.out)
            have hq0 := blk_cell HG4.out 0
            have hq1 := blk_cell HG4.out 1
            simp only [List.getElem?_toArray, List.getElem?_cons_zero, List.getElem?_cons_succ] at hq0 hq1
            have HLT := Aside0.mk HC.out.lt
            clear HC HB HBa hi
            go_wp2_with (first | ((with_reducible refine gate_dst (N := 40) rfl ?_); refine load_at rfl 38 _ rfl (ad.add (i * 2)) ?hx [.int .i64 2, .int .i64 N] HX.out _ Try.underlying38 rfl (by rw [infoAct]; rfl) ?_; (case hx => rfl)) | ((with_reducible refine gate_dst (N := 67) rfl ?_); refine wpList_load_row rfl 38 _ rfl wr.heap.size (by rfl) 38 #[.int .i64 2, .int .i64 N] (0, 0) _ HG4.out Try.underlying38 rfl (by rw [infoAct]; rfl) ?_))
            refine (step_2 A0 c0 l0 a N _ (Kd.C_below HR0.out HB4.out) HC0.out HY.out HL.out.1 HE.out.1 HN.out.2).mono ?_
            rintro e5 w5 ⟨n, bs, s, er, A5, c5, rfl, hR, hle, hcs, hb5⟩
            have HG5 := Aside0.mk ((hb5.block _ (blk_lt HG4.out)).trans HG4.out)
            have HB5 := Aside0.mk (below_step HB4.out hb5)
            have HC5 := Aside0.mk (HC4.out.below hb5)
            have HNE := Aside0.mk (show g < wr.heap.size from HLT.out)
            obtain ⟨x, hx⟩ : ∃ x : Nat, x = a + s := ⟨_, rfl⟩
            unfold StepR at hR
            rw [← hx] at hR
            have HX2 := Aside0.mk (show x ≤ l0.length ∧ 0 ≤ er ∧ er ≤ 8 from ⟨hR.1, hR.2.1⟩)
            have HXE := Aside0.mk hx
            have hs5 : (s : Int) = (x : Int) - (a : Int) := by omega
            have HF := Aside0.mk (hR.2.2.2.2.1 rfl)
            clear hR hle hcs hb5 hq0 hq1 hx HG4 HB4 HC4 hs5
            go_wp2_with fail
            have HQ : Aside0 (∀ W : World, W.heap[wr.heap.size]? = some (.cells #[.int .i64 2, .int .i64 N] 38 (0, 0)) → W.cell? ⟨wr.heap.size, 0, none⟩ = some (.int .i64 2) ∧ W.cell? ⟨wr.heap.size, 1, none⟩ = some (.int .i64 N)) := ⟨fun W hW => ⟨blk_cell hW 0, blk_cell hW 1⟩⟩
            have HGd : Aside0 (w5.drew.heap[wr.heap.size]? = some (.cells #[.int .i64 2, .int .i64 N] 38 (0, 0))) := ⟨HG5.out⟩
            have HBd := Aside0.mk (below_drew1 HB5.out)
            have HCd := Aside0.mk (HC5.out.below (below_drew1 (Below.refl _ w5)))
            clear HG5 HB5 HC5
            refine start_ (n := 59) (S := fun w' => w'.cell? ⟨wr.heap.size, 0, none⟩ = some (.int .i64 2) ∧ w'.cell? ⟨wr.heap.size, 1, none⟩ = some (.int .i64 N)) (ds := []) #[false, false, false, false, false, false, false, false, false, false, false, false, false, false, false, false, false, false, false, false, false, false, false, false, false, false, false, false, false, false, false, false, false, false, false, false, false, false, false, false, false, false, false, false, false, false, false, false, false, false, false, false, false, false, false, false, false, false, false] (by kernel_rfl) rfl rfl ⟨(HQ.out _ HGd.out).1, (HQ.out _ HGd.out).2⟩ (fun hHeld => ?_)
            refine pu 0 1 (N := some 75) (v := ?_) (a' := ?_) rfl rfl (by kernel_rfl) (fun _ _ _ h => h) (by rfl) ?_ ?_ ?_
            rotate_left
            · intro w'; go_simp; with_reducible rfl
            rotate_left
            · simp only [Act.put, n1, n2, n3]; rfl
            refine tk 1 3 (N := some 76) (v := ?_) (a' := ?_) rfl rfl (by kernel_rfl) (fun _ _ _ h => h) (by rfl) ?_ hHeld ?_ ?_
            rotate_left
            · rintro w' ⟨s0, s1⟩; go_simp; with_reducible rfl
            rotate_left
            · simp only [Act.put, n1, n2, n3]; rfl
            refine pu 2 7 (N := some 77) (v := ?_) (a' := ?_) rfl rfl (by kernel_rfl) (fun _ _ _ h => h) (by rfl) ?_ ?_ ?_
            rotate_left
            · intro w'; go_simp; with_reducible rfl
            rotate_left
            · simp only [Act.put, n1, n2, n3]; rfl
            refine pu 3 15 (N := some 78) (v := ?_) (a' := ?_) rfl rfl (by kernel_rfl) (fun _ _ _ h => h) (by rfl) ?_ ?_ ?_
            rotate_left
            · intro w'; go_simp; with_reducible rfl
            rotate_left
            · simp only [Act.put, n1, n2, n3]; rfl
            refine po 4 31 (N := some 79) (a' := ?_) rfl rfl (by kernel_rfl) (fun _ _ _ h => h) (by rfl) ?_ ?_
            rotate_left
            · simp only [Act.put, n1, n2, n3]; rfl
            refine po 5 63 (N := some 80) (a' := ?_) rfl rfl (by kernel_rfl) (fun _ _ _ h => h) (by rfl) ?_ ?_
            rotate_left
            · simp only [Act.put, n1, n2, n3]; rfl
            refine po 6 127 (N := some 81) (a' := ?_) rfl rfl (by kernel_rfl) (fun _ _ _ h => h) (by rfl) ?_ ?_
            rotate_left
            · simp only [Act.put, n1, n2, n3]; rfl
            refine po 7 255 (N := some 82) (a' := ?_) rfl rfl (by kernel_rfl) (fun _ _ _ h => h) (by rfl) ?_ ?_
            rotate_left
            · simp only [Act.put, n1, n2, n3]; rfl
            refine pu 8 511 (N := some 83) (v := ?_) (a' := ?_) rfl rfl (by kernel_rfl) (fun _ _ _ h => h) (by rfl) ?_ ?_ ?_
            rotate_left
            · intro w'; go_simp; with_reducible rfl
            rotate_left
            · simp only [Act.put, n1, n2, n3]; rfl
            refine pu 9 1023 (N := some 84) (v := ?_) (a' := ?_) rfl rfl (by kernel_rfl) (fun _ _ _ h => h) (by rfl) ?_ ?_ ?_
            rotate_left
            · intro w'; go_simp; with_reducible rfl
            rotate_left
            · simp only [Act.put, n1, n2, n3]; rfl
            refine pu 10 2047 (N := some 85) (v := ?_) (a' := ?_) rfl rfl (by kernel_rfl) (fun _ _ _ h => h) (by rfl) ?_ ?_ ?_
            rotate_left
            · intro w'; go_simp; with_reducible rfl
            rotate_left
            · simp only [Act.put, n1, n2, n3]; rfl
            refine tk 11 4095 (N := some 86) (v := ?_) (a' := ?_) rfl rfl (by kernel_rfl) (fun _ _ _ h => h) (by rfl) ?_ hHeld ?_ ?_
            rotate_left
            · rintro w' ⟨s0, s1⟩; go_simp; with_reducible rfl
            rotate_left
            · simp only [Act.put, n1, n2, n3]; rfl
            refine pu 12 8191 (N := some 87) (v := ?_) (a' := ?_) rfl rfl (by kernel_rfl) (fun _ _ _ h => h) (by rfl) ?_ ?_ ?_
            rotate_left
            · intro w'; go_simp; with_reducible rfl
            rotate_left
            · simp only [Act.put, n1, n2, n3]; rfl
            refine pu 13 16383 (N := some 88) (v := ?_) (a' := ?_) rfl rfl (by kernel_rfl) (fun _ _ _ h => h) (by rfl) ?_ ?_ ?_
            rotate_left
            · intro w'; go_simp; with_reducible rfl
            rotate_left
            · simp only [Act.put, n1, n2, n3]; rfl
            refine po 14 32767 (N := some 89) (a' := ?_) rfl rfl (by kernel_rfl) (fun _ _ _ h => h) (by rfl) ?_ ?_
            rotate_left
            · simp only [Act.put, n1, n2, n3]; rfl
            refine po 15 65535 (N := some 90) (a' := ?_) rfl rfl (by kernel_rfl) (fun _ _ _ h => h) (by rfl) ?_ ?_
            rotate_left
            · simp only [Act.put, n1, n2, n3]; rfl
            refine po 16 131071 (N := some 91) (a' := ?_) rfl rfl (by kernel_rfl) (fun _ _ _ h => h) (by rfl) ?_ ?_
            rotate_left
            · simp only [Act.put, n1, n2, n3]; rfl
            refine po 17 262143 (N := some 92) (a' := ?_) rfl rfl (by kernel_rfl) (fun _ _ _ h => h) (by rfl) ?_ ?_
            rotate_left
            · simp only [Act.put, n1, n2, n3]; rfl
            refine po 18 524287 (N := some 93) (a' := ?_) rfl rfl (by kernel_rfl) (fun _ _ _ h => h) (by rfl) ?_ ?_
            rotate_left
            · simp only [Act.put, n1, n2, n3]; rfl
            refine po 19 1048575 (N := some 94) (a' := ?_) rfl rfl (by kernel_rfl) (fun _ _ _ h => h) (by rfl) ?_ ?_
            rotate_left
            · simp only [Act.put, n1, n2, n3]; rfl
            refine po 20 2097151 (N := some 95) (a' := ?_) rfl rfl (by kernel_rfl) (fun _ _ _ h => h) (by rfl) ?_ ?_
            rotate_left
            · simp only [Act.put, n1, n2, n3]; rfl
            refine pu 21 4194303 (N := some 96) (v := ?_) (a' := ?_) rfl rfl (by kernel_rfl) (fun _ _ _ h => h) (by rfl) ?_ ?_ ?_
            rotate_left
            · intro w'; go_simp; with_reducible rfl
            rotate_left
            · simp only [Act.put, n1, n2, n3]; rfl
            refine pu 22 8388607 (N := some 97) (v := ?_) (a' := ?_) rfl rfl (by kernel_rfl) (fun _ _ _ h => h) (by rfl) ?_ ?_ ?_
            rotate_left
            · intro w'; go_simp; with_reducible rfl
            rotate_left
            · simp only [Act.put, n1, n2, n3]; rfl
            refine pu 23 16777215 (N := some 98) (v := ?_) (a' := ?_) rfl rfl (by kernel_rfl) (fun _ _ _ h => h) (by rfl) ?_ ?_ ?_
            rotate_left
            · intro w'; go_simp; with_reducible rfl
            rotate_left
            · simp only [Act.put, n1, n2, n3]; rfl
            refine pu 24 33554431 (N := some 99) (v := ?_) (a' := ?_) rfl rfl (by kernel_rfl) (fun _ _ _ h => h) (by rfl) ?_ ?_ ?_
            rotate_left
            · intro w'; go_simp; with_reducible rfl
            rotate_left
            · simp only [Act.put, n1, n2, n3]; rfl
            refine tk 25 67108863 (N := some 100) (v := ?_) (a' := ?_) rfl rfl (by kernel_rfl) (fun _ _ _ h => h) (by rfl) ?_ hHeld ?_ ?_
            rotate_left
            · rintro w' ⟨s0, s1⟩; go_simp; with_reducible rfl
            rotate_left
            · simp only [Act.put, n1, n2, n3]; rfl
            refine pu 26 134217727 (N := some 101) (v := ?_) (a' := ?_) rfl rfl (by kernel_rfl) (fun _ _ _ h => h) (by rfl) ?_ ?_ ?_
            rotate_left
            · intro w'; go_simp; with_reducible rfl
            rotate_left
            · simp only [Act.put, n1, n2, n3]; rfl
            refine pu 27 268435455 (N := some 102) (v := ?_) (a' := ?_) rfl rfl (by kernel_rfl) (fun _ _ _ h => h) (by rfl) ?_ ?_ ?_
            rotate_left
            · intro w'; go_simp; with_reducible rfl
            rotate_left
            · simp only [Act.put, n1, n2, n3]; rfl
            refine pu 28 536870911 (N := some 103) (v := ?_) (a' := ?_) rfl rfl (by kernel_rfl) (fun _ _ _ h => h) (by rfl) ?_ ?_ ?_
            rotate_left
            · intro w'; go_simp; with_reducible rfl
            rotate_left
            · simp only [Act.put, n1, n2, n3]; rfl
            refine pu 30 1610612735 (N := some 105) (v := ?_) (a' := ?_) rfl rfl (by kernel_rfl) (fun _ _ _ h => h) (by rfl) ?_ ?_ ?_
            rotate_left
            · intro w'; go_simp; with_reducible rfl
            rotate_left
            · simp only [Act.put, n1, n2, n3]; rfl
            refine one_ (i := 29) (N := some 104) #[true, true, true, true, true, true, true, true, true, true, true, true, true, true, true, true, true, true, true, true, true, true, true, true, true, true, true, true, true, true, true, false, false, false, false, false, false, false, false, false, false, false, false, false, false, false, false, false, false, false, false, false, false, false, false, false, false, false, false] rfl rfl (by kernel_rfl) (by decide) (fun K hK => ?_)
            refine goes_ Try.func19 (by kernel_rfl) rfl #[.pointer (some ⟨g, 0, none⟩)] (by rfl) rfl rfl (by simp only [List.map_toArray, List.map_cons, List.map_nil]; rfl) ?_
            with_reducible refine (HCd.out.number HF.out).mono ?_
            rintro e6 w6 ⟨rfl, hc6, hk6, hb6⟩
            refine ⟨_, rfl, ?_⟩
            have HG6 := Aside0.mk ((hk6.2 wr.heap.size (blk_lt HGd.out) (by have := HNE.out; omega) (by simp)).trans HGd.out)
            have HB6 := Aside0.mk (Cur.wide2 HBd.out hb6 hlo.out.2)
            have HC6 := Aside0.mk hc6
            clear hc6 hk6 hb6
            refine hK.out _ _ ⟨(HQ.out _ HG6.out).1, (HQ.out _ HG6.out).2⟩ (fun hHeld => ?_)
            clear hK K
            refine norm_ (a' := ?_) ?_ ?_
            rotate_left
            · show Act.put _ (some 104) _ = _
              simp only [Act.put, List.setIfInBounds_toArray, List.set_cons_zero, List.set_cons_succ, i64_w, i32_w]
              rfl
            refine pu 31 4294967295 (N := some 106) (v := ?_) (a' := ?_) rfl rfl (by kernel_rfl) (fun _ _ _ h => h) (by rfl) ?_ ?_ ?_
            rotate_left
            · intro w'; go_simp; with_reducible rfl
            rotate_left
            · simp only [Act.put, n1, n2, n3]; rfl
            refine pu 32 8589934591 (N := some 107) (v := ?_) (a' := ?_) rfl rfl (by kernel_rfl) (fun _ _ _ h => h) (by rfl) ?_ ?_ ?_
            rotate_left
            · intro w'; go_simp; with_reducible rfl
            rotate_left
            · simp only [Act.put, n1, n2, n3]; rfl
            refine pu 33 17179869183 (N := some 108) (v := ?_) (a' := ?_) rfl rfl (by kernel_rfl) (fun _ _ _ h => h) (by rfl) ?_ ?_ ?_
            rotate_left
            · intro w'; go_simp; with_reducible rfl
            rotate_left
            · simp only [Act.put, n1, n2, n3]; rfl
            refine pu 34 34359738367 (N := some 109) (v := ?_) (a' := ?_) rfl rfl (by kernel_rfl) (fun _ _ _ h => h) (by rfl) ?_ ?_ ?_
            rotate_left
            · intro w'; go_simp; with_reducible rfl
            rotate_left
            · simp only [Act.put, n1, n2, n3]; rfl
            refine pu 35 68719476735 (N := some 110) (v := ?_) (a' := ?_) rfl rfl (by kernel_rfl) (fun _ _ _ h => h) (by rfl) ?_ ?_ ?_
            rotate_left
            · intro w'; go_simp; with_reducible rfl
            rotate_left
            · simp only [Act.put, n1, n2, n3]; rfl
            refine tk 36 137438953471 (N := some 111) (v := ?_) (a' := ?_) rfl rfl (by kernel_rfl) (fun _ _ _ h => h) (by rfl) ?_ hHeld ?_ ?_
            rotate_left
            · rintro w' ⟨s0, s1⟩; go_simp; with_reducible rfl
            rotate_left
            · simp only [Act.put, n1, n2, n3]; rfl
            refine pu 37 274877906943 (N := some 112) (v := ?_) (a' := ?_) rfl rfl (by kernel_rfl) (fun _ _ _ h => h) (by rfl) ?_ ?_ ?_
            rotate_left
            · intro w'; go_simp; with_reducible rfl
            rotate_left
            · simp only [Act.put, n1, n2, n3]; rfl
            refine pu 38 549755813887 (N := some 113) (v := ?_) (a' := ?_) rfl rfl (by kernel_rfl) (fun _ _ _ h => h) (by rfl) ?_ ?_ ?_
            rotate_left
            · intro w'; go_simp; with_reducible rfl
            rotate_left
            · simp only [Act.put, n1, n2, n3]; rfl
            refine po 39 1099511627775 (N := some 114) (a' := ?_) rfl rfl (by kernel_rfl) (fun _ _ _ h => h) (by rfl) ?_ ?_
            rotate_left
            · simp only [Act.put, n1, n2, n3]; rfl
            refine po 40 2199023255551 (N := some 115) (a' := ?_) rfl rfl (by kernel_rfl) (fun _ _ _ h => h) (by rfl) ?_ ?_
            rotate_left
            · simp only [Act.put, n1, n2, n3]; rfl
            refine po 41 4398046511103 (N := some 116) (a' := ?_) rfl rfl (by kernel_rfl) (fun _ _ _ h => h) (by rfl) ?_ ?_
            rotate_left
            · simp only [Act.put, n1, n2, n3]; rfl
            refine po 42 8796093022207 (N := some 117) (a' := ?_) rfl rfl (by kernel_rfl) (fun _ _ _ h => h) (by rfl) ?_ ?_
            rotate_left
            · simp only [Act.put, n1, n2, n3]; rfl
            refine po 43 17592186044415 (N := some 118) (a' := ?_) rfl rfl (by kernel_rfl) (fun _ _ _ h => h) (by rfl) ?_ ?_
            rotate_left
            · simp only [Act.put, n1, n2, n3]; rfl
            refine po 44 35184372088831 (N := some 119) (a' := ?_) rfl rfl (by kernel_rfl) (fun _ _ _ h => h) (by rfl) ?_ ?_
            rotate_left
            · simp only [Act.put, n1, n2, n3]; rfl
            refine pu 45 70368744177663 (N := some 120) (v := ?_) (a' := ?_) rfl rfl (by kernel_rfl) (fun _ _ _ h => h) (by rfl) ?_ ?_ ?_
            rotate_left
            · intro w'; go_simp; with_reducible rfl
            rotate_left
            · simp only [Act.put, n1, n2, n3]; rfl
            refine pu 46 140737488355327 (N := some 121) (v := ?_) (a' := ?_) rfl rfl (by kernel_rfl) (fun _ _ _ h => h) (by rfl) ?_ ?_ ?_
            rotate_left
            · intro w'; go_simp; with_reducible rfl
            rotate_left
            · simp only [Act.put, n1, n2, n3]; rfl
            refine pu 47 281474976710655 (N := some 122) (v := ?_) (a' := ?_) rfl rfl (by kernel_rfl) (fun _ _ _ h => h) (by rfl) ?_ ?_ ?_
            rotate_left
            · intro w'; go_simp; with_reducible rfl
            rotate_left
            · simp only [Act.put, n1, n2, n3]; rfl
            refine pu 48 562949953421311 (N := some 123) (v := ?_) (a' := ?_) rfl rfl (by kernel_rfl) (fun _ _ _ h => h) (by rfl) ?_ ?_ ?_
            rotate_left
            · intro w'; go_simp; with_reducible rfl
            rotate_left
            · simp only [Act.put, n1, n2, n3]; rfl
            refine tk 49 1125899906842623 (N := some 124) (v := ?_) (a' := ?_) rfl rfl (by kernel_rfl) (fun _ _ _ h => h) (by rfl) ?_ hHeld ?_ ?_
            rotate_left
            · rintro w' ⟨s0, s1⟩; go_simp; with_reducible rfl
            rotate_left
            · simp only [Act.put, n1, n2, n3]; rfl
            refine pu 50 2251799813685247 (N := some 125) (v := ?_) (a' := ?_) rfl rfl (by kernel_rfl) (fun _ _ _ h => h) (by rfl) ?_ ?_ ?_
            rotate_left
            · intro w'; go_simp; with_reducible rfl
            rotate_left
            · simp only [Act.put, n1, n2, n3]; rfl
            refine pu 51 4503599627370495 (N := some 126) (v := ?_) (a' := ?_) rfl rfl (by kernel_rfl) (fun _ _ _ h => h) (by rfl) ?_ ?_ ?_
            rotate_left
            · intro w'; go_simp; with_reducible rfl
            rotate_left
            · simp only [Act.put, n1, n2, n3]; rfl
            refine po 52 9007199254740991 (N := some 127) (a' := ?_) rfl rfl (by kernel_rfl) (fun _ _ _ h => h) (by rfl) ?_ ?_
            rotate_left
            · simp only [Act.put, n1, n2, n3]; rfl
            refine po 53 18014398509481983 (N := some 128) (a' := ?_) rfl rfl (by kernel_rfl) (fun _ _ _ h => h) (by rfl) ?_ ?_
            rotate_left
            · simp only [Act.put, n1, n2, n3]; rfl
            refine po 54 36028797018963967 (N := some 129) (a' := ?_) rfl rfl (by kernel_rfl) (fun _ _ _ h => h) (by rfl) ?_ ?_
            rotate_left
            · simp only [Act.put, n1, n2, n3]; rfl
            refine po 55 72057594037927935 (N := some 130) (a' := ?_) rfl rfl (by kernel_rfl) (fun _ _ _ h => h) (by rfl) ?_ ?_
            rotate_left
            · simp only [Act.put, n1, n2, n3]; rfl
            refine po 56 144115188075855871 (N := some 131) (a' := ?_) rfl rfl (by kernel_rfl) (fun _ _ _ h => h) (by rfl) ?_ ?_
            rotate_left
            · simp only [Act.put, n1, n2, n3]; rfl
            refine pu 57 288230376151711743 (N := some 132) (v := ?_) (a' := ?_) rfl rfl (by kernel_rfl) (fun _ _ _ h => h) (by rfl) ?_ ?_ ?_
            rotate_left
            · intro w'; go_simp; with_reducible rfl
            rotate_left
            · simp only [Act.put, n1, n2, n3]; rfl
            refine pu 58 576460752303423487 (N := some 133) (v := ?_) (a' := ?_) rfl rfl (by kernel_rfl) (fun _ _ _ h => h) (by rfl) ?_ ?_ ?_
            rotate_left
            · intro w'; go_simp; with_reducible rfl
            rotate_left
            · simp only [Act.put, n1, n2, n3]; rfl
            refine done_ (by kernel_rfl) ?_
            have hq0 := (HQ.out _ HG6.out).1
            have hq1 := (HQ.out _ HG6.out).2
            have hwa : wrap64 ((a : Int) + (s : Int)) = (x : Int) := by rw [show (a : Int) + (s : Int) = (x : Int) by have := HXE.out; omega]; exact wx x (by have := HX2.out; have := HL.out; omega)
            have HWA := Aside0.mk hwa
            clear hwa
            obtain ⟨y, hy⟩ : ∃ y : Nat, y = l0.length - x := ⟨_, rfl⟩
            have hwl : wrap64 ((l0.length : Int) - (x : Int)) = (y : Int) := by rw [show (l0.length : Int) - (x : Int) = (y : Int) by have := HX2.out; omega]; exact wx y (by have := HL.out; omega)
            have HLF := Aside0.mk (left_at l0 x er (by have := HL.out; omega) (by have := HX2.out; omega))
            rw [← hy] at HLF
            obtain ⟨q, hq⟩ : ∃ q, (er == 0) = q := ⟨_, rfl⟩
            have hq2 : decide (er = 0) = q := by rw [← hq]; rfl
            have HGF := Aside0.mk (good_at l0 (x : Int) er)
            rw [hq] at HGF
            have hwa := HWA.out
            clear hy
            go_wp2_with fail
            refine (HC6.out.left HLF.out).mono ?_
            rintro e7 w8 ⟨rfl, hc8, hk8, hb8⟩
            have HB8 := Aside0.mk (Cur.wide2 HB6.out hb8 hlo.out.2)
            have HC8 := Aside0.mk hc8
            clear hc8 hk8 hb8
            go_wp2_with fail
            refine (HC8.out.good HGF.out).mono ?_
            rintro e8 w9 ⟨rfl, hc9, hk9, hb9⟩
            have HB9 := Aside0.mk (Cur.wide2 HB8.out hb9 hlo.out.2)
            have HC9 := Aside0.mk hc9
            clear hc9 hk9 hb9
            go_wp2_with fail
            clear hwa hwl
            go_roundg k1
            case measure => omega
            case rel => exact ⟨i + 1, x, er, by first | rfl | (rw [HWA.out]) | (congr 1; exact HWA.out), rfl, by first | rfl | exact congrArg (Value.int .i64) (wr1 i (by have := HIL.out; have := HL.out; omega)), ⟨by have := HI.out; omega⟩, HX2, HC9, HB9⟩
        · as_aux_lemma =>
            have e1 : (e == 0) = false := by simpa using he
            have e2 : (e != 0) = true := by simpa using he
            have e3 : decide (e = 0) = false := decide_eq_false he
            have HNZ := Aside0.mk he
            have HG4 := Aside0.mk (blk_new wr (.cells #[.int .i64 2, .int .i64 N] 38))
            have HBa := Aside0.mk (below_alloc (Below.refl wr.heap.size wr) (.cells #[.int .i64 2, .int .i64 N] 38))
            have HB4 := Aside0.mk (below_step HB.out HBa.out)
            have HC4 := Aside0.mk (HC.out.below HBa.out)
            have hq0 := blk_cell HG4.out 0
            have hq1 := blk_cell HG4.out 1
            simp only [List.getElem?_toArray, List.getElem?_cons_zero, List.getElem?_cons_succ] at hq0 hq1
            have HLT := Aside0.mk HC.out.lt
            clear HC HB HBa hi he
            go_wp2_with (first | ((with_reducible refine gate_dst (N := 40) rfl ?_); refine load_at rfl 38 _ rfl (ad.add (i * 2)) ?hx [.int .i64 2, .int .i64 N] HX.out _ Try.underlying38 rfl (by rw [infoAct]; rfl) ?_; (case hx => rfl)) | ((with_reducible refine gate_dst (N := 67) rfl ?_); refine wpList_load_row rfl 38 _ rfl wr.heap.size (by rfl) 38 #[.int .i64 2, .int .i64 N] (0, 0) _ HG4.out Try.underlying38 rfl (by rw [infoAct]; rfl) ?_))
            refine (step_2 A0 c0 l0 a N _ (Kd.C_below HR0.out HB4.out) HC0.out HY.out HL.out.1 HE.out.1 HN.out.2).mono ?_
            rintro e5 w5 ⟨n, bs, s, er, A5, c5, rfl, hR, hle, hcs, hb5⟩
            have HG5 := Aside0.mk ((hb5.block _ (blk_lt HG4.out)).trans HG4.out)
            have HB5 := Aside0.mk (below_step HB4.out hb5)
            have HC5 := Aside0.mk (HC4.out.below hb5)
            have HNE := Aside0.mk (show g < wr.heap.size from HLT.out)
            obtain ⟨x, hx⟩ : ∃ x : Nat, x = a := ⟨_, rfl⟩
            have HX2 := Aside0.mk (show x ≤ l0.length ∧ 0 ≤ e ∧ e ≤ 8 by rw [hx]; exact HE.out)
            have HXE := Aside0.mk hx
            have HF := Aside0.mk (number_bad l0 (a : Int) e HNZ.out)
            clear hR hle hcs hb5 hq0 hq1 hx HG4 HB4 HC4
            go_wp2_with fail
            have HQ : Aside0 (∀ W : World, W.heap[wr.heap.size]? = some (.cells #[.int .i64 2, .int .i64 N] 38 (0, 0)) → W.cell? ⟨wr.heap.size, 0, none⟩ = some (.int .i64 2) ∧ W.cell? ⟨wr.heap.size, 1, none⟩ = some (.int .i64 N)) := ⟨fun W hW => ⟨blk_cell hW 0, blk_cell hW 1⟩⟩
            have HGd : Aside0 (w5.drew.heap[wr.heap.size]? = some (.cells #[.int .i64 2, .int .i64 N] 38 (0, 0))) := ⟨HG5.out⟩
            have HBd := Aside0.mk (below_drew1 HB5.out)
            have HCd := Aside0.mk (HC5.out.below (below_drew1 (Below.refl _ w5)))
            clear HG5 HB5 HC5
            refine start_ (n := 59) (S := fun w' => w'.cell? ⟨wr.heap.size, 0, none⟩ = some (.int .i64 2) ∧ w'.cell? ⟨wr.heap.size, 1, none⟩ = some (.int .i64 N)) (ds := []) #[false, false, false, false, false, false, false, false, false, false, false, false, false, false, false, false, false, false, false, false, false, false, false, false, false, false, false, false, false, false, false, false, false, false, false, false, false, false, false, false, false, false, false, false, false, false, false, false, false, false, false, false, false, false, false, false, false, false, false] (by kernel_rfl) rfl rfl ⟨(HQ.out _ HGd.out).1, (HQ.out _ HGd.out).2⟩ (fun hHeld => ?_)
            refine pu 0 1 (N := some 75) (v := ?_) (a' := ?_) rfl rfl (by kernel_rfl) (fun _ _ _ h => h) (by rfl) ?_ ?_ ?_
            rotate_left
            · intro w'; go_simp; with_reducible rfl
            rotate_left
            · simp only [Act.put, n1, n2, n3]; rfl
            refine tk 1 3 (N := some 76) (v := ?_) (a' := ?_) rfl rfl (by kernel_rfl) (fun _ _ _ h => h) (by rfl) ?_ hHeld ?_ ?_
            rotate_left
            · rintro w' ⟨s0, s1⟩; go_simp; with_reducible rfl
            rotate_left
            · simp only [Act.put, n1, n2, n3]; rfl
            refine pu 2 7 (N := some 77) (v := ?_) (a' := ?_) rfl rfl (by kernel_rfl) (fun _ _ _ h => h) (by rfl) ?_ ?_ ?_
            rotate_left
            · intro w'; go_simp; with_reducible rfl
            rotate_left
            · simp only [Act.put, n1, n2, n3]; rfl
            refine pu 3 15 (N := some 78) (v := ?_) (a' := ?_) rfl rfl (by kernel_rfl) (fun _ _ _ h => h) (by rfl) ?_ ?_ ?_
            rotate_left
            · intro w'; go_simp; with_reducible rfl
            rotate_left
            · simp only [Act.put, n1, n2, n3]; rfl
            refine po 4 31 (N := some 79) (a' := ?_) rfl rfl (by kernel_rfl) (fun _ _ _ h => h) (by rfl) ?_ ?_
            rotate_left
            · simp only [Act.put, n1, n2, n3]; rfl
            refine po 5 63 (N := some 80) (a' := ?_) rfl rfl (by kernel_rfl) (fun _ _ _ h => h) (by rfl) ?_ ?_
            rotate_left
            · simp only [Act.put, n1, n2, n3]; rfl
            refine po 6 127 (N := some 81) (a' := ?_) rfl rfl (by kernel_rfl) (fun _ _ _ h => h) (by rfl) ?_ ?_
            rotate_left
            · simp only [Act.put, n1, n2, n3]; rfl
            refine po 7 255 (N := some 82) (a' := ?_) rfl rfl (by kernel_rfl) (fun _ _ _ h => h) (by rfl) ?_ ?_
            rotate_left
            · simp only [Act.put, n1, n2, n3]; rfl
            refine pu 8 511 (N := some 83) (v := ?_) (a' := ?_) rfl rfl (by kernel_rfl) (fun _ _ _ h => h) (by rfl) ?_ ?_ ?_
            rotate_left
            · intro w'; go_simp; with_reducible rfl
            rotate_left
            · simp only [Act.put, n1, n2, n3]; rfl
            refine pu 9 1023 (N := some 84) (v := ?_) (a' := ?_) rfl rfl (by kernel_rfl) (fun _ _ _ h => h) (by rfl) ?_ ?_ ?_
            rotate_left
            · intro w'; go_simp; with_reducible rfl
            rotate_left
            · simp only [Act.put, n1, n2, n3]; rfl
            refine pu 10 2047 (N := some 85) (v := ?_) (a' := ?_) rfl rfl (by kernel_rfl) (fun _ _ _ h => h) (by rfl) ?_ ?_ ?_
            rotate_left
            · intro w'; go_simp; with_reducible rfl
            rotate_left
            · simp only [Act.put, n1, n2, n3]; rfl
            refine tk 11 4095 (N := some 86) (v := ?_) (a' := ?_) rfl rfl (by kernel_rfl) (fun _ _ _ h => h) (by rfl) ?_ hHeld ?_ ?_
            rotate_left
            · rintro w' ⟨s0, s1⟩; go_simp; with_reducible rfl
            rotate_left
            · simp only [Act.put, n1, n2, n3]; rfl
            refine pu 12 8191 (N := some 87) (v := ?_) (a' := ?_) rfl rfl (by kernel_rfl) (fun _ _ _ h => h) (by rfl) ?_ ?_ ?_
            rotate_left
            · intro w'; go_simp; with_reducible rfl
            rotate_left
            · simp only [Act.put, n1, n2, n3]; rfl
            refine pu 13 16383 (N := some 88) (v := ?_) (a' := ?_) rfl rfl (by kernel_rfl) (fun _ _ _ h => h) (by rfl) ?_ ?_ ?_
            rotate_left
            · intro w'; go_simp; with_reducible rfl
            rotate_left
            · simp only [Act.put, n1, n2, n3]; rfl
            refine po 14 32767 (N := some 89) (a' := ?_) rfl rfl (by kernel_rfl) (fun _ _ _ h => h) (by rfl) ?_ ?_
            rotate_left
            · simp only [Act.put, n1, n2, n3]; rfl
            refine po 15 65535 (N := some 90) (a' := ?_) rfl rfl (by kernel_rfl) (fun _ _ _ h => h) (by rfl) ?_ ?_
            rotate_left
            · simp only [Act.put, n1, n2, n3]; rfl
            refine po 16 131071 (N := some 91) (a' := ?_) rfl rfl (by kernel_rfl) (fun _ _ _ h => h) (by rfl) ?_ ?_
            rotate_left
            · simp only [Act.put, n1, n2, n3]; rfl
            refine po 17 262143 (N := some 92) (a' := ?_) rfl rfl (by kernel_rfl) (fun _ _ _ h => h) (by rfl) ?_ ?_
            rotate_left
            · simp only [Act.put, n1, n2, n3]; rfl
            refine po 18 524287 (N := some 93) (a' := ?_) rfl rfl (by kernel_rfl) (fun _ _ _ h => h) (by rfl) ?_ ?_
            rotate_left
            · simp only [Act.put, n1, n2, n3]; rfl
            refine po 19 1048575 (N := some 94) (a' := ?_) rfl rfl (by kernel_rfl) (fun _ _ _ h => h) (by rfl) ?_ ?_
            rotate_left
            · simp only [Act.put, n1, n2, n3]; rfl
            refine po 20 2097151 (N := some 95) (a' := ?_) rfl rfl (by kernel_rfl) (fun _ _ _ h => h) (by rfl) ?_ ?_
            rotate_left
            · simp only [Act.put, n1, n2, n3]; rfl
            refine pu 21 4194303 (N := some 96) (v := ?_) (a' := ?_) rfl rfl (by kernel_rfl) (fun _ _ _ h => h) (by rfl) ?_ ?_ ?_
            rotate_left
            · intro w'; go_simp; with_reducible rfl
            rotate_left
            · simp only [Act.put, n1, n2, n3]; rfl
            refine pu 22 8388607 (N := some 97) (v := ?_) (a' := ?_) rfl rfl (by kernel_rfl) (fun _ _ _ h => h) (by rfl) ?_ ?_ ?_
            rotate_left
            · intro w'; go_simp; with_reducible rfl
            rotate_left
            · simp only [Act.put, n1, n2, n3]; rfl
            refine pu 23 16777215 (N := some 98) (v := ?_) (a' := ?_) rfl rfl (by kernel_rfl) (fun _ _ _ h => h) (by rfl) ?_ ?_ ?_
            rotate_left
            · intro w'; go_simp; with_reducible rfl
            rotate_left
            · simp only [Act.put, n1, n2, n3]; rfl
            refine pu 24 33554431 (N := some 99) (v := ?_) (a' := ?_) rfl rfl (by kernel_rfl) (fun _ _ _ h => h) (by rfl) ?_ ?_ ?_
            rotate_left
            · intro w'; go_simp; with_reducible rfl
            rotate_left
            · simp only [Act.put, n1, n2, n3]; rfl
            refine tk 25 67108863 (N := some 100) (v := ?_) (a' := ?_) rfl rfl (by kernel_rfl) (fun _ _ _ h => h) (by rfl) ?_ hHeld ?_ ?_
            rotate_left
            · rintro w' ⟨s0, s1⟩; go_simp; with_reducible rfl
            rotate_left
            · simp only [Act.put, n1, n2, n3]; rfl
            refine pu 26 134217727 (N := some 101) (v := ?_) (a' := ?_) rfl rfl (by kernel_rfl) (fun _ _ _ h => h) (by rfl) ?_ ?_ ?_
            rotate_left
            · intro w'; go_simp; with_reducible rfl
            rotate_left
            · simp only [Act.put, n1, n2, n3]; rfl
            refine pu 27 268435455 (N := some 102) (v := ?_) (a' := ?_) rfl rfl (by kernel_rfl) (fun _ _ _ h => h) (by rfl) ?_ ?_ ?_
            rotate_left
            · intro w'; go_simp; with_reducible rfl
            rotate_left
            · simp only [Act.put, n1, n2, n3]; rfl
            refine pu 28 536870911 (N := some 103) (v := ?_) (a' := ?_) rfl rfl (by kernel_rfl) (fun _ _ _ h => h) (by rfl) ?_ ?_ ?_
            rotate_left
            · intro w'; go_simp; with_reducible rfl
            rotate_left
            · simp only [Act.put, n1, n2, n3]; rfl
            refine pu 30 1610612735 (N := some 105) (v := ?_) (a' := ?_) rfl rfl (by kernel_rfl) (fun _ _ _ h => h) (by rfl) ?_ ?_ ?_
            rotate_left
            · intro w'; go_simp; with_reducible rfl
            rotate_left
            · simp only [Act.put, n1, n2, n3]; rfl
            refine one_ (i := 29) (N := some 104) #[true, true, true, true, true, true, true, true, true, true, true, true, true, true, true, true, true, true, true, true, true, true, true, true, true, true, true, true, true, true, true, false, false, false, false, false, false, false, false, false, false, false, false, false, false, false, false, false, false, false, false, false, false, false, false, false, false, false, false] rfl rfl (by kernel_rfl) (by decide) (fun K hK => ?_)
            refine goes_ Try.func19 (by kernel_rfl) rfl #[.pointer (some ⟨g, 0, none⟩)] (by rfl) rfl rfl (by simp only [List.map_toArray, List.map_cons, List.map_nil]; rfl) ?_
            with_reducible refine (HCd.out.number HF.out).mono ?_
            rintro e6 w6 ⟨rfl, hc6, hk6, hb6⟩
            refine ⟨_, rfl, ?_⟩
            have HG6 := Aside0.mk ((hk6.2 wr.heap.size (blk_lt HGd.out) (by have := HNE.out; omega) (by simp)).trans HGd.out)
            have HB6 := Aside0.mk (Cur.wide2 HBd.out hb6 hlo.out.2)
            have HC6 := Aside0.mk hc6
            clear hc6 hk6 hb6
            refine hK.out _ _ ⟨(HQ.out _ HG6.out).1, (HQ.out _ HG6.out).2⟩ (fun hHeld => ?_)
            clear hK K
            refine norm_ (a' := ?_) ?_ ?_
            rotate_left
            · show Act.put _ (some 104) _ = _
              simp only [Act.put, List.setIfInBounds_toArray, List.set_cons_zero, List.set_cons_succ, i64_w, i32_w]
              rfl
            refine pu 31 4294967295 (N := some 106) (v := ?_) (a' := ?_) rfl rfl (by kernel_rfl) (fun _ _ _ h => h) (by rfl) ?_ ?_ ?_
            rotate_left
            · intro w'; go_simp; with_reducible rfl
            rotate_left
            · simp only [Act.put, n1, n2, n3]; rfl
            refine pu 32 8589934591 (N := some 107) (v := ?_) (a' := ?_) rfl rfl (by kernel_rfl) (fun _ _ _ h => h) (by rfl) ?_ ?_ ?_
            rotate_left
            · intro w'; go_simp; with_reducible rfl
            rotate_left
            · simp only [Act.put, n1, n2, n3]; rfl
            refine pu 33 17179869183 (N := some 108) (v := ?_) (a' := ?_) rfl rfl (by kernel_rfl) (fun _ _ _ h => h) (by rfl) ?_ ?_ ?_
            rotate_left
            · intro w'; go_simp; with_reducible rfl
            rotate_left
            · simp only [Act.put, n1, n2, n3]; rfl
            refine pu 34 34359738367 (N := some 109) (v := ?_) (a' := ?_) rfl rfl (by kernel_rfl) (fun _ _ _ h => h) (by rfl) ?_ ?_ ?_
            rotate_left
            · intro w'; go_simp; with_reducible rfl
            rotate_left
            · simp only [Act.put, n1, n2, n3]; rfl
            refine pu 35 68719476735 (N := some 110) (v := ?_) (a' := ?_) rfl rfl (by kernel_rfl) (fun _ _ _ h => h) (by rfl) ?_ ?_ ?_
            rotate_left
            · intro w'; go_simp; with_reducible rfl
            rotate_left
            · simp only [Act.put, n1, n2, n3]; rfl
            refine tk 36 137438953471 (N := some 111) (v := ?_) (a' := ?_) rfl rfl (by kernel_rfl) (fun _ _ _ h => h) (by rfl) ?_ hHeld ?_ ?_
            rotate_left
            · rintro w' ⟨s0, s1⟩; go_simp; with_reducible rfl
            rotate_left
            · simp only [Act.put, n1, n2, n3]; rfl
            refine pu 37 274877906943 (N := some 112) (v := ?_) (a' := ?_) rfl rfl (by kernel_rfl) (fun _ _ _ h => h) (by rfl) ?_ ?_ ?_
            rotate_left
            · intro w'; go_simp; with_reducible rfl
            rotate_left
            · simp only [Act.put, n1, n2, n3]; rfl
            refine pu 38 549755813887 (N := some 113) (v := ?_) (a' := ?_) rfl rfl (by kernel_rfl) (fun _ _ _ h => h) (by rfl) ?_ ?_ ?_
            rotate_left
            · intro w'; go_simp; with_reducible rfl
            rotate_left
            · simp only [Act.put, n1, n2, n3]; rfl
            refine po 39 1099511627775 (N := some 114) (a' := ?_) rfl rfl (by kernel_rfl) (fun _ _ _ h => h) (by rfl) ?_ ?_
            rotate_left
            · simp only [Act.put, n1, n2, n3]; rfl
            refine po 40 2199023255551 (N := some 115) (a' := ?_) rfl rfl (by kernel_rfl) (fun _ _ _ h => h) (by rfl) ?_ ?_
            rotate_left
            · simp only [Act.put, n1, n2, n3]; rfl
            refine po 41 4398046511103 (N := some 116) (a' := ?_) rfl rfl (by kernel_rfl) (fun _ _ _ h => h) (by rfl) ?_ ?_
            rotate_left
            · simp only [Act.put, n1, n2, n3]; rfl
            refine po 42 8796093022207 (N := some 117) (a' := ?_) rfl rfl (by kernel_rfl) (fun _ _ _ h => h) (by rfl) ?_ ?_
            rotate_left
            · simp only [Act.put, n1, n2, n3]; rfl
            refine po 43 17592186044415 (N := some 118) (a' := ?_) rfl rfl (by kernel_rfl) (fun _ _ _ h => h) (by rfl) ?_ ?_
            rotate_left
            · simp only [Act.put, n1, n2, n3]; rfl
            refine po 44 35184372088831 (N := some 119) (a' := ?_) rfl rfl (by kernel_rfl) (fun _ _ _ h => h) (by rfl) ?_ ?_
            rotate_left
            · simp only [Act.put, n1, n2, n3]; rfl
            refine pu 45 70368744177663 (N := some 120) (v := ?_) (a' := ?_) rfl rfl (by kernel_rfl) (fun _ _ _ h => h) (by rfl) ?_ ?_ ?_
            rotate_left
            · intro w'; go_simp; with_reducible rfl
            rotate_left
            · simp only [Act.put, n1, n2, n3]; rfl
            refine pu 46 140737488355327 (N := some 121) (v := ?_) (a' := ?_) rfl rfl (by kernel_rfl) (fun _ _ _ h => h) (by rfl) ?_ ?_ ?_
            rotate_left
            · intro w'; go_simp; with_reducible rfl
            rotate_left
            · simp only [Act.put, n1, n2, n3]; rfl
            refine pu 47 281474976710655 (N := some 122) (v := ?_) (a' := ?_) rfl rfl (by kernel_rfl) (fun _ _ _ h => h) (by rfl) ?_ ?_ ?_
            rotate_left
            · intro w'; go_simp; with_reducible rfl
            rotate_left
            · simp only [Act.put, n1, n2, n3]; rfl
            refine pu 48 562949953421311 (N := some 123) (v := ?_) (a' := ?_) rfl rfl (by kernel_rfl) (fun _ _ _ h => h) (by rfl) ?_ ?_ ?_
            rotate_left
            · intro w'; go_simp; with_reducible rfl
            rotate_left
            · simp only [Act.put, n1, n2, n3]; rfl
            refine tk 49 1125899906842623 (N := some 124) (v := ?_) (a' := ?_) rfl rfl (by kernel_rfl) (fun _ _ _ h => h) (by rfl) ?_ hHeld ?_ ?_
            rotate_left
            · rintro w' ⟨s0, s1⟩; go_simp; with_reducible rfl
            rotate_left
            · simp only [Act.put, n1, n2, n3]; rfl
            refine pu 50 2251799813685247 (N := some 125) (v := ?_) (a' := ?_) rfl rfl (by kernel_rfl) (fun _ _ _ h => h) (by rfl) ?_ ?_ ?_
            rotate_left
            · intro w'; go_simp; with_reducible rfl
            rotate_left
            · simp only [Act.put, n1, n2, n3]; rfl
            refine pu 51 4503599627370495 (N := some 126) (v := ?_) (a' := ?_) rfl rfl (by kernel_rfl) (fun _ _ _ h => h) (by rfl) ?_ ?_ ?_
            rotate_left
            · intro w'; go_simp; with_reducible rfl
            rotate_left
            · simp only [Act.put, n1, n2, n3]; rfl
            refine po 52 9007199254740991 (N := some 127) (a' := ?_) rfl rfl (by kernel_rfl) (fun _ _ _ h => h) (by rfl) ?_ ?_
            rotate_left
            · simp only [Act.put, n1, n2, n3]; rfl
            refine po 53 18014398509481983 (N := some 128) (a' := ?_) rfl rfl (by kernel_rfl) (fun _ _ _ h => h) (by rfl) ?_ ?_
            rotate_left
            · simp only [Act.put, n1, n2, n3]; rfl
            refine po 54 36028797018963967 (N := some 129) (a' := ?_) rfl rfl (by kernel_rfl) (fun _ _ _ h => h) (by rfl) ?_ ?_
            rotate_left
            · simp only [Act.put, n1, n2, n3]; rfl
            refine po 55 72057594037927935 (N := some 130) (a' := ?_) rfl rfl (by kernel_rfl) (fun _ _ _ h => h) (by rfl) ?_ ?_
            rotate_left
            · simp only [Act.put, n1, n2, n3]; rfl
            refine po 56 144115188075855871 (N := some 131) (a' := ?_) rfl rfl (by kernel_rfl) (fun _ _ _ h => h) (by rfl) ?_ ?_
            rotate_left
            · simp only [Act.put, n1, n2, n3]; rfl
            refine pu 57 288230376151711743 (N := some 132) (v := ?_) (a' := ?_) rfl rfl (by kernel_rfl) (fun _ _ _ h => h) (by rfl) ?_ ?_ ?_
            rotate_left
            · intro w'; go_simp; with_reducible rfl
            rotate_left
            · simp only [Act.put, n1, n2, n3]; rfl
            refine pu 58 576460752303423487 (N := some 133) (v := ?_) (a' := ?_) rfl rfl (by kernel_rfl) (fun _ _ _ h => h) (by rfl) ?_ ?_ ?_
            rotate_left
            · intro w'; go_simp; with_reducible rfl
            rotate_left
            · simp only [Act.put, n1, n2, n3]; rfl
            refine done_ (by kernel_rfl) ?_
            have hq0 := (HQ.out _ HG6.out).1
            have hq1 := (HQ.out _ HG6.out).2
            have hwa : wrap64 (a : Int) = (x : Int) := by rw [show (a : Int) = (x : Int) by have := HXE.out; omega]; exact wx x (by have := HX2.out; have := HL.out; omega)
            have hxa : a = x := HXE.out.symm
            have HWA := Aside0.mk hwa
            clear hwa
            obtain ⟨y, hy⟩ : ∃ y : Nat, y = l0.length - x := ⟨_, rfl⟩
            have hwl : wrap64 ((l0.length : Int) - (x : Int)) = (y : Int) := by rw [show (l0.length : Int) - (x : Int) = (y : Int) by have := HX2.out; omega]; exact wx y (by have := HL.out; omega)
            have HLF := Aside0.mk (left_at l0 x e (by have := HL.out; omega) (by have := HX2.out; omega))
            rw [← hy] at HLF
            obtain ⟨q, hq⟩ : ∃ q, (e == 0) = q := ⟨_, rfl⟩
            have hq2 : decide (e = 0) = q := by rw [← hq]; rfl
            have HGF := Aside0.mk (good_at l0 (x : Int) e)
            rw [hq] at HGF
            have hwa := HWA.out
            clear hy
            rw [hxa] at HC6
            clear hxa
            rw [e1] at hq
            subst hq
            clear hq2
            go_wp2_with fail
            refine (HC6.out.left HLF.out).mono ?_
            rintro e7 w8 ⟨rfl, hc8, hk8, hb8⟩
            have HB8 := Aside0.mk (Cur.wide2 HB6.out hb8 hlo.out.2)
            have HC8 := Aside0.mk hc8
            clear hc8 hk8 hb8
            go_wp2_with fail
            refine (HC8.out.good HGF.out).mono ?_
            rintro e8 w9 ⟨rfl, hc9, hk9, hb9⟩
            have HB9 := Aside0.mk (Cur.wide2 HB8.out hb9 hlo.out.2)
            have HC9 := Aside0.mk hc9
            clear hc9 hk9 hb9
            go_wp2_with fail
            clear hwa hwl
            go_roundg k1
            case measure => omega
            case rel => exact ⟨i + 1, x, e, by first | rfl | (rw [HWA.out]) | (congr 1; exact HWA.out), rfl, by first | rfl | exact congrArg (Value.int .i64) (wr1 i (by have := HIL.out; have := HL.out; omega)), ⟨by have := HI.out; omega⟩, HX2, HC9, HB9⟩
      by_cases hd3 : d = 3
      · subst hd3
        clear h h2
        by_cases he : e = 0
        · subst he
          as_aux_lemma =>
            have HG4 := Aside0.mk (blk_new wr (.cells #[.int .i64 3, .int .i64 N] 38))
            have HBa := Aside0.mk (below_alloc (Below.refl wr.heap.size wr) (.cells #[.int .i64 3, .int .i64 N] 38))
            have HB4 := Aside0.mk (below_step HB.out HBa.out)
            have HC4 := Aside0.mk (HC.out.below HBa.out)
            have hq0 := blk_cell HG4.out 0
            have hq1 := blk_cell HG4.out 1
            simp only [List.getElem?_toArray, List.getElem?_cons_zero, List.getElem?_cons_succ] at hq0 hq1
            have HLT := Aside0.mk HC.out.lt
            clear HC HB HBa hi
            go_wp2_with (first | ((with_reducible refine gate_dst (N := 40) rfl ?_); refine load_at rfl 38 _ rfl (ad.add (i * 2)) ?hx [.int .i64 3, .int .i64 N] HX.out _ Try.underlying38 rfl (by rw [infoAct]; rfl) ?_; (case hx => rfl)) | ((with_reducible refine gate_dst (N := 67) rfl ?_); refine wpList_load_row rfl 38 _ rfl wr.heap.size (by rfl) 38 #[.int .i64 3, .int .i64 N] (0, 0) _ HG4.out Try.underlying38 rfl (by rw [infoAct]; rfl) ?_))
            refine (step_3 A0 c0 l0 a N _ (Kd.C_below HR0.out HB4.out) HC0.out HY.out HL.out.1 HE.out.1 HN.out.2).mono ?_
            rintro e5 w5 ⟨n, bs, s, er, A5, c5, rfl, hR, hle, hcs, hb5⟩
            have HG5 := Aside0.mk ((hb5.block _ (blk_lt HG4.out)).trans HG4.out)
            have HB5 := Aside0.mk (below_step HB4.out hb5)
            have HC5 := Aside0.mk (HC4.out.below hb5)
            have HNE := Aside0.mk (show g < wr.heap.size from HLT.out)
            obtain ⟨x, hx⟩ : ∃ x : Nat, x = a + s := ⟨_, rfl⟩
            unfold StepR at hR
            rw [← hx] at hR
            have HX2 := Aside0.mk (show x ≤ l0.length ∧ 0 ≤ er ∧ er ≤ 8 from ⟨hR.1, hR.2.1⟩)
            have HXE := Aside0.mk hx
            have hs5 : (s : Int) = (x : Int) - (a : Int) := by omega
            have HF := Aside0.mk (hR.2.2.2.2.2.1 rfl)
            clear hR hle hcs hb5 hq0 hq1 hx HG4 HB4 HC4 hs5
            go_wp2_with fail
            have HQ : Aside0 (∀ W : World, W.heap[wr.heap.size]? = some (.cells #[.int .i64 3, .int .i64 N] 38 (0, 0)) → W.cell? ⟨wr.heap.size, 0, none⟩ = some (.int .i64 3) ∧ W.cell? ⟨wr.heap.size, 1, none⟩ = some (.int .i64 N)) := ⟨fun W hW => ⟨blk_cell hW 0, blk_cell hW 1⟩⟩
            have HGd : Aside0 (w5.drew.heap[wr.heap.size]? = some (.cells #[.int .i64 3, .int .i64 N] 38 (0, 0))) := ⟨HG5.out⟩
            have HBd := Aside0.mk (below_drew1 HB5.out)
            have HCd := Aside0.mk (HC5.out.below (below_drew1 (Below.refl _ w5)))
            clear HG5 HB5 HC5
            refine start_ (n := 59) (S := fun w' => w'.cell? ⟨wr.heap.size, 0, none⟩ = some (.int .i64 3) ∧ w'.cell? ⟨wr.heap.size, 1, none⟩ = some (.int .i64 N)) (ds := []) #[false, false, false, false, false, false, false, false, false, false, false, false, false, false, false, false, false, false, false, false, false, false, false, false, false, false, false, false, false, false, false, false, false, false, false, false, false, false, false, false, false, false, false, false, false, false, false, false, false, false, false, false, false, false, false, false, false, false, false] (by kernel_rfl) rfl rfl ⟨(HQ.out _ HGd.out).1, (HQ.out _ HGd.out).2⟩ (fun hHeld => ?_)
            refine pu 0 1 (N := some 75) (v := ?_) (a' := ?_) rfl rfl (by kernel_rfl) (fun _ _ _ h => h) (by rfl) ?_ ?_ ?_
            rotate_left
            · intro w'; go_simp; with_reducible rfl
            rotate_left
            · simp only [Act.put, n1, n2, n3]; rfl
            refine tk 1 3 (N := some 76) (v := ?_) (a' := ?_) rfl rfl (by kernel_rfl) (fun _ _ _ h => h) (by rfl) ?_ hHeld ?_ ?_
            rotate_left
            · rintro w' ⟨s0, s1⟩; go_simp; with_reducible rfl
            rotate_left
            · simp only [Act.put, n1, n2, n3]; rfl
            refine pu 2 7 (N := some 77) (v := ?_) (a' := ?_) rfl rfl (by kernel_rfl) (fun _ _ _ h => h) (by rfl) ?_ ?_ ?_
            rotate_left
            · intro w'; go_simp; with_reducible rfl
            rotate_left
            · simp only [Act.put, n1, n2, n3]; rfl
            refine pu 3 15 (N := some 78) (v := ?_) (a' := ?_) rfl rfl (by kernel_rfl) (fun _ _ _ h => h) (by rfl) ?_ ?_ ?_
            rotate_left
            · intro w'; go_simp; with_reducible rfl
            rotate_left
            · simp only [Act.put, n1, n2, n3]; rfl
            refine po 4 31 (N := some 79) (a' := ?_) rfl rfl (by kernel_rfl) (fun _ _ _ h => h) (by rfl) ?_ ?_
            rotate_left
            · simp only [Act.put, n1, n2, n3]; rfl
            refine po 5 63 (N := some 80) (a' := ?_) rfl rfl (by kernel_rfl) (fun _ _ _ h => h) (by rfl) ?_ ?_
            rotate_left
            · simp only [Act.put, n1, n2, n3]; rfl
            refine po 6 127 (N := some 81) (a' := ?_) rfl rfl (by kernel_rfl) (fun _ _ _ h => h) (by rfl) ?_ ?_
            rotate_left
            · simp only [Act.put, n1, n2, n3]; rfl
            refine po 7 255 (N := some 82) (a' := ?_) rfl rfl (by kernel_rfl) (fun _ _ _ h => h) (by rfl) ?_ ?_
            rotate_left
            · simp only [Act.put, n1, n2, n3]; rfl
            refine pu 8 511 (N := some 83) (v := ?_) (a' := ?_) rfl rfl (by kernel_rfl) (fun _ _ _ h => h) (by rfl) ?_ ?_ ?_
            rotate_left
            · intro w'; go_simp; with_reducible rfl
            rotate_left
            · simp only [Act.put, n1, n2, n3]; rfl
            refine pu 9 1023 (N := some 84) (v := ?_) (a' := ?_) rfl rfl (by kernel_rfl) (fun _ _ _ h => h) (by rfl) ?_ ?_ ?_
            rotate_left
            · intro w'; go_simp; with_reducible rfl
            rotate_left
            · simp only [Act.put, n1, n2, n3]; rfl
            refine pu 10 2047 (N := some 85) (v := ?_) (a' := ?_) rfl rfl (by kernel_rfl) (fun _ _ _ h => h) (by rfl) ?_ ?_ ?_
            rotate_left
            · intro w'; go_simp; with_reducible rfl
            rotate_left
            · simp only [Act.put, n1, n2, n3]; rfl
            refine tk 11 4095 (N := some 86) (v := ?_) (a' := ?_) rfl rfl (by kernel_rfl) (fun _ _ _ h => h) (by rfl) ?_ hHeld ?_ ?_
            rotate_left
            · rintro w' ⟨s0, s1⟩; go_simp; with_reducible rfl
            rotate_left
            · simp only [Act.put, n1, n2, n3]; rfl
            refine pu 12 8191 (N := some 87) (v := ?_) (a' := ?_) rfl rfl (by kernel_rfl) (fun _ _ _ h => h) (by rfl) ?_ ?_ ?_
            rotate_left
            · intro w'; go_simp; with_reducible rfl
            rotate_left
            · simp only [Act.put, n1, n2, n3]; rfl
            refine pu 13 16383 (N := some 88) (v := ?_) (a' := ?_) rfl rfl (by kernel_rfl) (fun _ _ _ h => h) (by rfl) ?_ ?_ ?_
            rotate_left
            · intro w'; go_simp; with_reducible rfl
            rotate_left
            · simp only [Act.put, n1, n2, n3]; rfl
            refine po 14 32767 (N := some 89) (a' := ?_) rfl rfl (by kernel_rfl) (fun _ _ _ h => h) (by rfl) ?_ ?_
            rotate_left
            · simp only [Act.put, n1, n2, n3]; rfl
            refine po 15 65535 (N := some 90) (a' := ?_) rfl rfl (by kernel_rfl) (fun _ _ _ h => h) (by rfl) ?_ ?_
            rotate_left
            · simp only [Act.put, n1, n2, n3]; rfl
            refine po 16 131071 (N := some 91) (a' := ?_) rfl rfl (by kernel_rfl) (fun _ _ _ h => h) (by rfl) ?_ ?_
            rotate_left
            · simp only [Act.put, n1, n2, n3]; rfl
            refine po 17 262143 (N := some 92) (a' := ?_) rfl rfl (by kernel_rfl) (fun _ _ _ h => h) (by rfl) ?_ ?_
            rotate_left
            · simp only [Act.put, n1, n2, n3]; rfl
            refine po 18 524287 (N := some 93) (a' := ?_) rfl rfl (by kernel_rfl) (fun _ _ _ h => h) (by rfl) ?_ ?_
            rotate_left
            · simp only [Act.put, n1, n2, n3]; rfl
            refine po 19 1048575 (N := some 94) (a' := ?_) rfl rfl (by kernel_rfl) (fun _ _ _ h => h) (by rfl) ?_ ?_
            rotate_left
            · simp only [Act.put, n1, n2, n3]; rfl
            refine po 20 2097151 (N := some 95) (a' := ?_) rfl rfl (by kernel_rfl) (fun _ _ _ h => h) (by rfl) ?_ ?_
            rotate_left
            · simp only [Act.put, n1, n2, n3]; rfl
            refine pu 21 4194303 (N := some 96) (v := ?_) (a' := ?_) rfl rfl (by kernel_rfl) (fun _ _ _ h => h) (by rfl) ?_ ?_ ?_
            rotate_left
            · intro w'; go_simp; with_reducible rfl
            rotate_left
            · simp only [Act.put, n1, n2, n3]; rfl
            refine pu 22 8388607 (N := some 97) (v := ?_) (a' := ?_) rfl rfl (by kernel_rfl) (fun _ _ _ h => h) (by rfl) ?_ ?_ ?_
            rotate_left
            · intro w'; go_simp; with_reducible rfl
            rotate_left
            · simp only [Act.put, n1, n2, n3]; rfl
            refine pu 23 16777215 (N := some 98) (v := ?_) (a' := ?_) rfl rfl (by kernel_rfl) (fun _ _ _ h => h) (by rfl) ?_ ?_ ?_
            rotate_left
            · intro w'; go_simp; with_reducible rfl
            rotate_left
            · simp only [Act.put, n1, n2, n3]; rfl
            refine pu 24 33554431 (N := some 99) (v := ?_) (a' := ?_) rfl rfl (by kernel_rfl) (fun _ _ _ h => h) (by rfl) ?_ ?_ ?_
            rotate_left
            · intro w'; go_simp; with_reducible rfl
            rotate_left
            · simp only [Act.put, n1, n2, n3]; rfl
            refine tk 25 67108863 (N := some 100) (v := ?_) (a' := ?_) rfl rfl (by kernel_rfl) (fun _ _ _ h => h) (by rfl) ?_ hHeld ?_ ?_
            rotate_left
            · rintro w' ⟨s0, s1⟩; go_simp; with_reducible rfl
            rotate_left
            · simp only [Act.put, n1, n2, n3]; rfl
            refine pu 26 134217727 (N := some 101) (v := ?_) (a' := ?_) rfl rfl (by kernel_rfl) (fun _ _ _ h => h) (by rfl) ?_ ?_ ?_
            rotate_left
            · intro w'; go_simp; with_reducible rfl
            rotate_left
            · simp only [Act.put, n1, n2, n3]; rfl
            refine pu 27 268435455 (N := some 102) (v := ?_) (a' := ?_) rfl rfl (by kernel_rfl) (fun _ _ _ h => h) (by rfl) ?_ ?_ ?_
            rotate_left
            · intro w'; go_simp; with_reducible rfl
            rotate_left
            · simp only [Act.put, n1, n2, n3]; rfl
            refine po 28 536870911 (N := some 103) (a' := ?_) rfl rfl (by kernel_rfl) (fun _ _ _ h => h) (by rfl) ?_ ?_
            rotate_left
            · simp only [Act.put, n1, n2, n3]; rfl
            refine po 29 1073741823 (N := some 104) (a' := ?_) rfl rfl (by kernel_rfl) (fun _ _ _ h => h) (by rfl) ?_ ?_
            rotate_left
            · simp only [Act.put, n1, n2, n3]; rfl
            refine po 30 2147483647 (N := some 105) (a' := ?_) rfl rfl (by kernel_rfl) (fun _ _ _ h => h) (by rfl) ?_ ?_
            rotate_left
            · simp only [Act.put, n1, n2, n3]; rfl
            refine po 31 4294967295 (N := some 106) (a' := ?_) rfl rfl (by kernel_rfl) (fun _ _ _ h => h) (by rfl) ?_ ?_
            rotate_left
            · simp only [Act.put, n1, n2, n3]; rfl
            refine pu 32 8589934591 (N := some 107) (v := ?_) (a' := ?_) rfl rfl (by kernel_rfl) (fun _ _ _ h => h) (by rfl) ?_ ?_ ?_
            rotate_left
            · intro w'; go_simp; with_reducible rfl
            rotate_left
            · simp only [Act.put, n1, n2, n3]; rfl
            refine pu 33 17179869183 (N := some 108) (v := ?_) (a' := ?_) rfl rfl (by kernel_rfl) (fun _ _ _ h => h) (by rfl) ?_ ?_ ?_
            rotate_left
            · intro w'; go_simp; with_reducible rfl
            rotate_left
            · simp only [Act.put, n1, n2, n3]; rfl
            refine pu 34 34359738367 (N := some 109) (v := ?_) (a' := ?_) rfl rfl (by kernel_rfl) (fun _ _ _ h => h) (by rfl) ?_ ?_ ?_
            rotate_left
            · intro w'; go_simp; with_reducible rfl
            rotate_left
            · simp only [Act.put, n1, n2, n3]; rfl
            refine pu 35 68719476735 (N := some 110) (v := ?_) (a' := ?_) rfl rfl (by kernel_rfl) (fun _ _ _ h => h) (by rfl) ?_ ?_ ?_
            rotate_left
            · intro w'; go_simp; with_reducible rfl
            rotate_left
            · simp only [Act.put, n1, n2, n3]; rfl
            refine tk 36 137438953471 (N := some 111) (v := ?_) (a' := ?_) rfl rfl (by kernel_rfl) (fun _ _ _ h => h) (by rfl) ?_ hHeld ?_ ?_
            rotate_left
            · rintro w' ⟨s0, s1⟩; go_simp; with_reducible rfl
            rotate_left
            · simp only [Act.put, n1, n2, n3]; rfl
            refine pu 37 274877906943 (N := some 112) (v := ?_) (a' := ?_) rfl rfl (by kernel_rfl) (fun _ _ _ h => h) (by rfl) ?_ ?_ ?_
            rotate_left
            · intro w'; go_simp; with_reducible rfl
            rotate_left
            · simp only [Act.put, n1, n2, n3]; rfl
            refine pu 38 549755813887 (N := some 113) (v := ?_) (a' := ?_) rfl rfl (by kernel_rfl) (fun _ _ _ h => h) (by rfl) ?_ ?_ ?_
            rotate_left
            · intro w'; go_simp; with_reducible rfl
            rotate_left
            · simp only [Act.put, n1, n2, n3]; rfl
            refine pu 39 1099511627775 (N := some 114) (v := ?_) (a' := ?_) rfl rfl (by kernel_rfl) (fun _ _ _ h => h) (by rfl) ?_ ?_ ?_
            rotate_left
            · intro w'; go_simp; with_reducible rfl
            rotate_left
            · simp only [Act.put, n1, n2, n3]; rfl
            refine pu 40 2199023255551 (N := some 115) (v := ?_) (a' := ?_) rfl rfl (by kernel_rfl) (fun _ _ _ h => h) (by rfl) ?_ ?_ ?_
            rotate_left
            · intro w'; go_simp; with_reducible rfl
            rotate_left
            · simp only [Act.put, n1, n2, n3]; rfl
            refine pu 43 10995116277759 (N := some 118) (v := ?_) (a' := ?_) rfl rfl (by kernel_rfl) (fun _ _ _ h => h) (by rfl) ?_ ?_ ?_
            rotate_left
            · intro w'; go_simp; with_reducible rfl
            rotate_left
            · simp only [Act.put, n1, n2, n3]; rfl
            refine tk 41 13194139533311 (N := some 116) (v := ?_) (a' := ?_) rfl rfl (by kernel_rfl) (fun _ _ _ h => h) (by rfl) ?_ hHeld ?_ ?_
            rotate_left
            · rintro w' ⟨s0, s1⟩; go_simp; with_reducible rfl
            rotate_left
            · simp only [Act.put, n1, n2, n3]; rfl
            refine one_ (i := 42) (N := some 117) #[true, true, true, true, true, true, true, true, true, true, true, true, true, true, true, true, true, true, true, true, true, true, true, true, true, true, true, true, true, true, true, true, true, true, true, true, true, true, true, true, true, true, true, true, false, false, false, false, false, false, false, false, false, false, false, false, false, false, false] rfl rfl (by kernel_rfl) (by decide) (fun K hK => ?_)
            refine goes_ Try.func26 (by kernel_rfl) rfl #[.pointer (some ⟨g, 0, none⟩), .int .i64 N] (by rfl) rfl rfl (by simp only [List.map_toArray, List.map_cons, List.map_nil]; rfl) ?_
            with_reducible refine (HCd.out.most HF.out).mono ?_
            rintro e6 w6 ⟨rfl, hc6, hk6, hb6⟩
            refine ⟨_, rfl, ?_⟩
            have HG6 := Aside0.mk ((hk6.2 wr.heap.size (blk_lt HGd.out) (by have := HNE.out; omega) (by simp)).trans HGd.out)
            have HB6 := Aside0.mk (Cur.wide2 HBd.out hb6 hlo.out.2)
            have HC6 := Aside0.mk hc6
            clear hc6 hk6 hb6
            refine hK.out _ _ ⟨(HQ.out _ HG6.out).1, (HQ.out _ HG6.out).2⟩ (fun hHeld => ?_)
            clear hK K
            refine norm_ (a' := ?_) ?_ ?_
            rotate_left
            · show Act.put _ (some 117) _ = _
              simp only [Act.put, List.setIfInBounds_toArray, List.set_cons_zero, List.set_cons_succ, i64_w, i32_w]
              rfl
            refine pu 44 35184372088831 (N := some 119) (v := ?_) (a' := ?_) rfl rfl (by kernel_rfl) (fun _ _ _ h => h) (by rfl) ?_ ?_ ?_
            rotate_left
            · intro w'; go_simp; with_reducible rfl
            rotate_left
            · simp only [Act.put, n1, n2, n3]; rfl
            refine pu 45 70368744177663 (N := some 120) (v := ?_) (a' := ?_) rfl rfl (by kernel_rfl) (fun _ _ _ h => h) (by rfl) ?_ ?_ ?_
            rotate_left
            · intro w'; go_simp; with_reducible rfl
            rotate_left
            · simp only [Act.put, n1, n2, n3]; rfl
            refine pu 46 140737488355327 (N := some 121) (v := ?_) (a' := ?_) rfl rfl (by kernel_rfl) (fun _ _ _ h => h) (by rfl) ?_ ?_ ?_
            rotate_left
            · intro w'; go_simp; with_reducible rfl
            rotate_left
            · simp only [Act.put, n1, n2, n3]; rfl
            refine pu 47 281474976710655 (N := some 122) (v := ?_) (a' := ?_) rfl rfl (by kernel_rfl) (fun _ _ _ h => h) (by rfl) ?_ ?_ ?_
            rotate_left
            · intro w'; go_simp; with_reducible rfl
            rotate_left
            · simp only [Act.put, n1, n2, n3]; rfl
            refine pu 48 562949953421311 (N := some 123) (v := ?_) (a' := ?_) rfl rfl (by kernel_rfl) (fun _ _ _ h => h) (by rfl) ?_ ?_ ?_
            rotate_left
            · intro w'; go_simp; with_reducible rfl
            rotate_left
            · simp only [Act.put, n1, n2, n3]; rfl
            refine tk 49 1125899906842623 (N := some 124) (v := ?_) (a' := ?_) rfl rfl (by kernel_rfl) (fun _ _ _ h => h) (by rfl) ?_ hHeld ?_ ?_
            rotate_left
            · rintro w' ⟨s0, s1⟩; go_simp; with_reducible rfl
            rotate_left
            · simp only [Act.put, n1, n2, n3]; rfl
            refine pu 50 2251799813685247 (N := some 125) (v := ?_) (a' := ?_) rfl rfl (by kernel_rfl) (fun _ _ _ h => h) (by rfl) ?_ ?_ ?_
            rotate_left
            · intro w'; go_simp; with_reducible rfl
            rotate_left
            · simp only [Act.put, n1, n2, n3]; rfl
            refine pu 51 4503599627370495 (N := some 126) (v := ?_) (a' := ?_) rfl rfl (by kernel_rfl) (fun _ _ _ h => h) (by rfl) ?_ ?_ ?_
            rotate_left
            · intro w'; go_simp; with_reducible rfl
            rotate_left
            · simp only [Act.put, n1, n2, n3]; rfl
            refine po 52 9007199254740991 (N := some 127) (a' := ?_) rfl rfl (by kernel_rfl) (fun _ _ _ h => h) (by rfl) ?_ ?_
            rotate_left
            · simp only [Act.put, n1, n2, n3]; rfl
            refine po 53 18014398509481983 (N := some 128) (a' := ?_) rfl rfl (by kernel_rfl) (fun _ _ _ h => h) (by rfl) ?_ ?_
            rotate_left
            · simp only [Act.put, n1, n2, n3]; rfl
            refine po 54 36028797018963967 (N := some 129) (a' := ?_) rfl rfl (by kernel_rfl) (fun _ _ _ h => h) (by rfl) ?_ ?_
            rotate_left
            · simp only [Act.put, n1, n2, n3]; rfl
            refine po 55 72057594037927935 (N := some 130) (a' := ?_) rfl rfl (by kernel_rfl) (fun _ _ _ h => h) (by rfl) ?_ ?_
            rotate_left
            · simp only [Act.put, n1, n2, n3]; rfl
            refine po 56 144115188075855871 (N := some 131) (a' := ?_) rfl rfl (by kernel_rfl) (fun _ _ _ h => h) (by rfl) ?_ ?_
            rotate_left
            · simp only [Act.put, n1, n2, n3]; rfl
            refine pu 57 288230376151711743 (N := some 132) (v := ?_) (a' := ?_) rfl rfl (by kernel_rfl) (fun _ _ _ h => h) (by rfl) ?_ ?_ ?_
            rotate_left
            · intro w'; go_simp; with_reducible rfl
            rotate_left
            · simp only [Act.put, n1, n2, n3]; rfl
            refine pu 58 576460752303423487 (N := some 133) (v := ?_) (a' := ?_) rfl rfl (by kernel_rfl) (fun _ _ _ h => h) (by rfl) ?_ ?_ ?_
            rotate_left
            · intro w'; go_simp; with_reducible rfl
            rotate_left
            · simp only [Act.put, n1, n2, n3]; rfl
            refine done_ (by kernel_rfl) ?_
            have hq0 := (HQ.out _ HG6.out).1
            have hq1 := (HQ.out _ HG6.out).2
            have hwa : wrap64 ((a : Int) + (s : Int)) = (x : Int) := by rw [show (a : Int) + (s : Int) = (x : Int) by have := HXE.out; omega]; exact wx x (by have := HX2.out; have := HL.out; omega)
            have HWA := Aside0.mk hwa
            clear hwa
            obtain ⟨y, hy⟩ : ∃ y : Nat, y = l0.length - x := ⟨_, rfl⟩
            have hwl : wrap64 ((l0.length : Int) - (x : Int)) = (y : Int) := by rw [show (l0.length : Int) - (x : Int) = (y : Int) by have := HX2.out; omega]; exact wx y (by have := HL.out; omega)
            have HLF := Aside0.mk (left_at l0 x er (by have := HL.out; omega) (by have := HX2.out; omega))
            rw [← hy] at HLF
            obtain ⟨q, hq⟩ : ∃ q, (er == 0) = q := ⟨_, rfl⟩
            have hq2 : decide (er = 0) = q := by rw [← hq]; rfl
            have HGF := Aside0.mk (good_at l0 (x : Int) er)
            rw [hq] at HGF
            have hwa := HWA.out
            clear hy
            go_wp2_with fail
            refine (HC6.out.left HLF.out).mono ?_
            rintro e7 w8 ⟨rfl, hc8, hk8, hb8⟩
            have HB8 := Aside0.mk (Cur.wide2 HB6.out hb8 hlo.out.2)
            have HC8 := Aside0.mk hc8
            clear hc8 hk8 hb8
            go_wp2_with fail
            refine (HC8.out.good HGF.out).mono ?_
            rintro e8 w9 ⟨rfl, hc9, hk9, hb9⟩
            have HB9 := Aside0.mk (Cur.wide2 HB8.out hb9 hlo.out.2)
            have HC9 := Aside0.mk hc9
            clear hc9 hk9 hb9
            go_wp2_with fail
            clear hwa hwl
            go_roundg k1
            case measure => omega
            case rel => exact ⟨i + 1, x, er, by first | rfl | (rw [HWA.out]) | (congr 1; exact HWA.out), rfl, by first | rfl | exact congrArg (Value.int .i64) (wr1 i (by have := HIL.out; have := HL.out; omega)), ⟨by have := HI.out; omega⟩, HX2, HC9, HB9⟩
        · as_aux_lemma =>
            have e1 : (e == 0) = false := by simpa using he
            have e2 : (e != 0) = true := by simpa using he
            have e3 : decide (e = 0) = false := decide_eq_false he
            have HNZ := Aside0.mk he
            have HG4 := Aside0.mk (blk_new wr (.cells #[.int .i64 3, .int .i64 N] 38))
            have HBa := Aside0.mk (below_alloc (Below.refl wr.heap.size wr) (.cells #[.int .i64 3, .int .i64 N] 38))
            have HB4 := Aside0.mk (below_step HB.out HBa.out)
            have HC4 := Aside0.mk (HC.out.below HBa.out)
            have hq0 := blk_cell HG4.out 0
            have hq1 := blk_cell HG4.out 1
            simp only [List.getElem?_toArray, List.getElem?_cons_zero, List.getElem?_cons_succ] at hq0 hq1
            have HLT := Aside0.mk HC.out.lt
            clear HC HB HBa hi he
            go_wp2_with (first | ((with_reducible refine gate_dst (N := 40) rfl ?_); refine load_at rfl 38 _ rfl (ad.add (i * 2)) ?hx [.int .i64 3, .int .i64 N] HX.out _ Try.underlying38 rfl (by rw [infoAct]; rfl) ?_; (case hx => rfl)) | ((with_reducible refine gate_dst (N := 67) rfl ?_); refine wpList_load_row rfl 38 _ rfl wr.heap.size (by rfl) 38 #[.int .i64 3, .int .i64 N] (0, 0) _ HG4.out Try.underlying38 rfl (by rw [infoAct]; rfl) ?_))
            refine (step_3 A0 c0 l0 a N _ (Kd.C_below HR0.out HB4.out) HC0.out HY.out HL.out.1 HE.out.1 HN.out.2).mono ?_
            rintro e5 w5 ⟨n, bs, s, er, A5, c5, rfl, hR, hle, hcs, hb5⟩
            have HG5 := Aside0.mk ((hb5.block _ (blk_lt HG4.out)).trans HG4.out)
            have HB5 := Aside0.mk (below_step HB4.out hb5)
            have HC5 := Aside0.mk (HC4.out.below hb5)
            have HNE := Aside0.mk (show g < wr.heap.size from HLT.out)
            obtain ⟨x, hx⟩ : ∃ x : Nat, x = a := ⟨_, rfl⟩
            have HX2 := Aside0.mk (show x ≤ l0.length ∧ 0 ≤ e ∧ e ≤ 8 by rw [hx]; exact HE.out)
            have HXE := Aside0.mk hx
            have HF := Aside0.mk (most_bad l0 (a : Int) e N HNZ.out)
            clear hR hle hcs hb5 hq0 hq1 hx HG4 HB4 HC4
            go_wp2_with fail
            have HQ : Aside0 (∀ W : World, W.heap[wr.heap.size]? = some (.cells #[.int .i64 3, .int .i64 N] 38 (0, 0)) → W.cell? ⟨wr.heap.size, 0, none⟩ = some (.int .i64 3) ∧ W.cell? ⟨wr.heap.size, 1, none⟩ = some (.int .i64 N)) := ⟨fun W hW => ⟨blk_cell hW 0, blk_cell hW 1⟩⟩
            have HGd : Aside0 (w5.drew.heap[wr.heap.size]? = some (.cells #[.int .i64 3, .int .i64 N] 38 (0, 0))) := ⟨HG5.out⟩
            have HBd := Aside0.mk (below_drew1 HB5.out)
            have HCd := Aside0.mk (HC5.out.below (below_drew1 (Below.refl _ w5)))
            clear HG5 HB5 HC5
            refine start_ (n := 59) (S := fun w' => w'.cell? ⟨wr.heap.size, 0, none⟩ = some (.int .i64 3) ∧ w'.cell? ⟨wr.heap.size, 1, none⟩ = some (.int .i64 N)) (ds := []) #[false, false, false, false, false, false, false, false, false, false, false, false, false, false, false, false, false, false, false, false, false, false, false, false, false, false, false, false, false, false, false, false, false, false, false, false, false, false, false, false, false, false, false, false, false, false, false, false, false, false, false, false, false, false, false, false, false, false, false] (by kernel_rfl) rfl rfl ⟨(HQ.out _ HGd.out).1, (HQ.out _ HGd.out).2⟩ (fun hHeld => ?_)
            refine pu 0 1 (N := some 75) (v := ?_) (a' := ?_) rfl rfl (by kernel_rfl) (fun _ _ _ h => h) (by rfl) ?_ ?_ ?_
            rotate_left
            · intro w'; go_simp; with_reducible rfl
            rotate_left
            · simp only [Act.put, n1, n2, n3]; rfl
            refine tk 1 3 (N := some 76) (v := ?_) (a' := ?_) rfl rfl (by kernel_rfl) (fun _ _ _ h => h) (by rfl) ?_ hHeld ?_ ?_
            rotate_left
            · rintro w' ⟨s0, s1⟩; go_simp; with_reducible rfl
            rotate_left
            · simp only [Act.put, n1, n2, n3]; rfl
            refine pu 2 7 (N := some 77) (v := ?_) (a' := ?_) rfl rfl (by kernel_rfl) (fun _ _ _ h => h) (by rfl) ?_ ?_ ?_
            rotate_left
            · intro w'; go_simp; with_reducible rfl
            rotate_left
            · simp only [Act.put, n1, n2, n3]; rfl
            refine pu 3 15 (N := some 78) (v := ?_) (a' := ?_) rfl rfl (by kernel_rfl) (fun _ _ _ h => h) (by rfl) ?_ ?_ ?_
            rotate_left
            · intro w'; go_simp; with_reducible rfl
            rotate_left
            · simp only [Act.put, n1, n2, n3]; rfl
            refine po 4 31 (N := some 79) (a' := ?_) rfl rfl (by kernel_rfl) (fun _ _ _ h => h) (by rfl) ?_ ?_
            rotate_left
            · simp only [Act.put, n1, n2, n3]; rfl
            refine po 5 63 (N := some 80) (a' := ?_) rfl rfl (by kernel_rfl) (fun _ _ _ h => h) (by rfl) ?_ ?_
            rotate_left
            · simp only [Act.put, n1, n2, n3]; rfl
            refine po 6 127 (N := some 81) (a' := ?_) rfl rfl (by kernel_rfl) (fun _ _ _ h => h) (by rfl) ?_ ?_
            rotate_left
            · simp only [Act.put, n1, n2, n3]; rfl
            refine po 7 255 (N := some 82) (a' := ?_) rfl rfl (by kernel_rfl) (fun _ _ _ h => h) (by rfl) ?_ ?_
            rotate_left
            · simp only [Act.put, n1, n2, n3]; rfl
            refine pu 8 511 (N := some 83) (v := ?_) (a' := ?_) rfl rfl (by kernel_rfl) (fun _ _ _ h => h) (by rfl) ?_ ?_ ?_
            rotate_left
            · intro w'; go_simp; with_reducible rfl
            rotate_left
            · simp only [Act.put, n1, n2, n3]; rfl
            refine pu 9 1023 (N := some 84) (v := ?_) (a' := ?_) rfl rfl (by kernel_rfl) (fun _ _ _ h => h) (by rfl) ?_ ?_ ?_
            rotate_left
            · intro w'; go_simp; with_reducible rfl
            rotate_left
            · simp only [Act.put, n1, n2, n3]; rfl
            refine pu 10 2047 (N := some 85) (v := ?_) (a' := ?_) rfl rfl (by kernel_rfl) (fun _ _ _ h => h) (by rfl) ?_ ?_ ?_
            rotate_left
            · intro w'; go_simp; with_reducible rfl
            rotate_left
            · simp only [Act.put, n1, n2, n3]; rfl
            refine tk 11 4095 (N := some 86) (v := ?_) (a' := ?_) rfl rfl (by kernel_rfl) (fun _ _ _ h => h) (by rfl) ?_ hHeld ?_ ?_
            rotate_left
            · rintro w' ⟨s0, s1⟩; go_simp; with_reducible rfl
            rotate_left
            · simp only [Act.put, n1, n2, n3]; rfl
            refine pu 12 8191 (N := some 87) (v := ?_) (a' := ?_) rfl rfl (by kernel_rfl) (fun _ _ _ h => h) (by rfl) ?_ ?_ ?_
            rotate_left
            · intro w'; go_simp; with_reducible rfl
            rotate_left
            · simp only [Act.put, n1, n2, n3]; rfl
            refine pu 13 16383 (N := some 88) (v := ?_) (a' := ?_) rfl rfl (by kernel_rfl) (fun _ _ _ h => h) (by rfl) ?_ ?_ ?_
            rotate_left
            · intro w'; go_simp; with_reducible rfl
            rotate_left
            · simp only [Act.put, n1, n2, n3]; rfl
            refine po 14 32767 (N := some 89) (a' := ?_) rfl rfl (by kernel_rfl) (fun _ _ _ h => h) (by rfl) ?_ ?_
            rotate_left
            · simp only [Act.put, n1, n2, n3]; rfl
            refine po 15 65535 (N := some 90) (a' := ?_) rfl rfl (by kernel_rfl) (fun _ _ _ h => h) (by rfl) ?_ ?_
            rotate_left
            · simp only [Act.put, n1, n2, n3]; rfl
            refine po 16 131071 (N := some 91) (a' := ?_) rfl rfl (by kernel_rfl) (fun _ _ _ h => h) (by rfl) ?_ ?_
            rotate_left
            · simp only [Act.put, n1, n2, n3]; rfl
            refine po 17 262143 (N := some 92) (a' := ?_) rfl rfl (by kernel_rfl) (fun _ _ _ h => h) (by rfl) ?_ ?_
            rotate_left
            · simp only [Act.put, n1, n2, n3]; rfl
            refine po 18 524287 (N := some 93) (a' := ?_) rfl rfl (by kernel_rfl) (fun _ _ _ h => h) (by rfl) ?_ ?_
            rotate_left
            · simp only [Act.put, n1, n2, n3]; rfl
            refine po 19 1048575 (N := some 94) (a' := ?_) rfl rfl (by kernel_rfl) (fun _ _ _ h => h) (by rfl) ?_ ?_
            rotate_left
            · simp only [Act.put, n1, n2, n3]; rfl
            refine po 20 2097151 (N := some 95) (a' := ?_) rfl rfl (by kernel_rfl) (fun _ _ _ h => h) (by rfl) ?_ ?_
            rotate_left
            · simp only [Act.put, n1, n2, n3]; rfl
            refine pu 21 4194303 (N := some 96) (v := ?_) (a' := ?_) rfl rfl (by kernel_rfl) (fun _ _ _ h => h) (by rfl) ?_ ?_ ?_
            rotate_left
            · intro w'; go_simp; with_reducible rfl
            rotate_left
            · simp only [Act.put, n1, n2, n3]; rfl
            refine pu 22 8388607 (N := some 97) (v := ?_) (a' := ?_) rfl rfl (by kernel_rfl) (fun _ _ _ h => h) (by rfl) ?_ ?_ ?_
            rotate_left
            · intro w'; go_simp; with_reducible rfl
            rotate_left
            · simp only [Act.put, n1, n2, n3]; rfl
            refine pu 23 16777215 (N := some 98) (v := ?_) (a' := ?_) rfl rfl (by kernel_rfl) (fun _ _ _ h => h) (by rfl) ?_ ?_ ?_
            rotate_left
            · intro w'; go_simp; with_reducible rfl
            rotate_left
            · simp only [Act.put, n1, n2, n3]; rfl
            refine pu 24 33554431 (N := some 99) (v := ?_) (a' := ?_) rfl rfl (by kernel_rfl) (fun _ _ _ h => h) (by rfl) ?_ ?_ ?_
            rotate_left
            · intro w'; go_simp; with_reducible rfl
            rotate_left
            · simp only [Act.put, n1, n2, n3]; rfl
            refine tk 25 67108863 (N := some 100) (v := ?_) (a' := ?_) rfl rfl (by kernel_rfl) (fun _ _ _ h => h) (by rfl) ?_ hHeld ?_ ?_
            rotate_left
            · rintro w' ⟨s0, s1⟩; go_simp; with_reducible rfl
            rotate_left
            · simp only [Act.put, n1, n2, n3]; rfl
            refine pu 26 134217727 (N := some 101) (v := ?_) (a' := ?_) rfl rfl (by kernel_rfl) (fun _ _ _ h => h) (by rfl) ?_ ?_ ?_
            rotate_left
            · intro w'; go_simp; with_reducible rfl
            rotate_left
            · simp only [Act.put, n1, n2, n3]; rfl
            refine pu 27 268435455 (N := some 102) (v := ?_) (a' := ?_) rfl rfl (by kernel_rfl) (fun _ _ _ h => h) (by rfl) ?_ ?_ ?_
            rotate_left
            · intro w'; go_simp; with_reducible rfl
            rotate_left
            · simp only [Act.put, n1, n2, n3]; rfl
            refine po 28 536870911 (N := some 103) (a' := ?_) rfl rfl (by kernel_rfl) (fun _ _ _ h => h) (by rfl) ?_ ?_
            rotate_left
            · simp only [Act.put, n1, n2, n3]; rfl
            refine po 29 1073741823 (N := some 104) (a' := ?_) rfl rfl (by kernel_rfl) (fun _ _ _ h => h) (by rfl) ?_ ?_
            rotate_left
            · simp only [Act.put, n1, n2, n3]; rfl
            refine po 30 2147483647 (N := some 105) (a' := ?_) rfl rfl (by kernel_rfl) (fun _ _ _ h => h) (by rfl) ?_ ?_
            rotate_left
            · simp only [Act.put, n1, n2, n3]; rfl
            refine po 31 4294967295 (N := some 106) (a' := ?_) rfl rfl (by kernel_rfl) (fun _ _ _ h => h) (by rfl) ?_ ?_
            rotate_left
            · simp only [Act.put, n1, n2, n3]; rfl
            refine pu 32 8589934591 (N := some 107) (v := ?_) (a' := ?_) rfl rfl (by kernel_rfl) (fun _ _ _ h => h) (by rfl) ?_ ?_ ?_
            rotate_left
            · intro w'; go_simp; with_reducible rfl
            rotate_left
            · simp only [Act.put, n1, n2, n3]; rfl
            refine pu 33 17179869183 (N := some 108) (v := ?_) (a' := ?_) rfl rfl (by kernel_rfl) (fun _ _ _ h => h) (by rfl) ?_ ?_ ?_
            rotate_left
            · intro w'; go_simp; with_reducible rfl
            rotate_left
            · simp only [Act.put, n1, n2, n3]; rfl
            refine pu 34 34359738367 (N := some 109) (v := ?_) (a' := ?_) rfl rfl (by kernel_rfl) (fun _ _ _ h => h) (by rfl) ?_ ?_ ?_
            rotate_left
            · intro w'; go_simp; with_reducible rfl
            rotate_left
            · simp only [Act.put, n1, n2, n3]; rfl
            refine pu 35 68719476735 (N := some 110) (v := ?_) (a' := ?_) rfl rfl (by kernel_rfl) (fun _ _ _ h => h) (by rfl) ?_ ?_ ?_
            rotate_left
            · intro w'; go_simp; with_reducible rfl
            rotate_left
            · simp only [Act.put, n1, n2, n3]; rfl
            refine tk 36 137438953471 (N := some 111) (v := ?_) (a' := ?_) rfl rfl (by kernel_rfl) (fun _ _ _ h => h) (by rfl) ?_ hHeld ?_ ?_
            rotate_left
            · rintro w' ⟨s0, s1⟩; go_simp; with_reducible rfl
            rotate_left
            · simp only [Act.put, n1, n2, n3]; rfl
            refine pu 37 274877906943 (N := some 112) (v := ?_) (a' := ?_) rfl rfl (by kernel_rfl) (fun _ _ _ h => h) (by rfl) ?_ ?_ ?_
            rotate_left
            · intro w'; go_simp; with_reducible rfl
            rotate_left
            · simp only [Act.put, n1, n2, n3]; rfl
            refine pu 38 549755813887 (N := some 113) (v := ?_) (a' := ?_) rfl rfl (by kernel_rfl) (fun _ _ _ h => h) (by rfl) ?_ ?_ ?_
            rotate_left
            · intro w'; go_simp; with_reducible rfl
            rotate_left
            · simp only [Act.put, n1, n2, n3]; rfl
            refine pu 39 1099511627775 (N := some 114) (v := ?_) (a' := ?_) rfl rfl (by kernel_rfl) (fun _ _ _ h => h) (by rfl) ?_ ?_ ?_
            rotate_left
            · intro w'; go_simp; with_reducible rfl
            rotate_left
            · simp only [Act.put, n1, n2, n3]; rfl
            refine pu 40 2199023255551 (N := some 115) (v := ?_) (a' := ?_) rfl rfl (by kernel_rfl) (fun _ _ _ h => h) (by rfl) ?_ ?_ ?_
            rotate_left
            · intro w'; go_simp; with_reducible rfl
            rotate_left
            · simp only [Act.put, n1, n2, n3]; rfl
            refine pu 43 10995116277759 (N := some 118) (v := ?_) (a' := ?_) rfl rfl (by kernel_rfl) (fun _ _ _ h => h) (by rfl) ?_ ?_ ?_
            rotate_left
            · intro w'; go_simp; with_reducible rfl
            rotate_left
            · simp only [Act.put, n1, n2, n3]; rfl
            refine tk 41 13194139533311 (N := some 116) (v := ?_) (a' := ?_) rfl rfl (by kernel_rfl) (fun _ _ _ h => h) (by rfl) ?_ hHeld ?_ ?_
            rotate_left
            · rintro w' ⟨s0, s1⟩; go_simp; with_reducible rfl
            rotate_left
            · simp only [Act.put, n1, n2, n3]; rfl
            refine one_ (i := 42) (N := some 117) #[true, true, true, true, true, true, true, true, true, true, true, true, true, true, true, true, true, true, true, true, true, true, true, true, true, true, true, true, true, true, true, true, true, true, true, true, true, true, true, true, true, true, true, true, false, false, false, false, false, false, false, false, false, false, false, false, false, false, false] rfl rfl (by kernel_rfl) (by decide) (fun K hK => ?_)
            refine goes_ Try.func26 (by kernel_rfl) rfl #[.pointer (some ⟨g, 0, none⟩), .int .i64 N] (by rfl) rfl rfl (by simp only [List.map_toArray, List.map_cons, List.map_nil]; rfl) ?_
            with_reducible refine (HCd.out.most HF.out).mono ?_
            rintro e6 w6 ⟨rfl, hc6, hk6, hb6⟩
            refine ⟨_, rfl, ?_⟩
            have HG6 := Aside0.mk ((hk6.2 wr.heap.size (blk_lt HGd.out) (by have := HNE.out; omega) (by simp)).trans HGd.out)
            have HB6 := Aside0.mk (Cur.wide2 HBd.out hb6 hlo.out.2)
            have HC6 := Aside0.mk hc6
            clear hc6 hk6 hb6
            refine hK.out _ _ ⟨(HQ.out _ HG6.out).1, (HQ.out _ HG6.out).2⟩ (fun hHeld => ?_)
            clear hK K
            refine norm_ (a' := ?_) ?_ ?_
            rotate_left
            · show Act.put _ (some 117) _ = _
              simp only [Act.put, List.setIfInBounds_toArray, List.set_cons_zero, List.set_cons_succ, i64_w, i32_w]
              rfl
            refine pu 44 35184372088831 (N := some 119) (v := ?_) (a' := ?_) rfl rfl (by kernel_rfl) (fun _ _ _ h => h) (by rfl) ?_ ?_ ?_
            rotate_left
            · intro w'; go_simp; with_reducible rfl
            rotate_left
            · simp only [Act.put, n1, n2, n3]; rfl
            refine pu 45 70368744177663 (N := some 120) (v := ?_) (a' := ?_) rfl rfl (by kernel_rfl) (fun _ _ _ h => h) (by rfl) ?_ ?_ ?_
            rotate_left
            · intro w'; go_simp; with_reducible rfl
            rotate_left
            · simp only [Act.put, n1, n2, n3]; rfl
            refine pu 46 140737488355327 (N := some 121) (v := ?_) (a' := ?_) rfl rfl (by kernel_rfl) (fun _ _ _ h => h) (by rfl) ?_ ?_ ?_
            rotate_left
            · intro w'; go_simp; with_reducible rfl
            rotate_left
            · simp only [Act.put, n1, n2, n3]; rfl
            refine pu 47 281474976710655 (N := some 122) (v := ?_) (a' := ?_) rfl rfl (by kernel_rfl) (fun _ _ _ h => h) (by rfl) ?_ ?_ ?_
            rotate_left
            · intro w'; go_simp; with_reducible rfl
            rotate_left
            · simp only [Act.put, n1, n2, n3]; rfl
            refine pu 48 562949953421311 (N := some 123) (v := ?_) (a' := ?_) rfl rfl (by kernel_rfl) (fun _ _ _ h => h) (by rfl) ?_ ?_ ?_
            rotate_left
            · intro w'; go_simp; with_reducible rfl
            rotate_left
            · simp only [Act.put, n1, n2, n3]; rfl
            refine tk 49 1125899906842623 (N := some 124) (v := ?_) (a' := ?_) rfl rfl (by kernel_rfl) (fun _ _ _ h => h) (by rfl) ?_ hHeld ?_ ?_
            rotate_left
            · rintro w' ⟨s0, s1⟩; go_simp; with_reducible rfl
            rotate_left
            · simp only [Act.put, n1, n2, n3]; rfl
            refine pu 50 2251799813685247 (N := some 125) (v := ?_) (a' := ?_) rfl rfl (by kernel_rfl) (fun _ _ _ h => h) (by rfl) ?_ ?_ ?_
            rotate_left
            · intro w'; go_simp; with_reducible rfl
            rotate_left
            · simp only [Act.put, n1, n2, n3]; rfl
            refine pu 51 4503599627370495 (N := some 126) (v := ?_) (a' := ?_) rfl rfl (by kernel_rfl) (fun _ _ _ h => h) (by rfl) ?_ ?_ ?_
            rotate_left
            · intro w'; go_simp; with_reducible rfl
            rotate_left
            · simp only [Act.put, n1, n2, n3]; rfl
            refine po 52 9007199254740991 (N := some 127) (a' := ?_) rfl rfl (by kernel_rfl) (fun _ _ _ h => h) (by rfl) ?_ ?_
            rotate_left
            · simp only [Act.put, n1, n2, n3]; rfl
            refine po 53 18014398509481983 (N := some 128) (a' := ?_) rfl rfl (by kernel_rfl) (fun _ _ _ h => h) (by rfl) ?_ ?_
            rotate_left
            · simp only [Act.put, n1, n2, n3]; rfl
            refine po 54 36028797018963967 (N := some 129) (a' := ?_) rfl rfl (by kernel_rfl) (fun _ _ _ h => h) (by rfl) ?_ ?_
            rotate_left
            · simp only [Act.put, n1, n2, n3]; rfl
            refine po 55 72057594037927935 (N := some 130) (a' := ?_) rfl rfl (by kernel_rfl) (fun _ _ _ h => h) (by rfl) ?_ ?_
            rotate_left
            · simp only [Act.put, n1, n2, n3]; rfl
            refine po 56 144115188075855871 (N := some 131) (a' := ?_) rfl rfl (by kernel_rfl) (fun _ _ _ h => h) (by rfl) ?_ ?_
            rotate_left
            · simp only [Act.put, n1, n2, n3]; rfl
            refine pu 57 288230376151711743 (N := some 132) (v := ?_) (a' := ?_) rfl rfl (by kernel_rfl) (fun _ _ _ h => h) (by rfl) ?_ ?_ ?_
            rotate_left
            · intro w'; go_simp; with_reducible rfl
            rotate_left
            · simp only [Act.put, n1, n2, n3]; rfl
            refine pu 58 576460752303423487 (N := some 133) (v := ?_) (a' := ?_) rfl rfl (by kernel_rfl) (fun _ _ _ h => h) (by rfl) ?_ ?_ ?_
            rotate_left
            · intro w'; go_simp; with_reducible rfl
            rotate_left
            · simp only [Act.put, n1, n2, n3]; rfl
            refine done_ (by kernel_rfl) ?_
            have hq0 := (HQ.out _ HG6.out).1
            have hq1 := (HQ.out _ HG6.out).2
            have hwa : wrap64 (a : Int) = (x : Int) := by rw [show (a : Int) = (x : Int) by have := HXE.out; omega]; exact wx x (by have := HX2.out; have := HL.out; omega)
            have hxa : a = x := HXE.out.symm
            have HWA := Aside0.mk hwa
            clear hwa
            obtain ⟨y, hy⟩ : ∃ y : Nat, y = l0.length - x := ⟨_, rfl⟩
            have hwl : wrap64 ((l0.length : Int) - (x : Int)) = (y : Int) := by rw [show (l0.length : Int) - (x : Int) = (y : Int) by have := HX2.out; omega]; exact wx y (by have := HL.out; omega)
            have HLF := Aside0.mk (left_at l0 x e (by have := HL.out; omega) (by have := HX2.out; omega))
            rw [← hy] at HLF
            obtain ⟨q, hq⟩ : ∃ q, (e == 0) = q := ⟨_, rfl⟩
            have hq2 : decide (e = 0) = q := by rw [← hq]; rfl
            have HGF := Aside0.mk (good_at l0 (x : Int) e)
            rw [hq] at HGF
            have hwa := HWA.out
            clear hy
            rw [hxa] at HC6
            clear hxa
            rw [e1] at hq
            subst hq
            clear hq2
            go_wp2_with fail
            refine (HC6.out.left HLF.out).mono ?_
            rintro e7 w8 ⟨rfl, hc8, hk8, hb8⟩
            have HB8 := Aside0.mk (Cur.wide2 HB6.out hb8 hlo.out.2)
            have HC8 := Aside0.mk hc8
            clear hc8 hk8 hb8
            go_wp2_with fail
            refine (HC8.out.good HGF.out).mono ?_
            rintro e8 w9 ⟨rfl, hc9, hk9, hb9⟩
            have HB9 := Aside0.mk (Cur.wide2 HB8.out hb9 hlo.out.2)
            have HC9 := Aside0.mk hc9
            clear hc9 hk9 hb9
            go_wp2_with fail
            clear hwa hwl
            go_roundg k1
            case measure => omega
            case rel => exact ⟨i + 1, x, e, by first | rfl | (rw [HWA.out]) | (congr 1; exact HWA.out), rfl, by first | rfl | exact congrArg (Value.int .i64) (wr1 i (by have := HIL.out; have := HL.out; omega)), ⟨by have := HI.out; omega⟩, HX2, HC9, HB9⟩
      by_cases hd4 : d = 4
      · subst hd4
        clear h h2
        by_cases he : e = 0
        · subst he
          as_aux_lemma =>
            have HG4 := Aside0.mk (blk_new wr (.cells #[.int .i64 4, .int .i64 N] 38))
            have HBa := Aside0.mk (below_alloc (Below.refl wr.heap.size wr) (.cells #[.int .i64 4, .int .i64 N] 38))
            have HB4 := Aside0.mk (below_step HB.out HBa.out)
            have HC4 := Aside0.mk (HC.out.below HBa.out)
            have hq0 := blk_cell HG4.out 0
            have hq1 := blk_cell HG4.out 1
            simp only [List.getElem?_toArray, List.getElem?_cons_zero, List.getElem?_cons_succ] at hq0 hq1
            have HLT := Aside0.mk HC.out.lt
            clear HC HB HBa hi
            go_wp2_with (first | ((with_reducible refine gate_dst (N := 40) rfl ?_); refine load_at rfl 38 _ rfl (ad.add (i * 2)) ?hx [.int .i64 4, .int .i64 N] HX.out _ Try.underlying38 rfl (by rw [infoAct]; rfl) ?_; (case hx => rfl)) | ((with_reducible refine gate_dst (N := 67) rfl ?_); refine wpList_load_row rfl 38 _ rfl wr.heap.size (by rfl) 38 #[.int .i64 4, .int .i64 N] (0, 0) _ HG4.out Try.underlying38 rfl (by rw [infoAct]; rfl) ?_))
            refine (step_4 A0 c0 l0 a N _ (Kd.C_below HR0.out HB4.out) HC0.out HY.out HL.out.1 HE.out.1 HN.out.2).mono ?_
            rintro e5 w5 ⟨n, bs, s, er, A5, c5, rfl, hR, hle, hcs, hb5⟩
            have HG5 := Aside0.mk ((hb5.block _ (blk_lt HG4.out)).trans HG4.out)
            have HB5 := Aside0.mk (below_step HB4.out hb5)
            have HC5 := Aside0.mk (HC4.out.below hb5)
            have HNE := Aside0.mk (show g < wr.heap.size from HLT.out)
            obtain ⟨x, hx⟩ : ∃ x : Nat, x = a + s := ⟨_, rfl⟩
            unfold StepR at hR
            rw [← hx] at hR
            have HX2 := Aside0.mk (show x ≤ l0.length ∧ 0 ≤ er ∧ er ≤ 8 from ⟨hR.1, hR.2.1⟩)
            have HXE := Aside0.mk hx
            have hs5 : (s : Int) = (x : Int) - (a : Int) := by omega
            have HF := Aside0.mk (hR.2.2.2.2.2.2.1 rfl)
            obtain ⟨T, hT⟩ : ∃ T, T = strOfNums bs := ⟨_, rfl⟩
            rw [← hT] at HF
            have HCV : Aside0 (∀ W : World, Below w.heap.size w W → (convert 24 9 (.slice A5 bs.length c5)).run Try.prog W = .ok (.string T) W) := ⟨fun W hW => by rw [hT]; exact Kd.C_string (P := Try.prog) (c := c5) Try.underlying24 Try.underlying5 Try.underlying9 (hcs W (Kd.C_below HR0.out hW))⟩
            clear hT
            clear hR hle hcs hb5 hq0 hq1 hx HG4 HB4 HC4 hs5
            go_wp2_with fail
            have HQ : Aside0 (∀ W : World, W.heap[wr.heap.size]? = some (.cells #[.int .i64 4, .int .i64 N] 38 (0, 0)) → W.cell? ⟨wr.heap.size, 0, none⟩ = some (.int .i64 4) ∧ W.cell? ⟨wr.heap.size, 1, none⟩ = some (.int .i64 N)) := ⟨fun W hW => ⟨blk_cell hW 0, blk_cell hW 1⟩⟩
            have HGd : Aside0 (w5.drew.heap[wr.heap.size]? = some (.cells #[.int .i64 4, .int .i64 N] 38 (0, 0))) := ⟨HG5.out⟩
            have HBd := Aside0.mk (below_drew1 HB5.out)
            have HCd := Aside0.mk (HC5.out.below (below_drew1 (Below.refl _ w5)))
            clear HG5 HB5 HC5
            refine start_ (n := 59) (S := fun w' => w'.cell? ⟨wr.heap.size, 0, none⟩ = some (.int .i64 4) ∧ w'.cell? ⟨wr.heap.size, 1, none⟩ = some (.int .i64 N) ∧ (convert 24 9 (.slice A5 bs.length c5)).run Try.prog w' = .ok (.string T) w') (ds := []) #[false, false, false, false, false, false, false, false, false, false, false, false, false, false, false, false, false, false, false, false, false, false, false, false, false, false, false, false, false, false, false, false, false, false, false, false, false, false, false, false, false, false, false, false, false, false, false, false, false, false, false, false, false, false, false, false, false, false, false] (by kernel_rfl) rfl rfl ⟨(HQ.out _ HGd.out).1, (HQ.out _ HGd.out).2, (HCV.out _ HBd.out)⟩ (fun hHeld => ?_)
            refine pu 0 1 (N := some 75) (v := ?_) (a' := ?_) rfl rfl (by kernel_rfl) (fun _ _ _ h => h) (by rfl) ?_ ?_ ?_
            rotate_left
            · intro w'; go_simp; with_reducible rfl
            rotate_left
            · simp only [Act.put, n1, n2, n3]; rfl
            refine tk 1 3 (N := some 76) (v := ?_) (a' := ?_) rfl rfl (by kernel_rfl) (fun _ _ _ h => h) (by rfl) ?_ hHeld ?_ ?_
            rotate_left
            · rintro w' ⟨s0, s1, s2⟩; go_simp; with_reducible rfl
            rotate_left
            · simp only [Act.put, n1, n2, n3]; rfl
            refine pu 2 7 (N := some 77) (v := ?_) (a' := ?_) rfl rfl (by kernel_rfl) (fun _ _ _ h => h) (by rfl) ?_ ?_ ?_
            rotate_left
            · intro w'; go_simp; with_reducible rfl
            rotate_left
            · simp only [Act.put, n1, n2, n3]; rfl
            refine pu 3 15 (N := some 78) (v := ?_) (a' := ?_) rfl rfl (by kernel_rfl) (fun _ _ _ h => h) (by rfl) ?_ ?_ ?_
            rotate_left
            · intro w'; go_simp; with_reducible rfl
            rotate_left
            · simp only [Act.put, n1, n2, n3]; rfl
            refine po 4 31 (N := some 79) (a' := ?_) rfl rfl (by kernel_rfl) (fun _ _ _ h => h) (by rfl) ?_ ?_
            rotate_left
            · simp only [Act.put, n1, n2, n3]; rfl
            refine po 5 63 (N := some 80) (a' := ?_) rfl rfl (by kernel_rfl) (fun _ _ _ h => h) (by rfl) ?_ ?_
            rotate_left
            · simp only [Act.put, n1, n2, n3]; rfl
            refine po 6 127 (N := some 81) (a' := ?_) rfl rfl (by kernel_rfl) (fun _ _ _ h => h) (by rfl) ?_ ?_
            rotate_left
            · simp only [Act.put, n1, n2, n3]; rfl
            refine po 7 255 (N := some 82) (a' := ?_) rfl rfl (by kernel_rfl) (fun _ _ _ h => h) (by rfl) ?_ ?_
            rotate_left
            · simp only [Act.put, n1, n2, n3]; rfl
            refine pu 8 511 (N := some 83) (v := ?_) (a' := ?_) rfl rfl (by kernel_rfl) (fun _ _ _ h => h) (by rfl) ?_ ?_ ?_
            rotate_left
            · intro w'; go_simp; with_reducible rfl
            rotate_left
            · simp only [Act.put, n1, n2, n3]; rfl
            refine pu 9 1023 (N := some 84) (v := ?_) (a' := ?_) rfl rfl (by kernel_rfl) (fun _ _ _ h => h) (by rfl) ?_ ?_ ?_
            rotate_left
            · intro w'; go_simp; with_reducible rfl
            rotate_left
            · simp only [Act.put, n1, n2, n3]; rfl
            refine pu 10 2047 (N := some 85) (v := ?_) (a' := ?_) rfl rfl (by kernel_rfl) (fun _ _ _ h => h) (by rfl) ?_ ?_ ?_
            rotate_left
            · intro w'; go_simp; with_reducible rfl
            rotate_left
            · simp only [Act.put, n1, n2, n3]; rfl
            refine tk 11 4095 (N := some 86) (v := ?_) (a' := ?_) rfl rfl (by kernel_rfl) (fun _ _ _ h => h) (by rfl) ?_ hHeld ?_ ?_
            rotate_left
            · rintro w' ⟨s0, s1, s2⟩; go_simp; with_reducible rfl
            rotate_left
            · simp only [Act.put, n1, n2, n3]; rfl
            refine pu 12 8191 (N := some 87) (v := ?_) (a' := ?_) rfl rfl (by kernel_rfl) (fun _ _ _ h => h) (by rfl) ?_ ?_ ?_
            rotate_left
            · intro w'; go_simp; with_reducible rfl
            rotate_left
            · simp only [Act.put, n1, n2, n3]; rfl
            refine pu 13 16383 (N := some 88) (v := ?_) (a' := ?_) rfl rfl (by kernel_rfl) (fun _ _ _ h => h) (by rfl) ?_ ?_ ?_
            rotate_left
            · intro w'; go_simp; with_reducible rfl
            rotate_left
            · simp only [Act.put, n1, n2, n3]; rfl
            refine po 14 32767 (N := some 89) (a' := ?_) rfl rfl (by kernel_rfl) (fun _ _ _ h => h) (by rfl) ?_ ?_
            rotate_left
            · simp only [Act.put, n1, n2, n3]; rfl
            refine po 15 65535 (N := some 90) (a' := ?_) rfl rfl (by kernel_rfl) (fun _ _ _ h => h) (by rfl) ?_ ?_
            rotate_left
            · simp only [Act.put, n1, n2, n3]; rfl
            refine po 16 131071 (N := some 91) (a' := ?_) rfl rfl (by kernel_rfl) (fun _ _ _ h => h) (by rfl) ?_ ?_
            rotate_left
            · simp only [Act.put, n1, n2, n3]; rfl
            refine po 17 262143 (N := some 92) (a' := ?_) rfl rfl (by kernel_rfl) (fun _ _ _ h => h) (by rfl) ?_ ?_
            rotate_left
            · simp only [Act.put, n1, n2, n3]; rfl
            refine po 18 524287 (N := some 93) (a' := ?_) rfl rfl (by kernel_rfl) (fun _ _ _ h => h) (by rfl) ?_ ?_
            rotate_left
            · simp only [Act.put, n1, n2, n3]; rfl
            refine po 19 1048575 (N := some 94) (a' := ?_) rfl rfl (by kernel_rfl) (fun _ _ _ h => h) (by rfl) ?_ ?_
            rotate_left
            · simp only [Act.put, n1, n2, n3]; rfl
            refine po 20 2097151 (N := some 95) (a' := ?_) rfl rfl (by kernel_rfl) (fun _ _ _ h => h) (by rfl) ?_ ?_
            rotate_left
            · simp only [Act.put, n1, n2, n3]; rfl
            refine pu 21 4194303 (N := some 96) (v := ?_) (a' := ?_) rfl rfl (by kernel_rfl) (fun _ _ _ h => h) (by rfl) ?_ ?_ ?_
            rotate_left
            · intro w'; go_simp; with_reducible rfl
            rotate_left
            · simp only [Act.put, n1, n2, n3]; rfl
            refine pu 22 8388607 (N := some 97) (v := ?_) (a' := ?_) rfl rfl (by kernel_rfl) (fun _ _ _ h => h) (by rfl) ?_ ?_ ?_
            rotate_left
            · intro w'; go_simp; with_reducible rfl
            rotate_left
            · simp only [Act.put, n1, n2, n3]; rfl
            refine pu 23 16777215 (N := some 98) (v := ?_) (a' := ?_) rfl rfl (by kernel_rfl) (fun _ _ _ h => h) (by rfl) ?_ ?_ ?_
            rotate_left
            · intro w'; go_simp; with_reducible rfl
            rotate_left
            · simp only [Act.put, n1, n2, n3]; rfl
            refine pu 24 33554431 (N := some 99) (v := ?_) (a' := ?_) rfl rfl (by kernel_rfl) (fun _ _ _ h => h) (by rfl) ?_ ?_ ?_
            rotate_left
            · intro w'; go_simp; with_reducible rfl
            rotate_left
            · simp only [Act.put, n1, n2, n3]; rfl
            refine tk 25 67108863 (N := some 100) (v := ?_) (a' := ?_) rfl rfl (by kernel_rfl) (fun _ _ _ h => h) (by rfl) ?_ hHeld ?_ ?_
            rotate_left
            · rintro w' ⟨s0, s1, s2⟩; go_simp; with_reducible rfl
            rotate_left
            · simp only [Act.put, n1, n2, n3]; rfl
            refine pu 26 134217727 (N := some 101) (v := ?_) (a' := ?_) rfl rfl (by kernel_rfl) (fun _ _ _ h => h) (by rfl) ?_ ?_ ?_
            rotate_left
            · intro w'; go_simp; with_reducible rfl
            rotate_left
            · simp only [Act.put, n1, n2, n3]; rfl
            refine pu 27 268435455 (N := some 102) (v := ?_) (a' := ?_) rfl rfl (by kernel_rfl) (fun _ _ _ h => h) (by rfl) ?_ ?_ ?_
            rotate_left
            · intro w'; go_simp; with_reducible rfl
            rotate_left
            · simp only [Act.put, n1, n2, n3]; rfl
            refine po 28 536870911 (N := some 103) (a' := ?_) rfl rfl (by kernel_rfl) (fun _ _ _ h => h) (by rfl) ?_ ?_
            rotate_left
            · simp only [Act.put, n1, n2, n3]; rfl
            refine po 29 1073741823 (N := some 104) (a' := ?_) rfl rfl (by kernel_rfl) (fun _ _ _ h => h) (by rfl) ?_ ?_
            rotate_left
            · simp only [Act.put, n1, n2, n3]; rfl
            refine po 30 2147483647 (N := some 105) (a' := ?_) rfl rfl (by kernel_rfl) (fun _ _ _ h => h) (by rfl) ?_ ?_
            rotate_left
            · simp only [Act.put, n1, n2, n3]; rfl
            refine po 31 4294967295 (N := some 106) (a' := ?_) rfl rfl (by kernel_rfl) (fun _ _ _ h => h) (by rfl) ?_ ?_
            rotate_left
            · simp only [Act.put, n1, n2, n3]; rfl
            refine pu 32 8589934591 (N := some 107) (v := ?_) (a' := ?_) rfl rfl (by kernel_rfl) (fun _ _ _ h => h) (by rfl) ?_ ?_ ?_
            rotate_left
            · intro w'; go_simp; with_reducible rfl
            rotate_left
            · simp only [Act.put, n1, n2, n3]; rfl
            refine pu 33 17179869183 (N := some 108) (v := ?_) (a' := ?_) rfl rfl (by kernel_rfl) (fun _ _ _ h => h) (by rfl) ?_ ?_ ?_
            rotate_left
            · intro w'; go_simp; with_reducible rfl
            rotate_left
            · simp only [Act.put, n1, n2, n3]; rfl
            refine pu 34 34359738367 (N := some 109) (v := ?_) (a' := ?_) rfl rfl (by kernel_rfl) (fun _ _ _ h => h) (by rfl) ?_ ?_ ?_
            rotate_left
            · intro w'; go_simp; with_reducible rfl
            rotate_left
            · simp only [Act.put, n1, n2, n3]; rfl
            refine pu 35 68719476735 (N := some 110) (v := ?_) (a' := ?_) rfl rfl (by kernel_rfl) (fun _ _ _ h => h) (by rfl) ?_ ?_ ?_
            rotate_left
            · intro w'; go_simp; with_reducible rfl
            rotate_left
            · simp only [Act.put, n1, n2, n3]; rfl
            refine tk 36 137438953471 (N := some 111) (v := ?_) (a' := ?_) rfl rfl (by kernel_rfl) (fun _ _ _ h => h) (by rfl) ?_ hHeld ?_ ?_
            rotate_left
            · rintro w' ⟨s0, s1, s2⟩; go_simp; with_reducible rfl
            rotate_left
            · simp only [Act.put, n1, n2, n3]; rfl
            refine pu 37 274877906943 (N := some 112) (v := ?_) (a' := ?_) rfl rfl (by kernel_rfl) (fun _ _ _ h => h) (by rfl) ?_ ?_ ?_
            rotate_left
            · intro w'; go_simp; with_reducible rfl
            rotate_left
            · simp only [Act.put, n1, n2, n3]; rfl
            refine pu 38 549755813887 (N := some 113) (v := ?_) (a' := ?_) rfl rfl (by kernel_rfl) (fun _ _ _ h => h) (by rfl) ?_ ?_ ?_
            rotate_left
            · intro w'; go_simp; with_reducible rfl
            rotate_left
            · simp only [Act.put, n1, n2, n3]; rfl
            refine po 39 1099511627775 (N := some 114) (a' := ?_) rfl rfl (by kernel_rfl) (fun _ _ _ h => h) (by rfl) ?_ ?_
            rotate_left
            · simp only [Act.put, n1, n2, n3]; rfl
            refine po 40 2199023255551 (N := some 115) (a' := ?_) rfl rfl (by kernel_rfl) (fun _ _ _ h => h) (by rfl) ?_ ?_
            rotate_left
            · simp only [Act.put, n1, n2, n3]; rfl
            refine po 41 4398046511103 (N := some 116) (a' := ?_) rfl rfl (by kernel_rfl) (fun _ _ _ h => h) (by rfl) ?_ ?_
            rotate_left
            · simp only [Act.put, n1, n2, n3]; rfl
            refine po 42 8796093022207 (N := some 117) (a' := ?_) rfl rfl (by kernel_rfl) (fun _ _ _ h => h) (by rfl) ?_ ?_
            rotate_left
            · simp only [Act.put, n1, n2, n3]; rfl
            refine po 43 17592186044415 (N := some 118) (a' := ?_) rfl rfl (by kernel_rfl) (fun _ _ _ h => h) (by rfl) ?_ ?_
            rotate_left
            · simp only [Act.put, n1, n2, n3]; rfl
            refine po 44 35184372088831 (N := some 119) (a' := ?_) rfl rfl (by kernel_rfl) (fun _ _ _ h => h) (by rfl) ?_ ?_
            rotate_left
            · simp only [Act.put, n1, n2, n3]; rfl
            refine pu 45 70368744177663 (N := some 120) (v := ?_) (a' := ?_) rfl rfl (by kernel_rfl) (fun _ _ _ h => h) (by rfl) ?_ ?_ ?_
            rotate_left
            · intro w'; go_simp; with_reducible rfl
            rotate_left
            · simp only [Act.put, n1, n2, n3]; rfl
            refine pu 46 140737488355327 (N := some 121) (v := ?_) (a' := ?_) rfl rfl (by kernel_rfl) (fun _ _ _ h => h) (by rfl) ?_ ?_ ?_
            rotate_left
            · intro w'; go_simp; with_reducible rfl
            rotate_left
            · simp only [Act.put, n1, n2, n3]; rfl
            refine pu 47 281474976710655 (N := some 122) (v := ?_) (a' := ?_) rfl rfl (by kernel_rfl) (fun _ _ _ h => h) (by rfl) ?_ ?_ ?_
            rotate_left
            · intro w'; go_simp; with_reducible rfl
            rotate_left
            · simp only [Act.put, n1, n2, n3]; rfl
            refine pu 48 562949953421311 (N := some 123) (v := ?_) (a' := ?_) rfl rfl (by kernel_rfl) (fun _ _ _ h => h) (by rfl) ?_ ?_ ?_
            rotate_left
            · intro w'; go_simp; with_reducible rfl
            rotate_left
            · simp only [Act.put, n1, n2, n3]; rfl
            refine tk 49 1125899906842623 (N := some 124) (v := ?_) (a' := ?_) rfl rfl (by kernel_rfl) (fun _ _ _ h => h) (by rfl) ?_ hHeld ?_ ?_
            rotate_left
            · rintro w' ⟨s0, s1, s2⟩; go_simp; with_reducible rfl
            rotate_left
            · simp only [Act.put, n1, n2, n3]; rfl
            refine pu 50 2251799813685247 (N := some 125) (v := ?_) (a' := ?_) rfl rfl (by kernel_rfl) (fun _ _ _ h => h) (by rfl) ?_ ?_ ?_
            rotate_left
            · intro w'; go_simp; with_reducible rfl
            rotate_left
            · simp only [Act.put, n1, n2, n3]; rfl
            refine pu 51 4503599627370495 (N := some 126) (v := ?_) (a' := ?_) rfl rfl (by kernel_rfl) (fun _ _ _ h => h) (by rfl) ?_ ?_ ?_
            rotate_left
            · intro w'; go_simp; with_reducible rfl
            rotate_left
            · simp only [Act.put, n1, n2, n3]; rfl
            refine pu 52 9007199254740991 (N := some 127) (v := ?_) (a' := ?_) rfl rfl (by kernel_rfl) (fun _ _ _ h => h) (by rfl) ?_ ?_ ?_
            rotate_left
            · intro w'; go_simp; with_reducible rfl
            rotate_left
            · simp only [Act.put, n1, n2, n3]; rfl
            refine pu 54 27021597764222975 (N := some 129) (v := ?_) (a' := ?_) rfl rfl (by kernel_rfl) (fun _ _ _ h => h) (by rfl) ?_ ?_ ?_
            rotate_left
            · intro w'; go_simp; with_reducible rfl
            rotate_left
            · simp only [Act.put, n1, n2, n3]; rfl
            refine tk 55 63050394783186943 (N := some 130) (v := ?_) (a' := ?_) rfl rfl (by kernel_rfl) (fun _ _ _ h => h) (by rfl) ?_ hHeld ?_ ?_
            rotate_left
            · rintro w' ⟨s0, s1, s2⟩; go_simp; with_reducible rfl
            rotate_left
            · simp only [Act.put, n1, n2, n3]; rfl
            refine one_ (i := 53) (N := some 128) #[true, true, true, true, true, true, true, true, true, true, true, true, true, true, true, true, true, true, true, true, true, true, true, true, true, true, true, true, true, true, true, true, true, true, true, true, true, true, true, true, true, true, true, true, true, true, true, true, true, true, true, true, true, true, true, true, false, false, false] rfl rfl (by kernel_rfl) (by decide) (fun K hK => ?_)
            refine goes_ Try.func20 (by kernel_rfl) rfl #[.pointer (some ⟨g, 0, none⟩)] (by rfl) rfl rfl (by simp only [List.map_toArray, List.map_cons, List.map_nil]; rfl) ?_
            with_reducible refine (HCd.out.text HF.out).mono ?_
            rintro e6 w6 ⟨rfl, hc6, hk6, hb6⟩
            refine ⟨_, rfl, ?_⟩
            have HG6 := Aside0.mk ((hk6.2 wr.heap.size (blk_lt HGd.out) (by have := HNE.out; omega) (by simp)).trans HGd.out)
            have HB6 := Aside0.mk (Cur.wide2 HBd.out hb6 hlo.out.2)
            have HC6 := Aside0.mk hc6
            clear hc6 hk6 hb6
            refine hK.out _ _ ⟨(HQ.out _ HG6.out).1, (HQ.out _ HG6.out).2, (HCV.out _ HB6.out)⟩ (fun hHeld => ?_)
            clear hK K
            refine norm_ (a' := ?_) ?_ ?_
            rotate_left
            · show Act.put _ (some 128) _ = _
              simp only [Act.put, List.setIfInBounds_toArray, List.set_cons_zero, List.set_cons_succ, i64_w, i32_w]
              rfl
            refine pu 56 144115188075855871 (N := some 131) (v := ?_) (a' := ?_) rfl rfl (by kernel_rfl) (fun _ _ _ h => h) (by rfl) ?_ ?_ ?_
            rotate_left
            · intro w'; go_simp; with_reducible rfl
            rotate_left
            · simp only [Act.put, n1, n2, n3]; rfl
            refine pu 57 288230376151711743 (N := some 132) (v := ?_) (a' := ?_) rfl rfl (by kernel_rfl) (fun _ _ _ h => h) (by rfl) ?_ ?_ ?_
            rotate_left
            · intro w'; go_simp; with_reducible rfl
            rotate_left
            · simp only [Act.put, n1, n2, n3]; rfl
            refine pu 58 576460752303423487 (N := some 133) (v := ?_) (a' := ?_) rfl rfl (by kernel_rfl) (fun _ _ _ h => h) (by rfl) ?_ ?_ ?_
            rotate_left
            · intro w'; go_simp; with_reducible rfl
            rotate_left
            · simp only [Act.put, n1, n2, n3]; rfl
            refine done_ (by kernel_rfl) ?_
            have hq0 := (HQ.out _ HG6.out).1
            have hq1 := (HQ.out _ HG6.out).2
            have hwa : wrap64 ((a : Int) + (s : Int)) = (x : Int) := by rw [show (a : Int) + (s : Int) = (x : Int) by have := HXE.out; omega]; exact wx x (by have := HX2.out; have := HL.out; omega)
            have HWA := Aside0.mk hwa
            clear hwa
            obtain ⟨y, hy⟩ : ∃ y : Nat, y = l0.length - x := ⟨_, rfl⟩
            have hwl : wrap64 ((l0.length : Int) - (x : Int)) = (y : Int) := by rw [show (l0.length : Int) - (x : Int) = (y : Int) by have := HX2.out; omega]; exact wx y (by have := HL.out; omega)
            have HLF := Aside0.mk (left_at l0 x er (by have := HL.out; omega) (by have := HX2.out; omega))
            rw [← hy] at HLF
            obtain ⟨q, hq⟩ : ∃ q, (er == 0) = q := ⟨_, rfl⟩
            have hq2 : decide (er = 0) = q := by rw [← hq]; rfl
            have HGF := Aside0.mk (good_at l0 (x : Int) er)
            rw [hq] at HGF
            have hwa := HWA.out
            clear hy
            go_wp2_with fail
            refine (HC6.out.left HLF.out).mono ?_
            rintro e7 w8 ⟨rfl, hc8, hk8, hb8⟩
            have HB8 := Aside0.mk (Cur.wide2 HB6.out hb8 hlo.out.2)
            have HC8 := Aside0.mk hc8
            clear hc8 hk8 hb8
            go_wp2_with fail
            refine (HC8.out.good HGF.out).mono ?_
            rintro e8 w9 ⟨rfl, hc9, hk9, hb9⟩
            have HB9 := Aside0.mk (Cur.wide2 HB8.out hb9 hlo.out.2)
            have HC9 := Aside0.mk hc9
            clear hc9 hk9 hb9
            go_wp2_with fail
            clear hwa hwl
            go_roundg k1
            case measure => omega
            case rel => exact ⟨i + 1, x, er, by first | rfl | (rw [HWA.out]) | (congr 1; exact HWA.out), rfl, by first | rfl | exact congrArg (Value.int .i64) (wr1 i (by have := HIL.out; have := HL.out; omega)), ⟨by have := HI.out; omega⟩, HX2, HC9, HB9⟩
        · as_aux_lemma =>
            have e1 : (e == 0) = false := by simpa using he
            have e2 : (e != 0) = true := by simpa using he
            have e3 : decide (e = 0) = false := decide_eq_false he
            have HNZ := Aside0.mk he
            have HG4 := Aside0.mk (blk_new wr (.cells #[.int .i64 4, .int .i64 N] 38))
            have HBa := Aside0.mk (below_alloc (Below.refl wr.heap.size wr) (.cells #[.int .i64 4, .int .i64 N] 38))
            have HB4 := Aside0.mk (below_step HB.out HBa.out)
            have HC4 := Aside0.mk (HC.out.below HBa.out)
            have hq0 := blk_cell HG4.out 0
            have hq1 := blk_cell HG4.out 1
            simp only [List.getElem?_toArray, List.getElem?_cons_zero, List.getElem?_cons_succ] at hq0 hq1
            have HLT := Aside0.mk HC.out.lt
            clear HC HB HBa hi he
            go_wp2_with (first | ((with_reducible refine gate_dst (N := 40) rfl ?_); refine load_at rfl 38 _ rfl (ad.add (i * 2)) ?hx [.int .i64 4, .int .i64 N] HX.out _ Try.underlying38 rfl (by rw [infoAct]; rfl) ?_; (case hx => rfl)) | ((with_reducible refine gate_dst (N := 67) rfl ?_); refine wpList_load_row rfl 38 _ rfl wr.heap.size (by rfl) 38 #[.int .i64 4, .int .i64 N] (0, 0) _ HG4.out Try.underlying38 rfl (by rw [infoAct]; rfl) ?_))
            refine (step_4 A0 c0 l0 a N _ (Kd.C_below HR0.out HB4.out) HC0.out HY.out HL.out.1 HE.out.1 HN.out.2).mono ?_
            rintro e5 w5 ⟨n, bs, s, er, A5, c5, rfl, hR, hle, hcs, hb5⟩
            have HG5 := Aside0.mk ((hb5.block _ (blk_lt HG4.out)).trans HG4.out)
            have HB5 := Aside0.mk (below_step HB4.out hb5)
            have HC5 := Aside0.mk (HC4.out.below hb5)
            have HNE := Aside0.mk (show g < wr.heap.size from HLT.out)
            obtain ⟨x, hx⟩ : ∃ x : Nat, x = a := ⟨_, rfl⟩
            have HX2 := Aside0.mk (show x ≤ l0.length ∧ 0 ≤ e ∧ e ≤ 8 by rw [hx]; exact HE.out)
            have HXE := Aside0.mk hx
            have HF := Aside0.mk (text_bad l0 (a : Int) e HNZ.out)
            obtain ⟨T, hT⟩ : ∃ T, T = strOfNums [] := ⟨_, rfl⟩
            rw [← hT] at HF
            have HCV : Aside0 (∀ W : World, Below w.heap.size w W → (convert 24 9 (.slice none 0 0)).run Try.prog W = .ok (.string T) W) := ⟨fun W hW => by rw [hT]; exact Kd.C_string (P := Try.prog) (c := 0) Try.underlying24 Try.underlying5 Try.underlying9 (Kd.C_nil (Kd.int .u8) W)⟩
            clear hT
            clear hR hle hcs hb5 hq0 hq1 hx HG4 HB4 HC4
            go_wp2_with fail
            have HQ : Aside0 (∀ W : World, W.heap[wr.heap.size]? = some (.cells #[.int .i64 4, .int .i64 N] 38 (0, 0)) → W.cell? ⟨wr.heap.size, 0, none⟩ = some (.int .i64 4) ∧ W.cell? ⟨wr.heap.size, 1, none⟩ = some (.int .i64 N)) := ⟨fun W hW => ⟨blk_cell hW 0, blk_cell hW 1⟩⟩
            have HGd : Aside0 (w5.drew.heap[wr.heap.size]? = some (.cells #[.int .i64 4, .int .i64 N] 38 (0, 0))) := ⟨HG5.out⟩
            have HBd := Aside0.mk (below_drew1 HB5.out)
            have HCd := Aside0.mk (HC5.out.below (below_drew1 (Below.refl _ w5)))
            clear HG5 HB5 HC5
            refine start_ (n := 59) (S := fun w' => w'.cell? ⟨wr.heap.size, 0, none⟩ = some (.int .i64 4) ∧ w'.cell? ⟨wr.heap.size, 1, none⟩ = some (.int .i64 N) ∧ (convert 24 9 (.slice none 0 0)).run Try.prog w' = .ok (.string T) w') (ds := []) #[false, false, false, false, false, false, false, false, false, false, false, false, false, false, false, false, false, false, false, false, false, false, false, false, false, false, false, false, false, false, false, false, false, false, false, false, false, false, false, false, false, false, false, false, false, false, false, false, false, false, false, false, false, false, false, false, false, false, false] (by kernel_rfl) rfl rfl ⟨(HQ.out _ HGd.out).1, (HQ.out _ HGd.out).2, (HCV.out _ HBd.out)⟩ (fun hHeld => ?_)
            refine pu 0 1 (N := some 75) (v := ?_) (a' := ?_) rfl rfl (by kernel_rfl) (fun _ _ _ h => h) (by rfl) ?_ ?_ ?_
            rotate_left
            · intro w'; go_simp; with_reducible rfl
            rotate_left
            · simp only [Act.put, n1, n2, n3]; rfl
            refine tk 1 3 (N := some 76) (v := ?_) (a' := ?_) rfl rfl (by kernel_rfl) (fun _ _ _ h => h) (by rfl) ?_ hHeld ?_ ?_
            rotate_left
            · rintro w' ⟨s0, s1, s2⟩; go_simp; with_reducible rfl
            rotate_left
            · simp only [Act.put, n1, n2, n3]; rfl
            refine pu 2 7 (N := some 77) (v := ?_) (a' := ?_) rfl rfl (by kernel_rfl) (fun _ _ _ h => h) (by rfl) ?_ ?_ ?_
            rotate_left
            · intro w'; go_simp; with_reducible rfl
            rotate_left
            · simp only [Act.put, n1, n2, n3]; rfl
            refine pu 3 15 (N := some 78) (v := ?_) (a' := ?_) rfl rfl (by kernel_rfl) (fun _ _ _ h => h) (by rfl) ?_ ?_ ?_
            rotate_left
            · intro w'; go_simp; with_reducible rfl
            rotate_left
            · simp only [Act.put, n1, n2, n3]; rfl
            refine po 4 31 (N := some 79) (a' := ?_) rfl rfl (by kernel_rfl) (fun _ _ _ h => h) (by rfl) ?_ ?_
            rotate_left
            · simp only [Act.put, n1, n2, n3]; rfl
            refine po 5 63 (N := some 80) (a' := ?_) rfl rfl (by kernel_rfl) (fun _ _ _ h => h) (by rfl) ?_ ?_
            rotate_left
            · simp only [Act.put, n1, n2, n3]; rfl
            refine po 6 127 (N := some 81) (a' := ?_) rfl rfl (by kernel_rfl) (fun _ _ _ h => h) (by rfl) ?_ ?_
            rotate_left
            · simp only [Act.put, n1, n2, n3]; rfl
            refine po 7 255 (N := some 82) (a' := ?_) rfl rfl (by kernel_rfl) (fun _ _ _ h => h) (by rfl) ?_ ?_
            rotate_left
            · simp only [Act.put, n1, n2, n3]; rfl
            refine pu 8 511 (N := some 83) (v := ?_) (a' := ?_) rfl rfl (by kernel_rfl) (fun _ _ _ h => h) (by rfl) ?_ ?_ ?_
            rotate_left
            · intro w'; go_simp; with_reducible rfl
            rotate_left
            · simp only [Act.put, n1, n2, n3]; rfl
            refine pu 9 1023 (N := some 84) (v := ?_) (a' := ?_) rfl rfl (by kernel_rfl) (fun _ _ _ h => h) (by rfl) ?_ ?_ ?_
            rotate_left
            · intro w'; go_simp; with_reducible rfl
            rotate_left
            · simp only [Act.put, n1, n2, n3]; rfl
            refine pu 10 2047 (N := some 85) (v := ?_) (a' := ?_) rfl rfl (by kernel_rfl) (fun _ _ _ h => h) (by rfl) ?_ ?_ ?_
            rotate_left
            · intro w'; go_simp; with_reducible rfl
            rotate_left
            · simp only [Act.put, n1, n2, n3]; rfl
            refine tk 11 4095 (N := some 86) (v := ?_) (a' := ?_) rfl rfl (by kernel_rfl) (fun _ _ _ h => h) (by rfl) ?_ hHeld ?_ ?_
            rotate_left
            · rintro w' ⟨s0, s1, s2⟩; go_simp; with_reducible rfl
            rotate_left
            · simp only [Act.put, n1, n2, n3]; rfl
            refine pu 12 8191 (N := some 87) (v := ?_) (a' := ?_) rfl rfl (by kernel_rfl) (fun _ _ _ h => h) (by rfl) ?_ ?_ ?_
            rotate_left
            · intro w'; go_simp; with_reducible rfl
            rotate_left
            · simp only [Act.put, n1, n2, n3]; rfl
            refine pu 13 16383 (N := some 88) (v := ?_) (a' := ?_) rfl rfl (by kernel_rfl) (fun _ _ _ h => h) (by rfl) ?_ ?_ ?_
            rotate_left
            · intro w'; go_simp; with_reducible rfl
            rotate_left
            · simp only [Act.put, n1, n2, n3]; rfl
            refine po 14 32767 (N := some 89) (a' := ?_) rfl rfl (by kernel_rfl) (fun _ _ _ h => h) (by rfl) ?_ ?_
            rotate_left
            · simp only [Act.put, n1, n2, n3]; rfl
            refine po 15 65535 (N := some 90) (a' := ?_) rfl rfl (by kernel_rfl) (fun _ _ _ h => h) (by rfl) ?_ ?_
            rotate_left
            · simp only [Act.put, n1, n2, n3]; rfl
            refine po 16 131071 (N := some 91) (a' := ?_) rfl rfl (by kernel_rfl) (fun _ _ _ h => h) (by rfl) ?_ ?_
            rotate_left
            · simp only [Act.put, n1, n2, n3]; rfl
            refine po 17 262143 (N := some 92) (a' := ?_) rfl rfl (by kernel_rfl) (fun _ _ _ h => h) (by rfl) ?_ ?_
            rotate_left
            · simp only [Act.put, n1, n2, n3]; rfl
            refine po 18 524287 (N := some 93) (a' := ?_) rfl rfl (by kernel_rfl) (fun _ _ _ h => h) (by rfl) ?_ ?_
            rotate_left
            · simp only [Act.put, n1, n2, n3]; rfl
            refine po 19 1048575 (N := some 94) (a' := ?_) rfl rfl (by kernel_rfl) (fun _ _ _ h => h) (by rfl) ?_ ?_
            rotate_left
            · simp only [Act.put, n1, n2, n3]; rfl
            refine po 20 2097151 (N := some 95) (a' := ?_) rfl rfl (by kernel_rfl) (fun _ _ _ h => h) (by rfl) ?_ ?_
            rotate_left
            · simp only [Act.put, n1, n2, n3]; rfl
            refine pu 21 4194303 (N := some 96) (v := ?_) (a' := ?_) rfl rfl (by kernel_rfl) (fun _ _ _ h => h) (by rfl) ?_ ?_ ?_
            rotate_left
            · intro w'; go_simp; with_reducible rfl
            rotate_left
            · simp only [Act.put, n1, n2, n3]; rfl
            refine pu 22 8388607 (N := some 97) (v := ?_) (a' := ?_) rfl rfl (by kernel_rfl) (fun _ _ _ h => h) (by rfl) ?_ ?_ ?_
            rotate_left
            · intro w'; go_simp; with_reducible rfl
            rotate_left
            · simp only [Act.put, n1, n2, n3]; rfl
            refine pu 23 16777215 (N := some 98) (v := ?_) (a' := ?_) rfl rfl (by kernel_rfl) (fun _ _ _ h => h) (by rfl) ?_ ?_ ?_
            rotate_left
            · intro w'; go_simp; with_reducible rfl
            rotate_left
            · simp only [Act.put, n1, n2, n3]; rfl
            refine pu 24 33554431 (N := some 99) (v := ?_) (a' := ?_) rfl rfl (by kernel_rfl) (fun _ _ _ h => h) (by rfl) ?_ ?_ ?_
            rotate_left
            · intro w'; go_simp; with_reducible rfl
            rotate_left
            · simp only [Act.put, n1, n2, n3]; rfl
            refine tk 25 67108863 (N := some 100) (v := ?_) (a' := ?_) rfl rfl (by kernel_rfl) (fun _ _ _ h => h) (by rfl) ?_ hHeld ?_ ?_
            rotate_left
            · rintro w' ⟨s0, s1, s2⟩; go_simp; with_reducible rfl
            rotate_left
            · simp only [Act.put, n1, n2, n3]; rfl
            refine pu 26 134217727 (N := some 101) (v := ?_) (a' := ?_) rfl rfl (by kernel_rfl) (fun _ _ _ h => h) (by rfl) ?_ ?_ ?_
            rotate_left
            · intro w'; go_simp; with_reducible rfl
            rotate_left
            · simp only [Act.put, n1, n2, n3]; rfl
            refine pu 27 268435455 (N := some 102) (v := ?_) (a' := ?_) rfl rfl (by kernel_rfl) (fun _ _ _ h => h) (by rfl) ?_ ?_ ?_
            rotate_left
            · intro w'; go_simp; with_reducible rfl
            rotate_left
            · simp only [Act.put, n1, n2, n3]; rfl
            refine po 28 536870911 (N := some 103) (a' := ?_) rfl rfl (by kernel_rfl) (fun _ _ _ h => h) (by rfl) ?_ ?_
            rotate_left
            · simp only [Act.put, n1, n2, n3]; rfl
            refine po 29 1073741823 (N := some 104) (a' := ?_) rfl rfl (by kernel_rfl) (fun _ _ _ h => h) (by rfl) ?_ ?_
            rotate_left
            · simp only [Act.put, n1, n2, n3]; rfl
            refine po 30 2147483647 (N := some 105) (a' := ?_) rfl rfl (by kernel_rfl) (fun _ _ _ h => h) (by rfl) ?_ ?_
            rotate_left
            · simp only [Act.put, n1, n2, n3]; rfl
            refine po 31 4294967295 (N := some 106) (a' := ?_) rfl rfl (by kernel_rfl) (fun _ _ _ h => h) (by rfl) ?_ ?_
            rotate_left
            · simp only [Act.put, n1, n2, n3]; rfl
            refine pu 32 8589934591 (N := some 107) (v := ?_) (a' := ?_) rfl rfl (by kernel_rfl) (fun _ _ _ h => h) (by rfl) ?_ ?_ ?_
            rotate_left
            · intro w'; go_simp; with_reducible rfl
            rotate_left
            · simp only [Act.put, n1, n2, n3]; rfl
            refine pu 33 17179869183 (N := some 108) (v := ?_) (a' := ?_) rfl rfl (by kernel_rfl) (fun _ _ _ h => h) (by rfl) ?_ ?_ ?_
            rotate_left
            · intro w'; go_simp; with_reducible rfl
            rotate_left
            · simp only [Act.put, n1, n2, n3]; rfl
            refine pu 34 34359738367 (N := some 109) (v := ?_) (a' := ?_) rfl rfl (by kernel_rfl) (fun _ _ _ h => h) (by rfl) ?_ ?_ ?_
            rotate_left
            · intro w'; go_simp; with_reducible rfl
            rotate_left
            · simp only [Act.put, n1, n2, n3]; rfl
            refine pu 35 68719476735 (N := some 110) (v := ?_) (a' := ?_) rfl rfl (by kernel_rfl) (fun _ _ _ h => h) (by rfl) ?_ ?_ ?_
            rotate_left
            · intro w'; go_simp; with_reducible rfl
            rotate_left
            · simp only [Act.put, n1, n2, n3]; rfl
            refine tk 36 137438953471 (N := some 111) (v := ?_) (a' := ?_) rfl rfl (by kernel_rfl) (fun _ _ _ h => h) (by rfl) ?_ hHeld ?_ ?_
            rotate_left
            · rintro w' ⟨s0, s1, s2⟩; go_simp; with_reducible rfl
            rotate_left
            · simp only [Act.put, n1, n2, n3]; rfl
            refine pu 37 274877906943 (N := some 112) (v := ?_) (a' := ?_) rfl rfl (by kernel_rfl) (fun _ _ _ h => h) (by rfl) ?_ ?_ ?_
            rotate_left
            · intro w'; go_simp; with_reducible rfl
            rotate_left
            · simp only [Act.put, n1, n2, n3]; rfl
            refine pu 38 549755813887 (N := some 113) (v := ?_) (a' := ?_) rfl rfl (by kernel_rfl) (fun _ _ _ h => h) (by rfl) ?_ ?_ ?_
            rotate_left
            · intro w'; go_simp; with_reducible rfl
            rotate_left
            · simp only [Act.put, n1, n2, n3]; rfl
            refine po 39 1099511627775 (N := some 114) (a' := ?_) rfl rfl (by kernel_rfl) (fun _ _ _ h => h) (by rfl) ?_ ?_
            rotate_left
            · simp only [Act.put, n1, n2, n3]; rfl
            refine po 40 2199023255551 (N := some 115) (a' := ?_) rfl rfl (by kernel_rfl) (fun _ _ _ h => h) (by rfl) ?_ ?_
            rotate_left
            · simp only [Act.put, n1, n2, n3]; rfl
            refine po 41 4398046511103 (N := some 116) (a' := ?_) rfl rfl (by kernel_rfl) (fun _ _ _ h => h) (by rfl) ?_ ?_
            rotate_left
            · simp only [Act.put, n1, n2, n3]; rfl
            refine po 42 8796093022207 (N := some 117) (a' := ?_) rfl rfl (by kernel_rfl) (fun _ _ _ h => h) (by rfl) ?_ ?_
            rotate_left
            · simp only [Act.put, n1, n2, n3]; rfl
            refine po 43 17592186044415 (N := some 118) (a' := ?_) rfl rfl (by kernel_rfl) (fun _ _ _ h => h) (by rfl) ?_ ?_
            rotate_left
            · simp only [Act.put, n1, n2, n3]; rfl
            refine po 44 35184372088831 (N := some 119) (a' := ?_) rfl rfl (by kernel_rfl) (fun _ _ _ h => h) (by rfl) ?_ ?_
            rotate_left
            · simp only [Act.put, n1, n2, n3]; rfl
            refine pu 45 70368744177663 (N := some 120) (v := ?_) (a' := ?_) rfl rfl (by kernel_rfl) (fun _ _ _ h => h) (by rfl) ?_ ?_ ?_
            rotate_left
            · intro w'; go_simp; with_reducible rfl
            rotate_left
            · simp only [Act.put, n1, n2, n3]; rfl
            refine pu 46 140737488355327 (N := some 121) (v := ?_) (a' := ?_) rfl rfl (by kernel_rfl) (fun _ _ _ h => h) (by rfl) ?_ ?_ ?_
            rotate_left
            · intro w'; go_simp; with_reducible rfl
            rotate_left
            · simp only [Act.put, n1, n2, n3]; rfl
            refine pu 47 281474976710655 (N := some 122) (v := ?_) (a' := ?_) rfl rfl (by kernel_rfl) (fun _ _ _ h => h) (by rfl) ?_ ?_ ?_
            rotate_left
            · intro w'; go_simp; with_reducible rfl
            rotate_left
            · simp only [Act.put, n1, n2, n3]; rfl
            refine pu 48 562949953421311 (N := some 123) (v := ?_) (a' := ?_) rfl rfl (by kernel_rfl) (fun _ _ _ h => h) (by rfl) ?_ ?_ ?_
            rotate_left
            · intro w'; go_simp; with_reducible rfl
            rotate_left
            · simp only [Act.put, n1, n2, n3]; rfl
            refine tk 49 1125899906842623 (N := some 124) (v := ?_) (a' := ?_) rfl rfl (by kernel_rfl) (fun _ _ _ h => h) (by rfl) ?_ hHeld ?_ ?_
            rotate_left
            · rintro w' ⟨s0, s1, s2⟩; go_simp; with_reducible rfl
            rotate_left
            · simp only [Act.put, n1, n2, n3]; rfl
            refine pu 50 2251799813685247 (N := some 125) (v := ?_) (a' := ?_) rfl rfl (by kernel_rfl) (fun _ _ _ h => h) (by rfl) ?_ ?_ ?_
            rotate_left
            · intro w'; go_simp; with_reducible rfl
            rotate_left
            · simp only [Act.put, n1, n2, n3]; rfl
            refine pu 51 4503599627370495 (N := some 126) (v := ?_) (a' := ?_) rfl rfl (by kernel_rfl) (fun _ _ _ h => h) (by rfl) ?_ ?_ ?_
            rotate_left
            · intro w'; go_simp; with_reducible rfl
            rotate_left
            · simp only [Act.put, n1, n2, n3]; rfl
            refine pu 52 9007199254740991 (N := some 127) (v := ?_) (a' := ?_) rfl rfl (by kernel_rfl) (fun _ _ _ h => h) (by rfl) ?_ ?_ ?_
            rotate_left
            · intro w'; go_simp; with_reducible rfl
            rotate_left
            · simp only [Act.put, n1, n2, n3]; rfl
            refine pu 54 27021597764222975 (N := some 129) (v := ?_) (a' := ?_) rfl rfl (by kernel_rfl) (fun _ _ _ h => h) (by rfl) ?_ ?_ ?_
            rotate_left
            · intro w'; go_simp; with_reducible rfl
            rotate_left
            · simp only [Act.put, n1, n2, n3]; rfl
            refine tk 55 63050394783186943 (N := some 130) (v := ?_) (a' := ?_) rfl rfl (by kernel_rfl) (fun _ _ _ h => h) (by rfl) ?_ hHeld ?_ ?_
            rotate_left
            · rintro w' ⟨s0, s1, s2⟩; go_simp; with_reducible rfl
            rotate_left
            · simp only [Act.put, n1, n2, n3]; rfl
            refine one_ (i := 53) (N := some 128) #[true, true, true, true, true, true, true, true, true, true, true, true, true, true, true, true, true, true, true, true, true, true, true, true, true, true, true, true, true, true, true, true, true, true, true, true, true, true, true, true, true, true, true, true, true, true, true, true, true, true, true, true, true, true, true, true, false, false, false] rfl rfl (by kernel_rfl) (by decide) (fun K hK => ?_)
            refine goes_ Try.func20 (by kernel_rfl) rfl #[.pointer (some ⟨g, 0, none⟩)] (by rfl) rfl rfl (by simp only [List.map_toArray, List.map_cons, List.map_nil]; rfl) ?_
            with_reducible refine (HCd.out.text HF.out).mono ?_
            rintro e6 w6 ⟨rfl, hc6, hk6, hb6⟩
            refine ⟨_, rfl, ?_⟩
            have HG6 := Aside0.mk ((hk6.2 wr.heap.size (blk_lt HGd.out) (by have := HNE.out; omega) (by simp)).trans HGd.out)
            have HB6 := Aside0.mk (Cur.wide2 HBd.out hb6 hlo.out.2)
            have HC6 := Aside0.mk hc6
            clear hc6 hk6 hb6
            refine hK.out _ _ ⟨(HQ.out _ HG6.out).1, (HQ.out _ HG6.out).2, (HCV.out _ HB6.out)⟩ (fun hHeld => ?_)
            clear hK K
            refine norm_ (a' := ?_) ?_ ?_
            rotate_left
            · show Act.put _ (some 128) _ = _
              simp only [Act.put, List.setIfInBounds_toArray, List.set_cons_zero, List.set_cons_succ, i64_w, i32_w]
              rfl
            refine pu 56 144115188075855871 (N := some 131) (v := ?_) (a' := ?_) rfl rfl (by kernel_rfl) (fun _ _ _ h => h) (by rfl) ?_ ?_ ?_
            rotate_left
            · intro w'; go_simp; with_reducible rfl
            rotate_left
            · simp only [Act.put, n1, n2, n3]; rfl
            refine pu 57 288230376151711743 (N := some 132) (v := ?_) (a' := ?_) rfl rfl (by kernel_rfl) (fun _ _ _ h => h) (by rfl) ?_ ?_ ?_
            rotate_left
            · intro w'; go_simp; with_reducible rfl
            rotate_left
            · simp only [Act.put, n1, n2, n3]; rfl
            refine pu 58 576460752303423487 (N := some 133) (v := ?_) (a' := ?_) rfl rfl (by kernel_rfl) (fun _ _ _ h => h) (by rfl) ?_ ?_ ?_
            rotate_left
            · intro w'; go_simp; with_reducible rfl
            rotate_left
            · simp only [Act.put, n1, n2, n3]; rfl
            refine done_ (by kernel_rfl) ?_
            have hq0 := (HQ.out _ HG6.out).1
            have hq1 := (HQ.out _ HG6.out).2
            have hwa : wrap64 (a : Int) = (x : Int) := by rw [show (a : Int) = (x : Int) by have := HXE.out; omega]; exact wx x (by have := HX2.out; have := HL.out; omega)
            have hxa : a = x := HXE.out.symm
            have HWA := Aside0.mk hwa
            clear hwa
            obtain ⟨y, hy⟩ : ∃ y : Nat, y = l0.length - x := ⟨_, rfl⟩
            have hwl : wrap64 ((l0.length : Int) - (x : Int)) = (y : Int) := by rw [show (l0.length : Int) - (x : Int) = (y : Int) by have := HX2.out; omega]; exact wx y (by have := HL.out; omega)
            have HLF := Aside0.mk (left_at l0 x e (by have := HL.out; omega) (by have := HX2.out; omega))
            rw [← hy] at HLF
            obtain ⟨q, hq⟩ : ∃ q, (e == 0) = q := ⟨_, rfl⟩
            have hq2 : decide (e = 0) = q := by rw [← hq]; rfl
            have HGF := Aside0.mk (good_at l0 (x : Int) e)
            rw [hq] at HGF
            have hwa := HWA.out
            clear hy
            rw [hxa] at HC6
            clear hxa
            rw [e1] at hq
            subst hq
            clear hq2
            go_wp2_with fail
            refine (HC6.out.left HLF.out).mono ?_
            rintro e7 w8 ⟨rfl, hc8, hk8, hb8⟩
            have HB8 := Aside0.mk (Cur.wide2 HB6.out hb8 hlo.out.2)
            have HC8 := Aside0.mk hc8
            clear hc8 hk8 hb8
            go_wp2_with fail
            refine (HC8.out.good HGF.out).mono ?_
            rintro e8 w9 ⟨rfl, hc9, hk9, hb9⟩
            have HB9 := Aside0.mk (Cur.wide2 HB8.out hb9 hlo.out.2)
            have HC9 := Aside0.mk hc9
            clear hc9 hk9 hb9
            go_wp2_with fail
            clear hwa hwl
            go_roundg k1
            case measure => omega
            case rel => exact ⟨i + 1, x, e, by first | rfl | (rw [HWA.out]) | (congr 1; exact HWA.out), rfl, by first | rfl | exact congrArg (Value.int .i64) (wr1 i (by have := HIL.out; have := HL.out; omega)), ⟨by have := HI.out; omega⟩, HX2, HC9, HB9⟩
      obtain rfl : d = 5 := by omega
      clear h h2 hd0 hd1 hd2 hd3 hd4
      by_cases h3 : N < 1
      · as_aux_lemma =>
          have t3 : decide (N < 1) = true := decide_eq_true (by omega)
          have HG4 := Aside0.mk (blk_new wr (.cells #[.int .i64 5, .int .i64 N] 38))
          have HBa := Aside0.mk (below_alloc (Below.refl wr.heap.size wr) (.cells #[.int .i64 5, .int .i64 N] 38))
          have HB4 := Aside0.mk (below_step HB.out HBa.out)
          have HC4 := Aside0.mk (HC.out.below HBa.out)
          have hq0 := blk_cell HG4.out 0
          have hq1 := blk_cell HG4.out 1
          simp only [List.getElem?_toArray, List.getElem?_cons_zero, List.getElem?_cons_succ] at hq0 hq1
          clear HC HB HBa hi h3
          go_wp2_with (first | ((with_reducible refine gate_dst (N := 40) rfl ?_); refine load_at rfl 38 _ rfl (ad.add (i * 2)) ?hx [.int .i64 5, .int .i64 N] HX.out _ Try.underlying38 rfl (by rw [infoAct]; rfl) ?_; (case hx => rfl)) | ((with_reducible refine gate_dst (N := 67) rfl ?_); refine wpList_load_row rfl 38 _ rfl wr.heap.size (by rfl) 38 #[.int .i64 5, .int .i64 N] (0, 0) _ HG4.out Try.underlying38 rfl (by rw [infoAct]; rfl) ?_))
          go_ret
          exact ⟨rfl, HB4.out⟩
      by_cases h4 : 8 < N
      · as_aux_lemma =>
          have t3 : decide (N < 1) = false := decide_eq_false (by omega)
          have t4 : decide (8 < N) = true := decide_eq_true (by omega)
          have HG4 := Aside0.mk (blk_new wr (.cells #[.int .i64 5, .int .i64 N] 38))
          have HBa := Aside0.mk (below_alloc (Below.refl wr.heap.size wr) (.cells #[.int .i64 5, .int .i64 N] 38))
          have HB4 := Aside0.mk (below_step HB.out HBa.out)
          have HC4 := Aside0.mk (HC.out.below HBa.out)
          have hq0 := blk_cell HG4.out 0
          have hq1 := blk_cell HG4.out 1
          simp only [List.getElem?_toArray, List.getElem?_cons_zero, List.getElem?_cons_succ] at hq0 hq1
          clear HC HB HBa hi h3 h4
          go_wp2_with (first | ((with_reducible refine gate_dst (N := 40) rfl ?_); refine load_at rfl 38 _ rfl (ad.add (i * 2)) ?hx [.int .i64 5, .int .i64 N] HX.out _ Try.underlying38 rfl (by rw [infoAct]; rfl) ?_; (case hx => rfl)) | ((with_reducible refine gate_dst (N := 67) rfl ?_); refine wpList_load_row rfl 38 _ rfl wr.heap.size (by rfl) 38 #[.int .i64 5, .int .i64 N] (0, 0) _ HG4.out Try.underlying38 rfl (by rw [infoAct]; rfl) ?_))
          go_ret
          exact ⟨rfl, HB4.out⟩
      have h5 : 1 ≤ N ∧ N ≤ 8 := by omega
      clear h3 h4
      by_cases he : e = 0
      · subst he
        as_aux_lemma =>
          have HN5 := Aside0.mk h5
          have t3 : decide (N < 1) = false := decide_eq_false (by omega)
          have t4 : decide (8 < N) = false := decide_eq_false (by omega)
          have HG4 := Aside0.mk (blk_new wr (.cells #[.int .i64 5, .int .i64 N] 38))
          have HBa := Aside0.mk (below_alloc (Below.refl wr.heap.size wr) (.cells #[.int .i64 5, .int .i64 N] 38))
          have HB4 := Aside0.mk (below_step HB.out HBa.out)
          have HC4 := Aside0.mk (HC.out.below HBa.out)
          have hq0 := blk_cell HG4.out 0
          have hq1 := blk_cell HG4.out 1
          simp only [List.getElem?_toArray, List.getElem?_cons_zero, List.getElem?_cons_succ] at hq0 hq1
          have HLT := Aside0.mk HC.out.lt
          clear HC HB HBa hi h5
          go_wp2_with (first | ((with_reducible refine gate_dst (N := 40) rfl ?_); refine load_at rfl 38 _ rfl (ad.add (i * 2)) ?hx [.int .i64 5, .int .i64 N] HX.out _ Try.underlying38 rfl (by rw [infoAct]; rfl) ?_; (case hx => rfl)) | ((with_reducible refine gate_dst (N := 67) rfl ?_); refine wpList_load_row rfl 38 _ rfl wr.heap.size (by rfl) 38 #[.int .i64 5, .int .i64 N] (0, 0) _ HG4.out Try.underlying38 rfl (by rw [infoAct]; rfl) ?_))
          refine (step_5 A0 c0 l0 a N _ (Kd.C_below HR0.out HB4.out) HC0.out HY.out HL.out.1 HE.out.1 HN.out.2 (by exact HN5.out)).mono ?_
          rintro e5 w5 ⟨n, bs, s, er, A5, c5, rfl, hR, hle, hcs, hb5⟩
          have HG5 := Aside0.mk ((hb5.block _ (blk_lt HG4.out)).trans HG4.out)
          have HB5 := Aside0.mk (below_step HB4.out hb5)
          have HC5 := Aside0.mk (HC4.out.below hb5)
          have HNE := Aside0.mk (show g < wr.heap.size from HLT.out)
          obtain ⟨x, hx⟩ : ∃ x : Nat, x = a + s := ⟨_, rfl⟩
          unfold StepR at hR
          rw [← hx] at hR
          have HX2 := Aside0.mk (show x ≤ l0.length ∧ 0 ≤ er ∧ er ≤ 8 from ⟨hR.1, hR.2.1⟩)
          have HXE := Aside0.mk hx
          have hs5 : (s : Int) = (x : Int) - (a : Int) := by omega
          obtain ⟨hs0, hEN⟩ := hR.2.2.2.2.2.2.2 rfl
          have hEN2 := hEN.symm
          subst hEN2
          clear hs5 hEN hR hle hcs hb5 hq0 hq1 hx HG4 HB4 HC4
          go_wp2_with fail
          have HQ : Aside0 (∀ W : World, W.heap[wr.heap.size]? = some (.cells #[.int .i64 5, .int .i64 N] 38 (0, 0)) → W.cell? ⟨wr.heap.size, 0, none⟩ = some (.int .i64 5) ∧ W.cell? ⟨wr.heap.size, 1, none⟩ = some (.int .i64 N)) := ⟨fun W hW => ⟨blk_cell hW 0, blk_cell hW 1⟩⟩
          have HGd : Aside0 (w5.drew.heap[wr.heap.size]? = some (.cells #[.int .i64 5, .int .i64 N] 38 (0, 0))) := ⟨HG5.out⟩
          have HBd := Aside0.mk (below_drew1 HB5.out)
          have HCd := Aside0.mk (HC5.out.below (below_drew1 (Below.refl _ w5)))
          clear HG5 HB5 HC5
          refine start_ (n := 59) (S := fun w' => w'.cell? ⟨wr.heap.size, 0, none⟩ = some (.int .i64 5) ∧ w'.cell? ⟨wr.heap.size, 1, none⟩ = some (.int .i64 N)) (ds := []) #[false, false, false, false, false, false, false, false, false, false, false, false, false, false, false, false, false, false, false, false, false, false, false, false, false, false, false, false, false, false, false, false, false, false, false, false, false, false, false, false, false, false, false, false, false, false, false, false, false, false, false, false, false, false, false, false, false, false, false] (by kernel_rfl) rfl rfl ⟨(HQ.out _ HGd.out).1, (HQ.out _ HGd.out).2⟩ (fun hHeld => ?_)
          refine pu 0 1 (N := some 75) (v := ?_) (a' := ?_) rfl rfl (by kernel_rfl) (fun _ _ _ h => h) (by rfl) ?_ ?_ ?_
          rotate_left
          · intro w'; go_simp; with_reducible rfl
          rotate_left
          · simp only [Act.put, n1, n2, n3]; rfl
          refine tk 1 3 (N := some 76) (v := ?_) (a' := ?_) rfl rfl (by kernel_rfl) (fun _ _ _ h => h) (by rfl) ?_ hHeld ?_ ?_
          rotate_left
          · rintro w' ⟨s0, s1⟩; go_simp; with_reducible rfl
          rotate_left
          · simp only [Act.put, n1, n2, n3]; rfl
          refine pu 2 7 (N := some 77) (v := ?_) (a' := ?_) rfl rfl (by kernel_rfl) (fun _ _ _ h => h) (by rfl) ?_ ?_ ?_
          rotate_left
          · intro w'; go_simp; with_reducible rfl
          rotate_left
          · simp only [Act.put, n1, n2, n3]; rfl
          refine pu 3 15 (N := some 78) (v := ?_) (a' := ?_) rfl rfl (by kernel_rfl) (fun _ _ _ h => h) (by rfl) ?_ ?_ ?_
          rotate_left
          · intro w'; go_simp; with_reducible rfl
          rotate_left
          · simp only [Act.put, n1, n2, n3]; rfl
          refine po 4 31 (N := some 79) (a' := ?_) rfl rfl (by kernel_rfl) (fun _ _ _ h => h) (by rfl) ?_ ?_
          rotate_left
          · simp only [Act.put, n1, n2, n3]; rfl
          refine po 5 63 (N := some 80) (a' := ?_) rfl rfl (by kernel_rfl) (fun _ _ _ h => h) (by rfl) ?_ ?_
          rotate_left
          · simp only [Act.put, n1, n2, n3]; rfl
          refine po 6 127 (N := some 81) (a' := ?_) rfl rfl (by kernel_rfl) (fun _ _ _ h => h) (by rfl) ?_ ?_
          rotate_left
          · simp only [Act.put, n1, n2, n3]; rfl
          refine po 7 255 (N := some 82) (a' := ?_) rfl rfl (by kernel_rfl) (fun _ _ _ h => h) (by rfl) ?_ ?_
          rotate_left
          · simp only [Act.put, n1, n2, n3]; rfl
          refine pu 8 511 (N := some 83) (v := ?_) (a' := ?_) rfl rfl (by kernel_rfl) (fun _ _ _ h => h) (by rfl) ?_ ?_ ?_
          rotate_left
          · intro w'; go_simp; with_reducible rfl
          rotate_left
          · simp only [Act.put, n1, n2, n3]; rfl
          refine pu 9 1023 (N := some 84) (v := ?_) (a' := ?_) rfl rfl (by kernel_rfl) (fun _ _ _ h => h) (by rfl) ?_ ?_ ?_
          rotate_left
          · intro w'; go_simp; with_reducible rfl
          rotate_left
          · simp only [Act.put, n1, n2, n3]; rfl
          refine pu 10 2047 (N := some 85) (v := ?_) (a' := ?_) rfl rfl (by kernel_rfl) (fun _ _ _ h => h) (by rfl) ?_ ?_ ?_
          rotate_left
          · intro w'; go_simp; with_reducible rfl
          rotate_left
          · simp only [Act.put, n1, n2, n3]; rfl
          refine tk 11 4095 (N := some 86) (v := ?_) (a' := ?_) rfl rfl (by kernel_rfl) (fun _ _ _ h => h) (by rfl) ?_ hHeld ?_ ?_
          rotate_left
          · rintro w' ⟨s0, s1⟩; go_simp; with_reducible rfl
          rotate_left
          · simp only [Act.put, n1, n2, n3]; rfl
          refine pu 12 8191 (N := some 87) (v := ?_) (a' := ?_) rfl rfl (by kernel_rfl) (fun _ _ _ h => h) (by rfl) ?_ ?_ ?_
          rotate_left
          · intro w'; go_simp; with_reducible rfl
          rotate_left
          · simp only [Act.put, n1, n2, n3]; rfl
          refine pu 13 16383 (N := some 88) (v := ?_) (a' := ?_) rfl rfl (by kernel_rfl) (fun _ _ _ h => h) (by rfl) ?_ ?_ ?_
          rotate_left
          · intro w'; go_simp; with_reducible rfl
          rotate_left
          · simp only [Act.put, n1, n2, n3]; rfl
          refine po 14 32767 (N := some 89) (a' := ?_) rfl rfl (by kernel_rfl) (fun _ _ _ h => h) (by rfl) ?_ ?_
          rotate_left
          · simp only [Act.put, n1, n2, n3]; rfl
          refine po 15 65535 (N := some 90) (a' := ?_) rfl rfl (by kernel_rfl) (fun _ _ _ h => h) (by rfl) ?_ ?_
          rotate_left
          · simp only [Act.put, n1, n2, n3]; rfl
          refine po 16 131071 (N := some 91) (a' := ?_) rfl rfl (by kernel_rfl) (fun _ _ _ h => h) (by rfl) ?_ ?_
          rotate_left
          · simp only [Act.put, n1, n2, n3]; rfl
          refine po 17 262143 (N := some 92) (a' := ?_) rfl rfl (by kernel_rfl) (fun _ _ _ h => h) (by rfl) ?_ ?_
          rotate_left
          · simp only [Act.put, n1, n2, n3]; rfl
          refine po 18 524287 (N := some 93) (a' := ?_) rfl rfl (by kernel_rfl) (fun _ _ _ h => h) (by rfl) ?_ ?_
          rotate_left
          · simp only [Act.put, n1, n2, n3]; rfl
          refine po 19 1048575 (N := some 94) (a' := ?_) rfl rfl (by kernel_rfl) (fun _ _ _ h => h) (by rfl) ?_ ?_
          rotate_left
          · simp only [Act.put, n1, n2, n3]; rfl
          refine po 20 2097151 (N := some 95) (a' := ?_) rfl rfl (by kernel_rfl) (fun _ _ _ h => h) (by rfl) ?_ ?_
          rotate_left
          · simp only [Act.put, n1, n2, n3]; rfl
          refine pu 21 4194303 (N := some 96) (v := ?_) (a' := ?_) rfl rfl (by kernel_rfl) (fun _ _ _ h => h) (by rfl) ?_ ?_ ?_
          rotate_left
          · intro w'; go_simp; with_reducible rfl
          rotate_left
          · simp only [Act.put, n1, n2, n3]; rfl
          refine pu 22 8388607 (N := some 97) (v := ?_) (a' := ?_) rfl rfl (by kernel_rfl) (fun _ _ _ h => h) (by rfl) ?_ ?_ ?_
          rotate_left
          · intro w'; go_simp; with_reducible rfl
          rotate_left
          · simp only [Act.put, n1, n2, n3]; rfl
          refine pu 23 16777215 (N := some 98) (v := ?_) (a' := ?_) rfl rfl (by kernel_rfl) (fun _ _ _ h => h) (by rfl) ?_ ?_ ?_
          rotate_left
          · intro w'; go_simp; with_reducible rfl
          rotate_left
          · simp only [Act.put, n1, n2, n3]; rfl
          refine pu 24 33554431 (N := some 99) (v := ?_) (a' := ?_) rfl rfl (by kernel_rfl) (fun _ _ _ h => h) (by rfl) ?_ ?_ ?_
          rotate_left
          · intro w'; go_simp; with_reducible rfl
          rotate_left
          · simp only [Act.put, n1, n2, n3]; rfl
          refine tk 25 67108863 (N := some 100) (v := ?_) (a' := ?_) rfl rfl (by kernel_rfl) (fun _ _ _ h => h) (by rfl) ?_ hHeld ?_ ?_
          rotate_left
          · rintro w' ⟨s0, s1⟩; go_simp; with_reducible rfl
          rotate_left
          · simp only [Act.put, n1, n2, n3]; rfl
          refine pu 26 134217727 (N := some 101) (v := ?_) (a' := ?_) rfl rfl (by kernel_rfl) (fun _ _ _ h => h) (by rfl) ?_ ?_ ?_
          rotate_left
          · intro w'; go_simp; with_reducible rfl
          rotate_left
          · simp only [Act.put, n1, n2, n3]; rfl
          refine pu 27 268435455 (N := some 102) (v := ?_) (a' := ?_) rfl rfl (by kernel_rfl) (fun _ _ _ h => h) (by rfl) ?_ ?_ ?_
          rotate_left
          · intro w'; go_simp; with_reducible rfl
          rotate_left
          · simp only [Act.put, n1, n2, n3]; rfl
          refine po 28 536870911 (N := some 103) (a' := ?_) rfl rfl (by kernel_rfl) (fun _ _ _ h => h) (by rfl) ?_ ?_
          rotate_left
          · simp only [Act.put, n1, n2, n3]; rfl
          refine po 29 1073741823 (N := some 104) (a' := ?_) rfl rfl (by kernel_rfl) (fun _ _ _ h => h) (by rfl) ?_ ?_
          rotate_left
          · simp only [Act.put, n1, n2, n3]; rfl
          refine po 30 2147483647 (N := some 105) (a' := ?_) rfl rfl (by kernel_rfl) (fun _ _ _ h => h) (by rfl) ?_ ?_
          rotate_left
          · simp only [Act.put, n1, n2, n3]; rfl
          refine po 31 4294967295 (N := some 106) (a' := ?_) rfl rfl (by kernel_rfl) (fun _ _ _ h => h) (by rfl) ?_ ?_
          rotate_left
          · simp only [Act.put, n1, n2, n3]; rfl
          refine pu 32 8589934591 (N := some 107) (v := ?_) (a' := ?_) rfl rfl (by kernel_rfl) (fun _ _ _ h => h) (by rfl) ?_ ?_ ?_
          rotate_left
          · intro w'; go_simp; with_reducible rfl
          rotate_left
          · simp only [Act.put, n1, n2, n3]; rfl
          refine pu 33 17179869183 (N := some 108) (v := ?_) (a' := ?_) rfl rfl (by kernel_rfl) (fun _ _ _ h => h) (by rfl) ?_ ?_ ?_
          rotate_left
          · intro w'; go_simp; with_reducible rfl
          rotate_left
          · simp only [Act.put, n1, n2, n3]; rfl
          refine pu 34 34359738367 (N := some 109) (v := ?_) (a' := ?_) rfl rfl (by kernel_rfl) (fun _ _ _ h => h) (by rfl) ?_ ?_ ?_
          rotate_left
          · intro w'; go_simp; with_reducible rfl
          rotate_left
          · simp only [Act.put, n1, n2, n3]; rfl
          refine pu 35 68719476735 (N := some 110) (v := ?_) (a' := ?_) rfl rfl (by kernel_rfl) (fun _ _ _ h => h) (by rfl) ?_ ?_ ?_
          rotate_left
          · intro w'; go_simp; with_reducible rfl
          rotate_left
          · simp only [Act.put, n1, n2, n3]; rfl
          refine tk 36 137438953471 (N := some 111) (v := ?_) (a' := ?_) rfl rfl (by kernel_rfl) (fun _ _ _ h => h) (by rfl) ?_ hHeld ?_ ?_
          rotate_left
          · rintro w' ⟨s0, s1⟩; go_simp; with_reducible rfl
          rotate_left
          · simp only [Act.put, n1, n2, n3]; rfl
          refine pu 37 274877906943 (N := some 112) (v := ?_) (a' := ?_) rfl rfl (by kernel_rfl) (fun _ _ _ h => h) (by rfl) ?_ ?_ ?_
          rotate_left
          · intro w'; go_simp; with_reducible rfl
          rotate_left
          · simp only [Act.put, n1, n2, n3]; rfl
          refine pu 38 549755813887 (N := some 113) (v := ?_) (a' := ?_) rfl rfl (by kernel_rfl) (fun _ _ _ h => h) (by rfl) ?_ ?_ ?_
          rotate_left
          · intro w'; go_simp; with_reducible rfl
          rotate_left
          · simp only [Act.put, n1, n2, n3]; rfl
          refine po 39 1099511627775 (N := some 114) (a' := ?_) rfl rfl (by kernel_rfl) (fun _ _ _ h => h) (by rfl) ?_ ?_
          rotate_left
          · simp only [Act.put, n1, n2, n3]; rfl
          refine po 40 2199023255551 (N := some 115) (a' := ?_) rfl rfl (by kernel_rfl) (fun _ _ _ h => h) (by rfl) ?_ ?_
          rotate_left
          · simp only [Act.put, n1, n2, n3]; rfl
          refine po 41 4398046511103 (N := some 116) (a' := ?_) rfl rfl (by kernel_rfl) (fun _ _ _ h => h) (by rfl) ?_ ?_
          rotate_left
          · simp only [Act.put, n1, n2, n3]; rfl
          refine po 42 8796093022207 (N := some 117) (a' := ?_) rfl rfl (by kernel_rfl) (fun _ _ _ h => h) (by rfl) ?_ ?_
          rotate_left
          · simp only [Act.put, n1, n2, n3]; rfl
          refine po 43 17592186044415 (N := some 118) (a' := ?_) rfl rfl (by kernel_rfl) (fun _ _ _ h => h) (by rfl) ?_ ?_
          rotate_left
          · simp only [Act.put, n1, n2, n3]; rfl
          refine po 44 35184372088831 (N := some 119) (a' := ?_) rfl rfl (by kernel_rfl) (fun _ _ _ h => h) (by rfl) ?_ ?_
          rotate_left
          · simp only [Act.put, n1, n2, n3]; rfl
          refine pu 45 70368744177663 (N := some 120) (v := ?_) (a' := ?_) rfl rfl (by kernel_rfl) (fun _ _ _ h => h) (by rfl) ?_ ?_ ?_
          rotate_left
          · intro w'; go_simp; with_reducible rfl
          rotate_left
          · simp only [Act.put, n1, n2, n3]; rfl
          refine pu 46 140737488355327 (N := some 121) (v := ?_) (a' := ?_) rfl rfl (by kernel_rfl) (fun _ _ _ h => h) (by rfl) ?_ ?_ ?_
          rotate_left
          · intro w'; go_simp; with_reducible rfl
          rotate_left
          · simp only [Act.put, n1, n2, n3]; rfl
          refine pu 47 281474976710655 (N := some 122) (v := ?_) (a' := ?_) rfl rfl (by kernel_rfl) (fun _ _ _ h => h) (by rfl) ?_ ?_ ?_
          rotate_left
          · intro w'; go_simp; with_reducible rfl
          rotate_left
          · simp only [Act.put, n1, n2, n3]; rfl
          refine pu 48 562949953421311 (N := some 123) (v := ?_) (a' := ?_) rfl rfl (by kernel_rfl) (fun _ _ _ h => h) (by rfl) ?_ ?_ ?_
          rotate_left
          · intro w'; go_simp; with_reducible rfl
          rotate_left
          · simp only [Act.put, n1, n2, n3]; rfl
          refine tk 49 1125899906842623 (N := some 124) (v := ?_) (a' := ?_) rfl rfl (by kernel_rfl) (fun _ _ _ h => h) (by rfl) ?_ hHeld ?_ ?_
          rotate_left
          · rintro w' ⟨s0, s1⟩; go_simp; with_reducible rfl
          rotate_left
          · simp only [Act.put, n1, n2, n3]; rfl
          refine pu 50 2251799813685247 (N := some 125) (v := ?_) (a' := ?_) rfl rfl (by kernel_rfl) (fun _ _ _ h => h) (by rfl) ?_ ?_ ?_
          rotate_left
          · intro w'; go_simp; with_reducible rfl
          rotate_left
          · simp only [Act.put, n1, n2, n3]; rfl
          refine pu 51 4503599627370495 (N := some 126) (v := ?_) (a' := ?_) rfl rfl (by kernel_rfl) (fun _ _ _ h => h) (by rfl) ?_ ?_ ?_
          rotate_left
          · intro w'; go_simp; with_reducible rfl
          rotate_left
          · simp only [Act.put, n1, n2, n3]; rfl
          refine po 52 9007199254740991 (N := some 127) (a' := ?_) rfl rfl (by kernel_rfl) (fun _ _ _ h => h) (by rfl) ?_ ?_
          rotate_left
          · simp only [Act.put, n1, n2, n3]; rfl
          refine po 53 18014398509481983 (N := some 128) (a' := ?_) rfl rfl (by kernel_rfl) (fun _ _ _ h => h) (by rfl) ?_ ?_
          rotate_left
          · simp only [Act.put, n1, n2, n3]; rfl
          refine po 54 36028797018963967 (N := some 129) (a' := ?_) rfl rfl (by kernel_rfl) (fun _ _ _ h => h) (by rfl) ?_ ?_
          rotate_left
          · simp only [Act.put, n1, n2, n3]; rfl
          refine po 55 72057594037927935 (N := some 130) (a' := ?_) rfl rfl (by kernel_rfl) (fun _ _ _ h => h) (by rfl) ?_ ?_
          rotate_left
          · simp only [Act.put, n1, n2, n3]; rfl
          refine po 56 144115188075855871 (N := some 131) (a' := ?_) rfl rfl (by kernel_rfl) (fun _ _ _ h => h) (by rfl) ?_ ?_
          rotate_left
          · simp only [Act.put, n1, n2, n3]; rfl
          refine pu 57 288230376151711743 (N := some 132) (v := ?_) (a' := ?_) rfl rfl (by kernel_rfl) (fun _ _ _ h => h) (by rfl) ?_ ?_ ?_
          rotate_left
          · intro w'; go_simp; with_reducible rfl
          rotate_left
          · simp only [Act.put, n1, n2, n3]; rfl
          refine pu 58 576460752303423487 (N := some 133) (v := ?_) (a' := ?_) rfl rfl (by kernel_rfl) (fun _ _ _ h => h) (by rfl) ?_ ?_ ?_
          rotate_left
          · intro w'; go_simp; with_reducible rfl
          rotate_left
          · simp only [Act.put, n1, n2, n3]; rfl
          refine done_ (by kernel_rfl) ?_
          have hq0 := (HQ.out _ HGd.out).1
          have hq1 := (HQ.out _ HGd.out).2
          go_wp2_with fail
          refine (HCd.out.fail (fail_ok l0 (a : Int) N)).mono ?_
          rintro e6 w6 ⟨rfl, hc6, hk6, hb6⟩
          have HB6 := Aside0.mk (Cur.wide2 HBd.out hb6 hlo.out.2)
          have HC6 := Aside0.mk hc6
          clear hc6 hk6 hb6 hq0 hq1
          obtain rfl := hs0
          have hwa : wrap64 (a : Int) = (x : Int) := by rw [show (a : Int) = (x : Int) by have := HXE.out; omega]; exact wx x (by have := HX2.out; have := HL.out; omega)
          have hxa : a = x := by have := HXE.out; omega
          have HWA := Aside0.mk hwa
          clear hwa
          obtain ⟨y, hy⟩ : ∃ y : Nat, y = l0.length - x := ⟨_, rfl⟩
          have hwl : wrap64 ((l0.length : Int) - (x : Int)) = (y : Int) := by rw [show (l0.length : Int) - (x : Int) = (y : Int) by have := HX2.out; omega]; exact wx y (by have := HL.out; omega)
          have HLF := Aside0.mk (left_at l0 x N (by have := HL.out; omega) (by have := HX2.out; omega))
          rw [← hy] at HLF
          obtain ⟨q, hq⟩ : ∃ q, (N == 0) = q := ⟨_, rfl⟩
          have hq2 : decide (N = 0) = q := by rw [← hq]; rfl
          have HGF := Aside0.mk (good_at l0 (x : Int) N)
          rw [hq] at HGF
          have hwa := HWA.out
          clear hy
          rw [hxa] at HC6
          clear hxa
          go_wp2_with fail
          refine (HC6.out.left HLF.out).mono ?_
          rintro e7 w8 ⟨rfl, hc8, hk8, hb8⟩
          have HB8 := Aside0.mk (Cur.wide2 HB6.out hb8 hlo.out.2)
          have HC8 := Aside0.mk hc8
          clear hc8 hk8 hb8
          go_wp2_with fail
          refine (HC8.out.good HGF.out).mono ?_
          rintro e8 w9 ⟨rfl, hc9, hk9, hb9⟩
          have HB9 := Aside0.mk (Cur.wide2 HB8.out hb9 hlo.out.2)
          have HC9 := Aside0.mk hc9
          clear hc9 hk9 hb9
          go_wp2_with fail
          clear hwa hwl
          go_roundg k1
          case measure => omega
          case rel => exact ⟨i + 1, x, N, by first | rfl | (rw [HWA.out]) | (congr 1; exact HWA.out), rfl, by first | rfl | exact congrArg (Value.int .i64) (wr1 i (by have := HIL.out; have := HL.out; omega)), ⟨by have := HI.out; omega⟩, HX2, HC9, HB9⟩
      · as_aux_lemma =>
          have HN5 := Aside0.mk h5
          have t3 : decide (N < 1) = false := decide_eq_false (by omega)
          have t4 : decide (8 < N) = false := decide_eq_false (by omega)
          have e1 : (e == 0) = false := by simpa using he
          have e2 : (e != 0) = true := by simpa using he
          have e3 : decide (e = 0) = false := decide_eq_false he
          have HNZ := Aside0.mk he
          have HG4 := Aside0.mk (blk_new wr (.cells #[.int .i64 5, .int .i64 N] 38))
          have HBa := Aside0.mk (below_alloc (Below.refl wr.heap.size wr) (.cells #[.int .i64 5, .int .i64 N] 38))
          have HB4 := Aside0.mk (below_step HB.out HBa.out)
          have HC4 := Aside0.mk (HC.out.below HBa.out)
          have hq0 := blk_cell HG4.out 0
          have hq1 := blk_cell HG4.out 1
          simp only [List.getElem?_toArray, List.getElem?_cons_zero, List.getElem?_cons_succ] at hq0 hq1
          have HLT := Aside0.mk HC.out.lt
          clear HC HB HBa hi he h5
          go_wp2_with (first | ((with_reducible refine gate_dst (N := 40) rfl ?_); refine load_at rfl 38 _ rfl (ad.add (i * 2)) ?hx [.int .i64 5, .int .i64 N] HX.out _ Try.underlying38 rfl (by rw [infoAct]; rfl) ?_; (case hx => rfl)) | ((with_reducible refine gate_dst (N := 67) rfl ?_); refine wpList_load_row rfl 38 _ rfl wr.heap.size (by rfl) 38 #[.int .i64 5, .int .i64 N] (0, 0) _ HG4.out Try.underlying38 rfl (by rw [infoAct]; rfl) ?_))
          refine (step_5 A0 c0 l0 a N _ (Kd.C_below HR0.out HB4.out) HC0.out HY.out HL.out.1 HE.out.1 HN.out.2 (by exact HN5.out)).mono ?_
          rintro e5 w5 ⟨n, bs, s, er, A5, c5, rfl, hR, hle, hcs, hb5⟩
          have HG5 := Aside0.mk ((hb5.block _ (blk_lt HG4.out)).trans HG4.out)
          have HB5 := Aside0.mk (below_step HB4.out hb5)
          have HC5 := Aside0.mk (HC4.out.below hb5)
          have HNE := Aside0.mk (show g < wr.heap.size from HLT.out)
          obtain ⟨x, hx⟩ : ∃ x : Nat, x = a := ⟨_, rfl⟩
          have HX2 := Aside0.mk (show x ≤ l0.length ∧ 0 ≤ e ∧ e ≤ 8 by rw [hx]; exact HE.out)
          have HXE := Aside0.mk hx
          clear hR hle hcs hb5 hq0 hq1 hx HG4 HB4 HC4
          go_wp2_with fail
          have HQ : Aside0 (∀ W : World, W.heap[wr.heap.size]? = some (.cells #[.int .i64 5, .int .i64 N] 38 (0, 0)) → W.cell? ⟨wr.heap.size, 0, none⟩ = some (.int .i64 5) ∧ W.cell? ⟨wr.heap.size, 1, none⟩ = some (.int .i64 N)) := ⟨fun W hW => ⟨blk_cell hW 0, blk_cell hW 1⟩⟩
          have HGd : Aside0 (w5.drew.heap[wr.heap.size]? = some (.cells #[.int .i64 5, .int .i64 N] 38 (0, 0))) := ⟨HG5.out⟩
          have HBd := Aside0.mk (below_drew1 HB5.out)
          have HCd := Aside0.mk (HC5.out.below (below_drew1 (Below.refl _ w5)))
          clear HG5 HB5 HC5
          refine start_ (n := 59) (S := fun w' => w'.cell? ⟨wr.heap.size, 0, none⟩ = some (.int .i64 5) ∧ w'.cell? ⟨wr.heap.size, 1, none⟩ = some (.int .i64 N)) (ds := []) #[false, false, false, false, false, false, false, false, false, false, false, false, false, false, false, false, false, false, false, false, false, false, false, false, false, false, false, false, false, false, false, false, false, false, false, false, false, false, false, false, false, false, false, false, false, false, false, false, false, false, false, false, false, false, false, false, false, false, false] (by kernel_rfl) rfl rfl ⟨(HQ.out _ HGd.out).1, (HQ.out _ HGd.out).2⟩ (fun hHeld => ?_)
          refine pu 0 1 (N := some 75) (v := ?_) (a' := ?_) rfl rfl (by kernel_rfl) (fun _ _ _ h => h) (by rfl) ?_ ?_ ?_
          rotate_left
          · intro w'; go_simp; with_reducible rfl
          rotate_left
          · simp only [Act.put, n1, n2, n3]; rfl
          refine tk 1 3 (N := some 76) (v := ?_) (a' := ?_) rfl rfl (by kernel_rfl) (fun _ _ _ h => h) (by rfl) ?_ hHeld ?_ ?_
          rotate_left
          · rintro w' ⟨s0, s1⟩; go_simp; with_reducible rfl
          rotate_left
          · simp only [Act.put, n1, n2, n3]; rfl
          refine pu 2 7 (N := some 77) (v := ?_) (a' := ?_) rfl rfl (by kernel_rfl) (fun _ _ _ h => h) (by rfl) ?_ ?_ ?_
          rotate_left
          · intro w'; go_simp; with_reducible rfl
          rotate_left
          · simp only [Act.put, n1, n2, n3]; rfl
          refine pu 3 15 (N := some 78) (v := ?_) (a' := ?_) rfl rfl (by kernel_rfl) (fun _ _ _ h => h) (by rfl) ?_ ?_ ?_
          rotate_left
          · intro w'; go_simp; with_reducible rfl
          rotate_left
          · simp only [Act.put, n1, n2, n3]; rfl
          refine po 4 31 (N := some 79) (a' := ?_) rfl rfl (by kernel_rfl) (fun _ _ _ h => h) (by rfl) ?_ ?_
          rotate_left
          · simp only [Act.put, n1, n2, n3]; rfl
          refine po 5 63 (N := some 80) (a' := ?_) rfl rfl (by kernel_rfl) (fun _ _ _ h => h) (by rfl) ?_ ?_
          rotate_left
          · simp only [Act.put, n1, n2, n3]; rfl
          refine po 6 127 (N := some 81) (a' := ?_) rfl rfl (by kernel_rfl) (fun _ _ _ h => h) (by rfl) ?_ ?_
          rotate_left
          · simp only [Act.put, n1, n2, n3]; rfl
          refine po 7 255 (N := some 82) (a' := ?_) rfl rfl (by kernel_rfl) (fun _ _ _ h => h) (by rfl) ?_ ?_
          rotate_left
          · simp only [Act.put, n1, n2, n3]; rfl
          refine pu 8 511 (N := some 83) (v := ?_) (a' := ?_) rfl rfl (by kernel_rfl) (fun _ _ _ h => h) (by rfl) ?_ ?_ ?_
          rotate_left
          · intro w'; go_simp; with_reducible rfl
          rotate_left
          · simp only [Act.put, n1, n2, n3]; rfl
          refine pu 9 1023 (N := some 84) (v := ?_) (a' := ?_) rfl rfl (by kernel_rfl) (fun _ _ _ h => h) (by rfl) ?_ ?_ ?_
          rotate_left
          · intro w'; go_simp; with_reducible rfl
          rotate_left
          · simp only [Act.put, n1, n2, n3]; rfl
          refine pu 10 2047 (N := some 85) (v := ?_) (a' := ?_) rfl rfl (by kernel_rfl) (fun _ _ _ h => h) (by rfl) ?_ ?_ ?_
          rotate_left
          · intro w'; go_simp; with_reducible rfl
          rotate_left
          · simp only [Act.put, n1, n2, n3]; rfl
          refine tk 11 4095 (N := some 86) (v := ?_) (a' := ?_) rfl rfl (by kernel_rfl) (fun _ _ _ h => h) (by rfl) ?_ hHeld ?_ ?_
          rotate_left
          · rintro w' ⟨s0, s1⟩; go_simp; with_reducible rfl
          rotate_left
          · simp only [Act.put, n1, n2, n3]; rfl
          refine pu 12 8191 (N := some 87) (v := ?_) (a' := ?_) rfl rfl (by kernel_rfl) (fun _ _ _ h => h) (by rfl) ?_ ?_ ?_
          rotate_left
          · intro w'; go_simp; with_reducible rfl
          rotate_left
          · simp only [Act.put, n1, n2, n3]; rfl
          refine pu 13 16383 (N := some 88) (v := ?_) (a' := ?_) rfl rfl (by kernel_rfl) (fun _ _ _ h => h) (by rfl) ?_ ?_ ?_
          rotate_left
          · intro w'; go_simp; with_reducible rfl
          rotate_left
          · simp only [Act.put, n1, n2, n3]; rfl
          refine po 14 32767 (N := some 89) (a' := ?_) rfl rfl (by kernel_rfl) (fun _ _ _ h => h) (by rfl) ?_ ?_
          rotate_left
          · simp only [Act.put, n1, n2, n3]; rfl
          refine po 15 65535 (N := some 90) (a' := ?_) rfl rfl (by kernel_rfl) (fun _ _ _ h => h) (by rfl) ?_ ?_
          rotate_left
          · simp only [Act.put, n1, n2, n3]; rfl
          refine po 16 131071 (N := some 91) (a' := ?_) rfl rfl (by kernel_rfl) (fun _ _ _ h => h) (by rfl) ?_ ?_
          rotate_left
          · simp only [Act.put, n1, n2, n3]; rfl
          refine po 17 262143 (N := some 92) (a' := ?_) rfl rfl (by kernel_rfl) (fun _ _ _ h => h) (by rfl) ?_ ?_
          rotate_left
          · simp only [Act.put, n1, n2, n3]; rfl
          refine po 18 524287 (N := some 93) (a' := ?_) rfl rfl (by kernel_rfl) (fun _ _ _ h => h) (by rfl) ?_ ?_
          rotate_left
          · simp only [Act.put, n1, n2, n3]; rfl
          refine po 19 1048575 (N := some 94) (a' := ?_) rfl rfl (by kernel_rfl) (fun _ _ _ h => h) (by rfl) ?_ ?_
          rotate_left
          · simp only [Act.put, n1, n2, n3]; rfl
          refine po 20 2097151 (N := some 95) (a' := ?_) rfl rfl (by kernel_rfl) (fun _ _ _ h => h) (by rfl) ?_ ?_
          rotate_left
          · simp only [Act.put, n1, n2, n3]; rfl
          refine pu 21 4194303 (N := some 96) (v := ?_) (a' := ?_) rfl rfl (by kernel_rfl) (fun _ _ _ h => h) (by rfl) ?_ ?_ ?_
          rotate_left
          · intro w'; go_simp; with_reducible rfl
          rotate_left
          · simp only [Act.put, n1, n2, n3]; rfl
          refine pu 22 8388607 (N := some 97) (v := ?_) (a' := ?_) rfl rfl (by kernel_rfl) (fun _ _ _ h => h) (by rfl) ?_ ?_ ?_
          rotate_left
          · intro w'; go_simp; with_reducible rfl
          rotate_left
          · simp only [Act.put, n1, n2, n3]; rfl
          refine pu 23 16777215 (N := some 98) (v := ?_) (a' := ?_) rfl rfl (by kernel_rfl) (fun _ _ _ h => h) (by rfl) ?_ ?_ ?_
          rotate_left
          · intro w'; go_simp; with_reducible rfl
          rotate_left
          · simp only [Act.put, n1, n2, n3]; rfl
          refine pu 24 33554431 (N := some 99) (v := ?_) (a' := ?_) rfl rfl (by kernel_rfl) (fun _ _ _ h => h) (by rfl) ?_ ?_ ?_
          rotate_left
          · intro w'; go_simp; with_reducible rfl
          rotate_left
          · simp only [Act.put, n1, n2, n3]; rfl
          refine tk 25 67108863 (N := some 100) (v := ?_) (a' := ?_) rfl rfl (by kernel_rfl) (fun _ _ _ h => h) (by rfl) ?_ hHeld ?_ ?_
          rotate_left
          · rintro w' ⟨s0, s1⟩; go_simp; with_reducible rfl
          rotate_left
          · simp only [Act.put, n1, n2, n3]; rfl
          refine pu 26 134217727 (N := some 101) (v := ?_) (a' := ?_) rfl rfl (by kernel_rfl) (fun _ _ _ h => h) (by rfl) ?_ ?_ ?_
          rotate_left
          · intro w'; go_simp; with_reducible rfl
          rotate_left
          · simp only [Act.put, n1, n2, n3]; rfl
          refine pu 27 268435455 (N := some 102) (v := ?_) (a' := ?_) rfl rfl (by kernel_rfl) (fun _ _ _ h => h) (by rfl) ?_ ?_ ?_
          rotate_left
          · intro w'; go_simp; with_reducible rfl
          rotate_left
          · simp only [Act.put, n1, n2, n3]; rfl
          refine po 28 536870911 (N := some 103) (a' := ?_) rfl rfl (by kernel_rfl) (fun _ _ _ h => h) (by rfl) ?_ ?_
          rotate_left
          · simp only [Act.put, n1, n2, n3]; rfl
          refine po 29 1073741823 (N := some 104) (a' := ?_) rfl rfl (by kernel_rfl) (fun _ _ _ h => h) (by rfl) ?_ ?_
          rotate_left
          · simp only [Act.put, n1, n2, n3]; rfl
          refine po 30 2147483647 (N := some 105) (a' := ?_) rfl rfl (by kernel_rfl) (fun _ _ _ h => h) (by rfl) ?_ ?_
          rotate_left
          · simp only [Act.put, n1, n2, n3]; rfl
          refine po 31 4294967295 (N := some 106) (a' := ?_) rfl rfl (by kernel_rfl) (fun _ _ _ h => h) (by rfl) ?_ ?_
          rotate_left
          · simp only [Act.put, n1, n2, n3]; rfl
          refine pu 32 8589934591 (N := some 107) (v := ?_) (a' := ?_) rfl rfl (by kernel_rfl) (fun _ _ _ h => h) (by rfl) ?_ ?_ ?_
          rotate_left
          · intro w'; go_simp; with_reducible rfl
          rotate_left
          · simp only [Act.put, n1, n2, n3]; rfl
          refine pu 33 17179869183 (N := some 108) (v := ?_) (a' := ?_) rfl rfl (by kernel_rfl) (fun _ _ _ h => h) (by rfl) ?_ ?_ ?_
          rotate_left
          · intro w'; go_simp; with_reducible rfl
          rotate_left
          · simp only [Act.put, n1, n2, n3]; rfl
          refine pu 34 34359738367 (N := some 109) (v := ?_) (a' := ?_) rfl rfl (by kernel_rfl) (fun _ _ _ h => h) (by rfl) ?_ ?_ ?_
          rotate_left
          · intro w'; go_simp; with_reducible rfl
          rotate_left
          · simp only [Act.put, n1, n2, n3]; rfl
          refine pu 35 68719476735 (N := some 110) (v := ?_) (a' := ?_) rfl rfl (by kernel_rfl) (fun _ _ _ h => h) (by rfl) ?_ ?_ ?_
          rotate_left
          · intro w'; go_simp; with_reducible rfl
          rotate_left
          · simp only [Act.put, n1, n2, n3]; rfl
          refine tk 36 137438953471 (N := some 111) (v := ?_) (a' := ?_) rfl rfl (by kernel_rfl) (fun _ _ _ h => h) (by rfl) ?_ hHeld ?_ ?_
          rotate_left
          · rintro w' ⟨s0, s1⟩; go_simp; with_reducible rfl
          rotate_left
          · simp only [Act.put, n1, n2, n3]; rfl
          refine pu 37 274877906943 (N := some 112) (v := ?_) (a' := ?_) rfl rfl (by kernel_rfl) (fun _ _ _ h => h) (by rfl) ?_ ?_ ?_
          rotate_left
          · intro w'; go_simp; with_reducible rfl
          rotate_left
          · simp only [Act.put, n1, n2, n3]; rfl
          refine pu 38 549755813887 (N := some 113) (v := ?_) (a' := ?_) rfl rfl (by kernel_rfl) (fun _ _ _ h => h) (by rfl) ?_ ?_ ?_
          rotate_left
          · intro w'; go_simp; with_reducible rfl
          rotate_left
          · simp only [Act.put, n1, n2, n3]; rfl
          refine po 39 1099511627775 (N := some 114) (a' := ?_) rfl rfl (by kernel_rfl) (fun _ _ _ h => h) (by rfl) ?_ ?_
          rotate_left
          · simp only [Act.put, n1, n2, n3]; rfl
          refine po 40 2199023255551 (N := some 115) (a' := ?_) rfl rfl (by kernel_rfl) (fun _ _ _ h => h) (by rfl) ?_ ?_
          rotate_left
          · simp only [Act.put, n1, n2, n3]; rfl
          refine po 41 4398046511103 (N := some 116) (a' := ?_) rfl rfl (by kernel_rfl) (fun _ _ _ h => h) (by rfl) ?_ ?_
          rotate_left
          · simp only [Act.put, n1, n2, n3]; rfl
          refine po 42 8796093022207 (N := some 117) (a' := ?_) rfl rfl (by kernel_rfl) (fun _ _ _ h => h) (by rfl) ?_ ?_
          rotate_left
          · simp only [Act.put, n1, n2, n3]; rfl
          refine po 43 17592186044415 (N := some 118) (a' := ?_) rfl rfl (by kernel_rfl) (fun _ _ _ h => h) (by rfl) ?_ ?_
          rotate_left
          · simp only [Act.put, n1, n2, n3]; rfl
          refine po 44 35184372088831 (N := some 119) (a' := ?_) rfl rfl (by kernel_rfl) (fun _ _ _ h => h) (by rfl) ?_ ?_
          rotate_left
          · simp only [Act.put, n1, n2, n3]; rfl
          refine pu 45 70368744177663 (N := some 120) (v := ?_) (a' := ?_) rfl rfl (by kernel_rfl) (fun _ _ _ h => h) (by rfl) ?_ ?_ ?_
          rotate_left
          · intro w'; go_simp; with_reducible rfl
          rotate_left
          · simp only [Act.put, n1, n2, n3]; rfl
          refine pu 46 140737488355327 (N := some 121) (v := ?_) (a' := ?_) rfl rfl (by kernel_rfl) (fun _ _ _ h => h) (by rfl) ?_ ?_ ?_
          rotate_left
          · intro w'; go_simp; with_reducible rfl
          rotate_left
          · simp only [Act.put, n1, n2, n3]; rfl
          refine pu 47 281474976710655 (N := some 122) (v := ?_) (a' := ?_) rfl rfl (by kernel_rfl) (fun _ _ _ h => h) (by rfl) ?_ ?_ ?_
          rotate_left
          · intro w'; go_simp; with_reducible rfl
          rotate_left
          · simp only [Act.put, n1, n2, n3]; rfl
          refine pu 48 562949953421311 (N := some 123) (v := ?_) (a' := ?_) rfl rfl (by kernel_rfl) (fun _ _ _ h => h) (by rfl) ?_ ?_ ?_
          rotate_left
          · intro w'; go_simp; with_reducible rfl
          rotate_left
          · simp only [Act.put, n1, n2, n3]; rfl
          refine tk 49 1125899906842623 (N := some 124) (v := ?_) (a' := ?_) rfl rfl (by kernel_rfl) (fun _ _ _ h => h) (by rfl) ?_ hHeld ?_ ?_
          rotate_left
          · rintro w' ⟨s0, s1⟩; go_simp; with_reducible rfl
          rotate_left
          · simp only [Act.put, n1, n2, n3]; rfl
          refine pu 50 2251799813685247 (N := some 125) (v := ?_) (a' := ?_) rfl rfl (by kernel_rfl) (fun _ _ _ h => h) (by rfl) ?_ ?_ ?_
          rotate_left
          · intro w'; go_simp; with_reducible rfl
          rotate_left
          · simp only [Act.put, n1, n2, n3]; rfl
          refine pu 51 4503599627370495 (N := some 126) (v := ?_) (a' := ?_) rfl rfl (by kernel_rfl) (fun _ _ _ h => h) (by rfl) ?_ ?_ ?_
          rotate_left
          · intro w'; go_simp; with_reducible rfl
          rotate_left
          · simp only [Act.put, n1, n2, n3]; rfl
          refine po 52 9007199254740991 (N := some 127) (a' := ?_) rfl rfl (by kernel_rfl) (fun _ _ _ h => h) (by rfl) ?_ ?_
          rotate_left
          · simp only [Act.put, n1, n2, n3]; rfl
          refine po 53 18014398509481983 (N := some 128) (a' := ?_) rfl rfl (by kernel_rfl) (fun _ _ _ h => h) (by rfl) ?_ ?_
          rotate_left
          · simp only [Act.put, n1, n2, n3]; rfl
          refine po 54 36028797018963967 (N := some 129) (a' := ?_) rfl rfl (by kernel_rfl) (fun _ _ _ h => h) (by rfl) ?_ ?_
          rotate_left
          · simp only [Act.put, n1, n2, n3]; rfl
          refine po 55 72057594037927935 (N := some 130) (a' := ?_) rfl rfl (by kernel_rfl) (fun _ _ _ h => h) (by rfl) ?_ ?_
          rotate_left
          · simp only [Act.put, n1, n2, n3]; rfl
          refine po 56 144115188075855871 (N := some 131) (a' := ?_) rfl rfl (by kernel_rfl) (fun _ _ _ h => h) (by rfl) ?_ ?_
          rotate_left
          · simp only [Act.put, n1, n2, n3]; rfl
          refine pu 57 288230376151711743 (N := some 132) (v := ?_) (a' := ?_) rfl rfl (by kernel_rfl) (fun _ _ _ h => h) (by rfl) ?_ ?_ ?_
          rotate_left
          · intro w'; go_simp; with_reducible rfl
          rotate_left
          · simp only [Act.put, n1, n2, n3]; rfl
          refine pu 58 576460752303423487 (N := some 133) (v := ?_) (a' := ?_) rfl rfl (by kernel_rfl) (fun _ _ _ h => h) (by rfl) ?_ ?_ ?_
          rotate_left
          · intro w'; go_simp; with_reducible rfl
          rotate_left
          · simp only [Act.put, n1, n2, n3]; rfl
          refine done_ (by kernel_rfl) ?_
          have hq0 := (HQ.out _ HGd.out).1
          have hq1 := (HQ.out _ HGd.out).2
          go_wp2_with fail
          refine (HCd.out.fail (fail_bad l0 (a : Int) e N HNZ.out)).mono ?_
          rintro e6 w6 ⟨rfl, hc6, hk6, hb6⟩
          have HB6 := Aside0.mk (Cur.wide2 HBd.out hb6 hlo.out.2)
          have HC6 := Aside0.mk hc6
          clear hc6 hk6 hb6 hq0 hq1
          have hwa : wrap64 (a : Int) = (x : Int) := by rw [show (a : Int) = (x : Int) by have := HXE.out; omega]; exact wx x (by have := HX2.out; have := HL.out; omega)
          have hxa : a = x := HXE.out.symm
          have HWA := Aside0.mk hwa
          clear hwa
          obtain ⟨y, hy⟩ : ∃ y : Nat, y = l0.length - x := ⟨_, rfl⟩
          have hwl : wrap64 ((l0.length : Int) - (x : Int)) = (y : Int) := by rw [show (l0.length : Int) - (x : Int) = (y : Int) by have := HX2.out; omega]; exact wx y (by have := HL.out; omega)
          have HLF := Aside0.mk (left_at l0 x e (by have := HL.out; omega) (by have := HX2.out; omega))
          rw [← hy] at HLF
          obtain ⟨q, hq⟩ : ∃ q, (e == 0) = q := ⟨_, rfl⟩
          have hq2 : decide (e = 0) = q := by rw [← hq]; rfl
          have HGF := Aside0.mk (good_at l0 (x : Int) e)
          rw [hq] at HGF
          have hwa := HWA.out
          clear hy
          rw [hxa] at HC6
          clear hxa
          rw [e1] at hq
          subst hq
          clear hq2
          go_wp2_with fail
          refine (HC6.out.left HLF.out).mono ?_
          rintro e7 w8 ⟨rfl, hc8, hk8, hb8⟩
          have HB8 := Aside0.mk (Cur.wide2 HB6.out hb8 hlo.out.2)
          have HC8 := Aside0.mk hc8
          clear hc8 hk8 hb8
          go_wp2_with fail
          refine (HC8.out.good HGF.out).mono ?_
          rintro e8 w9 ⟨rfl, hc9, hk9, hb9⟩
          have HB9 := Aside0.mk (Cur.wide2 HB8.out hb9 hlo.out.2)
          have HC9 := Aside0.mk hc9
          clear hc9 hk9 hb9
          go_wp2_with fail
          clear hwa hwl
          go_roundg k1
          case measure => omega
          case rel => exact ⟨i + 1, x, e, by first | rfl | (rw [HWA.out]) | (congr 1; exact HWA.out), rfl, by first | rfl | exact congrArg (Value.int .i64) (wr1 i (by have := HIL.out; have := HL.out; omega)), ⟨by have := HI.out; omega⟩, HX2, HC9, HB9⟩
end Go.Proofs.Ytkdncanoajbdgaa.HW
