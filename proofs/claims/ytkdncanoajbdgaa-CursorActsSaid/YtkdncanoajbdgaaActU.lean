/- CursorActs: what the parts of its walk share. -/
import Derived.Test.YtkdncanoajbdgaaActS
import Derived.Test.YtkdncanoajbdgaaPx1
set_option linter.unusedVariables false
set_option linter.unusedSimpArgs false
namespace Go.Proofs.Ytkdncanoajbdgaa.HW
open Go.RowKit Go.Proofs.Ytkdncanoajbdgaa.P Go.Proofs.Ytkdncanoajbdgaa.HP Go.Proofs.YtkdncanoajbdgaaW.PrintWords Go.Proofs.YtkdncanoajbdgaaW.PrintLast Go.Proofs.YtkdncanoajbdgaaW.PrintMore
attribute [local go_sem] max2_int min2_int max_two min_two max_three min_three max_four min_four
theorem same_self (a : List Int) : hopperref01_Same.f a a = some true := by unfold hopperref01_Same.f; simp
theorem byte_bad (l : List Int) (a e : Int) (he : e ≠ 0) : cursor_Cursor_Byte.f l a e = some (0, a, e) := by unfold cursor_Cursor_Byte.f cursor_Cursor_Bytes.f; rw [if_neg he]; rfl
theorem bytes_bad (l : List Int) (a e N : Int) (he : e ≠ 0) : cursor_Cursor_Bytes.f l a e N = some ([], a, e) := by unfold cursor_Cursor_Bytes.f; rw [if_neg he]
theorem number_bad (l : List Int) (a e : Int) (he : e ≠ 0) : cursor_Cursor_Number.f l a e = some (0, a, e) := by unfold cursor_Cursor_Number.f; rw [if_neg he]
theorem fail_bad (l : List Int) (a e N : Int) (he : e ≠ 0) : cursor_Cursor_Fail.f l a e N = some (a, e) := by unfold cursor_Cursor_Fail.f; rw [if_neg he]
theorem fail_ok (l : List Int) (a N : Int) : cursor_Cursor_Fail.f l a 0 N = some (a, N) := by unfold cursor_Cursor_Fail.f; rw [if_pos rfl]
theorem most_bad (l : List Int) (a e N : Int) (he : e ≠ 0) : cursor_Cursor_Most.f l a e N = some (0, a, e) := by
  unfold cursor_Cursor_Most.f
  rw [number_bad l a e he]
  simp only [Option.bind_some, fail_bad l a e 3 he]
  split <;> rfl
theorem text_bad (l : List Int) (a e : Int) (he : e ≠ 0) : cursor_Cursor_Text.f l a e = some (strOfNums [], a, e) := by
  unfold cursor_Cursor_Text.f
  rw [most_bad l a e 4096 he]
  simp only [Option.bind_some, bytes_bad l a e 0 he, if_neg he]
theorem good_at (l : List Int) (a e : Int) : cursor_Cursor_Good.f l a e = some ((e == 0), a, e) := rfl
/-- A list of acts, as it lies. -/
def ActsC (w : World) (A : Option Addr) (l : List (Int × Int)) : Prop := ∀ (i : Nat) (h : i < l.length), ∃ ad, A = some ad ∧ w.cell? (ad.add (i * 2)) = some (.int .i64 l[i].1) ∧ w.cell? (ad.add (i * 2 + 1)) = some (.int .i64 l[i].2)
theorem cell_below {w w' : World} {B : Nat} {a : Addr} {v : Value} (h : w.cell? a = some v) (hb : Below w.heap.size w w') : w'.cell? a = some v := by
  have hl := World.block_lt_of_cell? _ _ h
  rw [← h]
  unfold World.cell?
  rw [hb.block _ hl]
theorem ActsC.below {w w' : World} {A : Option Addr} {l : List (Int × Int)} (h : ActsC w A l) (hb : Below w.heap.size w w') : ActsC w' A l := by
  intro i hi
  obtain ⟨ad, e, h0, h1⟩ := h i hi
  exact ⟨ad, e, cell_below (B := 0) h0 hb, cell_below (B := 0) h1 hb⟩
theorem infoAct : (Try.prog.info? 38).map (·.size) = some 2 := by kernel_rfl
theorem zeroAct : ∀ W : World, (zeroValue 38).run Try.prog W = .ok (.agg #[.int .i64 0, .int .i64 0]) W := by
  intro W
  kernel_rfl
theorem load_at {P : Program} {ops : Array Oper} {rest : List Oper} {o : Oper} {a : Act} {w : World} {Q : Exit → Act → World → Prop} (hgd : o.guard = none) (ty : TypeId) (x : Operand) (ho : o.op = .load ty x)
    (ad : Addr) (hx : a.eval x = .pointer (some ad)) (cs : List Value) (hc : ∀ j v, cs[j]? = some v → w.cell? (ad.add j) = some v) (d : TypeDesc)
    (hu : P.underlying ty = some d) (hd : (match d with | .struct _ | .array _ _ => true | _ => false) = true) (hi : (P.info? ty).map (·.size) = some cs.length)
    (h : wpList P ops Q rest (a.put o.dst (.agg cs.toArray)) w) : wpList P ops Q (o :: rest) a w := by
  have hl : (loadCells ad cs.length).run P w = .ok cs.toArray w := run_loadCells_list (P := P) w ad cs hc
  refine wpList_plain hgd fun _ hK => ?_
  cases hq : P.info? ty with
  | none => simp [hq] at hi
  | some i =>
    have hs : i.size = cs.length := by simpa [hq] using hi
    have hagg : (isAgg ty).run P w = .ok true w := by
      unfold isAgg
      rw [Sem.run_bind, run_underlying hu w]
      cases d <;> simp_all
    have hv : (loadVar ty ad).run P w = .ok (.agg cs.toArray) w := by simp [loadVar, Sem.run_bind, hagg, sizeOf, typeInfo, hq, hs, hl]
    unfold Oper.wp execOp
    simp only [ho, hx, Instr.loadAt, Instr.sureAddr, Sem.run_bind, Sem.run_pure, Result.andThen_ok, hv]
    exact hK _ _ h
theorem pair_at {w : World} {ad : Addr} {v0 v1 : Value} (i : Nat) (h0 : w.cell? (ad.add (i * 2)) = some v0) (h1 : w.cell? (ad.add (i * 2 + 1)) = some v1) : ∀ (j : Nat) (v : Value), [v0, v1][j]? = some v → w.cell? ((ad.add (i * 2)).add j) = some v := by
  intro j v hj
  have e : (ad.add (i * 2)).add j = ad.add (i * 2 + j) := by obtain ⟨b, o, u⟩ := ad; unfold Addr.add; split <;> simp_all [Nat.add_assoc] <;> split <;> simp_all [Nat.add_assoc]
  rw [e]
  match j, hj with
  | 0, hj => simp at hj; subst hj; exact h0
  | 1, hj => simp at hj; subst hj; exact h1
  | j + 2, hj => simp at hj
theorem heap_row {w : World} {g k : Nat} {c : Array Value} (hk : k ≠ g) : (w.setRow g c).heap[k]? = w.heap[k]? := by
  unfold World.setRow
  simp only
  rw [Array.getElem?_modify]
  rw [if_neg (fun e => hk e.symm)]
theorem size_row {w : World} {g : Nat} {c : Array Value} : (w.setRow g c).heap.size = w.heap.size := by simp [World.setRow]
theorem below_row {w W : World} {B g : Nat} (h : Below B w W) (hg : B ≤ g) (c : Array Value) : Below B w (W.setRow g c) :=
  ⟨h.os, h.tape, h.output, by rw [size_row]; exact h.size, fun k hk => (heap_row (by omega)).trans (h.block k hk)⟩
theorem n1 {α : Type} (l : List α) (i : Nat) (a : α) : l.toArray.setIfInBounds i a = (l.set i a).toArray := List.setIfInBounds_toArray ..
theorem n2 {α : Type} (a : α) (tl : List α) (b : α) : (a :: tl).set 0 b = b :: tl := rfl
theorem n3 {α : Type} (a : α) (tl : List α) (i : Nat) (b : α) : (a :: tl).set (i + 1) b = a :: tl.set i b := rfl
section
variable {P : Program} {ops : Array Oper} {Q : Exit → Act → World → Prop} {md : Region.Mode} {S : World → Prop} {ds : List Nat}
def bw (m : Nat) : Array Bool := ((List.range 59).map (fun i => m.testBit i)).toArray
theorem pu (i m : Nat) {N : Option Tmp} {oi : Oper} {v : Value} {fuel : Nat} {l : Array Bool} {a : Act} {w : World} (hi : ops[i]? = some oi) (hN : oi.dst = N) (hc : anyB md ops l (bw m) i = true) (hQ : ∀ c a w, Q (.panic c) (a.put oi.dst v) w → Q (.panic c) a w) (hw : Region.wanted oi (yielded ops a.tmps) = true) (hv : ∀ w', (execOp a.eval oi).run P w' = .ok (.value v) w') {a' : Act} (ha : a.put N v = a') (h : wpAnyLast P md ops Q S ds fuel (bw m) a' w) : wpAnyLast P md ops Q S ds (fuel + 1) l a w := pure_ _ hi hN hc hQ (Or.inl ⟨hw, hv⟩) ha h
theorem po (i m : Nat) {N : Option Tmp} {oi : Oper} {fuel : Nat} {l : Array Bool} {a : Act} {w : World} (hi : ops[i]? = some oi) (hN : oi.dst = N) (hc : anyB md ops l (bw m) i = true) (hQ : ∀ c a w, Q (.panic c) (a.put oi.dst undef) w → Q (.panic c) a w) (hw : Region.wanted oi (yielded ops a.tmps) = false) {a' : Act} (ha : a.put N undef = a') (h : wpAnyLast P md ops Q S ds fuel (bw m) a' w) : wpAnyLast P md ops Q S ds (fuel + 1) l a w := pure_ _ hi hN hc hQ (Or.inr ⟨hw, rfl⟩) ha h
theorem tk (i m : Nat) {N : Option Tmp} {oi : Oper} {v : Value} {fuel : Nat} {l : Array Bool} {a : Act} {w : World} (hi : ops[i]? = some oi) (hN : oi.dst = N) (hc : takeB md ops ds l (bw m) i = true) (hQ : ∀ c a w, Q (.panic c) (a.put oi.dst v) w → Q (.panic c) a w) (hw : Region.wanted oi (yielded ops a.tmps) = true) (hv : ∀ w', S w' → (execOp a.eval oi).run P w' = .ok (.value v) w') (hS : S w) {a' : Act} (ha : a.put N v = a') (h : wpAnyLast P md ops Q S ds fuel (bw m) a' w) : wpAnyLast P md ops Q S ds (fuel + 1) l a w := take_ _ hi hN hc hQ (Or.inl ⟨hw, hv⟩) hS ha h
end
theorem wx (x : Nat) (h : x ≤ 100000) : wrap64 (x : Int) = (x : Int) := by unfold wrap64; omega
def regOps (n : Nat) : Code → List (Array Oper)
  | .region k ops _ => bif k == n then [ops] else []
  | .seq a b => regOps n a ++ regOps n b
  | .cond _ a b => regOps n a ++ regOps n b
  | .block _ b => regOps n b
  | .loop b => regOps n b
  | _ => []
end Go.Proofs.Ytkdncanoajbdgaa.HW
