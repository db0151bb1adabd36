import Derived.Test.YtljhlpkoilapiaaZB
import Derived.RangeFuncNested
import Derived.RangeFuncBound
import Derived.RangeFuncCalls
import Derived.RangeFuncLeaves
import Derived.RangeFuncBox
import Derived.RangeFuncFrom
import Derived.Shelf.Abstract
import Derived.WalkKit
import Derived.OwnWalkIn
import Derived.TacticsInMore
import Derived.LoopNIn
import Derived.LoopIn
import Derived.Test.YtljhlpkoilapiaaZPx3
import Derived.Test.YtljhlpkoilapiaaZPx6
import Derived.Test.YtljhlpkoilapiaaZPx1
import Derived.Test.YtljhlpkoilapiaaZPx2
import Derived.Test.YtljhlpkoilapiaaZPx11
/- Texts laid together by merge.py: FrM FrK FrP FrW. -/
section
/- A dictionary's methods; slices.Clone of strings. -/
set_option linter.unusedVariables false
set_option linter.unusedSimpArgs false
namespace Go.Proofs.Ytljhlpkoilapiaa.HW
open Go.RowKit Go.Proofs.Ytljhlpkoilapiaa.P Go.Proofs.Ytljhlpkoilapiaa.HP Go.Proofs.YtljhlpkoilapiaaW.PrintWords Go.Proofs.YtljhlpkoilapiaaW.PrintLast Go.Proofs.YtljhlpkoilapiaaW.PrintMore
attribute [local go_sem] max2_int min2_int max_two min_two max_three min_three max_four min_four
set_option maxHeartbeats 8000000 in
set_option maxRecDepth 100000 in
theorem CloneS (A0 : Option Addr) (c0 : Nat) (l0 : List ByteArray) (w : World) (hr0 : Kd.C Kd.string w A0 l0.length l0) (hc0 : l0.length ≤ c0) (hl : l0.length ≤ 1000000) :
    Calls Try.prog 40 #[.slice A0 l0.length c0] w fun e w' => ∃ v0_ : Value, e = .returned (v0_) ∧ Kd.R Kd.string 9 w' w.heap.size (fun _ => True) v0_ l0 ∧ Below w.heap.size w w' := by
  have HL := Aside0.mk hl
  have HB := Aside0.mk (Below.refl w.heap.size w)
  cases A0 with
  | none =>
    obtain rfl : l0 = [] := by
      cases l0 with
      | nil => rfl
      | cons x t =>
        obtain ⟨ad, he, _⟩ := hr0.2.2 (by simp)
        cases he
    clear hr0 hc0 hl
    have heq := fun (W : World) => Go.Lib.run_eql_slice_nil (P := Try.prog) W 22 9 (none : Option Addr) ([] : List ByteArray).length c0 0 0 Try.underlying22
    simp only [Option.isNone_none, List.length_nil] at heq
    go_enter Try.func40, Try.ntmps40
    go_wp2
    go_ret
    exact ⟨_, rfl, Kd.R_nil _ _ _ _ _, HB.out⟩
  | some ad =>
    have HR0 := Aside0.mk hr0
    clear hr0 hl
    have heq := fun (W : World) => Go.Lib.run_eql_slice_nil (P := Try.prog) W 22 9 (some ad) l0.length c0 0 0 Try.underlying22
    simp only [Option.isNone_some] at heq
    go_enter Try.func40, Try.ntmps40
    go_wp2_with (first | ((with_reducible refine gate_dst (N := 5) rfl ?_); refine Kd.R_lit Kd.string _ 9 ?hg (N := 5) ?hd (xs := ([] : List ByteArray)) (inner := []) (ok := fun _ => True) (okp := fun _ => True) ?hr ?hp (fun _ hk => hk) trivial (Below.refl _ _) (Nat.le_refl _) (by simp) ?_; (case hd => rfl); (case hg => rfl); (case hr => first | (go_simp; done) | (go_simp; rfl)); (case hp => exact Reps.none _ _); intro v397 w8 ho9 hb hg_ hnew_; clear hg_ hnew_; have HO := Aside0.mk ho9; have n1_ := Aside0.mk hb; clear HB; have HB := n1_; clear n1_ hb ho9) | ((with_reducible refine gate_builtin (b := .append) (xs := #[.tmp 5, .tmp 6]) rfl ?_); at_builtin; refine Kd.R_append_rows Kd.string (w0 := w) w.heap.size rfl (.tmp 5) (.tmp 6) 22 9 (.string ⟨#[]⟩) 16 rfl Try.underlying22 infoS rfl (by decide) (by omega) v397 [] l0 _ _ _ (fun _ => True) (fun _ => False) rfl rfl ?aO ?aR (fun _ _ h => h) (fun _ h => h.elim) ?aF ?aB ?aS ?aL ?_; (case aR => exact Kd.C_below HR0.out HB.out); (case aB => exact HB.out); (case aF => exact (fun _ _ => trivial)); (case aO => exact HO.out); (case aS => exact (below_size HB.out)); (case aL => have := HL.out; simp; omega); intro v403 w11 ho hb hg hat; rw [List.nil_append] at ho; have n1_ := Aside0.mk hb; have n2_ := Aside0.mk ho; clear HB HO; have HB := n1_; have HO := n2_; clear n1_ n2_; clear ho hb hg hat))
    go_ret
    exact ⟨_, rfl, HO.out, HB.out⟩
set_option maxHeartbeats 8000000 in
set_option maxRecDepth 100000 in
theorem DictP.len (w : World) (q : Nat) (d : List ByteArray) {lo : Nat} (h : DictP lo w q d) : Calls Try.prog 17 #[.pointer (some ⟨q, 0, none⟩)] w fun e w' => e = .returned (.int .i64 (d.length : Int)) ∧ Below w.heap.size w w' := by
  obtain ⟨A, c, hq, hc, hr, _, _⟩ := h
  have hc0 := blk_cell hq 0
  simp only [List.getElem?_toArray, List.getElem?_cons_zero, List.getElem?_cons_succ] at hc0
  have HB := Aside0.mk (Below.refl w.heap.size w)
  clear hq hc hr
  go_enter Try.func17, Try.ntmps17
  go_wp2_with fail
  go_ret
  exact ⟨rfl, by repeat (first | exact HB.out | apply below_alloc | apply pw_below_drewN | apply below_drew1)⟩
set_option maxHeartbeats 8000000 in
set_option maxRecDepth 100000 in
theorem DictP.at_in (w : World) (q : Nat) (d : List ByteArray) {lo : Nat} (h : DictP lo w q d) (i : Nat) (hi : i < d.length) (hl : d.length ≤ 1000000) : Calls Try.prog 23 #[.pointer (some ⟨q, 0, none⟩), .int .i64 (i : Int)] w fun e w' => e = .returned (.string (at_ d i)) ∧ Below w.heap.size w w' := by
  obtain ⟨A, c, hq, hc, hr, _, _⟩ := h
  have hc0 := blk_cell hq 0
  simp only [List.getElem?_toArray, List.getElem?_cons_zero, List.getElem?_cons_succ] at hc0
  obtain ⟨ad, e, hx⟩ := Kd.at_string hr (i : Int) (by omega) (by omega)
  subst e
  rw [at_rd, Int.toNat_natCast] at hx
  obtain ⟨s, hs⟩ : ∃ s, s = at_ d i := ⟨_, rfl⟩
  rw [← hs] at hx ⊢
  obtain ⟨N, hN⟩ : ∃ N, N = d.length := ⟨_, rfl⟩
  rw [← hN] at hi hc0
  have p3 : ((0 : Int) ≤ (i : Int)) = True := eq_true (by omega)
  have q3 : ((i : Int) < (N : Int)) = True := eq_true (by omega)
  have q3n : (i < N) = True := eq_true hi
  have t0 : decide ((i : Int) < 0) = false := decide_eq_false (by omega)
  have t1 : decide ((N : Int) ≤ (i : Int)) = false := decide_eq_false (by omega)
  have t2 : decide (N ≤ i) = false := decide_eq_false (by omega)
  have HB := Aside0.mk (Below.refl w.heap.size w)
  clear hq hc hr hi hl hs hN
  go_enter Try.func23, Try.ntmps23
  go_wp2_with fail
  go_ret
  exact ⟨rfl, by repeat (first | exact HB.out | apply below_alloc | apply pw_below_drewN | apply below_drew1)⟩
set_option maxHeartbeats 8000000 in
set_option maxRecDepth 100000 in
theorem DictP.all (w : World) (q : Nat) (d : List ByteArray) {lo : Nat} (h : DictP lo w q d) (hl : d.length ≤ 1000000) : Calls Try.prog 18 #[.pointer (some ⟨q, 0, none⟩)] w fun e w' => ∃ v : Value, e = .returned v ∧ Kd.R Kd.string 9 w' w.heap.size (fun _ => True) v d ∧ Below w.heap.size w w' := by
  obtain ⟨A, c, hq, hc, hr, _, _⟩ := h
  have hc0 := blk_cell hq 0
  simp only [List.getElem?_toArray, List.getElem?_cons_zero, List.getElem?_cons_succ] at hc0
  have HB := Aside0.mk (Below.refl w.heap.size w)
  have HR := Aside0.mk hr
  have HC := Aside0.mk hc
  have HL := Aside0.mk hl
  clear hq hc hr hl
  go_enter Try.func18, Try.ntmps18
  go_wp2_with fail
  refine (CloneS A c d _ HR.out HC.out HL.out).mono ?_
  rintro e w1 ⟨v, rfl, ho, hb⟩
  go_wp2_with fail
  go_ret
  exact ⟨_, rfl, ho, hb⟩
end Go.Proofs.Ytljhlpkoilapiaa.HW
end
section
/- slices.Chunk: the closure, and what Chunk hands back. -/
set_option linter.unusedVariables false
set_option linter.unusedSimpArgs false
namespace Go.Proofs.Ytljhlpkoilapiaa.HW
open Go.RowKit Go.Shelf Go.Proofs.Ytljhlpkoilapiaa.P Go.Proofs.Ytljhlpkoilapiaa.HP Go.Proofs.YtljhlpkoilapiaaW.PrintWords Go.Proofs.YtljhlpkoilapiaaW.PrintLast Go.Proofs.YtljhlpkoilapiaaW.PrintMore
attribute [local go_sem] max2_int min2_int max_two min_two max_three min_three max_four min_four
theorem rowsIn_wide_ {n : Nat} {P : Program} {l : Nat} {row : String} {args : Array Value} {w : World} {R : Value → World → Prop} (h : Rows P row args w R) : RowsIn (Fence.wide.inRound l) n P row args w R := fun c cs _ => by
  obtain ⟨v, w', r, s⟩ := h c cs
  exact ⟨v, w', r, stepsIn_wide.2 s⟩
theorem uponIn_of_upon {l n : Nat} {P : Program} {o : Oper} {a : Act} {K : Act → World → Prop} {Q : Exit → Act → World → Prop} {r : Result Next} (h : o.upon P a K Q r) : o.uponIn (Fence.wide.inRound l) n P a K Q r := by
  match r, h with
  | .ok (.value v) w', h => exact h
  | .ok .skip w', h => exact h
  | .ok (.defer d) w', h => exact h
  | .ok (.enter f args) w', h => exact ⟨fun e => by simp [Fence.wide] at e, CallsIn.inRound l (callsIn_wide.2 h)⟩
  | .ok (.row row args) w', h => exact ⟨fun e => by simp [Fence.wide] at e, rowsIn_wide_ h⟩
  | .halt (.panic v) w', h => exact h
theorem listIn_of_list {l n : Nat} {P : Program} {ops : Array Oper} {Q : Exit → Act → World → Prop} (hlo : ∀ a w, ¬ Q .outgrown a w) : ∀ (rest : List Oper), (∀ o ∈ rest, ∀ c, o.op ≠ .defer c) → ∀ (a : Act) (w : World), wpList P ops Q rest a w → wpListIn (Fence.wide.inRound l) n P ops Q rest a w
  | [], _, a, w, h => h
  | o :: rest, hnd, a, w, h => by
    have ih := listIn_of_list (l := l) (n := n) (P := P) (ops := ops) hlo rest (fun o ho => hnd o (List.mem_cons_of_mem _ ho))
    unfold wpList at h
    unfold wpListIn
    split
    · rename_i hw
      rw [if_pos hw] at h
      rcases h with h | ⟨_, a', w', h⟩
      · refine ⟨fun f _ => trivial, ?_⟩
        rw [Oper.semAt_eq _ _ _ (hnd o (by simp))]
        exact uponIn_of_upon (Oper.wp_mono (fun a w => ih a w) h)
      · exact absurd h (hlo a' w')
    · rename_i hw
      rw [if_neg hw] at h
      exact ⟨fun f _ => trivial, ih _ _ h⟩
def noDeferL (ops : List Oper) : Bool := ops.all (fun o => match o.op with | .defer _ => false | _ => true)
theorem noDeferL_spec {ops : List Oper} (h : noDeferL ops = true) : ∀ o ∈ ops, ∀ c, o.op ≠ .defer c := fun o ho c e => by
  have := List.all_eq_true.1 h o ho
  rw [e] at this
  cases this
theorem gateIn_dst {F : Fence} {n : Nat} {P : Program} {ops : Array Oper} {Q : Exit → Act → World → Prop} {o : Oper} {rest : List Oper} {a : Act} {w : World} {N : Nat} (hd : o.dst = some N) (h : wpListIn F n P ops Q (o :: rest) a w) : wpListIn F n P ops Q (o :: rest) a w := h
/-- A piece that is handed to a round: where it lies, and what it is, in the world ahead of the loop. -/
abbrev Piece (w0 : World) (Pr : List ByteArray → Prop) := { x : Option Addr × List ByteArray // Kd.C Kd.string w0 x.1 x.2.length x.2 ∧ x.2.length ≤ 100000000 ∧ Pr x.2 }
def encP {w0 : World} {Pr : List ByteArray → Prop} (x : Piece w0 Pr) : Array Value := #[.slice x.1.1 x.1.2.length x.1.2.length]
/-- What a round keeps: the two boxes. -/
def KC (Bs Bn : Nat) (W W' : World) : Prop := W'.heap[Bs]? = W.heap[Bs]? ∧ W'.heap[Bn]? = W.heap[Bn]?
theorem KC.t {Bs Bn : Nat} {A B C : World} (h : KC Bs Bn A B) (k : KC Bs Bn B C) : KC Bs Bn A C := ⟨k.1.trans h.1, k.2.trans h.2⟩
theorem KC.b {Bs Bn : Nat} {w : World} (h1 : Bs < w.heap.size) (h2 : Bn < w.heap.size) (W : World) (l : Nat) (o o' : Obj) (hl : w.heap.size ≤ l) (_ : W.heap[l]? = some o) (_ : o.isCells = false) (_ : o.isWalk = false) : KC Bs Bn W (W.putObj l o') :=
  ⟨World.putObj_heap_other (by omega), World.putObj_heap_other (by omega)⟩
theorem piece_C {w0 : World} {A : Option Addr} {c k : Nat} {L : List ByteArray} (hc : L.length ≤ c) (hLL : L.length ≤ 100000000) (hC : Kd.C Kd.string w0 A L.length L) (j : Nat) (hk : 1 ≤ k) (hj : j * k < L.length) : Kd.C Kd.string w0 (A.map (·.add (j * k * 1))) ((L.drop (j * k)).take k).length ((L.drop (j * k)).take k) ∧ ((L.drop (j * k)).take k).length ≤ 100000000 := by
  refine ⟨?_, by rw [List.length_take, List.length_drop]; omega⟩
  have h1 := Kd.C_drop (m := j * k) (c := c) hC (by omega) hc
  rw [if_neg (by omega)] at h1
  by_cases hm : k ≤ (L.drop (j * k)).length
  · exact Kd.C_take h1 hm
  · rw [List.take_of_length_le (by omega)]
    exact h1
noncomputable def pieceOf {w0 : World} {A : Option Addr} {c : Nat} {L : List ByteArray} (hc : L.length ≤ c) (hLL : L.length ≤ 100000000) (hC : Kd.C Kd.string w0 A L.length L) (k : Nat) (hk : 1 ≤ k) {Pr : List ByteArray → Prop} (hPr : ∀ j, j * k < L.length → Pr ((L.drop (j * k)).take k)) (dflt : Piece w0 Pr) (j : Nat) : Piece w0 Pr :=
  if hj : j * k < L.length then ⟨(A.map (·.add (j * k * 1)), (L.drop (j * k)).take k), (piece_C hc hLL hC j hk hj).1, (piece_C hc hLL hC j hk hj).2, hPr j hj⟩ else dflt
def upto {α : Type} (f : Nat → α) (k : Nat) : List α := (List.range k).map f
theorem upto_succ {α : Type} (f : Nat → α) (k : Nat) : upto f (k + 1) = upto f k ++ [f k] := by simp [upto, List.range_succ]
theorem upto_length {α : Type} (f : Nat → α) (k : Nat) : (upto f k).length = k := by simp [upto]
theorem upto_chunks {w0 : World} {A : Option Addr} {c : Nat} {L : List ByteArray} (hc : L.length ≤ c) (hLL : L.length ≤ 100000000) (hC : Kd.C Kd.string w0 A L.length L) (k : Nat) (hk : 1 ≤ k) {Pr : List ByteArray → Prop} (hPr : ∀ j, j * k < L.length → Pr ((L.drop (j * k)).take k)) (dflt : Piece w0 Pr) (r : Nat) (hr : r = (L.length + k - 1) / k) : (upto (pieceOf hc hLL hC k hk hPr dflt) r).map (fun x => x.1.2) = chunks k L := by
  subst hr
  unfold upto chunks
  rw [List.map_map]
  refine List.map_congr_left (fun j hj => ?_)
  have hj' := (ceil_lt hk).1 (List.mem_range.1 hj)
  simp only [Function.comp, pieceOf, dif_pos hj']
set_option maxHeartbeats 8000000 in
set_option maxRecDepth 100000 in
theorem chunk1_in {w0 : World} (n : Nat) (hn : 1 ≤ n) (l Bs Bn k c : Nat) (A : Option Addr) (L : List ByteArray) (hk : 1 ≤ k) (hk2 : k ≤ 65536) (hLL : L.length ≤ 100000000) (hc : L.length ≤ c) (hC : Kd.C Kd.string w0 A L.length L) {Pr : List ByteArray → Prop} (hPr : ∀ j, j * k < L.length → Pr ((L.drop (j * k)).take k)) (dflt : Piece w0 Pr) (N B : Nat) (hN : (L.length + k - 1) / k ≤ N) (J Jx : List (Piece w0 Pr) → World → Prop) (hJ : AbidesFrom B J)
    (hY : ∀ (pre : List (Piece w0 Pr)) (x : Piece w0 Pr) (W1 : World), J pre W1 → pre.length < N → YieldAt Fence.wide (n - 1) Try.prog l (encP x) W1 fun e W' => (e = .returned (.bool true) ∧ J (pre ++ [x]) W' ∧ KC Bs Bn W1 W') ∨ (e = .returned (.bool false) ∧ Jx (pre ++ [x]) W'))
    (W : World) (hBs : W.cell? ⟨Bs, 0, none⟩ = some (.slice A L.length c)) (hBn : W.cell? ⟨Bn, 0, none⟩ = some (.int .i64 (k : Int))) (h0 : J [] W) :
    CallsIn Fence.wide n Try.prog 41 #[.func (.yield l) #[] #[], .pointer (some ⟨Bs, 0, none⟩), .pointer (some ⟨Bn, 0, none⟩)] W fun e W' => (∃ v, e = .returned v) ∧
      ((∃ ys, ys.map (fun x => x.1.2) = chunks k L ∧ J ys W') ∨ (∃ pre, True ∧ Jx pre W')) := by
  obtain ⟨i0, hi0, _, hsz0, _⟩ := info_parts infoS
  refine callsIn_of_wp Try.func41 rfl trivial ?_ rfl
  simp only [Try.ntmps41, List.size_toArray, List.length_cons, List.length_nil, Nat.reduceAdd, Nat.reduceSub, Array.replicate_succ, Array.replicate_zero, List.push_toArray, List.append_toArray, List.nil_append, List.cons_append]
  gi_wp2
  gi_loopw [4] (fun i wr => ∃ j : Nat, i = .int .i64 ((j * k : Nat) : Int) ∧ (j * k < L.length + k) ∧ (∀ j', j' < j → j' * k < L.length) ∧ Aside0 (J (upto (pieceOf hc hLL hC k hk hPr dflt) j) wr) ∧ Aside0 (KC Bs Bn W wr)) (fun i _ => L.length + k - (intOf i).toNat)
  case atStart => exact ⟨0, by simp, by omega, fun j' h => by omega, ⟨h0⟩, ⟨rfl, rfl⟩⟩
  case round =>
    obtain ⟨j, rfl, hjb, hjl, HJ, HK⟩ := hrel
    have hn0 : wr.drew.cell? ⟨Bn, 0, none⟩ = some (.int .i64 (k : Int)) := by show wr.cell? _ = _; rw [← hBn]; unfold World.cell?; rw [HK.out.2]
    have hs0 : wr.drew.cell? ⟨Bs, 0, none⟩ = some (.slice A L.length c) := by show wr.cell? _ = _; rw [← hBs]; unfold World.cell?; rw [HK.out.1]
    have hs1 : wr.cell? ⟨Bs, 0, none⟩ = some (.slice A L.length c) := hs0
    obtain ⟨i, hi⟩ : ∃ i, i = j * k := ⟨_, rfl⟩
    have HI := Aside0.mk hi
    rw [← hi] at hjb ⊢
    clear hi
    by_cases hlt : i < L.length
    · have hPJ : pieceOf hc hLL hC k hk hPr dflt j = ⟨(A.map (·.add (j * k * 1)), (L.drop (j * k)).take k), (piece_C hc hLL hC j hk (by rw [← HI.out]; exact hlt)).1, (piece_C hc hLL hC j hk (by rw [← HI.out]; exact hlt)).2, hPr j (by rw [← HI.out]; exact hlt)⟩ := dif_pos (by rw [← HI.out]; exact hlt)
      obtain ⟨e, he⟩ : ∃ e, e = ((L.drop i).take k).length := ⟨_, rfl⟩
      have he2 : e = if k ≤ L.length - i then k else L.length - i := by rw [he]; simp only [List.length_take, List.length_drop]; split <;> omega
      have he1 : 1 ≤ e := by rw [he2]; split <;> omega
      have hel : i + e ≤ L.length := by rw [he2]; split <;> omega
      obtain ⟨fn, tmps, assign, body, hy, hR⟩ := hY _ (pieceOf hc hLL hC k hk hPr dflt j) wr.drew (hJ _ _ _ none HJ.out ⟨rfl, rfl, rfl, Nat.le_refl _, fun _ _ _ => rfl⟩ (fun r e => by cases e)) (by rw [upto_length]; exact Nat.lt_of_lt_of_le ((ceil_lt hk).2 (by rw [← HI.out]; exact hlt)) hN)
      have hpe : encP (pieceOf hc hLL hC k hk hPr dflt j) = #[.slice (A.map (·.add (i * 1))) e e] := by rw [hPJ]; unfold encP; simp only [← HI.out, ← he]
      rw [hpe] at hy
      simp only [Nat.mul_one] at hy
      have HR := Aside0.mk hR
      have tl : decide ((i : Int) < (L.length : Int)) = true := decide_eq_true (by omega)
      have hcut1 := cut_from (P := Try.prog) 22 9 .i64 Try.underlying22 hi0 1 hsz0 A L.length c (i : Int) (by omega) (by omega)
      rw [Int.toNat_natCast, if_neg (show ¬ c = i by omega)] at hcut1
      have hcut2 : ∀ W : World, (Instr.slice 22 (.slice A L.length c) (some (.int .i64 (i : Int))) (some (.int .i64 ((i : Int) + (e : Int)))) (some (.int .i64 ((i : Int) + (e : Int))))).run Try.prog W = .ok (.slice (A.map (·.add (i * 1))) e e) W := fun W => by
        have hel' : Try.prog.elem 22 = 9 := by simp [Program.elem, Try.underlying22]
        rw [run_slice_lhm W 22 A L.length c (by rw [hel']; exact Try.underlying22) .i64 .i64 .i64 (i : Int) ((i : Int) + (e : Int)) ((i : Int) + (e : Int)) (by omega) (by omega) (by omega) (by omega), hel']
        have e1 : ((i : Int) + (e : Int)).toNat = i + e := by omega
        simp [sizeOf, typeInfo, hi0, hsz0, sliced, Result.andThen, e1]
        omega
      have HMIN : Aside0 ((if L.length - i < k then ((L.length - i : Nat) : Int) else (k : Int)) = (e : Int)) := ⟨by rw [he2]; split <;> split <;> omega⟩
      have hwe : ∀ (x y : Int), x = (i : Int) → y = (e : Int) → wrap64 (x + y) = (i : Int) + (e : Int) := fun x y hx hy => by subst hx hy; clear he2; unfold wrap64; omega
      have hwk : ∀ (x y : Int), x = (i : Int) → y = (k : Int) → wrap64 (x + y) = (i : Int) + (k : Int) := fun x y hx hy => by subst hx hy; clear hwe he2; unfold wrap64; omega
      have HWK := Aside0.mk hwk
      have HN0 := Aside0.mk hn0
      clear hwk hR he he2 hPJ hpe
      gi_wp2
      refine wpIn_wide.2 ?_
      refine start_ (n := 7) (S := fun w' => w'.cell? ⟨Bn, 0, none⟩ = some (.int .i64 (k : Int)) ∧ w'.cell? ⟨Bs, 0, none⟩ = some (.slice A L.length c)) (ds := []) #[false, false, false, false, false, false, false] (by kernel_rfl) rfl rfl ⟨hn0, hs0⟩ (fun hHeld => ?_)
      refine pure_ (i := 2) (N := some 15) (v := ?_) (a' := ?_) #[false, false, true, false, false, false, false] rfl rfl (by kernel_rfl) (fun _ _ _ h => h) (Or.inl ⟨by rfl, ?_⟩) ?_ ?_
      rotate_left
      · intro w'
        go_simp
        with_reducible rfl
      rotate_left
      · simp only [Act.put, List.setIfInBounds_toArray, List.set_cons_zero, List.set_cons_succ, i64_w, i32_w]
        rfl
      refine take_ (i := 0) (N := some 13) (v := ?_) (a' := ?_) #[true, false, true, false, false, false, false] rfl rfl (by kernel_rfl) (fun _ _ _ h => h) (Or.inl ⟨by rfl, ?_⟩) hHeld ?_ ?_
      rotate_left
      · rintro w' ⟨s0, s1⟩
        go_simp
        with_reducible rfl
      rotate_left
      · simp only [Act.put, List.setIfInBounds_toArray, List.set_cons_zero, List.set_cons_succ, i64_w, i32_w]
        rfl
      refine take_ (i := 1) (N := some 14) (v := ?_) (a' := ?_) #[true, true, true, false, false, false, false] rfl rfl (by kernel_rfl) (fun _ _ _ h => h) (Or.inl ⟨by rfl, ?_⟩) hHeld ?_ ?_
      rotate_left
      · rintro w' ⟨s0, s1⟩
        go_simp
        with_reducible rfl
      rotate_left
      · simp only [Act.put, List.setIfInBounds_toArray, List.set_cons_zero, List.set_cons_succ, i64_w, i32_w]
        rfl
      refine pure_ (i := 3) (N := some 16) (v := ?_) (a' := ?_) #[true, true, true, true, false, false, false] rfl rfl (by kernel_rfl) (fun _ _ _ h => h) (Or.inl ⟨by rfl, ?_⟩) ?_ ?_
      rotate_left
      · intro w'
        go_simp
        with_reducible rfl
      rotate_left
      · simp only [Act.put, List.setIfInBounds_toArray, List.set_cons_zero, List.set_cons_succ, i64_w, i32_w]
        rfl
      refine pure_ (i := 4) (N := some 17) (v := ?_) (a' := ?_) #[true, true, true, true, true, false, false] rfl rfl (by kernel_rfl) (fun _ _ _ h => h) (Or.inl ⟨by rfl, ?_⟩) ?_ ?_
      rotate_left
      · intro w'
        go_simp
        with_reducible rfl
      rotate_left
      · simp only [Act.put, List.setIfInBounds_toArray, List.set_cons_zero, List.set_cons_succ, i64_w, i32_w]
        rfl
      refine pure_ (i := 5) (N := some 18) (v := ?_) (a' := ?_) #[true, true, true, true, true, true, false] rfl rfl (by kernel_rfl) (fun _ _ _ h => h) (Or.inl ⟨by rfl, ?_⟩) ?_ ?_
      rotate_left
      · intro w'
        go_simp
        with_reducible rfl
      rotate_left
      · simp only [Act.put, List.setIfInBounds_toArray, List.set_cons_zero, List.set_cons_succ, i64_w, i32_w]
        rfl
      refine pure_ (i := 6) (N := some 5) (v := ?_) (a' := ?_) #[true, true, true, true, true, true, true] rfl rfl (by kernel_rfl) (fun _ _ _ h => h) (Or.inl ⟨by rfl, ?_⟩) ?_ ?_
      rotate_left
      · intro w'
        go_simp
        with_reducible rfl
      rotate_left
      · simp only [Act.put, List.setIfInBounds_toArray, List.set_cons_zero, List.set_cons_succ, i64_w, i32_w]
        rfl
      refine done_ (by kernel_rfl) ?_
      have hmin3 : (if L.length - i < k then ((L.length - i : Nat) : Int) else (k : Int)) = (e : Int) := HMIN.out
      rw [hmin3]
      gi_wp2
      refine HR.out.mono ?_
      rintro e3 W3 (⟨rfl, hJ3, hk3⟩ | ⟨rfl, hJx3⟩)
      · have hn3 : W3.cell? ⟨Bn, 0, none⟩ = some (.int .i64 (k : Int)) := by rw [← HN0.out]; unfold World.cell?; rw [hk3.2]
        have hwk := HWK.out
        clear hn0 hs0 hs1 hwe hcut1 hcut2
        gi_wp2
        go_roundw
        case rel => exact ⟨j + 1, by rw [Nat.succ_mul, ← HI.out]; simp, by rw [Nat.succ_mul, ← HI.out]; omega, fun j' hj' => by
          by_cases h : j' < j
          · exact hjl j' h
          · obtain rfl : j' = j := by omega
            rw [← HI.out]; exact hlt, ⟨by rw [upto_succ]; exact hJ3⟩, ⟨HK.out.t ⟨hk3.1, hk3.2⟩⟩⟩
        case measure => simp [intOf]; omega
      · gi_wp2
        refine bodyPost_ret (results_none rfl _ _ _) rfl ?_
        exact ⟨⟨_, rfl⟩, .inr ⟨_, trivial, hJx3⟩⟩
    · have tl : decide ((i : Int) < (L.length : Int)) = false := decide_eq_false (by omega)
      have hje : j = (L.length + k - 1) / k := by
        have h1 : ¬ j < (L.length + k - 1) / k := fun h => hlt (by rw [HI.out]; exact (ceil_lt hk).1 h)
        have h2 : ∀ j', j' < j → j' < (L.length + k - 1) / k := fun j' h => (ceil_lt hk).2 (hjl j' h)
        rcases Nat.lt_or_ge ((L.length + k - 1) / k) j with h | h
        · have := h2 _ h; omega
        · omega
      have HJE := Aside0.mk hje
      clear hje
      gi_wp2
      go_end0
      exact ⟨⟨_, rfl⟩, .inl ⟨_, upto_chunks hc hLL hC k hk hPr dflt j HJE.out, HJ.out⟩⟩
/-- Chunk hands back the closure over two boxes. -/
theorem chunk_in (n k c : Nat) (A : Option Addr) (m : Nat) (w : World) (hk : 1 ≤ k) : CallsIn Fence.wide n Try.prog 26 #[.slice A m c, .int .i64 (k : Int)] w fun e w' => e = .returned (.func (.func 41) #[] #[.pointer (some ⟨w.heap.size, 0, none⟩), .pointer (some ⟨w.heap.size + 1, 0, none⟩)]) ∧ w' = (w.alloc (.cells #[.slice A m c] 22)).alloc (.cells #[.int .i64 (k : Int)] 3) := by
  have t1 : decide ((k : Int) < 1) = false := decide_eq_false (by omega)
  refine callsIn_of_wp Try.func26 rfl trivial ?_ rfl
  simp only [Try.ntmps26, List.size_toArray, List.length_cons, List.length_nil, Nat.reduceAdd, Nat.reduceSub, Array.replicate_succ, Array.replicate_zero, List.push_toArray, List.append_toArray, List.nil_append, List.cons_append]
  gi_wp2
  go_ret
  exact ⟨by simp, rfl⟩
/-- What Chunk hands back yields the pieces. -/
theorem chunk_stops {w0 : World} (n : Nat) (hn : 1 ≤ n) (Bs Bn k c : Nat) (A : Option Addr) (L : List ByteArray) (hk : 1 ≤ k) (hk2 : k ≤ 65536) (hLL : L.length ≤ 100000000) (hc : L.length ≤ c) (hC : Kd.C Kd.string w0 A L.length L) {Pr : List ByteArray → Prop} (hPr : ∀ j, j * k < L.length → Pr ((L.drop (j * k)).take k)) (dflt : Piece w0 Pr) (N : Nat) (hN : (L.length + k - 1) / k ≤ N) (w : World) (h1 : Bs < w.heap.size) (h2 : Bn < w.heap.size)
    (hBs : w.cell? ⟨Bs, 0, none⟩ = some (.slice A L.length c)) (hBn : w.cell? ⟨Bn, 0, none⟩ = some (.int .i64 (k : Int))) :
    SeqStopsK Fence.wide n Try.prog 41 #[.pointer (some ⟨Bs, 0, none⟩), .pointer (some ⟨Bn, 0, none⟩)] (encP (w0 := w0) (Pr := Pr)) (KC Bs Bn) (fun xs => xs.map (fun x => x.1.2) = chunks k L) (fun _ => True) N w := fun l J Jx W hW hJ _ hY h0 =>
  chunk1_in n hn l Bs Bn k c A L hk hk2 hLL hc hC hPr dflt N _ hN J Jx hJ hY W ((hW.cell (p := ⟨Bs, 0, none⟩) h1).trans hBs) ((hW.cell (p := ⟨Bn, 0, none⟩) h2).trans hBn) h0
end Go.Proofs.Ytljhlpkoilapiaa.HW
end
section
/- front.Build, walked. -/
set_option linter.unusedVariables false
set_option linter.unusedSimpArgs false
namespace Go.Proofs.Ytljhlpkoilapiaa.HW
open Go.RowKit Go.Shelf Go.Proofs.Ytljhlpkoilapiaa.P Go.Proofs.Ytljhlpkoilapiaa.HP Go.Proofs.YtljhlpkoilapiaaW.PrintWords Go.Proofs.YtljhlpkoilapiaaW.PrintLast Go.Proofs.YtljhlpkoilapiaaW.PrintMore
attribute [local go_sem] max2_int min2_int max_two min_two max_three min_three max_four min_four
attribute [local go_sem] Oper.semAt_some
theorem info8 : (Try.prog.info? 5).map (fun i => (i.zero, i.size, i.bytes)) = some (some (.int .u8 0), 1, 1) := by kernel_rfl
theorem info3 : (Try.prog.info? 3).map (fun i => (i.zero, i.size, i.bytes)) = some (some (.int .i64 0), 1, 8) := by kernel_rfl
theorem blk_frozen {W : World} {g : Nat} {cs : Array Value} {t : TypeId} (h : W.heap[g]? = some (.cells cs t (0, 0))) (j : Nat) : W.frozen? ⟨g, j, none⟩ = false := by unfold World.frozen?; simp [h]
theorem blk_put {W : World} {g : Nat} {cs : Array Value} {t : TypeId} (h : W.heap[g]? = some (.cells cs t (0, 0))) (v : Value) : (W.setCell ⟨g, 0, none⟩ v).heap[g]? = some (.cells (cs.setIfInBounds 0 v) t (0, 0)) := by
  simp [World.setCell, Array.getElem?_modify, h]
def onlyN (Q : Exit → Act → World → Prop) : Exit → Act → World → Prop
  | .normal, a, w => Q .normal a w
  | _, _, _ => False
theorem wp_onlyN {P : Program} {c : Code} {Q : Exit → Act → World → Prop} {a : Act} {w : World} (h : c.wp P (onlyN Q) a w) : c.wp P Q a w := wp_mono h (fun e a w h => by cases e <;> first | exact h | exact h.elim)
def KO1 (w W : World) : Prop := ∀ (k : Nat) (cs : Array Value) (t : TypeId), w.heap[k]? = some (.cells cs t (0, 0)) → W.heap[k]? = some (.cells cs t (0, 0))
theorem KO1.of_grown {w W : World} {row : Option Nat} (hg : w.grownBy W row) (hr : ∀ r, row = some r → ∃ o : Obj, w.heap[r]? = some o ∧ o.isCells = false) : KO1 w W := fun k cs t h => by
  refine (hg.block k (blk_lt h) (fun e => ?_)).trans h
  obtain ⟨o, h1, h2⟩ := hr k e.symm
  rw [h] at h1
  injection h1 with h1
  subst h1
  cases h2
theorem R_ko1 {α : Type} {enc : α → Value} {h1 : ∀ x, (enc x).oneCell' = true} {e b1 : Nat} {w W : World} {v : Value} {xs : List α} (h : (Kd.scalar enc h1).R e w b1 (fun _ => True) v xs) (k : KO1 w W) : (Kd.scalar enc h1).R e W b1 (fun _ => True) v xs := by
  refine Kd.R_mono (Kd.R_step (Kd.R_tight rfl h) (fun j hj _ => ?_)) (fun _ _ => trivial)
  obtain ⟨cells, hc⟩ := own_typed_ (Kd.own_of_R h) j hj.symm
  rw [hc]
  exact k j cells _ hc
theorem keeps_below {W W' : World} (hb : Below W.heap.size W W') : KeepsOthers W W' := ⟨hb.size, fun k o hk _ => (hb.block k (Array.getElem?_eq_some_iff.1 hk).1).trans hk⟩
theorem keeps_R {α : Type} {enc : α → Value} {h1 : ∀ x, (enc x).oneCell' = true} {t lo : Nat} {w w8 : World} {v : Value} {xs : List α} (h : (Kd.scalar enc h1).R t w lo (fun _ => True) v xs) (hg : w.grownBy w8 v.ownBlock) : KeepsOthers w w8 := KeepsOthers.of_grownBy hg (fun j o ej hj => by
  obtain ⟨c, hc⟩ := own_typed_ (Kd.own_of_R h) j ej
  rw [hc] at hj; cases hj; rfl)
/-- The two boxes: sizes, and all entries. -/
def Bx (lo2 hs ha : Nat) (W : World) (S A : List Int) : Prop := ∃ v1 v2 : Value, W.heap[hs]? = some (.cells #[v1] 46 (0, 0)) ∧ W.heap[ha]? = some (.cells #[v2] 25 (0, 0)) ∧ Kd.R (Kd.int .i64) 3 W lo2 (fun _ => True) v1 S ∧ Kd.R (Kd.int .u8) 5 W lo2 (fun _ => True) v2 A
theorem Bx.ko {lo2 hs ha : Nat} {w W : World} {S A : List Int} (h : Bx lo2 hs ha w S A) (k : KO1 w W) : Bx lo2 hs ha W S A := by
  obtain ⟨v1, v2, h1, h2, r1, r2⟩ := h
  exact ⟨v1, v2, k _ _ _ h1, k _ _ _ h2, R_ko1 r1 k, R_ko1 r2 k⟩
theorem Bx_own (lo2 hs ha B : Nat) {β : Type} (f g : β → List Int) : OwnFrom B (fun (p : β) W => Bx lo2 hs ha W (f p) (g p)) := fun s A C row hs hg hr => hs.ko (KO1.of_grown hg (fun r e => (hr r e).2))
theorem fsum_le : ∀ (c : List ByteArray), smallL c → fsum c ≤ 4096 * c.length
  | [], _ => by simp [fsum]
  | s :: t, h => by
    have h1 := h s (by simp)
    have h2 := fsum_le t (fun x hx => h x (List.mem_cons_of_mem _ hx))
    unfold fsum at h2 ⊢
    simp only [List.map_cons, List.sum_cons, List.length_cons]
    omega
theorem R_set {α : Type} {enc : α → Value} {h1 : ∀ x, (enc x).oneCell' = true} {e b1 g t : Nat} {W : World} {v u : Value} {xs : List α} {cells : Array Value}
    (h : (Kd.scalar enc h1).R e W b1 (fun _ => True) v xs) (hb : W.heap[g]? = some (.cells cells t (0, 0))) (ht : e ≠ t) : (Kd.scalar enc h1).R e (W.setCell ⟨g, 0, none⟩ u) b1 (fun _ => True) v xs :=
  Kd.R_mono (Kd.R_step (Kd.R_tight rfl h) (fun k hk _ => Below.heap_setCell _ _ _ _ (fun e2 => by
    obtain ⟨c1, q1⟩ := own_typed_ (Kd.own_of_R h) k hk.symm
    subst e2
    rw [hb] at q1
    injection q1 with q1
    injection q1 with _ q1 _
    exact ht q1.symm))) (fun _ _ => trivial)
theorem blk_apart {α : Type} {enc : α → Value} {h1 : ∀ x, (enc x).oneCell' = true} {e b1 g t : Nat} {W W' : World} {v : Value} {xs : List α} {cells : Array Value}
    (h : (Kd.scalar enc h1).R e W b1 (fun _ => True) v xs) (hb : W.heap[g]? = some (.cells cells t (0, 0))) (ht : e ≠ t) (hg : W.grownBy W' v.ownBlock) : W'.heap[g]? = some (.cells cells t (0, 0)) := by
  refine (hg.block g (blk_lt hb) (fun e2 => ?_)).trans hb
  obtain ⟨c1, q1⟩ := own_typed_ (Kd.own_of_R h) g e2.symm
  rw [hb] at q1
  injection q1 with q1
  injection q1 with _ q1 _
  exact ht q1.symm
set_option maxHeartbeats 8000000 in
set_option maxRecDepth 100000 in
theorem Build_bad (A : Option Addr) (c : Nat) (L : List ByteArray) (n : Int) (w : World) (hc : L.length ≤ c) (hC : Kd.C Kd.string w A L.length L) (hr : rightL L n = false) : Calls Try.prog 10 #[.slice A L.length c, .int .i64 n] w fun e w' => e = .returned (.tuple #[.slice none 0 0, .int .i64 1]) ∧ Below w.heap.size w w' := by
  obtain ⟨kr, hkr⟩ := (right_f L n).rounds
  rw [hr] at hkr
  have HB := Aside0.mk (Below.refl w.heap.size w)
  have HR := Aside0.mk hC
  have HC := Aside0.mk hc
  have HK := Aside0.mk hkr
  clear hC hc hr hkr
  go_enter Try.func10, Try.ntmps10
  go_wp2_with fail
  refine (front_right.calls kr A c L n false _ HR.out HC.out HK.out).mono ?_
  rintro e w1 ⟨rfl, n1, rfl⟩
  have HB1 := Aside0.mk (pw_below_drewN HB.out n1)
  go_wp2_with fail
  go_ret2
  exact ⟨rfl, HB1.out⟩
set_option maxHeartbeats 8000000 in
set_option maxRecDepth 100000 in
theorem Build_run (A : Option Addr) (c k : Nat) (L : List ByteArray) (w : World) (hc : L.length ≤ c) (hC : Kd.C Kd.string w A L.length L) (hr : rightL L (k : Int) = true) (hk1 : 1 ≤ k) (hk2 : k ≤ 64) (hLL : L.length ≤ 4096) (hsm : smallL L) (hfs : fsum L + 4 * L.length ≤ 1000000000) (Pr : List ByteArray → Prop) (hPr : ∀ j, j * k < L.length → Pr ((L.drop (j * k)).take k)) (dflt : Piece w Pr) (N : Nat) (hN : (L.length + k - 1) / k ≤ N) (hN2 : N ≤ 4096) (hgood : ∀ c, Pr c → 0 < N → c ≠ [] ∧ c.length ≤ 64 ∧ smallL c) : Calls Try.prog 10 #[.slice A L.length c, .int .i64 (k : Int)] w fun e w' => ∃ v : Value, e = .returned (.tuple #[v, .int .i64 0]) ∧ Kd.R (Kd.int .u8) 5 w' w.heap.size (fun _ => True) v (buildL k L) ∧ Below w.heap.size w w' := by
  obtain ⟨kr, hkr⟩ := (right_f L (k : Int)).rounds
  rw [hr] at hkr
  have HC := Aside0.mk hC
  have HCC := Aside0.mk hc
  have HLL := Aside0.mk hLL
  have HK1 := Aside0.mk hk1
  have HK2 := Aside0.mk hk2
  have HKR := Aside0.mk hkr
  have HSM := Aside0.mk hsm
  have HFS := Aside0.mk hfs
  have HPR := Aside0.mk hPr
  have HCE := Aside0.mk hN
  have HN2 := Aside0.mk hN2
  have HGD := Aside0.mk hgood
  clear hC hc hr hkr hk1 hk2 hLL hsm hfs hPr hN hN2 hgood
  refine (callsIn_wide (n := 4)).1 ?_
  refine callsIn_of_wp_marks Try.func10 rfl trivial ?_
  simp only [Try.ntmps10, List.size_toArray, List.length_cons, List.length_nil, Nat.reduceAdd, Nat.reduceSub, Array.replicate_succ, Array.replicate_zero, List.push_toArray, List.append_toArray, List.nil_append, List.cons_append]
  gi_wp2
  refine ⟨trivial, (callsIn_wide.2 (front_right.calls kr A c L (k : Int) true _ HC.out HCC.out HKR.out)).mono ?_⟩
  rintro e w1 ⟨rfl, n1, rfl⟩
  gi_wp2
  obtain ⟨X, hX⟩ : ∃ X, X = ((w.drewN n1).alloc (.cells #[.slice none 0 0] 46)).alloc (.cells #[.slice none 0 0] 25) := ⟨_, rfl⟩
  have hxs : X.heap[w.heap.size]? = some (.cells #[.slice none 0 0] 46 (0, 0)) := by rw [hX]; exact (Below.heap_alloc _ _ _ (by simp)).trans (blk_new (w.drewN n1) _)
  have hxa : X.heap[w.heap.size + 1]? = some (.cells #[.slice none 0 0] 25 (0, 0)) := by rw [hX]; have h9 := blk_new ((w.drewN n1).alloc (.cells #[.slice none 0 0] 46)) (.cells #[.slice none 0 0] 25); rwa [World.size_alloc] at h9
  have hxw : Below w.heap.size w X := by rw [hX]; exact below_alloc (below_alloc (pw_below_drewN (Below.refl _ w) n1) _) _
  try rw [← hX]
  clear hX
  refine ⟨trivial, (chunk_in 3 k c A L.length X HK1.out).mono ?_⟩
  rintro e w4 ⟨rfl, rfl⟩
  obtain ⟨Bs, hBs⟩ : ∃ Bs, Bs = X.heap.size := ⟨_, rfl⟩
  obtain ⟨W5, hW5⟩ : ∃ W5, W5 = (X.alloc (.cells #[.slice A L.length c] 22)).alloc (.cells #[.int .i64 (k : Int)] 3) := ⟨_, rfl⟩
  have hx5 : Below X.heap.size X W5 := by rw [hW5]; exact below_alloc (below_alloc (Below.refl _ X) _) _
  have HXS5 := Aside0.mk ((hx5.block _ (blk_lt hxs)).trans hxs)
  have HXA5 := Aside0.mk ((hx5.block _ (blk_lt hxa)).trans hxa)
  have HW5 := Aside0.mk (below_step hxw hx5)
  have HS5 : Aside0 (W5.heap.size = Bs + 2) := ⟨by rw [hW5, hBs]; simp⟩
  have HBs : Aside0 (W5.heap[Bs]? = some (.cells #[.slice A L.length c] 22 (0, 0))) := ⟨by rw [hW5, hBs]; exact (Below.heap_alloc _ _ _ (by simp)).trans (blk_new X _)⟩
  have HBn : Aside0 (W5.heap[Bs + 1]? = some (.cells #[.int .i64 (k : Int)] 3 (0, 0))) := ⟨by rw [hW5, hBs]; have h9 := blk_new (X.alloc (.cells #[.slice A L.length c] 22)) (.cells #[.int .i64 (k : Int)] 3); rwa [World.size_alloc] at h9⟩
  have HGB : Aside0 (w.heap.size < Bs ∧ w.heap.size + 1 < Bs) := ⟨by rw [hBs]; exact ⟨blk_lt hxs, blk_lt hxa⟩⟩
  have HWB : Aside0 (w.heap.size ≤ Bs) := ⟨by rw [hBs]; exact hxw.size⟩
  rw [← hW5, ← hBs]
  clear hW5 hBs hx5 hxs hxa hxw
  gi_wp2
  refine wpIn_rangeFunc_ownF (F := Fence.wide) rfl (by omega) (gf := 41) (lb := #[.pointer (some ⟨Bs, 0, none⟩), .pointer (some ⟨Bs + 1, 0, none⟩)]) rfl trivial (enters_of Try.func41 (by kernel_rfl) rfl)
    (chunk_stops (w0 := w) 3 (by omega) Bs (Bs + 1) k c A L HK1.out (by have := HK2.out; omega) (by have := HLL.out; omega) HCC.out HC.out HPR.out dflt N HCE.out W5 (by have := HS5.out; omega) (by have := HS5.out; omega) (blk_cell HBs.out 0) (blk_cell HBn.out 0)) KC.t (KC.b (by have := HS5.out; omega) (by have := HS5.out; omega)) (Below.refl _ _) (fun _ => rfl)
    (fun (pre : List (Piece w Pr)) W => Bx W5.heap.size w.heap.size (w.heap.size + 1) W (pre.map (fun (x : Piece w Pr) => ((entL x.1.2).length : Int))) ((pre.map (fun (x : Piece w Pr) => entL x.1.2)).flatten) ∧ (Below w.heap.size w W ∧ (W5.heap.size ≤ W.heap.size ∧ ((pre.map (fun (x : Piece w Pr) => entL x.1.2)).flatten).length ≤ 300000 * pre.length)))
    (fun _ _ _ => False)
    (OwnFrom.and (Bx_own _ _ _ _ _ _) (OwnFrom.and (ownFrom_below (Nat.le_refl _) (by have := HS5.out; have := HWB.out; omega)) (OwnFrom.and (fun s A C row hs hg hr => Nat.le_trans hs hg.size) (fun s A C row hs hg hr => hs))))
    (fun _ _ _ _ _ hs _ _ => hs)
    ⟨⟨_, _, HXS5.out, HXA5.out, Kd.R_nil _ _ _ _ _, Kd.R_nil _ _ _ _ _⟩, HW5.out, Nat.le_refl _, by simp⟩
    (fun x => { tmps := #[.slice A L.length c, .int .i64 (k : Int), undef, undef, .slice none 0 0, .int .i64 0, .pointer (some ⟨w.heap.size, 0, none⟩), .pointer (some ⟨w.heap.size + 1, 0, none⟩), .slice x.1.1 x.1.2.length x.1.2.length, undef, undef, undef, .slice A L.length c, .int .i64 (k : Int), .bool true, .bool false, .slice A L.length c, .int .i64 (k : Int), .func (.func 41) #[] #[.pointer (some ⟨Bs, 0, none⟩), .pointer (some ⟨Bs + 1, 0, none⟩)], .slice x.1.1 x.1.2.length x.1.2.length, undef, undef, undef, undef, undef, undef, undef, undef, undef, undef, undef, undef, undef, undef, undef, undef, undef, undef, undef, undef, undef, undef, undef, undef, undef, undef, undef], defers := [] }) ?assign ?body ?done ?stop
  case assign =>
    intro l x W K hK
    unfold encP
    gi_wp2
    exact hK
  case body =>
    rintro l pre x W ⟨⟨v1, v2, hb1, hb2, r1, r2⟩, hbl, hsz, hpl⟩ hlen
    obtain ⟨B2, hB2⟩ : ∃ B2, B2 = W5.heap.size := ⟨_, rfl⟩
    rw [← hB2] at r1 r2 hsz ⊢
    obtain ⟨hne, hc64, hcs⟩ := HGD.out x.1.2 x.2.2.2 (by omega)
    have hel : (entL x.1.2).length ≤ 300000 := by
      have h1 := entL_len x.1.2 hcs
      have h2 := fsum_le x.1.2 hcs
      omega
    obtain ⟨ke, hke⟩ := (entries_f x.1.2 hne (by omega) hcs (by omega)).rounds
    have HKE := Aside0.mk hke
    have HEL := Aside0.mk hel
    have HX := Aside0.mk x.2.1
    have HB2 := Aside0.mk hB2
    have HB1 := Aside0.mk hb1
    have HBa := Aside0.mk hb2
    have HR1 := Aside0.mk r1
    have HR2 := Aside0.mk r2
    have HBL := Aside0.mk hbl
    have HSZ := Aside0.mk hsz
    have HPL := Aside0.mk hpl
    have HLN := Aside0.mk hlen
    have HXL := Aside0.mk hc64
    clear hne hc64 hcs hel hke hB2 hb1 hb2 r1 r2 hbl hsz hpl hlen
    gi_wp2_with fail
    refine ⟨trivial, (CallsIn.inRound l (callsIn_wide.2 (front_entries.calls ke x.1.1 x.1.2.length x.1.2 _ _ (Kd.C_below HX.out HBL.out) (Nat.le_refl _) HKE.out))).mono ?_⟩
    rintro e w4 ⟨v9, rfl, ho9, hb9⟩
    obtain ⟨A9, c9, rfl, hl9, hr9⟩ := Kd.R_reads ho9
    have HO9 := Aside0.mk ho9
    have HB14 := Aside0.mk ((hb9.block _ (blk_lt HB1.out)).trans HB1.out)
    have HBa4 := Aside0.mk ((hb9.block _ (blk_lt HBa.out)).trans HBa.out)
    have HR14 := Aside0.mk (Kd.R_below HR1.out hb9)
    have HR24 := Aside0.mk (Kd.R_below HR2.out hb9)
    have HB9 := Aside0.mk hb9
    have hc4 := blk_cell HB14.out 0
    simp only [List.getElem?_toArray, List.getElem?_cons_zero] at hc4
    clear ho9 hl9 hr9 HKE HX HB1 HBa HR1 HR2 hb9
    gi_wp2_with (first | ((with_reducible refine gateIn_dst (N := 22) rfl ?_); refine listIn_of_list (fun _ _ h => h) _ (noDeferL_spec (by kernel_rfl)) _ _ ?_))
    go_wp2_with (first | ((with_reducible refine gate_builtin (b := .append) (xs := #[.tmp 22, .tmp 25]) rfl ?_); at_builtin; refine Kd.R_append (Kd.int .i64) (w0 := w4) B2 rfl (.tmp 22) (.tmp 25) 46 3 (.int .i64 0) 8 rfl Try.underlying46 info3 rfl (by decide) (by omega) _ (pre.map (fun (x : Piece w Pr) => ((entL x.1.2).length : Int))) ((entL x.1.2).length : Int) [.int .i64 ((entL x.1.2).length : Int)] (fun _ => True) (fun _ => False) rfl ?aX ?aP (fun _ hk => hk.elim) ?aF ?aO ?aB ?aS ?aL ?_; (case aX => rfl); (case aP => exact rfl); (case aB => exact Below.refl _ _); (case aF => exact (fun _ _ => trivial)); (case aO => exact HR14.out); (case aS => exact Nat.le_trans HSZ.out HB9.out.size); (case aL => have h8 := HLN.out; have h9 := HN2.out; simp only [List.length_map]; omega); intro v26 w6 ho hb hg hat; obtain ⟨A26, c26, rfl⟩ := Kd.R_slice ho; have HO6 := Aside0.mk ho; have HG6 := Aside0.mk hg; have HB6 := Aside0.mk hb; have HB16 := Aside0.mk (blk_apart HR14.out HB14.out (by decide) hg); have HBa6 := Aside0.mk (blk_apart HR14.out HBa4.out (by decide) hg); have HR26 := Aside0.mk (R_apart HR24.out HR14.out (by decide) hg); have HO96 := Aside0.mk (R_apart HO9.out HR14.out (by decide) hg); have hf6 := blk_frozen HB16.out 0; have hc16 := blk_cell HB16.out 0; have hc6 := blk_cell HBa6.out 0; simp only [List.getElem?_toArray, List.getElem?_cons_zero] at hc6 hc16; clear ho hb hg hat))
    obtain ⟨w7, hw7⟩ : ∃ W, W = w6.setCell ⟨w.heap.size, 0, none⟩ (.slice A26 (pre.length + 1) c26) := ⟨_, rfl⟩
    have hlen6 : ((pre.map (fun (x : Piece w Pr) => ((entL x.1.2).length : Int))) ++ [((entL x.1.2).length : Int)]).length = pre.length + 1 := by simp
    have HO6 : Aside0 (Kd.R (Kd.int .i64) 3 w6 B2 (fun _ => True) (.slice A26 (pre.length + 1) c26) ((pre.map (fun (x : Piece w Pr) => ((entL x.1.2).length : Int))) ++ [((entL x.1.2).length : Int)])) := ⟨by have h9 := HO6.out; rwa [hlen6] at h9⟩
    have hne : w.heap.size + 1 ≠ w.heap.size := by omega
    have HB17 : Aside0 (w7.heap[w.heap.size]? = some (.cells #[.slice A26 (pre.length + 1) c26] 46 (0, 0))) := ⟨by rw [hw7]; exact blk_put HB16.out _⟩
    have HBa7 : Aside0 (w7.heap[w.heap.size + 1]? = some (.cells #[v2] 25 (0, 0))) := ⟨by rw [hw7]; exact (Below.heap_setCell _ _ _ _ hne).trans HBa6.out⟩
    have HR17 : Aside0 (Kd.R (Kd.int .i64) 3 w7 B2 (fun _ => True) (.slice A26 (pre.length + 1) c26) ((pre.map (fun (x : Piece w Pr) => ((entL x.1.2).length : Int))) ++ [((entL x.1.2).length : Int)])) := ⟨by rw [hw7]; exact R_set HO6.out HB16.out (by decide)⟩
    have HR27 : Aside0 (Kd.R (Kd.int .u8) 5 w7 B2 (fun _ => True) v2 ((pre.map (fun (x : Piece w Pr) => entL x.1.2)).flatten)) := ⟨by rw [hw7]; exact R_set HR26.out HB16.out (by decide)⟩
    have HO97 : Aside0 (Kd.R (Kd.int .u8) 5 w7 W.heap.size (fun _ => True) (.slice A9 (entL x.1.2).length c9) (entL x.1.2)) := ⟨by rw [hw7]; exact R_set HO96.out HB16.out (by decide)⟩
    have HSZ7 : Aside0 (B2 ≤ w7.heap.size) := ⟨by rw [hw7]; have h1 := HSZ.out; have h2 := HB9.out.size; have h3 := HB6.out.size; simp; omega⟩
    have HKO7 : Aside0 (KeepsOthers W w7) := ⟨by rw [hw7]; exact (keeps_below HB9.out).trans ((keeps_R HR14.out HG6.out).trans (KeepsOthers.setCell _ _ _))⟩
    have HBX7 : Aside0 (∀ i, i < B2 → i ≠ w.heap.size → w7.heap[i]? = W.heap[i]?) := ⟨fun i hi hi2 => by rw [hw7]; exact (Below.heap_setCell _ _ _ _ hi2).trans ((HB6.out.block i hi).trans (HB9.out.block i (by have := HSZ.out; omega)))⟩
    have HBW7 : Aside0 (Below w.heap.size w w7) := ⟨by rw [hw7]; exact Below.setCell (HBL.out.trans ((HB9.out.mono (by have := HBL.out.size; omega)).trans (HB6.out.mono (by have := HB2.out; have := HS5.out; have := HWB.out; omega)))) (Nat.le_refl _) _⟩
    have hca7 := blk_cell HBa7.out 0
    simp only [List.getElem?_toArray, List.getElem?_cons_zero] at hca7
    rw [← hw7]
    clear hw7 hlen6 hne hc4 hc6 hc16 hf6 HB16 HBa6 HR26 HO96 HB14 HBa4 HR14 HR24 HO9 HO6 HG6
    gi_wp2_with (first | ((with_reducible refine gateIn_dst (N := 27) rfl ?_); refine listIn_of_list (fun _ _ h => h) _ (noDeferL_spec (by kernel_rfl)) _ _ ?_))
    go_wp2_with (first | ((with_reducible refine gate_builtin (b := .append) (xs := #[.tmp 27, .tmp 28]) rfl ?_); at_builtin; refine Kd.R_append_rows (Kd.int .u8) (w0 := w7) B2 rfl (.tmp 27) (.tmp 28) 25 5 (.int .u8 0) 1 rfl Try.underlying25 info8 rfl (by decide) (by omega) _ ((pre.map (fun (x : Piece w Pr) => entL x.1.2)).flatten) (entL x.1.2) _ _ _ (fun _ => True) (fun _ => False) rfl rfl ?aO ?aR (fun _ _ h => h) (fun _ h => h.elim) ?aF (Below.refl _ _) ?aS ?aL ?_; (case aR => exact (Kd.R_reads' HO97.out).2.2); (case aF => exact (fun _ _ => trivial)); (case aO => exact HR27.out); (case aS => exact HSZ7.out); (case aL => have h8 := HLN.out; have h9 := HN2.out; have h10 := HEL.out; have h11 := HPL.out; omega); intro v29 w9 ho hb hg hat; obtain ⟨A29, c29, rfl⟩ := Kd.R_slice ho; have HO29 := Aside0.mk ho; have HG29 := Aside0.mk hg; have HB29 := Aside0.mk hb; have HB19 := Aside0.mk (blk_apart HR27.out HB17.out (by decide) hg); have HBa9 := Aside0.mk (blk_apart HR27.out HBa7.out (by decide) hg); have HR19 := Aside0.mk (R_apart HR17.out HR27.out (by decide) hg); have hf9 := blk_frozen HBa9.out 0; have hc29 := blk_cell HBa9.out 0; simp only [List.getElem?_toArray, List.getElem?_cons_zero] at hc29; clear ho hb hg hat))
    have e29 : (List.map (List.length ∘ fun (x : Piece w Pr) => entL x.1.2) pre).sum + (entL x.1.2).length = ((pre.map (fun (x : Piece w Pr) => entL x.1.2)).flatten ++ entL x.1.2).length := by simp
    rw [e29]
    have hBB : Bs + 1 < B2 ∧ w.heap.size + 1 < Bs := ⟨by have := HB2.out; have := HS5.out; omega, HGB.out.2⟩
    have hst : ∀ i : Nat, i < B2 → i ≠ w.heap.size → i ≠ w.heap.size + 1 → (w9.setCell ⟨w.heap.size + 1, 0, none⟩ (Value.slice A29 ((pre.map (fun (x : Piece w Pr) => entL x.1.2)).flatten ++ entL x.1.2).length c29)).heap[i]? = W.heap[i]? := fun i hi h1 h2 => (Below.heap_setCell _ _ _ _ h2).trans ((HB29.out.block i hi).trans (HBX7.out i hi h1))
    refine ⟨?k1, ?k2, ⟨.slice A26 (pre.length + 1) c26, .slice A29 ((pre.map (fun (x : Piece w Pr) => entL x.1.2)).flatten ++ entL x.1.2).length c29, ?b1, ?b2, ?r1, ?r2⟩, ?k4, ?k5, ?k6⟩
    case k1 => exact HKO7.out.trans ((keeps_R HR27.out HG29.out).trans (KeepsOthers.setCell _ _ _))
    case k2 => exact ⟨hst _ (by omega) (by omega) (by omega), hst _ (by omega) (by omega) (by omega)⟩
    case b1 => exact (Below.heap_setCell _ _ _ _ (by simp)).trans HB19.out
    case b2 => exact blk_put HBa9.out _
    case r1 => rw [List.map_append]; exact R_set HR19.out HBa9.out (by decide)
    case r2 => rw [List.map_append, List.flatten_append, List.map_cons, List.map_nil, List.flatten_cons, List.flatten_nil, List.append_nil]; exact R_set HO29.out HBa9.out (by decide)
    case k4 => exact Below.setCell (HBW7.out.trans (HB29.out.mono (by omega))) (Nat.le_succ _) _
    case k5 => have h1 := HSZ7.out; have h2 := HB29.out.size; simp; omega
    case k6 =>
      have h1 := HPL.out
      have h2 := HEL.out
      rw [List.map_append, List.flatten_append, List.map_cons, List.map_nil, List.flatten_cons, List.flatten_nil, List.append_nil, List.length_append, List.length_append]
      simp only [List.length_cons, List.length_nil]
      omega
  case done =>
    rename_i K0 hK0
    rintro D ys W hD hS ⟨⟨v1, v2, hb1, hb2, r1, r2⟩, hbl, hsz, hpl⟩ hK
    have hsz1 : ys.map (fun (x : Piece w Pr) => ((entL x.1.2).length : Int)) = sizesL k L := by unfold sizesL; rw [← hS, List.map_map]; rfl
    have hall : (ys.map (fun (x : Piece w Pr) => entL x.1.2)).flatten = allL k L := by unfold allL; rw [← hS, List.map_map]; rfl
    rw [hsz1] at r1
    rw [hall] at r2 hpl
    have hmay := sizes_may k HK1.out L HSM.out HFS.out
    obtain ⟨kw, hkw⟩ := (pwrite_f (sizesL k L) (by have := HLL.out; omega) hmay.1).rounds
    obtain ⟨S, hSe⟩ : ∃ S, S = sizesL k L := ⟨_, rfl⟩
    obtain ⟨E, hEe⟩ : ∃ E, E = allL k L := ⟨_, rfl⟩
    rw [← hSe] at r1 hkw hmay
    rw [← hEe] at r2 hpl
    obtain ⟨A1, c1, rfl, hl1, hr1⟩ := Kd.R_reads r1
    obtain ⟨A2, c2, rfl, hl2, hr2⟩ := Kd.R_reads r2
    have HSE := Aside0.mk hSe
    have HEE := Aside0.mk hEe
    have HKW := Aside0.mk hkw
    have HR1 := Aside0.mk hr1
    have HL1 := Aside0.mk hl1
    have HR2 := Aside0.mk r2
    have HBa := Aside0.mk hb2
    have HBL := Aside0.mk hbl
    have HKD := Aside0.mk hK
    have HDD := Aside0.mk hD
    have hc1 := blk_cell hb1 0
    simp only [List.getElem?_toArray, List.getElem?_cons_zero] at hc1
    clear hsz1 hall hmay hkw hSe hEe hr1 hl1 hr2 hl2 r1 r2 hb1 hb2 hbl hsz hpl hK hD hS
    refine hK0 _ _ ?_
    gi_wp2_with fail
    refine ⟨trivial, (callsIn_wide.2 (pack_Write.calls kw A1 c1 S _ _ _ HR1.out HL1.out HKW.out)).mono ?_⟩
    rintro e w6 ⟨v10, rfl, ho10, hb6⟩
    obtain ⟨A10, c10, rfl⟩ := Kd.R_slice ho10
    have HO10 := Aside0.mk (Kd.R_drew ho10)
    have HBa6 : Aside0 (w6.drew.heap[w.heap.size + 1]? = some (.cells #[.slice A2 E.length c2] 25 (0, 0))) := ⟨(hb6.block _ (blk_lt HBa.out)).trans HBa.out⟩
    have HR26 := Aside0.mk (Kd.R_drew (Kd.R_below HR2.out hb6))
    have HKD6 : Aside0 (w6.drew.heap[D]? = some (.deferred (some []))) := ⟨(hb6.block _ (blk_lt HKD.out)).trans HKD.out⟩
    have HBL6 := Aside0.mk (below_drew1 (below_step HBL.out hb6))
    have hca := blk_cell HBa6.out 0
    simp only [List.getElem?_toArray, List.getElem?_cons_zero] at hca
    obtain ⟨kp, hkp⟩ := (cput_f L.length (by have := HLL.out; omega)).rounds
    obtain ⟨kq, hkq⟩ := (cput_f k (by have := HK2.out; omega)).rounds
    have HP1 := Aside0.mk hkp
    have HP2 := Aside0.mk hkq
    obtain ⟨Y, hY⟩ : ∃ Y : List (List Int), Y = [vint L.length, vint k, writeL S, E] := ⟨_, rfl⟩
    have HY := Aside0.mk hY
    have hcat : slices_Concat_byte_byte.f Y = some (buildL k L) := by
      have hel : E.length ≤ 1000000000 := by rw [HEE.out]; have := allL_len k HK1.out L HSM.out; have := HFS.out; omega
      have hwl : (writeL S).length ≤ 100000000 := by
        have hm := sizes_may k HK1.out L HSM.out HFS.out
        rw [← HSE.out] at hm
        have h1 := packB_len S (by have := HLL.out; omega) (wideL S 0) (wide_32 hm.1)
        have h2 := vint_len S.length (by have := HLL.out; omega)
        unfold writeL
        simp only [List.length_append, List.length_cons, List.length_nil]
        omega
      have hv1 := vint_len L.length (by have := HLL.out; omega)
      have hv2 := vint_len k (by have := HK2.out; omega)
      unfold slices_Concat_byte_byte.f buildL
      rw [hY, ← HSE.out, ← HEE.out, if_pos (by simp only [List.flatten_cons, List.flatten_nil, List.length_append, List.length_nil]; omega)]
      simp
    have HCAT := Aside0.mk hcat
    have hYl : Y.length = 4 := by rw [hY]; rfl
    have HYL := Aside0.mk hYl
    clear hkp hkq hY hcat hYl ho10 hb6 HBa HR2 HKD HBL HR1 HL1 HKW
    gi_wp2
    refine wpIn_wide.2 (wp_onlyN ?_)
    refine start_ (n := 11) (S := fun w' => w'.cell? ⟨w.heap.size + 1, 0, none⟩ = some (.slice A2 E.length c2)) (ds := []) #[false, false, false, false, false, false, false, false, false, false, false] (by kernel_rfl) rfl rfl ((blk_cell HBa6.out 0)) (fun hHeld => ?_)
    refine pure_ (i := 0) (N := some 38) (v := ?_) (a' := ?_) #[true, false, false, false, false, false, false, false, false, false, false] rfl rfl (by kernel_rfl) (fun _ _ _ h => h) (Or.inl ⟨by rfl, ?_⟩) ?_ ?_
    rotate_left
    · intro w'
      go_simp
      with_reducible rfl
    rotate_left
    · simp only [Act.put, List.setIfInBounds_toArray, List.set_cons_zero, List.set_cons_succ, i64_w, i32_w]
      rfl
    refine pure_ (i := 1) (N := some 39) (v := ?_) (a' := ?_) #[true, true, false, false, false, false, false, false, false, false, false] rfl rfl (by kernel_rfl) (fun _ _ _ h => h) (Or.inl ⟨by rfl, ?_⟩) ?_ ?_
    rotate_left
    · intro w'
      go_simp
      with_reducible rfl
    rotate_left
    · simp only [Act.put, List.setIfInBounds_toArray, List.set_cons_zero, List.set_cons_succ, i64_w, i32_w]
      rfl
    refine pure_ (i := 3) (N := some 41) (v := ?_) (a' := ?_) #[true, true, false, true, false, false, false, false, false, false, false] rfl rfl (by kernel_rfl) (fun _ _ _ h => h) (Or.inl ⟨by rfl, ?_⟩) ?_ ?_
    rotate_left
    · intro w'
      go_simp
      with_reducible rfl
    rotate_left
    · simp only [Act.put, List.setIfInBounds_toArray, List.set_cons_zero, List.set_cons_succ, i64_w, i32_w]
      rfl
    refine pure_ (i := 5) (N := some 43) (v := ?_) (a' := ?_) #[true, true, false, true, false, true, false, false, false, false, false] rfl rfl (by kernel_rfl) (fun _ _ _ h => h) (Or.inl ⟨by rfl, ?_⟩) ?_ ?_
    rotate_left
    · intro w'
      go_simp
      with_reducible rfl
    rotate_left
    · simp only [Act.put, List.setIfInBounds_toArray, List.set_cons_zero, List.set_cons_succ, i64_w, i32_w]
      rfl
    refine take_ (i := 6) (N := some 44) (v := ?_) (a' := ?_) #[true, true, false, true, false, true, true, false, false, false, false] rfl rfl (by kernel_rfl) (fun _ _ _ h => h) (Or.inl ⟨by rfl, ?_⟩) hHeld ?_ ?_
    rotate_left
    · intro w' s0
      go_simp
      with_reducible rfl
    rotate_left
    · simp only [Act.put, List.setIfInBounds_toArray, List.set_cons_zero, List.set_cons_succ, i64_w, i32_w]
      rfl
    refine one_ (i := 2) (N := some 40) #[true, true, true, true, false, true, true, false, false, false, false] rfl rfl (by kernel_rfl) (by decide) (fun K hK => ?_)
    refine goes_ Try.func30 (by kernel_rfl) rfl #[.int .i64 (L.length : Int)] (by rfl) rfl rfl (by simp only [List.map_toArray, List.map_cons, List.map_nil]; rfl) ?_
    with_reducible refine (cursor_Put.calls kp (L.length : Int) (vint L.length) _ HP1.out).mono ?_
    rintro e w7 ⟨v40, rfl, ho40, hb7⟩
    refine ⟨_, rfl, ?_⟩
    obtain ⟨A40, c40, rfl⟩ := Kd.R_slice ho40
    have HO40 := Aside0.mk ho40
    have HBa7 := Aside0.mk ((hb7.block _ (blk_lt HBa6.out)).trans HBa6.out)
    have HR27 := Aside0.mk (Kd.R_below HR26.out hb7)
    have HKD7 := Aside0.mk ((hb7.block _ (blk_lt HKD6.out)).trans HKD6.out)
    have HBL7 := Aside0.mk (below_step HBL6.out hb7)
    have HO107 := Aside0.mk (Kd.R_below HO10.out hb7)
    clear ho40 hb7
    refine hK.out _ _ ((blk_cell HBa7.out 0)) (fun hHeld => ?_)
    clear hK K
    refine norm_ (a' := ?_) ?_ ?_
    rotate_left
    · show Act.put _ (some 40) _ = _
      simp only [Act.put, List.setIfInBounds_toArray, List.set_cons_zero, List.set_cons_succ, i64_w, i32_w]
      rfl
    refine one_ (i := 4) (N := some 42) #[true, true, true, true, true, true, true, false, false, false, false] rfl rfl (by kernel_rfl) (by decide) (fun K hK => ?_)
    refine goes_ Try.func30 (by kernel_rfl) rfl #[.int .i64 (k : Int)] (by rfl) rfl rfl (by simp only [List.map_toArray, List.map_cons, List.map_nil]; rfl) ?_
    with_reducible refine (cursor_Put.calls kq (k : Int) (vint k) _ HP2.out).mono ?_
    rintro e w8 ⟨v42, rfl, ho42, hb8⟩
    refine ⟨_, rfl, ?_⟩
    obtain ⟨A42, c42, rfl⟩ := Kd.R_slice ho42
    have HO42 := Aside0.mk ho42
    have HBa8 := Aside0.mk ((hb8.block _ (blk_lt HBa7.out)).trans HBa7.out)
    have HR28 := Aside0.mk (Kd.R_below HR27.out hb8)
    have HKD8 := Aside0.mk ((hb8.block _ (blk_lt HKD7.out)).trans HKD7.out)
    have HBL8 := Aside0.mk (below_step HBL7.out hb8)
    have HO108 := Aside0.mk (Kd.R_below HO107.out hb8)
    have HO408 := Aside0.mk (Kd.R_below HO40.out hb8)
    clear ho42 hb8
    refine hK.out _ _ ((blk_cell HBa8.out 0)) (fun hHeld => ?_)
    clear hK K
    refine norm_ (a' := ?_) ?_ ?_
    rotate_left
    · show Act.put _ (some 42) _ = _
      simp only [Act.put, List.setIfInBounds_toArray, List.set_cons_zero, List.set_cons_succ, i64_w, i32_w]
      rfl
    refine one_ (i := 7) (N := some 45) #[true, true, true, true, true, true, true, true, false, false, false] rfl rfl (by kernel_rfl) (by decide) (fun K hK => ?_)
    refine Kd.N_lit_step (Kd.slice 5 (Kd.int .u8)) _ 25 ?hg (N' := 45) ?hd (xs := ([vint L.length, vint k, writeL S, E] : List (List Int))) (inner := [(.slice A40 (vint L.length).length c40), (.slice A42 (vint k).length c42), (.slice A10 (writeL S).length c10), (.slice A2 E.length c2)]) (ok := (fun _ => True)) (okp := (fun _ => True)) ?hr ?hp (fun _ hk => hk) ((show ∀ k_, w8.heap.size ≤ k_ → (fun _ => True) k_ from fun k_ hk => trivial) _ (Nat.le_refl _)) (Below.refl _ _) (Nat.le_refl _) (by simp) ?_; (case hd => rfl); (case hg => rfl); (case hr => first | (go_simp; done) | (go_simp; rfl)); (case hp => exact (Reps.one (show Kd.FK (Kd.slice 5 (Kd.int .u8)) _ _ (vint L.length) [(.slice A40 (vint L.length).length c40)] from (Kd.FK_slice_mk (Kd.R_reads' (Kd.R_mono (ok' := (fun _ => True)) (HO408.out) (fun k_ hk => trivial))).2.1 (Kd.R_F (Kd.R_mono (ok' := (fun _ => True)) (HO408.out) (fun k_ hk => trivial))))) (Reps.one (show Kd.FK (Kd.slice 5 (Kd.int .u8)) _ _ (vint k) [(.slice A42 (vint k).length c42)] from (Kd.FK_slice_mk (Kd.R_reads' (Kd.R_mono (ok' := (fun _ => True)) (HO42.out) (fun k_ hk => trivial))).2.1 (Kd.R_F (Kd.R_mono (ok' := (fun _ => True)) (HO42.out) (fun k_ hk => trivial))))) (Reps.one (show Kd.FK (Kd.slice 5 (Kd.int .u8)) _ _ (writeL S) [(.slice A10 (writeL S).length c10)] from (Kd.FK_slice_mk (Kd.R_reads' (Kd.R_mono (ok' := (fun _ => True)) (HO108.out) (fun k_ hk => trivial))).2.1 (Kd.R_F (Kd.R_mono (ok' := (fun _ => True)) (HO108.out) (fun k_ hk => trivial))))) (Reps.one (show Kd.FK (Kd.slice 5 (Kd.int .u8)) _ _ E [(.slice A2 E.length c2)] from (Kd.FK_slice_mk (Kd.R_reads' (Kd.R_mono (ok' := (fun _ => True)) (HR28.out) (fun k_ hk => trivial))).2.1 (Kd.R_F (Kd.R_mono (ok' := (fun _ => True)) (HR28.out) (fun k_ hk => trivial))))) (Reps.none _ _))))))
    intro v45 w9 ho45 hb9 hg_ hnew_
    clear hg_ hnew_
    rw [← HY.out] at ho45
    obtain ⟨A45, c45, rfl⟩ := Kd.N_slice ho45
    have HO45 := Aside0.mk ho45
    have HBa9 := Aside0.mk ((hb9.block _ (blk_lt HBa8.out)).trans HBa8.out)
    have HR29 := Aside0.mk (Kd.R_below HR28.out hb9)
    have HKD9 := Aside0.mk ((hb9.block _ (blk_lt HKD8.out)).trans HKD8.out)
    have HBL9 := Aside0.mk (below_step HBL8.out hb9)
    clear ho45 hb9
    refine hK.out _ _ ((blk_cell HBa9.out 0)) (fun hHeld => ?_)
    clear hK K
    refine norm_ (a' := ?_) ?_ ?_
    rotate_left
    · show Act.put _ (some 45) _ = _
      simp only [Act.put, List.setIfInBounds_toArray, List.set_cons_zero, List.set_cons_succ, i64_w, i32_w]
      rfl
    refine one_ (i := 8) (N := some 46) #[true, true, true, true, true, true, true, true, true, false, false] rfl rfl (by kernel_rfl) (by decide) (fun K hK => ?_)
    refine goes_ Try.func29 (by kernel_rfl) rfl #[.slice A45 Y.length c45] (by rfl) rfl rfl (by simp only [List.map_toArray, List.map_cons, List.map_nil]; rfl) ?_
    with_reducible refine (slices_Concat_byte_byte.calls A45 c45 Y (buildL k L) _ (Kd.N_reads' HO45.out).2.2 (Kd.N_reads' HO45.out).2.1 HCAT.out).mono ?_
    rintro e w10 ⟨v46, rfl, ho46, hb10⟩
    refine ⟨_, rfl, ?_⟩
    have HO46 := Aside0.mk ho46
    have HBa10 := Aside0.mk ((hb10.block _ (blk_lt HBa9.out)).trans HBa9.out)
    have HR210 := Aside0.mk (Kd.R_below HR29.out hb10)
    have HKD10 := Aside0.mk ((hb10.block _ (blk_lt HKD9.out)).trans HKD9.out)
    have HBL10 := Aside0.mk (below_step HBL9.out hb10)
    clear ho46 hb10
    refine hK.out _ _ ((blk_cell HBa10.out 0)) (fun hHeld => ?_)
    clear hK K
    refine norm_ (a' := ?_) ?_ ?_
    rotate_left
    · show Act.put _ (some 46) _ = _
      simp only [Act.put, List.setIfInBounds_toArray, List.set_cons_zero, List.set_cons_succ, i64_w, i32_w]
      rfl
    refine pure_ (i := 9) (N := some 4) (v := ?_) (a' := ?_) #[true, true, true, true, true, true, true, true, true, true, false] rfl rfl (by kernel_rfl) (fun _ _ _ h => h) (Or.inl ⟨by rfl, ?_⟩) ?_ ?_
    rotate_left
    · intro w'
      go_simp
      with_reducible rfl
    rotate_left
    · simp only [Act.put, List.setIfInBounds_toArray, List.set_cons_zero, List.set_cons_succ, i64_w, i32_w]
      rfl
    refine pure_ (i := 10) (N := some 5) (v := ?_) (a' := ?_) #[true, true, true, true, true, true, true, true, true, true, true] rfl rfl (by kernel_rfl) (fun _ _ _ h => h) (Or.inl ⟨by rfl, ?_⟩) ?_ ?_
    rotate_left
    · intro w'
      go_simp
      with_reducible rfl
    rotate_left
    · simp only [Act.put, List.setIfInBounds_toArray, List.set_cons_zero, List.set_cons_succ, i64_w, i32_w]
      rfl
    refine done_ (by kernel_rfl) ?_
    simp only [onlyN]
    gi_wp2
    refine ⟨by simp, .inl ⟨_, _, rfl, run_takeDeferred HKD10.out, ?_⟩⟩
    have hgr := grownBy_putObj' w10 D (.deferred none)
    have hwD : w.heap.size ≤ D := Nat.le_trans HW5.out.size HDD.out
    have hko : KO1 w10 (w10.putObj D (.deferred none)) := KO1.of_grown hgr (fun r e => by
      injection e with e
      subst e
      exact ⟨_, HKD10.out, rfl⟩)
    exact ⟨_, results_tmp2 rfl _ _ _, _, rfl, R_ko1 (Kd.R_lower HO46.out (below_size HBL9.out)) hko, HBL10.out.grown hgr HBL10.out.size (fun k e => by cases e; exact hwD)⟩
  case stop =>
    rintro D c pre W hD _ h _
    exact h.elim
theorem right_parts {L : List ByteArray} {n : Int} (h : rightL L n = true) : 1 ≤ n ∧ n ≤ 64 ∧ L.length ≤ 4096 ∧ smallL L := by
  unfold rightL at h
  simp only [Bool.and_eq_true, decide_eq_true_eq] at h
  obtain ⟨⟨h1, h2, h3⟩, h4⟩ := h
  refine ⟨h1, h2, h3, fun s hs => ?_⟩
  obtain ⟨i, hi, rfl⟩ := List.getElem_of_mem hs
  have := (okL_at h4 i hi).1
  rwa [at_get L i hi] at this
theorem Build_ok (A : Option Addr) (c : Nat) (L : List ByteArray) (k : Nat) (w : World) (hc : L.length ≤ c) (hC : Kd.C Kd.string w A L.length L) (hr : rightL L (k : Int) = true) (hfs : fsum L + 4 * L.length ≤ 1000000000) : Calls Try.prog 10 #[.slice A L.length c, .int .i64 (k : Int)] w fun e w' => ∃ v : Value, e = .returned (.tuple #[v, .int .i64 0]) ∧ Kd.R (Kd.int .u8) 5 w' w.heap.size (fun _ => True) v (buildL k L) ∧ Below w.heap.size w w' := by
  obtain ⟨h1, h2, h3, hsm⟩ := right_parts hr
  have hk1 : 1 ≤ k := by omega
  have hk2 : k ≤ 64 := by omega
  by_cases h0 : L.length = 0
  · have hN : (L.length + k - 1) / k ≤ 0 := by rw [h0, Nat.div_eq_of_lt (by omega)]; exact Nat.le_refl 0
    exact Build_run A c k L w hc hC hr hk1 hk2 h3 hsm hfs (fun _ => True) (fun _ _ => trivial) ⟨(none, []), Kd.C_of_reads (d := ByteArray.empty) (h1 := fun _ => rfl) ⟨rfl, by simp, fun h => by simp at h⟩, by simp, trivial⟩ 0 hN (by omega) (fun _ _ h => absurd h (by omega))
  · have hPr : ∀ j, j * k < L.length → (fun c : List ByteArray => c ≠ [] ∧ c.length ≤ 64 ∧ smallL c) ((L.drop (j * k)).take k) := fun j hj => by
      refine ⟨fun e => ?_, by rw [List.length_take]; omega, fun s hs => hsm s (List.mem_of_mem_drop (List.mem_of_mem_take hs))⟩
      have := congrArg List.length e
      rw [List.length_take, List.length_drop] at this
      simp at this
      omega
    have hp0 : 0 * k < L.length := by omega
    have hpc := piece_C hc (by omega) hC 0 hk1 hp0
    refine Build_run A c k L w hc hC hr hk1 hk2 h3 hsm hfs _ hPr ⟨(A.map (·.add (0 * k * 1)), (L.drop (0 * k)).take k), hpc.1, hpc.2, hPr 0 hp0⟩ 4096 ?_ (Nat.le_refl _) (fun c h _ => h)
    have h4 := chunks_len k hk1 L
    rw [chunks_count] at h4
    omega
end Go.Proofs.Ytljhlpkoilapiaa.HW
end
section
/- Few strings; answers that the document fixes. -/
set_option linter.unusedVariables false
set_option linter.unusedSimpArgs false
namespace Go.Proofs.Ytljhlpkoilapiaa.HW
open Go.RowKit Go.Proofs.Ytljhlpkoilapiaa.P Go.Proofs.Ytljhlpkoilapiaa.HP Go.Proofs.YtljhlpkoilapiaaW.PrintWords Go.Proofs.YtljhlpkoilapiaaW.PrintLast Go.Proofs.YtljhlpkoilapiaaW.PrintMore
attribute [local go_sem] max2_int min2_int max_two min_two max_three min_three max_four min_four
theorem fsum_take_ (l : List ByteArray) (i : Nat) (s : ByteArray) (h : l[i]? = some s) : fsum (l.take (i + 1)) = fsum (l.take i) + s.size := by
  unfold fsum
  rw [List.take_add_one, h]
  simp
theorem wsum (a b : Nat) (h : a + b ≤ 2000000) : wrap64 ((a : Int) + (b : Int)) = (a : Int) + (b : Int) := by unfold wrap64; omega
theorem few_l (l : List ByteArray) : ∀ (d i : Nat), i + d = l.length → i ≤ 400 → (∀ (j : Nat) (s : ByteArray), j < i → l[j]? = some s → s.size ≤ 5000) → fsum (l.take i) ≤ 5000 * i →
    ∃ r, Ev (fun k => hopperref07_Few.l0 k l (fsum (l.take i) : Int) (i : Int)) r ∧ (r = true → l.length ≤ 300 ∧ (∀ s ∈ l, s.size ≤ 5000) ∧ fsum l ≤ 300000) := by
  intro d
  induction d with
  | zero =>
    intro i hi h4 hs hf
    have ht : l.take i = l := List.take_of_length_le (by omega)
    by_cases h3 : l.length ≤ 300
    · refine ⟨decide ((fsum (l.take i) : Int) ≤ 300000), Ev.step (fun k => by rw [hopperref07_Few.l0]) ?_, fun hr => ?_⟩
      · simp only [if_neg (show ¬ (i : Int) < (l.length : Int) by omega)]
        refine Ev.step (fun k => by rw [hopperref07_Few.j1]) ?_
        simp only [Bool.false_eq_true, if_false, if_pos (show (l.length : Int) ≤ 300 by omega)]
        exact Ev.now _
      · have := of_decide_eq_true hr
        rw [ht] at this
        refine ⟨h3, fun s hs' => ?_, by omega⟩
        obtain ⟨j, hj⟩ := List.getElem?_of_mem hs'
        exact hs j s (by have := (List.getElem?_eq_some_iff.1 hj).1; omega) hj
    · refine ⟨false, Ev.step (fun k => by rw [hopperref07_Few.l0]) ?_, fun hr => by cases hr⟩
      simp only [if_neg (show ¬ (i : Int) < (l.length : Int) by omega)]
      refine Ev.step (fun k => by rw [hopperref07_Few.j1]) ?_
      simp only [Bool.false_eq_true, if_false, if_neg (show ¬ (l.length : Int) ≤ 300 by omega)]
      exact Ev.now _
  | succ d ih =>
    intro i hi h4 hs hf
    by_cases h40 : i < 400
    · obtain ⟨s, hsi⟩ : ∃ s, l[i]? = some s := ⟨_, List.getElem?_eq_getElem (by omega)⟩
      have hrd : rdOf ByteArray.empty l (i : Int) = s := by simp [rdOf, List.getD_eq_getElem?_getD, hsi]
      by_cases h5 : s.size ≤ 5000
      · have hft := fsum_take_ l i s hsi
        obtain ⟨r, hr, hp⟩ := ih (i + 1) (by omega) (by omega) (fun j t hj ht => by
          by_cases e : j = i
          · subst e; rw [hsi] at ht; injection ht with ht; subst ht; exact h5
          · exact hs j t (by omega) ht) (by omega)
        refine ⟨r, Ev.step (fun k => by rw [hopperref07_Few.l0]) ?_, hp⟩
        simp only [if_pos (show (i : Int) < (l.length : Int) by omega), decide_eq_true (show (i : Int) < 400 by omega)]
        refine Ev.step (fun k => by rw [hopperref07_Few.j1]) ?_
        have w1 : wrap64 ((i : Int) + 1) = ((i + 1 : Nat) : Int) := wr1 i (by omega)
        have w2 : wrap64 ((fsum (l.take i) : Int) + (s.size : Int)) = (fsum (l.take (i + 1)) : Int) := by rw [hft, Int.natCast_add]; exact wsum _ _ (by omega)
        simp only [if_true, if_pos (show (0 : Int) ≤ (i : Int) by omega), if_pos (show (i : Int) < (l.length : Int) by omega), hrd, if_neg (show ¬ (s.size : Int) > 5000 by omega), w1, w2]
        exact hr
      · refine ⟨false, Ev.step (fun k => by rw [hopperref07_Few.l0]) ?_, fun hr => by cases hr⟩
        simp only [if_pos (show (i : Int) < (l.length : Int) by omega), decide_eq_true (show (i : Int) < 400 by omega)]
        refine Ev.step (fun k => by rw [hopperref07_Few.j1]) ?_
        simp only [if_true, if_pos (show (0 : Int) ≤ (i : Int) by omega), if_pos (show (i : Int) < (l.length : Int) by omega), hrd, if_pos (show (s.size : Int) > 5000 by omega)]
        exact Ev.now _
    · refine ⟨false, Ev.step (fun k => by rw [hopperref07_Few.l0]) ?_, fun hr => by cases hr⟩
      simp only [if_pos (show (i : Int) < (l.length : Int) by omega), decide_eq_false (show ¬ (i : Int) < 400 by omega)]
      refine Ev.step (fun k => by rw [hopperref07_Few.j1]) ?_
      simp only [Bool.false_eq_true, if_false, if_neg (show ¬ (l.length : Int) ≤ 300 by omega)]
      exact Ev.now _
theorem few_f (l : List ByteArray) : ∃ r, Ev (fun k => hopperref07_Few.f k l) r ∧ (r = true → l.length ≤ 300 ∧ (∀ s ∈ l, s.size ≤ 5000) ∧ fsum l ≤ 300000) := few_l l l.length 0 (Nat.zero_add _) (by omega) (fun j s hj => by omega) (by simp [fsum])
theorem few13 (l : List ByteArray) : ∃ r, Ev (fun k => hopperref13_Few.f k l) r ∧ (r = true → l.length ≤ 150 ∧ (∀ s ∈ l, s.size ≤ 5000) ∧ fsum l ≤ 300000) := by
  by_cases h : l.length ≤ 150
  · obtain ⟨r, hev, hr⟩ := few_f l
    refine ⟨r, ?_, fun e => ⟨h, (hr e).2.1, (hr e).2.2⟩⟩
    simp only [hopperref13_Few.f, if_pos (show (l.length : Int) ≤ 150 by omega)]
    exact Ev.bind hev (Ev.now _)
  · refine ⟨false, ?_, fun e => by cases e⟩
    simp only [hopperref13_Few.f, if_neg (show ¬ (l.length : Int) ≤ 150 by omega)]
    exact Ev.now _
def awS : List ByteArray := [⟨#[97, 98]⟩, ⟨#[97, 98, 99]⟩]
def awB : List Int := [2, 2, 1, 3, 6, 2, 97, 98, 2, 1, 99]
theorem awR : rightL awS ((2 : Nat) : Int) = true := by decide +kernel
theorem awF : fsum awS + 4 * awS.length ≤ 1000000000 := by decide +kernel
theorem awBuild : buildL 2 awS = awB := by
  have h1 := rbuild_f 2 (by omega) (by omega) awS (by decide) (right_parts awR).2.2.2 awF
  have h2 : hopperref13_Build.f 60 awS ((2 : Nat) : Int) = some awB := by decide +kernel
  exact Ev.uniq h1 (Ev.of (hopperref13_Build.mono awS _) h2)
theorem awStr : strOfNums awB = ⟨#[2, 2, 1, 3, 6, 2, 97, 98, 2, 1, 99]⟩ := by decide +kernel
theorem lit_strings (w : World) (l : List ByteArray) (hl : l.length ≤ 9223372036854775807) : Kd.C Kd.string (w.alloc (.cells (l.map Value.string).toArray 9)) (some ⟨w.heap.size, 0, none⟩) l.length l := by
  refine Kd.C_of_reads (d := ByteArray.empty) (h1 := fun _ => rfl) ⟨rfl, hl, fun _ => ⟨_, rfl, fun j hj => ?_⟩⟩
  rw [add_plain]
  have h9 := blk_cell (blk_new w (.cells (l.map Value.string).toArray 9)) j
  rw [h9]
  simp [List.getD_eq_getElem?_getD, hj]
set_option maxHeartbeats 8000000 in
set_option maxRecDepth 100000 in
theorem law13_awake (w : World) : Calls Try.prog 8 #[] w fun e w' => e = .returned (.bool true) ∧ Below w.heap.size w w' := by
  have HC0 := Aside0.mk (lit_strings w awS (by decide))
  have HB0 := Aside0.mk (below_alloc (Below.refl w.heap.size w) (.cells (awS.map Value.string).toArray 9))
  go_enter Try.func8, Try.ntmps8
  go_wp2_with fail
  refine (Build_ok (some ⟨w.heap.size, 0, none⟩) 2 awS 2 _ (Nat.le_refl _) HC0.out awR awF).mono ?_
  rintro e w1 ⟨v1, rfl, ho1, hb1⟩
  rw [awBuild] at ho1
  obtain ⟨A1, c1, rfl, hl1, hr1⟩ := Kd.R_reads ho1
  have HB1 := Aside0.mk (below_step HB0.out hb1)
  have HR1 := Aside0.mk hr1
  have HL1 := Aside0.mk hl1
  clear hb1 ho1 hr1 hl1 HC0 HB0
  go_wp2_with fail
  refine (Cur.make A1 c1 awB _ HR1.out HL1.out (by decide)).mono ?_
  rintro e w2 ⟨g, rfl, hc2, hb2⟩
  obtain ⟨d, a', e', hop, _⟩ := open_total awB (by intro x hx; simp [awB] at hx; omega) (by decide) 0 (Nat.zero_le _)
  obtain ⟨hd, ha, he⟩ := open_at awB (by decide) awS 2 awR awF 0 (Nat.zero_le _) [] (by rw [awBuild]; rfl) d a' e' hop
  rw [awBuild] at ha
  have ha : a' = 11 := ha
  subst hd ha he
  have HOP := Aside0.mk hop
  have HC2 := Aside0.mk hc2
  have HX2 := Aside0.mk hb2
  have HS2 := Aside0.mk (below_size hb2)
  have HB2 := Aside0.mk (below_step HB1.out hb2)
  have HG2 := Aside0.mk hc2.lt
  have HCV : Aside0 (∀ W : World, Below w1.heap.size w1 W → (convert 25 9 (.slice A1 awB.length c1)).run Try.prog W = .ok (.string (strOfNums awB)) W) := ⟨fun W hW => Kd.C_string (P := Try.prog) (c := c1) Try.underlying25 Try.underlying5 Try.underlying9 (Kd.C_below HR1.out hW)⟩
  obtain ⟨S0, hS0⟩ : ∃ S0, S0 = strOfNums awB := ⟨_, rfl⟩
  have heq : (S0.toList == ByteArray.toList { data := #[2, 2, 1, 3, 6, 2, 97, 98, 2, 1, 99] }) = true := by rw [hS0, awStr]; simp
  have heq2 : S0.toList = ByteArray.toList { data := #[2, 2, 1, 3, 6, 2, 97, 98, 2, 1, 99] } := by rw [hS0, awStr]
  have HEQ := Aside0.mk (And.intro heq heq2)
  rw [← hS0] at HCV
  clear heq heq2 hS0
  clear hop hc2 hb2 HR1
  go_wp2_with fail
  refine (Open_ _ HC2.out _ _ _ HOP.out).mono ?_
  rintro e w3 ⟨q, rfl, hq, hd3, hc3, hk3, hb3⟩
  have HD3 := Aside0.mk hd3
  have HC3 := Aside0.mk hc3
  have HX3 := Aside0.mk (HX2.out.trans hb3)
  have hcv := HCV.out _ HX3.out
  obtain ⟨heq, heq2⟩ := HEQ.out
  have HHB := Aside0.mk (show ∀ W : World, Below w1.heap.size w1 W → Below w.heap.size w W from fun W hW => HB1.out.trans (hW.mono (below_size HB1.out)))
  clear hd3 hc3 hk3 hb3 hq HB2
  go_wp2_with fail
  refine (DictP.len _ q awS HD3.out).mono ?_
  rintro e w4 ⟨rfl, hb4⟩
  rw [show (awS.length : Int) = 2 from rfl]
  have HD4 := Aside0.mk (HD3.out.below hb4)
  have HC4 := Aside0.mk (HC3.out.below hb4)
  have HX4 := Aside0.mk (HX3.out.trans (hb4.mono (below_size HX3.out)))
  clear hcv HD3 HC3 HX3 hb4
  go_wp2_with fail
  refine (DictP.at_in _ q awS HD4.out 1 (by decide) (by decide)).mono ?_
  rintro e w5 ⟨rfl, hb5⟩
  have hat : at_ awS 1 = ⟨#[97, 98, 99]⟩ := rfl
  rw [hat]
  have HD5 := Aside0.mk (HD4.out.below hb5)
  have HC5 := Aside0.mk (HC4.out.below hb5)
  have HX5 := Aside0.mk (HX4.out.trans (hb5.mono (below_size HX4.out)))
  clear HD4 HC4 HX4 hb5
  go_wp2_with fail
  refine (Cur.end_ HC5.out (r := 0) (i' := 11) (e' := 0) (by decide +kernel)).mono ?_
  rintro e w6 ⟨rfl, hc6, hk6, hb6⟩
  have HD6 := Aside0.mk (HD5.out.keep hk6 HG2.out)
  have HX6 := Aside0.mk (HX5.out.trans hb6)
  clear HD5 HC5 HX5 hc6 hk6 hb6
  go_wp2_with fail
  refine (DictP.all _ q awS HD6.out (by decide)).mono ?_
  rintro e w7 ⟨v7, rfl, ho7, hb7⟩
  obtain ⟨A7, c7, rfl⟩ := Kd.R_slice ho7
  have h2s : awS.length = 2 := rfl
  rw [h2s]
  clear h2s
  have HX7 := Aside0.mk (HX6.out.trans (hb7.mono (below_size HX6.out)))
  clear HD6 HX6 ho7 hb7
  go_wp2_with fail
  go_ret
  exact ⟨rfl, HHB.out _ HX7.out⟩
end Go.Proofs.Ytljhlpkoilapiaa.HW
end
