/- slices.Chunk: the closure, and what Chunk hands back. -/
import Derived.Test.YtpbplflocdhahaaHAddP
import Derived.RangeFuncNested
import Derived.RangeFuncBound
import Derived.RangeFuncCalls
import Derived.RangeFuncLeaves
import Derived.RangeFuncBox
import Derived.RangeFuncFrom
import Derived.Shelf.Abstract
import Derived.WalkKit
import Derived.OwnWalkIn
import Derived.TacticsInMore
import Derived.LoopNIn
import Derived.LoopIn
set_option linter.unusedVariables false
set_option linter.unusedSimpArgs false
namespace Go.Proofs.Ytpbplflocdhahaa.HW
open Go.RowKit Go.Shelf Go.Proofs.Ytpbplflocdhahaa.P Go.Proofs.Ytpbplflocdhahaa.HP Go.Proofs.YtpbplflocdhahaaW.PrintWords Go.Proofs.YtpbplflocdhahaaW.PrintLast Go.Proofs.YtpbplflocdhahaaW.PrintMore
attribute [local go_sem] max2_int min2_int max_two min_two max_three min_three max_four min_four
theorem rowsIn_wide_ {n : Nat} {P : Program} {l : Nat} {row : String} {args : Array Value} {w : World} {R : Value → World → Prop} (h : Rows P row args w R) : RowsIn (Fence.wide.inRound l) n P row args w R := fun c cs _ => by
  obtain ⟨v, w', r, s⟩ := h c cs
  exact ⟨v, w', r, stepsIn_wide.2 s⟩
theorem uponIn_of_upon {l n : Nat} {P : Program} {o : Oper} {a : Act} {K : Act → World → Prop} {Q : Exit → Act → World → Prop} {r : Result Next} (h : o.upon P a K Q r) : o.uponIn (Fence.wide.inRound l) n P a K Q r := by
  match r, h with
  | .ok (.value v) w', h => exact h
  | .ok .skip w', h => exact h
  | .ok (.defer d) w', h => exact h
  | .ok (.enter f args) w', h => exact ⟨fun e => by simp [Fence.wide] at e, CallsIn.inRound l (callsIn_wide.2 h)⟩
  | .ok (.row row args) w', h => exact ⟨fun e => by simp [Fence.wide] at e, rowsIn_wide_ h⟩
  | .halt (.panic v) w', h => exact h
theorem opIn_of_op {l n : Nat} {P : Program} {ops : Array Oper} {Q : Exit → Act → World → Prop} (hnd : ∀ (i : Nat) (o : Oper), ops[i]? = some o → ∀ c, o.op ≠ .defer c) (hlo : ∀ a w, ¬ Q .outgrown a w) {i : Nat} {K K' : Act → World → Prop} (hK : ∀ a w, K a w → K' a w) {a : Act} {w : World} (h : wpOp P ops Q i K a w) : wpOpIn (Fence.wide.inRound l) n P ops Q i K' a w := by
  unfold wpOp at h
  unfold wpOpIn
  cases hi : ops[i]? with
  | none => rw [hi] at h; exact hK _ _ h
  | some o =>
    rw [hi] at h
    simp only at h ⊢
    split
    · rename_i hw
      rw [if_pos hw] at h
      rcases h with h | ⟨_, a', w', h⟩
      · refine ⟨fun f _ => trivial, ?_⟩
        rw [Oper.semAt_eq _ _ _ (hnd i o hi)]
        exact uponIn_of_upon (Oper.wp_mono hK h)
      · exact absurd h (hlo a' w')
    · rename_i hw
      rw [if_neg hw] at h
      exact ⟨fun f _ => trivial, hK _ _ h⟩
theorem anyIn_of_any {l n : Nat} {P : Program} {md : Region.Mode} {ops : Array Oper} {Q : Exit → Act → World → Prop} (hnd : ∀ (i : Nat) (o : Oper), ops[i]? = some o → ∀ c, o.op ≠ .defer c) (hlo : ∀ a w, ¬ Q .outgrown a w) : ∀ (fuel : Nat) (listed : Array Bool) (a : Act) (w : World), wpAny P md ops Q fuel listed a w → wpAnyIn (Fence.wide.inRound l) n P md ops Q fuel listed a w
  | 0, listed, a, w, h => h
  | fuel + 1, listed, a, w, h => ⟨h.1, fun i hi => opIn_of_op hnd hlo (fun a w => anyIn_of_any hnd hlo fuel _ a w) (h.2 i hi)⟩
def noDefer (ops : Array Oper) : Bool := ops.all (fun o => match o.op with | .defer _ => false | _ => true)
theorem noDefer_spec {ops : Array Oper} (h : noDefer ops = true) (i : Nat) (o : Oper) (hi : ops[i]? = some o) (c : Call) : o.op ≠ .defer c := by
  unfold noDefer at h
  rw [Array.all_eq_true] at h
  obtain ⟨hl, rfl⟩ := Array.getElem?_eq_some_iff.1 hi
  have := h i hl
  intro e
  rw [e] at this
  cases this
/-- A region that draws, in a round at the wide fence: by the steps of a region anywhere. -/
theorem startIn_ {l₀ m : Nat} {P : Program} {ops : Array Oper} {Q : Exit → Act → World → Prop} {S : World → Prop} {ds : List Nat} {id n : Nat} {a : Act} {w : World} (l : Array Bool) (hnd : noDefer ops = true) (hlo : ∀ a w, ¬ Q .outgrown a w) (hm : P.follows .mixedOrders = true) (hn : ops.size = n) (hl : Array.replicate n false = l) (hS : S w.drew)
    (h : S w.drew → wpAnyLast P .any ops Q S ds n l a w.drew) : (Code.region id ops true).wpIn (Fence.wide.inRound l₀) m P Q a w := by
  subst hn
  subst hl
  exact wpIn_region_any hm (anyIn_of_any (noDefer_spec hnd) hlo _ _ _ _ (wpAny_of_last _ _ _ _ (h hS)))
/-- The pieces of a list, of k each; the last one may be shorter. -/
def chunks {α : Type} (k : Nat) (l : List α) : List (List α) := (List.range ((l.length + k - 1) / k)).map fun j => (l.drop (j * k)).take k
/-- A piece that is handed to a round: where it lies, and what it is, in the world ahead of the loop. -/
abbrev Piece (w0 : World) := { x : Option Addr × List Int // Kd.C (Kd.int .u8) w0 x.1 x.2.length x.2 ∧ x.2.length ≤ 100000000 }
def encP {w0 : World} (x : Piece w0) : Array Value := #[.slice x.1.1 x.1.2.length x.1.2.length]
/-- What a round keeps: the two boxes. -/
def KC (Bs Bn : Nat) (W W' : World) : Prop := W'.heap[Bs]? = W.heap[Bs]? ∧ W'.heap[Bn]? = W.heap[Bn]?
theorem KC.t {Bs Bn : Nat} {A B C : World} (h : KC Bs Bn A B) (k : KC Bs Bn B C) : KC Bs Bn A C := ⟨k.1.trans h.1, k.2.trans h.2⟩
theorem KC.b {Bs Bn : Nat} {w : World} (h1 : Bs < w.heap.size) (h2 : Bn < w.heap.size) (W : World) (l : Nat) (o o' : Obj) (hl : w.heap.size ≤ l) (_ : W.heap[l]? = some o) (_ : o.isCells = false) (_ : o.isWalk = false) : KC Bs Bn W (W.putObj l o') :=
  ⟨World.putObj_heap_other (by omega), World.putObj_heap_other (by omega)⟩
theorem ceil_lt {n k j : Nat} (hk : 1 ≤ k) : j < (n + k - 1) / k ↔ j * k < n := by
  rw [Nat.lt_div_iff_mul_lt (by omega)]
  omega
theorem piece_C {w0 : World} {A : Option Addr} {c k : Nat} {L : List Int} (hc : L.length ≤ c) (hLL : L.length ≤ 100000000) (hC : Kd.C (Kd.int .u8) w0 A L.length L) (j : Nat) (hk : 1 ≤ k) (hj : j * k < L.length) : Kd.C (Kd.int .u8) w0 (A.map (·.add (j * k * 1))) ((L.drop (j * k)).take k).length ((L.drop (j * k)).take k) ∧ ((L.drop (j * k)).take k).length ≤ 100000000 := by
  refine ⟨?_, by rw [List.length_take, List.length_drop]; omega⟩
  have h1 := Kd.C_drop (m := j * k) (c := c) hC (by omega) hc
  rw [if_neg (by omega)] at h1
  by_cases hm : k ≤ (L.drop (j * k)).length
  · exact Kd.C_take h1 hm
  · rw [List.take_of_length_le (by omega)]
    exact h1
noncomputable def pieceOf {w0 : World} {A : Option Addr} {c : Nat} {L : List Int} (hc : L.length ≤ c) (hLL : L.length ≤ 100000000) (hC : Kd.C (Kd.int .u8) w0 A L.length L) (k : Nat) (hk : 1 ≤ k) (j : Nat) : Piece w0 :=
  if hj : j * k < L.length then ⟨(A.map (·.add (j * k * 1)), (L.drop (j * k)).take k), piece_C hc hLL hC j hk hj⟩ else ⟨(none, []), Kd.C_of_reads (d := default) (h1 := fun _ => rfl) ⟨rfl, by simp, fun h => by simp at h⟩, by simp⟩
def upto {α : Type} (f : Nat → α) (k : Nat) : List α := (List.range k).map f
theorem upto_succ {α : Type} (f : Nat → α) (k : Nat) : upto f (k + 1) = upto f k ++ [f k] := by simp [upto, List.range_succ]
theorem upto_length {α : Type} (f : Nat → α) (k : Nat) : (upto f k).length = k := by simp [upto]
theorem upto_chunks {w0 : World} {A : Option Addr} {c : Nat} {L : List Int} (hc : L.length ≤ c) (hLL : L.length ≤ 100000000) (hC : Kd.C (Kd.int .u8) w0 A L.length L) (k : Nat) (hk : 1 ≤ k) (r : Nat) (hr : r = (L.length + k - 1) / k) : (upto (pieceOf hc hLL hC k hk) r).map (fun x => x.1.2) = chunks k L := by
  subst hr
  unfold upto chunks
  rw [List.map_map]
  refine List.map_congr_left (fun j hj => ?_)
  have hj' := (ceil_lt hk).1 (List.mem_range.1 hj)
  simp only [Function.comp, pieceOf, dif_pos hj']
set_option maxHeartbeats 8000000 in
set_option maxRecDepth 100000 in
theorem chunk1_in {w0 : World} (n : Nat) (hn : 1 ≤ n) (l Bs Bn k c : Nat) (A : Option Addr) (L : List Int) (hk : 1 ≤ k) (hk2 : k ≤ 65536) (hLL : L.length ≤ 100000000) (hc : L.length ≤ c) (hC : Kd.C (Kd.int .u8) w0 A L.length L) (N B : Nat) (hN : (L.length + k - 1) / k ≤ N) (J Jx : List (Piece w0) → World → Prop) (hJ : AbidesFrom B J)
    (hY : ∀ (pre : List (Piece w0)) (x : Piece w0) (W1 : World), J pre W1 → pre.length < N → YieldAt Fence.wide (n - 1) Try.prog l (encP x) W1 fun e W' => (e = .returned (.bool true) ∧ J (pre ++ [x]) W' ∧ KC Bs Bn W1 W') ∨ (e = .returned (.bool false) ∧ Jx (pre ++ [x]) W'))
    (W : World) (hBs : W.cell? ⟨Bs, 0, none⟩ = some (.slice A L.length c)) (hBn : W.cell? ⟨Bn, 0, none⟩ = some (.int .i64 (k : Int))) (h0 : J [] W) :
    CallsIn Fence.wide n Try.prog 39 #[.func (.yield l) #[] #[], .pointer (some ⟨Bs, 0, none⟩), .pointer (some ⟨Bn, 0, none⟩)] W fun e W' => (∃ v, e = .returned v) ∧
      ((∃ ys, ys.map (fun x => x.1.2) = chunks k L ∧ J ys W') ∨ (∃ pre, True ∧ Jx pre W')) := by
  obtain ⟨i0, hi0, _, hsz0, _⟩ := info_parts info8
  refine callsIn_of_wp Try.func39 rfl trivial ?_ rfl
  simp only [Try.ntmps39, List.size_toArray, List.length_cons, List.length_nil, Nat.reduceAdd, Nat.reduceSub, Array.replicate_succ, Array.replicate_zero, List.push_toArray, List.append_toArray, List.nil_append, List.cons_append]
  gi_wp2
  gi_loopw [4] (fun i wr => ∃ j : Nat, i = .int .i64 ((j * k : Nat) : Int) ∧ (j * k < L.length + k) ∧ (∀ j', j' < j → j' * k < L.length) ∧ Aside0 (J (upto (pieceOf hc hLL hC k hk) j) wr) ∧ Aside0 (KC Bs Bn W wr)) (fun i _ => L.length + k - (intOf i).toNat)
  case atStart => exact ⟨0, by simp, by omega, fun j' h => by omega, ⟨h0⟩, ⟨rfl, rfl⟩⟩
  case round =>
    obtain ⟨j, rfl, hjb, hjl, HJ, HK⟩ := hrel
    have hn0 : wr.drew.cell? ⟨Bn, 0, none⟩ = some (.int .i64 (k : Int)) := by show wr.cell? _ = _; rw [← hBn]; unfold World.cell?; rw [HK.out.2]
    have hs0 : wr.drew.cell? ⟨Bs, 0, none⟩ = some (.slice A L.length c) := by show wr.cell? _ = _; rw [← hBs]; unfold World.cell?; rw [HK.out.1]
    have hs1 : wr.cell? ⟨Bs, 0, none⟩ = some (.slice A L.length c) := hs0
    obtain ⟨i, hi⟩ : ∃ i, i = j * k := ⟨_, rfl⟩
    have HI := Aside0.mk hi
    rw [← hi] at hjb ⊢
    clear hi
    by_cases hlt : i < L.length
    · have hPJ : pieceOf hc hLL hC k hk j = ⟨(A.map (·.add (j * k * 1)), (L.drop (j * k)).take k), piece_C hc hLL hC j hk (by rw [← HI.out]; exact hlt)⟩ := dif_pos (by rw [← HI.out]; exact hlt)
      obtain ⟨e, he⟩ : ∃ e, e = ((L.drop i).take k).length := ⟨_, rfl⟩
      have he2 : e = if k ≤ L.length - i then k else L.length - i := by rw [he]; simp only [List.length_take, List.length_drop]; split <;> omega
      have he1 : 1 ≤ e := by rw [he2]; split <;> omega
      have hel : i + e ≤ L.length := by rw [he2]; split <;> omega
      obtain ⟨fn, tmps, assign, body, hy, hR⟩ := hY _ (pieceOf hc hLL hC k hk j) wr.drew (hJ _ _ _ none HJ.out ⟨rfl, rfl, rfl, Nat.le_refl _, fun _ _ _ => rfl⟩ (fun r e => by cases e)) (by rw [upto_length]; exact Nat.lt_of_lt_of_le ((ceil_lt hk).2 (by rw [← HI.out]; exact hlt)) hN)
      have hpe : encP (pieceOf hc hLL hC k hk j) = #[.slice (A.map (·.add (i * 1))) e e] := by rw [hPJ]; unfold encP; simp only [← HI.out, ← he]
      rw [hpe] at hy
      simp only [Nat.mul_one] at hy
      have HR := Aside0.mk hR
      have tl : decide ((i : Int) < (L.length : Int)) = true := decide_eq_true (by omega)
      have hcut1 := cut_from (P := Try.prog) 36 5 .i64 Try.underlying36 hi0 1 hsz0 A L.length c (i : Int) (by omega) (by omega)
      rw [Int.toNat_natCast, if_neg (show ¬ c = i by omega)] at hcut1
      have hcut2 : ∀ W : World, (Instr.slice 36 (.slice A L.length c) (some (.int .i64 (i : Int))) (some (.int .i64 ((i : Int) + (e : Int)))) (some (.int .i64 ((i : Int) + (e : Int))))).run Try.prog W = .ok (.slice (A.map (·.add (i * 1))) e e) W := fun W => by
        have hel' : Try.prog.elem 36 = 5 := by simp [Program.elem, Try.underlying36]
        rw [run_slice_lhm W 36 A L.length c (by rw [hel']; exact Try.underlying36) .i64 .i64 .i64 (i : Int) ((i : Int) + (e : Int)) ((i : Int) + (e : Int)) (by omega) (by omega) (by omega) (by omega), hel']
        have e1 : ((i : Int) + (e : Int)).toNat = i + e := by omega
        simp [sizeOf, typeInfo, hi0, hsz0, sliced, Result.andThen, e1]
        omega
      have HMIN : Aside0 ((if L.length - i < k then ((L.length - i : Nat) : Int) else (k : Int)) = (e : Int)) := ⟨by rw [he2]; split <;> split <;> omega⟩
      have hwe : ∀ (x y : Int), x = (i : Int) → y = (e : Int) → wrap64 (x + y) = (i : Int) + (e : Int) := fun x y hx hy => by subst hx hy; clear he2; unfold wrap64; omega
      have hwk : ∀ (x y : Int), x = (i : Int) → y = (k : Int) → wrap64 (x + y) = (i : Int) + (k : Int) := fun x y hx hy => by subst hx hy; clear hwe he2; unfold wrap64; omega
      have HWK := Aside0.mk hwk
      have HN0 := Aside0.mk hn0
      clear hwk hR he he2 hPJ hpe
      gi_wp2
      refine wpIn_wide.2 ?_
      refine start_ (n := 7) (S := fun w' => w'.cell? ⟨Bn, 0, none⟩ = some (.int .i64 (k : Int)) ∧ w'.cell? ⟨Bs, 0, none⟩ = some (.slice A L.length c)) (ds := []) #[false, false, false, false, false, false, false] (by kernel_rfl) rfl rfl ⟨hn0, hs0⟩ (fun hHeld => ?_)
      refine pure_ (i := 2) (N := some 15) (v := ?_) (a' := ?_) #[false, false, true, false, false, false, false] rfl rfl (by kernel_rfl) (fun _ _ _ h => h) (Or.inl ⟨by rfl, ?_⟩) ?_ ?_
      rotate_left
      · intro w'
        go_simp
        with_reducible rfl
      rotate_left
      · simp only [Act.put, List.setIfInBounds_toArray, List.set_cons_zero, List.set_cons_succ, i64_w, i32_w]
        rfl
      refine take_ (i := 0) (N := some 13) (v := ?_) (a' := ?_) #[true, false, true, false, false, false, false] rfl rfl (by kernel_rfl) (fun _ _ _ h => h) (Or.inl ⟨by rfl, ?_⟩) hHeld ?_ ?_
      rotate_left
      · rintro w' ⟨s0, s1⟩
        go_simp
        with_reducible rfl
      rotate_left
      · simp only [Act.put, List.setIfInBounds_toArray, List.set_cons_zero, List.set_cons_succ, i64_w, i32_w]
        rfl
      refine take_ (i := 1) (N := some 14) (v := ?_) (a' := ?_) #[true, true, true, false, false, false, false] rfl rfl (by kernel_rfl) (fun _ _ _ h => h) (Or.inl ⟨by rfl, ?_⟩) hHeld ?_ ?_
      rotate_left
      · rintro w' ⟨s0, s1⟩
        go_simp
        with_reducible rfl
      rotate_left
      · simp only [Act.put, List.setIfInBounds_toArray, List.set_cons_zero, List.set_cons_succ, i64_w, i32_w]
        rfl
      refine pure_ (i := 3) (N := some 16) (v := ?_) (a' := ?_) #[true, true, true, true, false, false, false] rfl rfl (by kernel_rfl) (fun _ _ _ h => h) (Or.inl ⟨by rfl, ?_⟩) ?_ ?_
      rotate_left
      · intro w'
        go_simp
        with_reducible rfl
      rotate_left
      · simp only [Act.put, List.setIfInBounds_toArray, List.set_cons_zero, List.set_cons_succ, i64_w, i32_w]
        rfl
      refine pure_ (i := 4) (N := some 17) (v := ?_) (a' := ?_) #[true, true, true, true, true, false, false] rfl rfl (by kernel_rfl) (fun _ _ _ h => h) (Or.inl ⟨by rfl, ?_⟩) ?_ ?_
      rotate_left
      · intro w'
        go_simp
        with_reducible rfl
      rotate_left
      · simp only [Act.put, List.setIfInBounds_toArray, List.set_cons_zero, List.set_cons_succ, i64_w, i32_w]
        rfl
      refine pure_ (i := 5) (N := some 18) (v := ?_) (a' := ?_) #[true, true, true, true, true, true, false] rfl rfl (by kernel_rfl) (fun _ _ _ h => h) (Or.inl ⟨by rfl, ?_⟩) ?_ ?_
      rotate_left
      · intro w'
        go_simp
        with_reducible rfl
      rotate_left
      · simp only [Act.put, List.setIfInBounds_toArray, List.set_cons_zero, List.set_cons_succ, i64_w, i32_w]
        rfl
      refine pure_ (i := 6) (N := some 5) (v := ?_) (a' := ?_) #[true, true, true, true, true, true, true] rfl rfl (by kernel_rfl) (fun _ _ _ h => h) (Or.inl ⟨by rfl, ?_⟩) ?_ ?_
      rotate_left
      · intro w'
        go_simp
        with_reducible rfl
      rotate_left
      · simp only [Act.put, List.setIfInBounds_toArray, List.set_cons_zero, List.set_cons_succ, i64_w, i32_w]
        rfl
      refine done_ (by kernel_rfl) ?_
      have hmin3 : (if L.length - i < k then ((L.length - i : Nat) : Int) else (k : Int)) = (e : Int) := HMIN.out
      rw [hmin3]
      gi_wp2
      refine HR.out.mono ?_
      rintro e3 W3 (⟨rfl, hJ3, hk3⟩ | ⟨rfl, hJx3⟩)
      · have hn3 : W3.cell? ⟨Bn, 0, none⟩ = some (.int .i64 (k : Int)) := by rw [← HN0.out]; unfold World.cell?; rw [hk3.2]
        have hwk := HWK.out
        clear hn0 hs0 hs1 hwe hcut1 hcut2
        gi_wp2
        go_roundw
        case rel => exact ⟨j + 1, by rw [Nat.succ_mul, ← HI.out]; simp, by rw [Nat.succ_mul, ← HI.out]; omega, fun j' hj' => by
          by_cases h : j' < j
          · exact hjl j' h
          · obtain rfl : j' = j := by omega
            rw [← HI.out]; exact hlt, ⟨by rw [upto_succ]; exact hJ3⟩, ⟨HK.out.t ⟨hk3.1, hk3.2⟩⟩⟩
        case measure => simp [intOf]; omega
      · gi_wp2
        refine bodyPost_ret (results_none rfl _ _ _) rfl ?_
        exact ⟨⟨_, rfl⟩, .inr ⟨_, trivial, hJx3⟩⟩
    · have tl : decide ((i : Int) < (L.length : Int)) = false := decide_eq_false (by omega)
      have hje : j = (L.length + k - 1) / k := by
        have h1 : ¬ j < (L.length + k - 1) / k := fun h => hlt (by rw [HI.out]; exact (ceil_lt hk).1 h)
        have h2 : ∀ j', j' < j → j' < (L.length + k - 1) / k := fun j' h => (ceil_lt hk).2 (hjl j' h)
        rcases Nat.lt_or_ge ((L.length + k - 1) / k) j with h | h
        · have := h2 _ h; omega
        · omega
      have HJE := Aside0.mk hje
      clear hje
      gi_wp2
      go_end0
      exact ⟨⟨_, rfl⟩, .inl ⟨_, upto_chunks hc hLL hC k hk j HJE.out, HJ.out⟩⟩
/-- Chunk hands back the closure over two boxes. -/
theorem chunk_in (n k c : Nat) (A : Option Addr) (m : Nat) (w : World) (hk : 1 ≤ k) : CallsIn Fence.wide n Try.prog 32 #[.slice A m c, .int .i64 (k : Int)] w fun e w' => e = .returned (.func (.func 39) #[] #[.pointer (some ⟨w.heap.size, 0, none⟩), .pointer (some ⟨w.heap.size + 1, 0, none⟩)]) ∧ w' = (w.alloc (.cells #[.slice A m c] 36)).alloc (.cells #[.int .i64 (k : Int)] 3) := by
  have t1 : decide ((k : Int) < 1) = false := decide_eq_false (by omega)
  refine callsIn_of_wp Try.func32 rfl trivial ?_ rfl
  simp only [Try.ntmps32, List.size_toArray, List.length_cons, List.length_nil, Nat.reduceAdd, Nat.reduceSub, Array.replicate_succ, Array.replicate_zero, List.push_toArray, List.append_toArray, List.nil_append, List.cons_append]
  gi_wp2
  go_ret
  exact ⟨by simp, rfl⟩
/-- What Chunk hands back yields the pieces. -/
theorem chunk_stops {w0 : World} (n : Nat) (hn : 1 ≤ n) (Bs Bn k c : Nat) (A : Option Addr) (L : List Int) (hk : 1 ≤ k) (hk2 : k ≤ 65536) (hLL : L.length ≤ 100000000) (hc : L.length ≤ c) (hC : Kd.C (Kd.int .u8) w0 A L.length L) (N : Nat) (hN : (L.length + k - 1) / k ≤ N) (w : World) (h1 : Bs < w.heap.size) (h2 : Bn < w.heap.size)
    (hBs : w.cell? ⟨Bs, 0, none⟩ = some (.slice A L.length c)) (hBn : w.cell? ⟨Bn, 0, none⟩ = some (.int .i64 (k : Int))) :
    SeqStopsK Fence.wide n Try.prog 39 #[.pointer (some ⟨Bs, 0, none⟩), .pointer (some ⟨Bn, 0, none⟩)] (encP (w0 := w0)) (KC Bs Bn) (fun xs => xs.map (fun x => x.1.2) = chunks k L) (fun _ => True) N w := fun l J Jx W hW hJ _ hY h0 =>
  chunk1_in n hn l Bs Bn k c A L hk hk2 hLL hc hC N _ hN J Jx hJ hY W ((hW.cell (p := ⟨Bs, 0, none⟩) h1).trans hBs) ((hW.cell (p := ⟨Bn, 0, none⟩) h2).trans hBn) h0
end Go.Proofs.Ytpbplflocdhahaa.HW
