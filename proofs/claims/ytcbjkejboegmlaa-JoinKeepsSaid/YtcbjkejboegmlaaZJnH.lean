import Derived.Test.YtcbjkejboegmlaaZJnB
/- group.Hash. -/
set_option linter.unusedVariables false
set_option linter.unusedSimpArgs false
namespace Go.Proofs.Ytcbjkejboegmlaa.HW
open Go.RowKit Go.Proofs.Ytcbjkejboegmlaa.P Go.Proofs.Ytcbjkejboegmlaa.HP Go.Proofs.YtcbjkejboegmlaaW.PrintWords Go.Proofs.YtcbjkejboegmlaaW.PrintLast Go.Proofs.YtcbjkejboegmlaaW.PrintMore
attribute [local go_sem] max2_int min2_int max_two min_two max_three min_three max_four min_four
def putH (h b : Int) : Int := IntKind.u64.wrap (Go.bits BinOp.xor IntKind.u64 h (IntKind.u64.wrap b) * 1099511628211)
def byteL (s : ByteArray) : List Int := s.data.toList.map (fun b => ((b.toNat : Nat) : Int))
def hashV (h : Int) (x : S43) : Int := if x.f0 = true then putH h 255 else putH ((byteL x.f1).foldl putH (putH h 254)) 253
def basis : Int := 14695981039346656037
def hashL (l : List S43) : Int := l.foldl hashV basis
theorem wrap_range (z : Int) : 0 ≤ IntKind.u64.wrap z ∧ IntKind.u64.wrap z < 18446744073709551616 := by
  have e : IntKind.u64.wrap z = z % 18446744073709551616 := by simp [IntKind.wrap, IntKind.bits, IntKind.signed]
  rw [e]
  omega
theorem putH_range (h b : Int) : 0 ≤ putH h b ∧ putH h b < 18446744073709551616 := wrap_range _
theorem hashV_range (h : Int) (x : S43) : 0 ≤ hashV h x ∧ hashV h x < 18446744073709551616 := by
  unfold hashV
  split <;> exact putH_range _ _
theorem hashF_range (l : List S43) : ∀ (h : Int), (0 ≤ h ∧ h < 18446744073709551616) → 0 ≤ l.foldl hashV h ∧ l.foldl hashV h < 18446744073709551616 := by
  induction l with
  | nil => exact fun h h0 => h0
  | cons x t ih => exact fun h h0 => ih _ (hashV_range h x)
theorem hashL_range (l : List S43) : 0 ≤ hashL l ∧ hashL l < 18446744073709551616 := hashF_range l basis (by unfold basis; omega)
/-- A box of one number, written: nothing else has turned. -/
def Box1 (g : Nat) (w w' : World) (h : Int) : Prop := w'.heap[g]? = some (.cells #[.int .u64 h] 68 (0, 0)) ∧ (∀ k, k ≠ g → w'.heap[k]? = w.heap[k]?) ∧ Below g w w'
set_option maxHeartbeats 8000000 in
set_option maxRecDepth 100000 in
theorem put_fn (g : Nat) (h b : Int) (w : World) (hg : w.heap[g]? = some (.cells #[.int .u64 h] 68 (0, 0))) : Calls Try.prog 41 #[.int .u8 b, .pointer (some ⟨g, 0, none⟩)] w fun e w' => e = .returned (.tuple #[]) ∧ Box1 g w w' (putH h b) := by
  have hc0 := blk_cell hg 0
  simp only [List.getElem?_toArray, List.getElem?_cons_zero] at hc0
  have hf0 : w.frozen? ⟨g, 0, none⟩ = false := blk_frozen hg _
  have HB := Aside0.mk (Below.refl g w)
  have HG := Aside0.mk hg
  clear hg
  go_enter Try.func41, Try.ntmps41
  go_wp2
  refine bodyPost_end (results_none rfl _ _ _) rfl ⟨rfl, ?_, fun k hk => Below.heap_setCell w ⟨g, 0, none⟩ _ k hk, HB.out.setCell (Nat.le_refl g) _⟩
  have h9 := HG.out
  unfold World.setCell
  simp [h9, Array.getElem?_modify, putH]
theorem cell_blk {w w' : World} {g : Nat} (h : w'.heap[g]? = w.heap[g]?) (j : Nat) : w'.cell? ⟨g, j, none⟩ = w.cell? ⟨g, j, none⟩ := by unfold World.cell?; rw [h]
theorem BW (w : World) (e : TypeId) (s : ByteArray) : Below w.heap.size w (Go.Lib.bytesWorld w e s) := by
  exact ⟨rfl, rfl, rfl, by rw [Go.Lib.bytesWorld_size]; omega, fun k hk => Go.Lib.bytesWorld_at_old w e s k hk⟩
theorem mem_rd43 (l : List S43) (i : Nat) (hi : i < l.length) : rd_T43 l (i : Int) ∈ l := by
  have e : rd_T43 l (i : Int) = l[i] := by simp [rd_T43, List.getD_eq_getElem?_getD, hi]
  rw [e]
  exact List.getElem_mem hi
theorem bytes_next (s : ByteArray) (h : Int) (j : Nat) (hj : j < s.size) : ((byteL s).take (j + 1)).foldl putH h = putH (((byteL s).take j).foldl putH h) (s.data.toList.getD j 0).toNat := by
  have hl : j < (byteL s).length := by simp [byteL]; exact hj
  have hl2 : j < s.data.toList.length := by simp; exact hj
  rw [List.take_succ_eq_append_getElem hl, List.foldl_append]
  have hj' : j < s.data.size := hj
  have e : s.data[j]? = some s.data[j] := Array.getElem?_eq_getElem hj'
  simp [byteL, List.getD_eq_getElem?_getD, hl2]
  rw [e]
  rfl
theorem hash_next (l : List S43) (i : Nat) (hi : i < l.length) : (l.take (i + 1)).foldl hashV basis = hashV ((l.take i).foldl hashV basis) (rd_T43 l (i : Int)) := by
  rw [List.take_succ_eq_append_getElem hi, List.foldl_append]
  have e : rd_T43 l (i : Int) = l[i] := by simp [rd_T43, List.getD_eq_getElem?_getD, hi]
  rw [e]
  rfl
set_option maxHeartbeats 8000000 in
set_option maxRecDepth 100000 in
theorem Hash_ (A0 : Option Addr) (c0 : Nat) (l0 : List S43) (w : World) (hr0 : Kd.C k43 w A0 l0.length l0) (hsz : ∀ x ∈ l0, x.f1.size ≤ 1000000) : Calls Try.prog 39 #[.slice A0 l0.length c0] w fun e w' => e = .returned (.int .u64 (hashL l0)) ∧ Below w.heap.size w w' := by
  have HR0 := Aside0.mk hr0
  have hl0 := hr0.2.1
  have hu43 := Try.underlying43
  have HZ := Aside0.mk hsz
  clear hr0 hsz
  go_enter Try.func39, Try.ntmps39
  go_wp2_with fail
  go_loopg [12] (l0.length : Nat) (fun kq v12 w' => ∃ (i : Nat) (h : Int), v12 = .int .i64 (i : Int) ∧ Aside0 (i + kq = l0.length) ∧ Aside0 (h = (l0.take i).foldl hashV basis) ∧ Aside0 (w'.heap[w.heap.size]? = some (.cells #[.int .u64 h] 68 (0, 0))) ∧ Aside0 (Below w.heap.size w w'))
  case atStart => exact ⟨0, _, rfl, ⟨by omega⟩, ⟨by rw [List.take_zero, List.foldl_nil]⟩, ⟨by unfold basis; exact blk_new w _⟩, ⟨by repeat (first | exact Below.refl _ _ | apply below_alloc | apply pw_below_drewN | apply below_drew1)⟩⟩
  case round =>
    obtain ⟨i, h, rfl, HI, HH, HG, HB⟩ := hrel
    cases gk with
    | zero =>
      have c_ : ¬ (i : Int) < (l0.length : Int) := by have := HI.out; omega
      have cb : decide ((i : Int) < (l0.length : Int)) = false := decide_eq_false c_
      have cb2 : decide (i < l0.length) = false := decide_eq_false (by omega)
      have HF : Aside0 (h = hashL l0) := ⟨by rw [HH.out, List.take_of_length_le (by omega)]; unfold hashL; rfl⟩
      have hc0 := blk_cell HG.out 0
      simp only [List.getElem?_toArray, List.getElem?_cons_zero] at hc0
      clear c_
      go_wp2_with fail
      go_ret
      exact ⟨by rw [HF.out]; rfl, by repeat (first | exact HB.out | apply below_alloc | apply pw_below_drewN | apply below_drew1)⟩
    | succ k1 =>
      have c_ : (i : Int) < (l0.length : Int) := by have := HI.out; omega
      have cn : i < l0.length := by omega
      have cb : decide ((i : Int) < (l0.length : Int)) = true := decide_eq_true c_
      have cb2 : decide (i < l0.length) = true := decide_eq_true cn
      have p0 : ((0 : Int) ≤ (i : Int)) = True := eq_true (by omega)
      have q0 : ((i : Int) < (l0.length : Int)) = True := eq_true c_
      have q0n : (i < l0.length) = True := eq_true cn
      obtain ⟨ad2, e2, hx2, hx3⟩ := at_T43 (Kd.C_below HR0.out HB.out) (i : Int) (by omega) c_
      cases e2
      have HN := Aside0.mk (hash_next l0 i cn)
      simp only [Int.toNat_natCast] at hx2 hx3
      have HSZ := Aside0.mk (HZ.out (rd_T43 l0 (i : Int)) (mem_rd43 l0 i cn))
      generalize rd_T43 l0 (i : Int) = x at *
      obtain ⟨b, s⟩ := x
      have HI1 : Aside0 (wrap64 ((i : Int) + 1) = ((i + 1 : Nat) : Int)) := ⟨by unfold wrap64; have := hl0; omega⟩
      have HLT : Aside0 (w.heap.size < wr.heap.size) := ⟨blk_lt HG.out⟩
      have HGa : Aside0 (∀ o, (wr.alloc o).heap[w.heap.size]? = some (.cells #[.int .u64 h] 68 (0, 0))) := ⟨fun o => by rw [(below_alloc (Below.refl wr.heap.size wr) o).block _ HLT.out]; exact HG.out⟩
      have HBa : Aside0 (∀ o, Below w.heap.size w (wr.alloc o)) := ⟨fun o => by have h9 := HB.out; exact below_alloc h9 o⟩
      clear c_
      cases b with
      | true =>
        go_wp2_with fail
        refine (put_fn w.heap.size h 255 _ (HGa.out _)).mono ?_
        rintro e w1 ⟨rfl, hg1, hk1, hb1⟩
        have HG1 := Aside0.mk hg1
        have HB1 := Aside0.mk ((HBa.out _).trans hb1)
        clear hg1 hk1 hb1 HBa HGa
        go_wp2_with fail
        go_roundg k1
        case measure => omega
        case rel => exact ⟨i + 1, _, by first | rfl | (rw [HI1.out]), ⟨by have := HI.out; omega⟩, ⟨by rw [HN.out, ← HH.out]; unfold hashV; rw [if_pos rfl]⟩, HG1, HB1⟩
      | false =>
        go_wp2_with fail
        refine (put_fn w.heap.size h 254 _ (HGa.out _)).mono ?_
        rintro e w1 ⟨rfl, hg1, hk1, hb1⟩
        have hblk := (hk1 wr.heap.size (by have := HLT.out; omega)).trans (blk_new wr _)
        have hy0 := blk_cell hblk 1
        simp only [List.getElem?_toArray, List.getElem?_cons_zero, List.getElem?_cons_succ] at hy0
        have HG1 := Aside0.mk hg1
        have HB1 := Aside0.mk ((HBa.out _).trans hb1)
        have hconv := fun (W : World) => Go.Lib.run_convert_string_bytes (P := Try.prog) W 9 71 5 s Try.underlying9 Try.underlying71 Try.underlying5
        have HLT1 : Aside0 (w.heap.size < w1.heap.size) := ⟨blk_lt hg1⟩
        have HGB : Aside0 ((Go.Lib.bytesWorld w1 5 s).heap[w.heap.size]? = some (.cells #[.int .u64 (putH h 254)] 68 (0, 0))) := ⟨by rw [Go.Lib.bytesWorld_at_old _ _ _ _ HLT1.out]; exact hg1⟩
        have HCB : Aside0 (∀ j, j < s.size → (Go.Lib.bytesWorld w1 5 s).cell? ⟨w1.heap.size, j, none⟩ = some (.int .u8 (s.data.toList.getD j 0).toNat)) := ⟨fun j hj => Go.Lib.bytesWorld_cell w1 5 s j hj⟩
        clear hg1 hk1 hb1 HBa HGa hblk
        go_wp2_with fail
        have HBW : Aside0 (Below w.heap.size w (Go.Lib.bytesWorld w1 5 s)) := ⟨HB1.out.trans (Below.mono (BW w1 5 s) (by have := HLT1.out; omega))⟩
        obtain ⟨wb, hwb⟩ : ∃ W, W = Go.Lib.bytesWorld w1 5 s := ⟨_, rfl⟩
        have HSB : Aside0 (w1.heap.size < wb.heap.size) := ⟨by rw [hwb, Go.Lib.bytesWorld_size]; omega⟩
        rw [← hwb] at HGB HCB HBW ⊢
        clear hwb hconv hy0 HG1 HB1
        go_loopg [26] (s.size : Nat) (fun kq v26 w' => ∃ (j : Nat) (h2 : Int), v26 = .int .i64 (j : Int) ∧ Aside0 (j + kq = s.size) ∧ Aside0 (h2 = ((byteL s).take j).foldl putH (putH h 254)) ∧ Aside0 (w'.heap[w.heap.size]? = some (.cells #[.int .u64 h2] 68 (0, 0))) ∧ Aside0 (∀ k, k ≠ w.heap.size → k < wb.heap.size → w'.heap[k]? = wb.heap[k]?) ∧ Aside0 (Below w.heap.size w w'))
        case atStart => exact ⟨0, _, rfl, ⟨by omega⟩, ⟨by rw [List.take_zero, List.foldl_nil]⟩, HGB, ⟨fun k _ _ => rfl⟩, HBW⟩
        case round =>
          clear HGB HBW
          obtain ⟨j, h2, rfl, HJ, HH2, HG2, HK2, HB2⟩ := hrel
          cases gk with
          | zero =>
            have c_ : ¬ (j : Int) < (s.size : Int) := by have := HJ.out; omega
            have cc : decide ((j : Int) < (s.size : Int)) = false := decide_eq_false c_
            have cc2 : decide (j < s.size) = false := decide_eq_false (by omega)
            have HF : Aside0 (h2 = (byteL s).foldl putH (putH h 254)) := ⟨by rw [HH2.out, List.take_of_length_le (by simp [byteL]; have : s.data.size = s.size := rfl; omega)]⟩
            clear c_
            go_wp2_with fail
            refine (put_fn w.heap.size h2 253 _ HG2.out).mono ?_
            rintro e w3 ⟨rfl, hg3, hk3, hb3⟩
            have HG3 := Aside0.mk hg3
            have HB3 := Aside0.mk (HB2.out.trans hb3)
            clear hg3 hk3 hb3 HG2 HB2
            go_wp2_with fail
            go_roundg k1
            case measure => omega
            case rel => exact ⟨i + 1, _, by first | rfl | (rw [HI1.out]), ⟨by have := HI.out; omega⟩, ⟨by rw [HN.out, ← HH.out, HF.out]; unfold hashV; rw [if_neg (by simp)]⟩, HG3, HB3⟩
          | succ k2 =>
            have c_ : (j : Int) < (s.size : Int) := by have := HJ.out; omega
            have cn2 : j < s.size := by omega
            have cc : decide ((j : Int) < (s.size : Int)) = true := decide_eq_true c_
            have cc2 : decide (j < s.size) = true := decide_eq_true cn2
            have p1 : ((0 : Int) ≤ (j : Int)) = True := eq_true (by omega)
            have q1 : ((j : Int) < (s.size : Int)) = True := eq_true c_
            have q1n : (j < s.size) = True := eq_true cn2
            have hz := HCB.out j cn2
            have hz : wr.cell? ⟨w1.heap.size, j, none⟩ = some (.int .u8 (s.data.toList.getD j 0).toNat) := by rw [← hz]; exact cell_blk (HK2.out _ (by have := HLT1.out; omega) HSB.out) j
            have HNB := Aside0.mk (bytes_next s (putH h 254) j cn2)
            have HJ1 : Aside0 (wrap64 ((j : Int) + 1) = ((j + 1 : Nat) : Int)) := ⟨by unfold wrap64; have := HSZ.out; omega⟩
            generalize s.data.toList.getD j 0 = bj at *
            clear c_
            go_wp2_with fail
            refine (put_fn w.heap.size h2 _ _ HG2.out).mono ?_
            rintro e w3 ⟨rfl, hg3, hk3, hb3⟩
            have HG3 := Aside0.mk hg3
            have HB3 := Aside0.mk (HB2.out.trans hb3)
            have HK3 := Aside0.mk (fun k (h1 : k ≠ w.heap.size) (h2 : k < wb.heap.size) => (hk3 k h1).trans (HK2.out k h1 h2))
            clear hg3 hk3 hb3 HG2 HB2 HK2
            go_wp2_with fail
            go_roundg k2
            case measure => omega
            case rel => exact ⟨j + 1, _, by first | rfl | (rw [HJ1.out]), ⟨by have := HJ.out; omega⟩, ⟨by rw [HNB.out, ← HH2.out]⟩, HG3, HK3, HB3⟩
end Go.Proofs.Ytcbjkejboegmlaa.HW
