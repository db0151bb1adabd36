import Derived.Test.YtcbjkejboegmlaaZA
import Derived.Test.YtcbjkejboegmlaaZPx2
/- Slices of values and numbers: Clone, Grow, Concat, ContainsFunc. -/
set_option linter.unusedVariables false
set_option linter.unusedSimpArgs false
namespace Go.Proofs.Ytcbjkejboegmlaa.HW
open Go.RowKit Go.Proofs.Ytcbjkejboegmlaa.P Go.Proofs.Ytcbjkejboegmlaa.HP Go.Proofs.YtcbjkejboegmlaaW.PrintWords Go.Proofs.YtcbjkejboegmlaaW.PrintLast Go.Proofs.YtcbjkejboegmlaaW.PrintMore
attribute [local go_sem] max2_int min2_int max_two min_two max_three min_three max_four min_four
theorem blk_lt {W : World} {g : Nat} {o : Obj} (h : W.heap[g]? = some o) : g < W.heap.size := (Array.getElem?_eq_some_iff.1 h).1
theorem blk_new (W : World) (o : Obj) : (W.alloc o).heap[W.heap.size]? = some o := by simpa using heap_alloc_new W o
theorem blk_cell {W : World} {g : Nat} {cs : Array Value} {t : TypeId} (h : W.heap[g]? = some (.cells cs t (0, 0))) (j : Nat) : W.cell? ⟨g, j, none⟩ = cs[j]? := by unfold World.cell?; simp [h]
theorem below_size {B : Nat} {w w' : World} (h : Below B w w') : w.heap.size ≤ w'.heap.size := h.size
/-- What a value's cells are. -/
def RV (x : S43) (cs : List Value) : Prop := cs = [.bool x.f0, .string x.f1]
theorem C_RV {w : World} {A : Option Addr} {n : Nat} {xs : List S43} (h : Kd.C k43 w A n xs) : ReadsRow RV k43.sz w A n xs := ReadsRow.imp_ h (Below.refl _ _) (fun _ _ hp => k43_open hp)
theorem RV_M (W : World) (base : Nat) (ok : Nat → Prop) (x : S43) (cs : List Value) (h : RV x cs) : k43.M W base ok x cs := by
  subst h
  exact k43_mkM W base ok x
theorem infoI : (Try.prog.info? 3).map (fun i => (i.zero, i.size, i.bytes)) = some (some (.int .i64 0), 1, 8) := by kernel_rfl
theorem infoV : (Try.prog.info? 43).map (fun i => (i.zero, i.size, i.bytes)) = some (some (.agg #[.bool false, .string ⟨#[]⟩]), 2, 24) := by kernel_rfl
set_option maxHeartbeats 8000000 in
set_option maxRecDepth 100000 in
theorem CloneV (A0 : Option Addr) (c0 : Nat) (l0 : List (S43)) (w : World) (hr0 : Kd.C k43 w A0 l0.length l0) (hc0 : l0.length ≤ c0) (hl : l0.length ≤ 1000000) :
    Calls Try.prog 26 #[.slice A0 l0.length c0] w fun e w' => ∃ v0_ : Value, e = .returned (v0_) ∧ Kd.R k43 43 w' w.heap.size (fun _ => True) v0_ l0 ∧ Below w.heap.size w w' := by
  have HL := Aside0.mk hl
  have HB := Aside0.mk (Below.refl w.heap.size w)
  cases A0 with
  | none =>
    obtain rfl : l0 = [] := by
      cases l0 with
      | nil => rfl
      | cons x t =>
        obtain ⟨ad, he, _⟩ := hr0.2.2 (by simp)
        cases he
    clear hr0 hc0 hl
    have heq := fun (W : World) => Go.Lib.run_eql_slice_nil (P := Try.prog) W 38 43 (none : Option Addr) ([] : List (S43)).length c0 0 0 Try.underlying38
    simp only [Option.isNone_none, List.length_nil] at heq
    go_enter Try.func26, Try.ntmps26
    go_wp2
    go_ret
    exact ⟨_, rfl, Kd.R_nil _ _ _ _ _, HB.out⟩
  | some ad =>
    have HR0 := Aside0.mk hr0
    clear hr0 hl
    have heq := fun (W : World) => Go.Lib.run_eql_slice_nil (P := Try.prog) W 38 43 (some ad) l0.length c0 0 0 Try.underlying38
    simp only [Option.isNone_some] at heq
    go_enter Try.func26, Try.ntmps26
    go_wp2_with (first | ((with_reducible refine gate_dst (N := 5) rfl ?_); refine Kd.R_lit k43 _ 43 ?hg (N := 5) ?hd (xs := ([] : List (S43))) (inner := []) (ok := fun _ => True) (okp := fun _ => True) ?hr ?hp (fun _ hk => hk) trivial (Below.refl _ _) (Nat.le_refl _) (by simp) ?_; (case hd => rfl); (case hg => rfl); (case hr => first | (go_simp; done) | (go_simp; rfl)); (case hp => exact Reps.none _ _); intro v397 w8 ho9 hb hg_ hnew_; clear hg_ hnew_; have HO := Aside0.mk ho9; have n1_ := Aside0.mk hb; clear HB; have HB := n1_; clear n1_ hb ho9) | ((with_reducible refine gate_builtin (b := .append) (xs := #[.tmp 5, .tmp 6]) rfl ?_); at_builtin; refine Kd.R_append_rows k43 (w0 := w) w.heap.size rfl (.tmp 5) (.tmp 6) 38 43 (.agg #[.bool false, .string ⟨#[]⟩]) 24 rfl Try.underlying38 infoV rfl (by decide) (by omega) v397 [] l0 _ _ _ (fun _ => True) (fun _ => False) rfl rfl ?aO ?aR (RV_M _ _ _) (fun _ h => h.elim) ?aF ?aB ?aS ?aL ?_; (case aR => exact C_RV (Kd.C_below HR0.out HB.out)); (case aB => exact HB.out); (case aF => exact (fun _ _ => trivial)); (case aO => exact HO.out); (case aS => exact (below_size HB.out)); (case aL => have := HL.out; simp; omega); intro v403 w11 ho hb hg hat; rw [List.nil_append] at ho; have n1_ := Aside0.mk hb; have n2_ := Aside0.mk ho; clear HB HO; have HB := n1_; have HO := n2_; clear n1_ n2_; clear ho hb hg hat))
    go_ret
    exact ⟨_, rfl, HO.out, HB.out⟩
set_option maxHeartbeats 8000000 in
set_option maxRecDepth 100000 in
theorem CloneI (A0 : Option Addr) (c0 : Nat) (l0 : List Int) (w : World) (hr0 : Kd.C (Kd.int .i64) w A0 l0.length l0) (hc0 : l0.length ≤ c0) (hl : l0.length ≤ 1000000) :
    Calls Try.prog 25 #[.slice A0 l0.length c0] w fun e w' => ∃ v0_ : Value, e = .returned (v0_) ∧ Kd.R (Kd.int .i64) 3 w' w.heap.size (fun _ => True) v0_ l0 ∧ Below w.heap.size w w' := by
  have HL := Aside0.mk hl
  have HB := Aside0.mk (Below.refl w.heap.size w)
  cases A0 with
  | none =>
    obtain rfl : l0 = [] := by
      cases l0 with
      | nil => rfl
      | cons x t =>
        obtain ⟨ad, he, _⟩ := hr0.2.2 (by simp)
        cases he
    clear hr0 hc0 hl
    have heq := fun (W : World) => Go.Lib.run_eql_slice_nil (P := Try.prog) W 23 3 (none : Option Addr) ([] : List Int).length c0 0 0 Try.underlying23
    simp only [Option.isNone_none, List.length_nil] at heq
    go_enter Try.func25, Try.ntmps25
    go_wp2
    go_ret
    exact ⟨_, rfl, Kd.R_nil _ _ _ _ _, HB.out⟩
  | some ad =>
    have HR0 := Aside0.mk hr0
    clear hr0 hl
    have heq := fun (W : World) => Go.Lib.run_eql_slice_nil (P := Try.prog) W 23 3 (some ad) l0.length c0 0 0 Try.underlying23
    simp only [Option.isNone_some] at heq
    go_enter Try.func25, Try.ntmps25
    go_wp2_with (first | ((with_reducible refine gate_dst (N := 5) rfl ?_); refine Kd.R_lit (Kd.int .i64) _ 3 ?hg (N := 5) ?hd (xs := ([] : List Int)) (inner := []) (ok := fun _ => True) (okp := fun _ => True) ?hr ?hp (fun _ hk => hk) trivial (Below.refl _ _) (Nat.le_refl _) (by simp) ?_; (case hd => rfl); (case hg => rfl); (case hr => first | (go_simp; done) | (go_simp; rfl)); (case hp => exact Reps.none _ _); intro v397 w8 ho9 hb hg_ hnew_; clear hg_ hnew_; have HO := Aside0.mk ho9; have n1_ := Aside0.mk hb; clear HB; have HB := n1_; clear n1_ hb ho9) | ((with_reducible refine gate_builtin (b := .append) (xs := #[.tmp 5, .tmp 6]) rfl ?_); at_builtin; refine Kd.R_append_rows (Kd.int .i64) (w0 := w) w.heap.size rfl (.tmp 5) (.tmp 6) 23 3 (.int .i64 0) 8 rfl Try.underlying23 infoI rfl (by decide) (by omega) v397 [] l0 _ _ _ (fun _ => True) (fun _ => False) rfl rfl ?aO ?aR (fun _ _ h => h) (fun _ h => h.elim) ?aF ?aB ?aS ?aL ?_; (case aR => exact Kd.C_below HR0.out HB.out); (case aB => exact HB.out); (case aF => exact (fun _ _ => trivial)); (case aO => exact HO.out); (case aS => exact (below_size HB.out)); (case aL => have := HL.out; simp; omega); intro v403 w11 ho hb hg hat; rw [List.nil_append] at ho; have n1_ := Aside0.mk hb; have n2_ := Aside0.mk ho; clear HB HO; have HB := n1_; have HO := n2_; clear n1_ n2_; clear ho hb hg hat))
    go_ret
    exact ⟨_, rfl, HO.out, HB.out⟩
set_option maxHeartbeats 8000000 in
set_option maxRecDepth 100000 in
/-- Grow of nil: an empty row of the call's own. -/
theorem ConcatV.grow (n : Nat) (hn : n < 1000000) (w : World) :
    Calls Try.prog 34 #[.slice none 0 0, .int .i64 (n : Int)] w fun e w' => ∃ v0_ : Value, e = .returned (v0_) ∧ Kd.R k43 43 w' w.heap.size (fun _ => True) v0_ [] ∧ Below w.heap.size w w' := by
  have HB := Aside0.mk (Below.refl w.heap.size w)
  have t1 : decide ((n : Int) < 0) = false := decide_eq_false (by omega)
  by_cases h0 : n = 0
  · subst h0
    go_enter Try.func34, Try.ntmps34
    go_wp2
    go_ret
    exact ⟨_, rfl, Kd.R_nil _ _ _ _ _, HB.out⟩
  · have t2 : decide ((0 : Int) < (n : Int)) = true := decide_eq_true (by omega)
    have t3 : decide (0 < n) = true := decide_eq_true (by omega)
    have hn2 : (n : Int) ≤ 140737488355327 := by omega
    have HN := Aside0.mk hn
    clear h0 hn
    go_enter Try.func34, Try.ntmps34
    go_wp2_with ((with_reducible refine gate_builtin (b := .append) (xs := #[.tmp 20, .tmp 21]) rfl ?_); at_builtin; refine Kd.R_append_zeros k43 (w0 := w) w.heap.size rfl (.tmp 20) (.tmp 21) 38 3 43 (.agg #[.bool false, .string ⟨#[]⟩]) 24 rfl Try.underlying38 Try.underlying3 infoV rfl (by decide) (by omega) (.slice none 0 0) [] z43 (n : Int) (fun _ => True) rfl rfl ?aZ (fun _ _ => trivial) (Kd.R_nil _ _ _ _ _) (by omega) HB.out (Nat.le_refl _) ?aL ?_; (case aZ => exact k43_mkM _ _ _ _); (case aL => have := HN.out; simp; omega); intro v1 w1 ho hb hg hat; obtain ⟨Ao, co, eo⟩ := Kd.R_slice ho; subst eo; rw [List.nil_append] at ho; have hl_ : (List.replicate (n : Int).toNat z43).length = n := (by simp); rw [hl_] at ho; have n1_ := Aside0.mk hb; have n2_ := Aside0.mk (Kd.R_take (m := 0) ho (by simp)); clear HB; have HB := n1_; have HO := n2_; clear n1_ n2_ ho hb hg hat)
    go_ret
    exact ⟨_, rfl, HO.out, HB.out⟩
def ConcatV.f (l0 : List (List (S43))) : Option (List (S43)) := if l0.flatten.length < 1000000 then some l0.flatten else none
theorem ConcatV.succ (l : List (List (S43))) (i : Nat) (hi : i < l.length) : (l.take (i + 1)).flatten = (l.take i).flatten ++ rdOf ([] : List (S43)) l (i : Int) := by
  have e : rdOf ([] : List (S43)) l (i : Int) = l[i] := by simp [rdOf, List.getD_eq_getElem?_getD, hi]
  rw [e, List.take_succ_eq_append_getElem hi, List.flatten_append]
  simp
theorem ConcatV.le (l : List (List (S43))) (i : Nat) : (l.take i).flatten.length ≤ l.flatten.length := by
  have h : l.flatten = (l.take i).flatten ++ (l.drop i).flatten := by rw [← List.flatten_append, List.take_append_drop]
  rw [h, List.length_append]
  omega
set_option maxHeartbeats 8000000 in
set_option maxRecDepth 100000 in
theorem ConcatV.calls (A0 : Option Addr) (c0 : Nat) (l0 : List (List (S43))) (r : List (S43)) (w : World) (hr0 : Kd.C (Kd.slice 43 k43) w A0 l0.length l0) (hc0 : l0.length ≤ c0) (h : ConcatV.f l0 = some r) :
    Calls Try.prog 27 #[.slice A0 l0.length c0] w fun e w' => ∃ v0_ : Value, e = .returned (v0_) ∧ Kd.R k43 43 w' w.heap.size (fun _ => True) v0_ r ∧ Below w.heap.size w w' := by
  unfold ConcatV.f at h
  by_cases hl : l0.flatten.length < 1000000
  case neg => rw [if_neg hl] at h; cases h
  rw [if_pos hl] at h
  obtain rfl := Option.some.inj h
  have HL := Aside0.mk hl
  have HR0 := Aside0.mk hr0
  have hl0 := hr0.2.1
  clear h hr0 hc0 hl
  have HB := Aside0.mk (Below.refl w.heap.size w)
  go_enter Try.func27, Try.ntmps27
  go_wp2
  go_loopg [3, 11] (l0.length : Nat) (fun kq v3 v11 w' => ∃ (i s : Nat), v11 = .int .i64 (i : Int) ∧ v3 = .int .i64 (s : Int) ∧ Aside0 (i + kq = l0.length) ∧ Aside0 (s = (l0.take i).flatten.length) ∧ Aside0 (Below w.heap.size w w'))
  case atStart => exact ⟨0, 0, rfl, rfl, ⟨by omega⟩, ⟨rfl⟩, HB⟩
  case round =>
    obtain ⟨i, s, rfl, rfl, HI, HS, HB⟩ := hrel
    obtain ⟨wo, rfl⟩ : ∃ wo : World, wo = wr := ⟨_, rfl⟩
    cases gk with
    | zero =>
      have c_ : ¬ (i : Int) < (l0.length : Int) := by have := HI.out; omega
      have cb : decide ((i : Int) < (l0.length : Int)) = false := decide_eq_false c_
      have cb2 : decide (i < l0.length) = false := decide_eq_false (by omega)
      have HSL : Aside0 (s < 1000000) := ⟨by have := HS.out; have := ConcatV.le l0 i; have := HL.out; omega⟩
      clear c_ HS HI
      go_wp2_with (go_at_call 34; (with_reducible refine (ConcatV.grow s HSL.out _).mono ?_); rintro e w1 ⟨v1, rfl, ho, hb⟩; have n1_ := Aside0.mk (below_step HB.out hb); have n2_ := Aside0.mk (Kd.R_lower ho (below_size HB.out)); clear HB ho hb; have HB := n1_; have HO := n2_; clear n1_ n2_)
      go_loopg [6, 27] (l0.length : Nat) (fun kq v6 v27 w' => ∃ (i : Nat), v27 = .int .i64 (i : Int) ∧ Aside0 (i + kq = l0.length) ∧ Aside0 (Kd.R k43 43 w' w.heap.size (fun _ => True) v6 ((l0.take i).flatten)) ∧ Aside0 (Below w.heap.size w w'))
      case atStart => exact ⟨0, rfl, ⟨by omega⟩, HO, HB⟩
      case round =>
        clear HO HB cb cb2
        obtain ⟨j, rfl, HJ, HO, HB⟩ := hrel
        cases gk with
        | zero =>
          have c_ : ¬ (j : Int) < (l0.length : Int) := by have := HJ.out; omega
          have cb : decide ((j : Int) < (l0.length : Int)) = false := decide_eq_false c_
          have cb2 : decide (j < l0.length) = false := decide_eq_false (by omega)
          have HF : Aside0 ((l0.take j).flatten = l0.flatten) := ⟨by rw [List.take_of_length_le (by omega)]⟩
          clear c_
          go_wp2
          go_ret
          exact ⟨_, rfl, by rw [← HF.out]; exact HO.out, HB.out⟩
        | succ k2 =>
          have c_ : (j : Int) < (l0.length : Int) := by have := HJ.out; omega
          have cn : j < l0.length := by omega
          have cb : decide ((j : Int) < (l0.length : Int)) = true := decide_eq_true c_
          have cb2 : decide (j < l0.length) = true := decide_eq_true cn
          have HX := Aside0.mk (ConcatV.succ l0 j cn)
          have HY := Aside0.mk (ConcatV.le l0 (j + 1))
          obtain ⟨ad, cs, e1, hcs, ⟨A2, c2, hc2, hlc2, hC2⟩, hcell⟩ := Kd.C_get HR0.out ([] : List (S43)) (j : Int) (by omega) c_
          rw [show (l0.getD (j : Int).toNat ([] : List (S43))) = rdOf ([] : List (S43)) l0 (j : Int) from rfl] at hc2 hlc2 hC2
          generalize rdOf ([] : List (S43)) l0 (j : Int) = l at *
          subst hc2
          have hx1 := hcell 0 _ rfl
          cases e1
          replace hx1 := (HB.out.cell (World.block_lt_of_cell? w _ hx1)).trans hx1
          simp only [Int.toNat_natCast, Nat.add_zero, show (Kd.slice 43 k43).sz = 1 from rfl, Nat.mul_one] at hx1
          have HRl := Aside0.mk hC2
          clear hcell hC2 hlc2 hcs
          go_wp2_with ((with_reducible refine gate_builtin (b := .append) (xs := #[.tmp 31, .tmp 32]) rfl ?_); at_builtin; refine Kd.R_append_rows k43 (w0 := w) w.heap.size rfl (.tmp 31) (.tmp 32) 38 43 (.agg #[.bool false, .string ⟨#[]⟩]) 24 rfl Try.underlying38 infoV rfl (by decide) (by omega) u6 ((l0.take j).flatten) l _ _ _ (fun _ => True) (fun _ => False) rfl rfl ?aO ?aR (RV_M _ _ _) (fun _ h => h.elim) ?aF ?aB ?aS ?aL ?_; (case aR => exact C_RV (Kd.C_below HRl.out HB.out)); (case aB => exact HB.out); (case aF => exact (fun _ _ => trivial)); (case aO => exact HO.out); (case aS => exact (below_size HB.out)); (case aL => have h1 := HX.out; have h2 := HY.out; rw [h1, List.length_append] at h2; have := HL.out; omega); intro v403 w11 ho hb hg hat; rw [← HX.out] at ho; have n1_ := Aside0.mk hb; have n2_ := Aside0.mk ho; clear HB HO; have HB := n1_; have HO := n2_; clear n1_ n2_; clear ho hb hg hat)
          go_roundg k2
          case measure => omega
          case rel => exact ⟨j + 1, (by first | rfl | (simp; done) | go_num), ⟨by have := HJ.out; omega⟩, HO, HB⟩
    | succ k1 =>
      have c_ : (i : Int) < (l0.length : Int) := by have := HI.out; omega
      have cn : i < l0.length := by omega
      have cb : decide ((i : Int) < (l0.length : Int)) = true := decide_eq_true c_
      have cb2 : decide (i < l0.length) = true := decide_eq_true cn
      have HX := Aside0.mk (ConcatV.succ l0 i cn)
      have HY := Aside0.mk (ConcatV.le l0 (i + 1))
      obtain ⟨ad, cs, e1, hcs, ⟨A2, c2, hc2, hlc2, hC2⟩, hcell⟩ := Kd.C_get HR0.out ([] : List (S43)) (i : Int) (by omega) c_
      rw [show (l0.getD (i : Int).toNat ([] : List (S43))) = rdOf ([] : List (S43)) l0 (i : Int) from rfl] at hc2 hlc2 hC2
      generalize rdOf ([] : List (S43)) l0 (i : Int) = l at *
      have hsum : (s : Int) + (l.length : Int) ≤ 1000000 := by
        have h1 := HX.out; have h2 := HY.out; rw [h1, List.length_append, ← HS.out] at h2; have := HL.out; omega
      have HS2 : Aside0 (s + l.length = (l0.take (i + 1)).flatten.length) := ⟨by rw [HX.out, List.length_append, ← HS.out]⟩
      subst hc2
      have hx1 := hcell 0 _ rfl
      cases e1
      replace hx1 := (HB.out.cell (World.block_lt_of_cell? w _ hx1)).trans hx1
      simp only [Int.toNat_natCast, Nat.add_zero, show (Kd.slice 43 k43).sz = 1 from rfl, Nat.mul_one] at hx1
      clear hcell hC2 hlc2 hcs
      have t1 : decide ((s : Int) + (l.length : Int) < 0) = false := decide_eq_false (by omega)
      go_wp2
      go_roundg k1
      case measure => omega
      case rel => exact ⟨i + 1, s + l.length, (by first | rfl | (simp; done) | go_num), (by first | rfl | (simp; done) | go_num), ⟨by have := HI.out; omega⟩, HS2, HB⟩
end Go.Proofs.Ytcbjkejboegmlaa.HW
