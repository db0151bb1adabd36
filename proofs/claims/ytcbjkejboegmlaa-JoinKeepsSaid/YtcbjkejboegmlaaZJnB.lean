import Derived.Test.YtcbjkejboegmlaaZJnA
/- ContainsFunc over columns' and gone's closures; columns, gone, Right. -/
set_option linter.unusedVariables false
set_option linter.unusedSimpArgs false
namespace Go.Proofs.Ytcbjkejboegmlaa.HW
open Go.RowKit Go.Proofs.Ytcbjkejboegmlaa.P Go.Proofs.Ytcbjkejboegmlaa.HP Go.Proofs.YtcbjkejboegmlaaW.PrintWords Go.Proofs.YtcbjkejboegmlaaW.PrintLast Go.Proofs.YtcbjkejboegmlaaW.PrintMore
attribute [local go_sem] max2_int min2_int max_two min_two max_three min_three max_four min_four
theorem any_succ {α : Type} (d : α) (l : List α) (i : Nat) (hi : i < l.length) (p : α → Bool) : (l.take (i + 1)).any p = ((l.take i).any p || p (rdOf d l (i : Int))) := by
  have e : rdOf d l (i : Int) = l[i] := by simp [rdOf, List.getD_eq_getElem?_getD, hi]
  rw [e, List.take_succ_eq_append_getElem hi, List.any_append]
  simp
theorem any_le {α : Type} (l : List α) (i : Nat) (p : α → Bool) (h : (l.take i).any p = true) : l.any p = true := by
  rw [← List.take_append_drop i l, List.any_append, h]
  rfl
def pC (n x : Int) : Bool := decide (x < 0) || decide (n ≤ x)
set_option maxHeartbeats 8000000 in
set_option maxRecDepth 100000 in
theorem col_fn (g : Nat) (n x : Int) (w : World) (hg : w.heap[g]? = some (.cells #[.int .i64 n] 3 (0, 0))) : Calls Try.prog 29 #[.int .i64 x, .pointer (some ⟨g, 0, none⟩)] w fun e w' => e = .returned (.bool (pC n x)) ∧ Below w.heap.size w w' := by
  have hc0 := blk_cell hg 0
  simp only [List.getElem?_toArray, List.getElem?_cons_zero] at hc0
  have HB := Aside0.mk (Below.refl w.heap.size w)
  by_cases h : x < 0
  · have e : pC n x = true := by unfold pC; simp [h]
    rw [e]
    have t1 : decide (x < 0) = true := decide_eq_true h
    clear e hg
    go_enter Try.func29, Try.ntmps29
    go_wp2
    repeat (go_quiet (fail); try go_wp2)
    go_ret
    exact ⟨rfl, by repeat (first | exact HB.out | apply below_alloc | apply pw_below_drewN | apply below_drew1)⟩
  · have e : pC n x = decide (n ≤ x) := by unfold pC; simp [h]
    rw [e]
    have t1 : decide (x < 0) = false := decide_eq_false h
    clear e hg
    obtain ⟨b, hb⟩ : ∃ b, decide (n ≤ x) = b := ⟨_, rfl⟩
    rw [hb]
    go_enter Try.func29, Try.ntmps29
    go_wp2
    repeat (go_quiet (fail); try go_wp2)
    go_ret
    exact ⟨rfl, by repeat (first | exact HB.out | apply below_alloc | apply pw_below_drewN | apply below_drew1)⟩
set_option maxHeartbeats 8000000 in
set_option maxRecDepth 100000 in
theorem gone_fn (x : S43) (w : World) : Calls Try.prog 33 #[.agg #[.bool x.f0, .string x.f1]] w fun e w' => e = .returned (.bool x.f0) ∧ Below w.heap.size w w' := by
  have HB := Aside0.mk (Below.refl w.heap.size w)
  have hu43 := Try.underlying43
  obtain ⟨b, s⟩ := x
  go_enter Try.func33, Try.ntmps33
  go_wp2
  go_ret
  exact ⟨rfl, by repeat (first | exact HB.out | apply below_alloc | apply pw_below_drewN | apply below_drew1)⟩
set_option maxHeartbeats 8000000 in
set_option maxRecDepth 100000 in
theorem col_index (A0 : Option Addr) (c0 : Nat) (l0 : List Int) (g : Nat) (n : Int) (w : World) (hr0 : Kd.C (Kd.int .i64) w A0 l0.length l0) (hg : w.heap[g]? = some (.cells #[.int .i64 n] 3 (0, 0))) :
    Calls Try.prog 35 #[.slice A0 l0.length c0, .func (.func 29) #[] #[.pointer (some ⟨g, 0, none⟩)]] w fun e w' => ∃ r : Int, e = .returned (.int .i64 r) ∧ decide (0 ≤ r) = l0.any (pC n) ∧ Below w.heap.size w w' := by
  have HR0 := Aside0.mk hr0
  have hl0 := hr0.2.1
  have HB := Aside0.mk (Below.refl w.heap.size w)
  have HFN := Aside0.mk (fun (x : Int) (W : World) (h : Below w.heap.size w W) => col_fn g n x W ((h.block g (blk_lt hg)).trans hg))
  clear hr0 hg
  go_enter Try.func35, Try.ntmps35
  go_wp2
  go_loopg [8] (l0.length : Nat) (fun kq v8 w' => ∃ (i : Nat), v8 = .int .i64 (i : Int) ∧ Aside0 (i + kq = l0.length) ∧ Aside0 ((l0.take i).any (pC n) = false) ∧ Aside0 (Below w.heap.size w w'))
  case atStart => exact ⟨0, rfl, ⟨by omega⟩, ⟨rfl⟩, ⟨by repeat (first | exact HB.out | apply below_alloc | apply pw_below_drewN | apply below_drew1)⟩⟩
  case round =>
    clear HB
    obtain ⟨i, rfl, HI, HA, HB⟩ := hrel
    cases gk with
    | zero =>
      have c_ : ¬ (i : Int) < (l0.length : Int) := by have := HI.out; omega
      have cb : decide ((i : Int) < (l0.length : Int)) = false := decide_eq_false c_
      have cb2 : decide (i < l0.length) = false := decide_eq_false (by omega)
      have HF : Aside0 (l0.any (pC n) = false) := ⟨by have := HA.out; rwa [List.take_of_length_le (by omega)] at this⟩
      clear c_
      go_wp2
      go_ret
      exact ⟨-1, rfl, by rw [HF.out]; rfl, by repeat (first | exact HB.out | apply below_alloc | apply pw_below_drewN | apply below_drew1)⟩
    | succ k1 =>
      have c_ : (i : Int) < (l0.length : Int) := by have := HI.out; omega
      have cn : i < l0.length := by omega
      have cb : decide ((i : Int) < (l0.length : Int)) = true := decide_eq_true c_
      have cb2 : decide (i < l0.length) = true := decide_eq_true cn
      have p0 : ((0 : Int) ≤ (i : Int)) = True := eq_true (by omega)
      have q0 : ((i : Int) < (l0.length : Int)) = True := eq_true c_
      have q0n : (i < l0.length) = True := eq_true cn
      have HX := Aside0.mk (any_succ (0 : Int) l0 i cn (pC n))
      have HY := Aside0.mk (any_le l0 (i + 1) (pC n))
      obtain ⟨ad2, e2, hx2⟩ := Kd.at_int (Kd.C_below HR0.out HB.out) (i : Int) (by omega) c_
      cases e2
      simp only [Int.toNat_natCast] at hx2
      rw [show rd l0 (i : Int) = rdOf (0 : Int) l0 (i : Int) from rfl] at hx2
      generalize rdOf (0 : Int) l0 (i : Int) = x at *
      have HC := Aside0.mk (fun W h => HFN.out x W h)
      have HP : Aside0 ((l0.take (i + 1)).any (pC n) = (pC n) x) := ⟨by rw [HX.out, HA.out]; rfl⟩
      obtain ⟨b, hb⟩ : ∃ b, b = (pC n) x := ⟨_, rfl⟩
      have HBX := Aside0.mk hb
      clear hb c_
      cases b with
      | true =>
        have HF : Aside0 (l0.any (pC n) = true) := ⟨HY.out (HP.out.trans HBX.out.symm)⟩
        go_wp2_with (go_at_call 29; (with_reducible refine (HC.out _ (by repeat (first | exact HB.out | apply below_alloc | apply pw_below_drewN | apply below_drew1))).mono ?_); rintro e w8 ⟨rfl, hb8⟩; have hbx := HBX.out; rw [← hbx]; clear hbx; have HB8 := Aside0.mk (below_step HB.out hb8); clear HB hb8)
        go_ret
        exact ⟨(i : Int), rfl, by rw [HF.out]; simp, by repeat (first | exact HB8.out | apply below_alloc | apply pw_below_drewN | apply below_drew1)⟩
      | false =>
        go_wp2_with (go_at_call 29; (with_reducible refine (HC.out _ (by repeat (first | exact HB.out | apply below_alloc | apply pw_below_drewN | apply below_drew1))).mono ?_); rintro e w8 ⟨rfl, hb8⟩; have hbx := HBX.out; rw [← hbx]; clear hbx; have HB8 := Aside0.mk (below_step HB.out hb8); clear HB hb8)
        go_roundg k1
        case measure => omega
        case rel => exact ⟨i + 1, (by first | rfl | (simp; done) | go_num), ⟨by have := HI.out; omega⟩, ⟨HP.out.trans HBX.out.symm⟩, HB8⟩
set_option maxHeartbeats 8000000 in
set_option maxRecDepth 100000 in
theorem col_has (A0 : Option Addr) (c0 : Nat) (l0 : List Int) (g : Nat) (n : Int) (w : World) (hr0 : Kd.C (Kd.int .i64) w A0 l0.length l0) (hg : w.heap[g]? = some (.cells #[.int .i64 n] 3 (0, 0))) :
    Calls Try.prog 28 #[.slice A0 l0.length c0, .func (.func 29) #[] #[.pointer (some ⟨g, 0, none⟩)]] w fun e w' => e = .returned (.bool (l0.any (pC n))) ∧ Below w.heap.size w w' := by
  have HC := Aside0.mk (col_index A0 c0 l0 g n w hr0 hg)
  have HB := Aside0.mk (Below.refl w.heap.size w)
  clear hr0 hg
  go_enter Try.func28, Try.ntmps28
  go_wp2_with (go_at_call 35; refine HC.out.mono ?_; rintro e w8 ⟨q, rfl, hq, hb⟩; have HQ := Aside0.mk hq; have HB8 := Aside0.mk (below_step HB.out hb); clear hq hb HB)
  go_ret
  exact ⟨by rw [← HQ.out]; rfl, by repeat (first | exact HB8.out | apply below_alloc | apply pw_below_drewN | apply below_drew1)⟩
set_option maxHeartbeats 8000000 in
set_option maxRecDepth 100000 in
theorem gone_index (A0 : Option Addr) (c0 : Nat) (l0 : List S43) (w : World) (hr0 : Kd.C k43 w A0 l0.length l0) :
    Calls Try.prog 38 #[.slice A0 l0.length c0, .func (.func 33) #[] #[]] w fun e w' => ∃ r : Int, e = .returned (.int .i64 r) ∧ decide (0 ≤ r) = l0.any (fun x : S43 => x.f0) ∧ Below w.heap.size w w' := by
  have HR0 := Aside0.mk hr0
  have hl0 := hr0.2.1
  have HB := Aside0.mk (Below.refl w.heap.size w)
  have HFN := Aside0.mk (fun (x : S43) (W : World) (_ : Below w.heap.size w W) => gone_fn x W)
  clear hr0
  go_enter Try.func38, Try.ntmps38
  go_wp2
  go_loopg [8] (l0.length : Nat) (fun kq v8 w' => ∃ (i : Nat), v8 = .int .i64 (i : Int) ∧ Aside0 (i + kq = l0.length) ∧ Aside0 ((l0.take i).any (fun x : S43 => x.f0) = false) ∧ Aside0 (Below w.heap.size w w'))
  case atStart => exact ⟨0, rfl, ⟨by omega⟩, ⟨rfl⟩, ⟨by repeat (first | exact HB.out | apply below_alloc | apply pw_below_drewN | apply below_drew1)⟩⟩
  case round =>
    clear HB
    obtain ⟨i, rfl, HI, HA, HB⟩ := hrel
    cases gk with
    | zero =>
      have c_ : ¬ (i : Int) < (l0.length : Int) := by have := HI.out; omega
      have cb : decide ((i : Int) < (l0.length : Int)) = false := decide_eq_false c_
      have cb2 : decide (i < l0.length) = false := decide_eq_false (by omega)
      have HF : Aside0 (l0.any (fun x : S43 => x.f0) = false) := ⟨by have := HA.out; rwa [List.take_of_length_le (by omega)] at this⟩
      clear c_
      go_wp2
      go_ret
      exact ⟨-1, rfl, by rw [HF.out]; rfl, by repeat (first | exact HB.out | apply below_alloc | apply pw_below_drewN | apply below_drew1)⟩
    | succ k1 =>
      have c_ : (i : Int) < (l0.length : Int) := by have := HI.out; omega
      have cn : i < l0.length := by omega
      have cb : decide ((i : Int) < (l0.length : Int)) = true := decide_eq_true c_
      have cb2 : decide (i < l0.length) = true := decide_eq_true cn
      have p0 : ((0 : Int) ≤ (i : Int)) = True := eq_true (by omega)
      have q0 : ((i : Int) < (l0.length : Int)) = True := eq_true c_
      have q0n : (i < l0.length) = True := eq_true cn
      have HX := Aside0.mk (any_succ z43 l0 i cn (fun x : S43 => x.f0))
      have HY := Aside0.mk (any_le l0 (i + 1) (fun x : S43 => x.f0))
      have hu43 := Try.underlying43
      obtain ⟨ad2, e2, hx2, hx3⟩ := at_T43 (Kd.C_below HR0.out HB.out) (i : Int) (by omega) c_
      cases e2
      simp only [Int.toNat_natCast] at hx2 hx3
      rw [show rd_T43 l0 (i : Int) = rdOf z43 l0 (i : Int) from rfl] at hx2 hx3
      generalize rdOf z43 l0 (i : Int) = x at *
      have HC := Aside0.mk (fun W h => HFN.out x W h)
      have HP : Aside0 ((l0.take (i + 1)).any (fun x : S43 => x.f0) = (fun x : S43 => x.f0) x) := ⟨by rw [HX.out, HA.out]; rfl⟩
      obtain ⟨b, hb⟩ : ∃ b, b = (fun x : S43 => x.f0) x := ⟨_, rfl⟩
      have HBX := Aside0.mk hb
      clear hb c_
      cases b with
      | true =>
        have HF : Aside0 (l0.any (fun x : S43 => x.f0) = true) := ⟨HY.out (HP.out.trans HBX.out.symm)⟩
        go_wp2_with (go_at_call 33; (with_reducible refine (HC.out _ (by repeat (first | exact HB.out | apply below_alloc | apply pw_below_drewN | apply below_drew1))).mono ?_); rintro e w8 ⟨rfl, hb8⟩; have hbx := HBX.out; rw [← hbx]; clear hbx; have HB8 := Aside0.mk (below_step HB.out hb8); clear HB hb8)
        go_ret
        exact ⟨(i : Int), rfl, by rw [HF.out]; simp, by repeat (first | exact HB8.out | apply below_alloc | apply pw_below_drewN | apply below_drew1)⟩
      | false =>
        go_wp2_with (go_at_call 33; (with_reducible refine (HC.out _ (by repeat (first | exact HB.out | apply below_alloc | apply pw_below_drewN | apply below_drew1))).mono ?_); rintro e w8 ⟨rfl, hb8⟩; have hbx := HBX.out; rw [← hbx]; clear hbx; have HB8 := Aside0.mk (below_step HB.out hb8); clear HB hb8)
        go_roundg k1
        case measure => omega
        case rel => exact ⟨i + 1, (by first | rfl | (simp; done) | go_num), ⟨by have := HI.out; omega⟩, ⟨HP.out.trans HBX.out.symm⟩, HB8⟩
set_option maxHeartbeats 8000000 in
set_option maxRecDepth 100000 in
theorem gone_has (A0 : Option Addr) (c0 : Nat) (l0 : List S43) (w : World) (hr0 : Kd.C k43 w A0 l0.length l0) :
    Calls Try.prog 32 #[.slice A0 l0.length c0, .func (.func 33) #[] #[]] w fun e w' => e = .returned (.bool (l0.any (fun x : S43 => x.f0))) ∧ Below w.heap.size w w' := by
  have HC := Aside0.mk (gone_index A0 c0 l0 w hr0)
  have HB := Aside0.mk (Below.refl w.heap.size w)
  clear hr0
  go_enter Try.func32, Try.ntmps32
  go_wp2_with (go_at_call 38; refine HC.out.mono ?_; rintro e w8 ⟨q, rfl, hq, hb⟩; have HQ := Aside0.mk hq; have HB8 := Aside0.mk (below_step HB.out hb); clear hq hb HB)
  go_ret
  exact ⟨by rw [← HQ.out]; rfl, by repeat (first | exact HB8.out | apply below_alloc | apply pw_below_drewN | apply below_drew1)⟩
set_option maxHeartbeats 8000000 in
set_option maxRecDepth 100000 in
theorem Gone_ (A0 : Option Addr) (c0 : Nat) (l0 : List S43) (w : World) (hr0 : Kd.C k43 w A0 l0.length l0) : Calls Try.prog 24 #[.slice A0 l0.length c0] w fun e w' => e = .returned (.bool (l0.any (fun x : S43 => x.f0))) ∧ Below w.heap.size w w' := by
  have HC := Aside0.mk (fun W (h : Below w.heap.size w W) => gone_has A0 c0 l0 W (Kd.C_below hr0 h))
  have HB := Aside0.mk (Below.refl w.heap.size w)
  clear hr0
  go_enter Try.func24, Try.ntmps24
  go_wp2_with (go_at_call 32; refine (HC.out _ (by repeat (first | exact HB.out | apply below_alloc | apply pw_below_drewN | apply below_drew1))).mono ?_; rintro e w8 ⟨rfl, hb⟩; have HB8 := Aside0.mk (below_step HB.out hb); clear hb HB)
  go_ret
  exact ⟨rfl, by repeat (first | exact HB8.out | apply below_alloc | apply pw_below_drewN | apply below_drew1)⟩
set_option maxHeartbeats 8000000 in
set_option maxRecDepth 100000 in
theorem Columns_ (A0 : Option Addr) (c0 : Nat) (l0 : List Int) (n : Int) (w : World) (hr0 : Kd.C (Kd.int .i64) w A0 l0.length l0) : Calls Try.prog 21 #[.slice A0 l0.length c0, .int .i64 n] w fun e w' => e = .returned (.bool (!l0.any (pC n))) ∧ Below w.heap.size w w' := by
  have HC := Aside0.mk (fun g W (h : Below w.heap.size w W) hg => col_has A0 c0 l0 g n W (Kd.C_below hr0 h) hg)
  have HB := Aside0.mk (Below.refl w.heap.size w)
  clear hr0
  go_enter Try.func21, Try.ntmps21
  go_wp2_with (go_at_call 28; refine (HC.out _ _ (by repeat (first | exact HB.out | apply below_alloc | apply pw_below_drewN | apply below_drew1)) (blk_new w _)).mono ?_; rintro e w8 ⟨rfl, hb⟩; have HB8 := Aside0.mk (below_step (below_alloc HB.out _) hb); clear hb HB)
  go_ret
  exact ⟨rfl, by repeat (first | exact HB8.out | apply below_alloc | apply pw_below_drewN | apply below_drew1)⟩
end Go.Proofs.Ytcbjkejboegmlaa.HW
