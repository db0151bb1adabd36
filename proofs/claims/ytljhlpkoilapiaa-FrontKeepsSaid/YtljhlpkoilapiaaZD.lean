import Derived.Test.YtljhlpkoilapiaaZC
import Derived.Test.YtljhlpkoilapiaaZPx12
import Derived.Test.YtljhlpkoilapiaaZPx18
import Derived.Test.YtljhlpkoilapiaaZPx13
/- Texts laid together by merge.py: FrS FrQ FrR. -/
section
/- hopperref13.Sorted, walked. -/
set_option linter.unusedVariables false
set_option linter.unusedSimpArgs false
namespace Go.Proofs.Ytljhlpkoilapiaa.HW
open Go.RowKit Go.Proofs.Ytljhlpkoilapiaa.P Go.Proofs.Ytljhlpkoilapiaa.HP Go.Proofs.YtljhlpkoilapiaaW.PrintWords Go.Proofs.YtljhlpkoilapiaaW.PrintLast Go.Proofs.YtljhlpkoilapiaaW.PrintMore
attribute [local go_sem] max2_int min2_int max_two min_two max_three min_three max_four min_four
set_option maxHeartbeats 8000000 in
set_option maxRecDepth 100000 in
theorem R_lit_step_ {α : Type} {P : Program} {ops : Array Oper} {o : Oper} {a : Act} {Q : Exit → Act → World → Prop} {Kc : Act → World → Prop} (d : Kd α) {w0 W : World} (base e : Nat) (hw : Region.wanted o (yielded ops a.tmps) = true) {N : Tmp} (_hd : o.dst = some N) {xs : List α} {inner : List Value} {ok okp : Nat → Prop}
    (hrun : (execOp a.eval o).run P W = .ok (.value (.slice (some ⟨W.heap.size, 0, none⟩) xs.length xs.length)) (W.alloc (.cells inner.toArray e)))
    (hrep : Reps (d.M W base okp) d.sz xs inner) (hok : ∀ k, okp k → ok k) (hfresh : ok W.heap.size) (HB : Below base w0 W) (hbw : w0.heap.size = base ∨ base ≤ W.heap.size) (hm : xs.length ≤ 9223372036854775807)
    (h : ∀ v1 w1, d.R e w1 base ok v1 xs → Below base w0 w1 → W.grownBy w1 none → (∃ b, v1.ownBlock = some b ∧ W.heap.size ≤ b) → Kc (a.put o.dst v1) w1) : if Region.wanted o (yielded ops a.tmps) = true then Oper.wp P o a W Kc Q else Kc (a.put o.dst undef) W :=
  Kd.R_lit_step d base e hw _hd hrun hrep hok hfresh HB (by rcases hbw with h | h; (rw [← h]; exact below_size HB); exact h) hm h
set_option maxHeartbeats 8000000 in
set_option maxRecDepth 100000 in
theorem Sorted_ (A0 : Option Addr) (c0 : Nat) (l0 : List ByteArray) (w : World) (hr : Kd.C Kd.string w A0 l0.length l0) (hcl : l0.length ≤ c0) (hn : l0.length ≤ 150) (hz : ∀ s ∈ l0, s.size ≤ 5000) :
    Calls Try.prog 21 #[.slice A0 l0.length c0] w fun e w' => ∃ (v : Value) (t : List ByteArray), e = .returned v ∧ Kd.R Kd.string 9 w' w.heap.size (fun _ => True) v t ∧ t.length ≤ l0.length ∧ (∀ s ∈ t, s.size ≤ 5000) ∧ Below w.heap.size w w' := by
  have HR := Aside0.mk hr
  have HC := Aside0.mk hcl
  have HN := Aside0.mk hn
  have HZ := Aside0.mk hz
  have HB := Aside0.mk (Below.refl w.heap.size w)
  clear hr hcl hn hz
  go_enter Try.func21, Try.ntmps21
  go_wp2_with fail
  go_loopg [3, 4] (l0.length : Nat) (fun kq v3 v4 w' => ∃ (i : Nat) (out : List ByteArray), v4 = .int .i64 (i : Int) ∧ Aside0 (i + kq = l0.length) ∧ Aside0 (out.length ≤ i) ∧ Aside0 (∀ s ∈ out, s.size ≤ 5000) ∧ Aside0 (Kd.R Kd.string 9 w' w.heap.size (fun _ => True) v3 out) ∧ Aside0 (Below w.heap.size w w'))
  case atStart => exact ⟨0, [], rfl, ⟨Nat.zero_add _⟩, ⟨Nat.le_refl _⟩, ⟨by simp⟩, ⟨Kd.R_nil _ _ _ _ _⟩, ⟨by repeat (first | exact HB.out | apply pw_below_drewN | apply below_drew1)⟩⟩
  case round =>
    clear HB
    obtain ⟨i, out, rfl, HI, HOL, HOZ, HO, HB⟩ := hrel
    cases gk with
    | zero =>
      have hi : i = l0.length := by have := HI.out; omega
      have ti : decide ((i : Int) < (l0.length : Int)) = false := decide_eq_false (by omega)
      have ti2 : decide (i < l0.length) = false := decide_eq_false (by omega)
      clear hi
      go_wp2_with fail
      go_ret
      exact ⟨_, _, rfl, HO.out, by have := HI.out; have := HOL.out; omega, HOZ.out, HB.out⟩
    | succ k1 =>
      have hi : i < l0.length := by have := HI.out; omega
      have ti : decide ((i : Int) < (l0.length : Int)) = true := decide_eq_true (by omega)
      have ti2 : decide (i < l0.length) = true := decide_eq_true (by omega)
      have p0 : ((0 : Int) ≤ (i : Int)) = True := eq_true (by omega)
      have q0 : ((i : Int) < (l0.length : Int)) = True := eq_true (by omega)
      have q0n : (i < l0.length) = True := eq_true hi
      obtain ⟨s, hs⟩ : ∃ s, s = at_ l0 i := ⟨_, rfl⟩
      have HSM : Aside0 (s ∈ l0) := ⟨by rw [hs]; unfold at_; simp [hi]⟩
      obtain ⟨u, hu⟩ : ∃ U, U = wr := ⟨_, rfl⟩
      subst hu
      obtain ⟨ad0, e0, hx0⟩ := Kd.at_string (Kd.C_below HR.out HB.out) (i : Int) (by omega) (by omega)
      subst e0
      have HC0 : Aside0 (∀ W : World, Below u.heap.size u W → W.cell? (ad0.add i) = some (.string s)) := ⟨fun W hW => by
        rw [Int.toNat_natCast] at hx0
        rw [hW.cell (World.block_lt_of_cell? u _ hx0), hx0, hs, at_rd]⟩
      obtain ⟨A3, c3, rfl, hl3, hr3⟩ := Kd.R_reads HO.out
      have HR3 := Aside0.mk hr3
      have HL3 := Aside0.mk hl3
      have HI1 : Aside0 (wrap64 ((i : Int) + 1) = ((i + 1 : Nat) : Int)) := ⟨by unfold wrap64; have := HN.out; omega⟩
      obtain ⟨i0, hi0, _, hsz0, _⟩ := info_parts infoS
      clear hi hs hx0 hl3 hr3
      go_wp2_with fail
      go_loopg [5] (out.length : Nat) (fun kq v5 w' => ∃ j : Nat, v5 = .int .i64 (j : Int) ∧ Aside0 (j + kq = out.length) ∧ Aside0 (Below u.heap.size u w'))
      case atStart => exact ⟨0, rfl, ⟨Nat.zero_add _⟩, ⟨by repeat (first | exact Below.refl _ _ | apply pw_below_drewN | apply below_drew1)⟩⟩
      case round =>
        obtain ⟨j, rfl, HJ, HX⟩ := hrel
        have HBR0 : Aside0 (Below u.heap.size u wr.drew) := ⟨below_drew1 HX.out⟩
        have HBR : Aside0 (∀ n, Below u.heap.size u (wr.drew.drewN n)) := ⟨fun n => pw_below_drewN (below_drew1 HX.out) n⟩
        cases gk with
        | zero =>
          have hj : j = out.length := by have := HJ.out; omega
          have tj : decide ((j : Int) < (out.length : Int)) = false := decide_eq_false (by omega)
          have tj2 : decide (j < out.length) = false := decide_eq_false (by omega)
          clear hj
          go_wp2_with fail
          refine start_ (n := 16) (S := fun w' => True) (ds := []) #[false, false, false, false, false, false, false, false, false, false, false, false, false, false, false, false] (by kernel_rfl) rfl rfl trivial (fun hHeld => ?_)
          refine pure_ (i := 0) (N := some 12) (v := ?_) (a' := ?_) #[true, false, false, false, false, false, false, false, false, false, false, false, false, false, false, false] rfl rfl (by kernel_rfl) (fun _ _ _ h => h) (Or.inl ⟨by rfl, ?_⟩) ?_ ?_
          rotate_left
          · intro w'
            go_simp
            with_reducible rfl
          rotate_left
          · simp only [Act.put, List.setIfInBounds_toArray, List.set_cons_zero, List.set_cons_succ, i64_w, i32_w]
            rfl
          refine pure_ (i := 1) (N := some 13) (v := ?_) (a' := ?_) #[true, true, false, false, false, false, false, false, false, false, false, false, false, false, false, false] rfl rfl (by kernel_rfl) (fun _ _ _ h => h) (Or.inl ⟨by rfl, ?_⟩) ?_ ?_
          rotate_left
          · intro w'
            go_simp
            with_reducible rfl
          rotate_left
          · simp only [Act.put, List.setIfInBounds_toArray, List.set_cons_zero, List.set_cons_succ, i64_w, i32_w]
            rfl
          refine pure_ (i := 2) (N := some 14) (v := ?_) (a' := ?_) #[true, true, true, false, false, false, false, false, false, false, false, false, false, false, false, false] rfl rfl (by kernel_rfl) (fun _ _ _ h => h) (Or.inl ⟨by rfl, ?_⟩) ?_ ?_
          rotate_left
          · intro w'
            go_simp
            with_reducible rfl
          rotate_left
          · simp only [Act.put, List.setIfInBounds_toArray, List.set_cons_zero, List.set_cons_succ, i64_w, i32_w]
            rfl
          refine pure_ (i := 3) (N := some 15) (v := ?_) (a' := ?_) #[true, true, true, true, false, false, false, false, false, false, false, false, false, false, false, false] rfl rfl (by kernel_rfl) (fun _ _ _ h => h) (Or.inl ⟨by rfl, ?_⟩) ?_ ?_
          rotate_left
          · intro w'
            go_simp
            with_reducible rfl
          rotate_left
          · simp only [Act.put, List.setIfInBounds_toArray, List.set_cons_zero, List.set_cons_succ, i64_w, i32_w]
            rfl
          refine pure_ (i := 4) (N := some 16) (v := ?_) (a' := ?_) #[true, true, true, true, true, false, false, false, false, false, false, false, false, false, false, false] rfl rfl (by kernel_rfl) (fun _ _ _ h => h) (Or.inl ⟨by rfl, ?_⟩) ?_ ?_
          rotate_left
          · intro w'
            go_simp
            with_reducible rfl
          rotate_left
          · simp only [Act.put, List.setIfInBounds_toArray, List.set_cons_zero, List.set_cons_succ, i64_w, i32_w]
            rfl
          refine pure_ (i := 5) (N := some 17) (v := undef) (a' := ?_) #[true, true, true, true, true, true, false, false, false, false, false, false, false, false, false, false] rfl rfl (by kernel_rfl) (fun _ _ _ h => h) (Or.inr ⟨by rfl, rfl⟩) ?_ ?_
          rotate_left
          · simp only [Act.put, List.setIfInBounds_toArray, List.set_cons_zero, List.set_cons_succ, i64_w, i32_w]
            rfl
          refine pure_ (i := 6) (N := some 18) (v := undef) (a' := ?_) #[true, true, true, true, true, true, true, false, false, false, false, false, false, false, false, false] rfl rfl (by kernel_rfl) (fun _ _ _ h => h) (Or.inr ⟨by rfl, rfl⟩) ?_ ?_
          rotate_left
          · simp only [Act.put, List.setIfInBounds_toArray, List.set_cons_zero, List.set_cons_succ, i64_w, i32_w]
            rfl
          refine pure_ (i := 7) (N := some 19) (v := undef) (a' := ?_) #[true, true, true, true, true, true, true, true, false, false, false, false, false, false, false, false] rfl rfl (by kernel_rfl) (fun _ _ _ h => h) (Or.inr ⟨by rfl, rfl⟩) ?_ ?_
          rotate_left
          · simp only [Act.put, List.setIfInBounds_toArray, List.set_cons_zero, List.set_cons_succ, i64_w, i32_w]
            rfl
          refine pure_ (i := 8) (N := some 20) (v := undef) (a' := ?_) #[true, true, true, true, true, true, true, true, true, false, false, false, false, false, false, false] rfl rfl (by kernel_rfl) (fun _ _ _ h => h) (Or.inr ⟨by rfl, rfl⟩) ?_ ?_
          rotate_left
          · simp only [Act.put, List.setIfInBounds_toArray, List.set_cons_zero, List.set_cons_succ, i64_w, i32_w]
            rfl
          refine pure_ (i := 9) (N := some 21) (v := undef) (a' := ?_) #[true, true, true, true, true, true, true, true, true, true, false, false, false, false, false, false] rfl rfl (by kernel_rfl) (fun _ _ _ h => h) (Or.inr ⟨by rfl, rfl⟩) ?_ ?_
          rotate_left
          · simp only [Act.put, List.setIfInBounds_toArray, List.set_cons_zero, List.set_cons_succ, i64_w, i32_w]
            rfl
          refine pure_ (i := 10) (N := some 22) (v := undef) (a' := ?_) #[true, true, true, true, true, true, true, true, true, true, true, false, false, false, false, false] rfl rfl (by kernel_rfl) (fun _ _ _ h => h) (Or.inr ⟨by rfl, rfl⟩) ?_ ?_
          rotate_left
          · simp only [Act.put, List.setIfInBounds_toArray, List.set_cons_zero, List.set_cons_succ, i64_w, i32_w]
            rfl
          refine pure_ (i := 11) (N := some 23) (v := undef) (a' := ?_) #[true, true, true, true, true, true, true, true, true, true, true, true, false, false, false, false] rfl rfl (by kernel_rfl) (fun _ _ _ h => h) (Or.inr ⟨by rfl, rfl⟩) ?_ ?_
          rotate_left
          · simp only [Act.put, List.setIfInBounds_toArray, List.set_cons_zero, List.set_cons_succ, i64_w, i32_w]
            rfl
          refine pure_ (i := 12) (N := some 24) (v := undef) (a' := ?_) #[true, true, true, true, true, true, true, true, true, true, true, true, true, false, false, false] rfl rfl (by kernel_rfl) (fun _ _ _ h => h) (Or.inr ⟨by rfl, rfl⟩) ?_ ?_
          rotate_left
          · simp only [Act.put, List.setIfInBounds_toArray, List.set_cons_zero, List.set_cons_succ, i64_w, i32_w]
            rfl
          refine pure_ (i := 13) (N := some 25) (v := undef) (a' := ?_) #[true, true, true, true, true, true, true, true, true, true, true, true, true, true, false, false] rfl rfl (by kernel_rfl) (fun _ _ _ h => h) (Or.inr ⟨by rfl, rfl⟩) ?_ ?_
          rotate_left
          · simp only [Act.put, List.setIfInBounds_toArray, List.set_cons_zero, List.set_cons_succ, i64_w, i32_w]
            rfl
          refine pure_ (i := 14) (N := some 26) (v := undef) (a' := ?_) #[true, true, true, true, true, true, true, true, true, true, true, true, true, true, true, false] rfl rfl (by kernel_rfl) (fun _ _ _ h => h) (Or.inr ⟨by rfl, rfl⟩) ?_ ?_
          rotate_left
          · simp only [Act.put, List.setIfInBounds_toArray, List.set_cons_zero, List.set_cons_succ, i64_w, i32_w]
            rfl
          refine pure_ (i := 15) (N := some 27) (v := ?_) (a' := ?_) #[true, true, true, true, true, true, true, true, true, true, true, true, true, true, true, true] rfl rfl (by kernel_rfl) (fun _ _ _ h => h) (Or.inl ⟨by rfl, ?_⟩) ?_ ?_
          rotate_left
          · intro w'
            go_simp
            with_reducible rfl
          rotate_left
          · simp only [Act.put, List.setIfInBounds_toArray, List.set_cons_zero, List.set_cons_succ, i64_w, i32_w]
            rfl
          refine done_ (by kernel_rfl) ?_
          go_wp2_with fail
          refine start_ (n := 15) (S := fun w' => True) (ds := []) #[false, false, false, false, false, false, false, false, false, false, false, false, false, false, false] (by kernel_rfl) rfl rfl trivial (fun hHeld => ?_)
          refine pure_ (i := 0) (N := some 30) (v := ?_) (a' := ?_) #[true, false, false, false, false, false, false, false, false, false, false, false, false, false, false] rfl rfl (by kernel_rfl) (fun _ _ _ h => h) (Or.inl ⟨by rfl, ?_⟩) ?_ ?_
          rotate_left
          · intro w'
            go_simp
            with_reducible rfl
          rotate_left
          · simp only [Act.put, List.setIfInBounds_toArray, List.set_cons_zero, List.set_cons_succ, i64_w, i32_w]
            rfl
          refine pure_ (i := 1) (N := some 31) (v := ?_) (a' := ?_) #[true, true, false, false, false, false, false, false, false, false, false, false, false, false, false] rfl rfl (by kernel_rfl) (fun _ _ _ h => h) (Or.inl ⟨by rfl, ?_⟩) ?_ ?_
          rotate_left
          · intro w'
            go_simp
            with_reducible rfl
          rotate_left
          · simp only [Act.put, List.setIfInBounds_toArray, List.set_cons_zero, List.set_cons_succ, i64_w, i32_w]
            rfl
          refine pure_ (i := 2) (N := some 32) (v := ?_) (a' := ?_) #[true, true, true, false, false, false, false, false, false, false, false, false, false, false, false] rfl rfl (by kernel_rfl) (fun _ _ _ h => h) (Or.inl ⟨by rfl, ?_⟩) ?_ ?_
          rotate_left
          · intro w'
            go_simp
            with_reducible rfl
          rotate_left
          · simp only [Act.put, List.setIfInBounds_toArray, List.set_cons_zero, List.set_cons_succ, i64_w, i32_w]
            rfl
          refine pure_ (i := 3) (N := some 33) (v := ?_) (a' := ?_) #[true, true, true, true, false, false, false, false, false, false, false, false, false, false, false] rfl rfl (by kernel_rfl) (fun _ _ _ h => h) (Or.inl ⟨by rfl, ?_⟩) ?_ ?_
          rotate_left
          · intro w'
            go_simp
            with_reducible rfl
          rotate_left
          · simp only [Act.put, List.setIfInBounds_toArray, List.set_cons_zero, List.set_cons_succ, i64_w, i32_w]
            rfl
          refine pure_ (i := 4) (N := some 34) (v := ?_) (a' := ?_) #[true, true, true, true, true, false, false, false, false, false, false, false, false, false, false] rfl rfl (by kernel_rfl) (fun _ _ _ h => h) (Or.inl ⟨by rfl, ?_⟩) ?_ ?_
          rotate_left
          · intro w'
            go_simp
            with_reducible rfl
          rotate_left
          · simp only [Act.put, List.setIfInBounds_toArray, List.set_cons_zero, List.set_cons_succ, i64_w, i32_w]
            rfl
          refine pure_ (i := 5) (N := some 35) (v := undef) (a' := ?_) #[true, true, true, true, true, true, false, false, false, false, false, false, false, false, false] rfl rfl (by kernel_rfl) (fun _ _ _ h => h) (Or.inr ⟨by rfl, rfl⟩) ?_ ?_
          rotate_left
          · simp only [Act.put, List.setIfInBounds_toArray, List.set_cons_zero, List.set_cons_succ, i64_w, i32_w]
            rfl
          refine pure_ (i := 6) (N := some 36) (v := undef) (a' := ?_) #[true, true, true, true, true, true, true, false, false, false, false, false, false, false, false] rfl rfl (by kernel_rfl) (fun _ _ _ h => h) (Or.inr ⟨by rfl, rfl⟩) ?_ ?_
          rotate_left
          · simp only [Act.put, List.setIfInBounds_toArray, List.set_cons_zero, List.set_cons_succ, i64_w, i32_w]
            rfl
          refine pure_ (i := 7) (N := some 37) (v := undef) (a' := ?_) #[true, true, true, true, true, true, true, true, false, false, false, false, false, false, false] rfl rfl (by kernel_rfl) (fun _ _ _ h => h) (Or.inr ⟨by rfl, rfl⟩) ?_ ?_
          rotate_left
          · simp only [Act.put, List.setIfInBounds_toArray, List.set_cons_zero, List.set_cons_succ, i64_w, i32_w]
            rfl
          refine pure_ (i := 8) (N := some 38) (v := undef) (a' := ?_) #[true, true, true, true, true, true, true, true, true, false, false, false, false, false, false] rfl rfl (by kernel_rfl) (fun _ _ _ h => h) (Or.inr ⟨by rfl, rfl⟩) ?_ ?_
          rotate_left
          · simp only [Act.put, List.setIfInBounds_toArray, List.set_cons_zero, List.set_cons_succ, i64_w, i32_w]
            rfl
          refine pure_ (i := 9) (N := some 39) (v := undef) (a' := ?_) #[true, true, true, true, true, true, true, true, true, true, false, false, false, false, false] rfl rfl (by kernel_rfl) (fun _ _ _ h => h) (Or.inr ⟨by rfl, rfl⟩) ?_ ?_
          rotate_left
          · simp only [Act.put, List.setIfInBounds_toArray, List.set_cons_zero, List.set_cons_succ, i64_w, i32_w]
            rfl
          refine pure_ (i := 10) (N := some 40) (v := undef) (a' := ?_) #[true, true, true, true, true, true, true, true, true, true, true, false, false, false, false] rfl rfl (by kernel_rfl) (fun _ _ _ h => h) (Or.inr ⟨by rfl, rfl⟩) ?_ ?_
          rotate_left
          · simp only [Act.put, List.setIfInBounds_toArray, List.set_cons_zero, List.set_cons_succ, i64_w, i32_w]
            rfl
          refine pure_ (i := 11) (N := some 41) (v := undef) (a' := ?_) #[true, true, true, true, true, true, true, true, true, true, true, true, false, false, false] rfl rfl (by kernel_rfl) (fun _ _ _ h => h) (Or.inr ⟨by rfl, rfl⟩) ?_ ?_
          rotate_left
          · simp only [Act.put, List.setIfInBounds_toArray, List.set_cons_zero, List.set_cons_succ, i64_w, i32_w]
            rfl
          refine pure_ (i := 12) (N := some 42) (v := undef) (a' := ?_) #[true, true, true, true, true, true, true, true, true, true, true, true, true, false, false] rfl rfl (by kernel_rfl) (fun _ _ _ h => h) (Or.inr ⟨by rfl, rfl⟩) ?_ ?_
          rotate_left
          · simp only [Act.put, List.setIfInBounds_toArray, List.set_cons_zero, List.set_cons_succ, i64_w, i32_w]
            rfl
          refine pure_ (i := 13) (N := some 43) (v := undef) (a' := ?_) #[true, true, true, true, true, true, true, true, true, true, true, true, true, true, false] rfl rfl (by kernel_rfl) (fun _ _ _ h => h) (Or.inr ⟨by rfl, rfl⟩) ?_ ?_
          rotate_left
          · simp only [Act.put, List.setIfInBounds_toArray, List.set_cons_zero, List.set_cons_succ, i64_w, i32_w]
            rfl
          refine pure_ (i := 14) (N := some 44) (v := ?_) (a' := ?_) #[true, true, true, true, true, true, true, true, true, true, true, true, true, true, true] rfl rfl (by kernel_rfl) (fun _ _ _ h => h) (Or.inl ⟨by rfl, ?_⟩) ?_ ?_
          rotate_left
          · intro w'
            go_simp
            with_reducible rfl
          rotate_left
          · simp only [Act.put, List.setIfInBounds_toArray, List.set_cons_zero, List.set_cons_succ, i64_w, i32_w]
            rfl
          refine done_ (by kernel_rfl) ?_
          go_wp2_with fail
          have hcutT := cut_to (P := Try.prog) 22 9 .i64 Try.underlying22 hi0 A3 out.length c3 (j : Int) (by omega) (by have := HJ.out; omega) HL3.out
          rw [Int.toNat_natCast] at hcutT
          obtain ⟨AD, hcutD, hAD, hCD⟩ := print_drop_of (P := Try.prog) Value.string (⟨#[]⟩ : ByteArray) 22 9 .i64 Try.underlying22 hi0 hsz0 A3 c3 out (j : Int) (by omega) (by have := HJ.out; omega) HL3.out
          rw [Int.toNat_natCast] at hcutD hAD hCD
          have hjo : j ≤ out.length := by have := HJ.out; omega
          have HR3T : Aside0 (∀ W : World, Below u.heap.size u W → Kd.C Kd.string W A3 j (out.take j)) := ⟨fun W hW => by have h9 := Kd.C_take (m := j) (Kd.C_below HR3.out hW) hjo; rwa [List.length_take, Nat.min_eq_left hjo] at h9⟩
          have HRD : Aside0 (∀ W : World, Below u.heap.size u W → Kd.C Kd.string W AD (out.length - j) (out.drop j)) := ⟨fun W hW => by have h9 := Kd.C_of_reads (h1 := fun _ => rfl) (hAD _ (Kd.reads_of_C (Kd.C_below HR3.out hW))); rwa [List.length_drop] at h9⟩
          have HJL : Aside0 (j ≤ 150 ∧ out.length ≤ 150) := ⟨by have := HN.out; have := HI.out; have := HOL.out; omega⟩
          clear hjo hAD hCD
          rw [List.length_drop] at hcutD
          refine start_ (n := 16) (S := fun w' => w'.cell? (ad0.add i) = some (.string s)) (ds := []) #[false, false, false, false, false, false, false, false, false, false, false, false, false, false, false, false] (by kernel_rfl) rfl rfl ((HC0.out _ (by repeat (first | exact HX.out | apply pw_below_drewN | apply below_drew1)))) (fun hHeld => ?_)
          refine pure_ (i := 1) (N := some 46) (v := ?_) (a' := ?_) #[false, true, false, false, false, false, false, false, false, false, false, false, false, false, false, false] rfl rfl (by kernel_rfl) (fun _ _ _ h => h) (Or.inl ⟨by rfl, ?_⟩) ?_ ?_
          rotate_left
          · intro w'
            go_simp
            with_reducible rfl
          rotate_left
          · simp only [Act.put, List.setIfInBounds_toArray, List.set_cons_zero, List.set_cons_succ, i64_w, i32_w]
            rfl
          refine pure_ (i := 2) (N := some 47) (v := ?_) (a' := ?_) #[false, true, true, false, false, false, false, false, false, false, false, false, false, false, false, false] rfl rfl (by kernel_rfl) (fun _ _ _ h => h) (Or.inl ⟨by rfl, ?_⟩) ?_ ?_
          rotate_left
          · intro w'
            go_simp
            with_reducible rfl
          rotate_left
          · simp only [Act.put, List.setIfInBounds_toArray, List.set_cons_zero, List.set_cons_succ, i64_w, i32_w]
            rfl
          refine pure_ (i := 3) (N := some 48) (v := ?_) (a' := ?_) #[false, true, true, true, false, false, false, false, false, false, false, false, false, false, false, false] rfl rfl (by kernel_rfl) (fun _ _ _ h => h) (Or.inl ⟨by rfl, ?_⟩) ?_ ?_
          rotate_left
          · intro w'
            go_simp
            with_reducible rfl
          rotate_left
          · simp only [Act.put, List.setIfInBounds_toArray, List.set_cons_zero, List.set_cons_succ, i64_w, i32_w]
            rfl
          refine pure_ (i := 5) (N := some 50) (v := ?_) (a' := ?_) #[false, true, true, true, false, true, false, false, false, false, false, false, false, false, false, false] rfl rfl (by kernel_rfl) (fun _ _ _ h => h) (Or.inl ⟨by rfl, ?_⟩) ?_ ?_
          rotate_left
          · intro w'
            go_simp
            with_reducible rfl
          rotate_left
          · simp only [Act.put, List.setIfInBounds_toArray, List.set_cons_zero, List.set_cons_succ, i64_w, i32_w]
            rfl
          refine pure_ (i := 6) (N := some 51) (v := ?_) (a' := ?_) #[false, true, true, true, false, true, true, false, false, false, false, false, false, false, false, false] rfl rfl (by kernel_rfl) (fun _ _ _ h => h) (Or.inl ⟨by rfl, ?_⟩) ?_ ?_
          rotate_left
          · intro w'
            go_simp
            with_reducible rfl
          rotate_left
          · simp only [Act.put, List.setIfInBounds_toArray, List.set_cons_zero, List.set_cons_succ, i64_w, i32_w]
            rfl
          refine pure_ (i := 7) (N := some 52) (v := ?_) (a' := ?_) #[false, true, true, true, false, true, true, true, false, false, false, false, false, false, false, false] rfl rfl (by kernel_rfl) (fun _ _ _ h => h) (Or.inl ⟨by rfl, ?_⟩) ?_ ?_
          rotate_left
          · intro w'
            go_simp
            with_reducible rfl
          rotate_left
          · simp only [Act.put, List.setIfInBounds_toArray, List.set_cons_zero, List.set_cons_succ, i64_w, i32_w]
            rfl
          refine pure_ (i := 11) (N := some 56) (v := ?_) (a' := ?_) #[false, true, true, true, false, true, true, true, false, false, false, true, false, false, false, false] rfl rfl (by kernel_rfl) (fun _ _ _ h => h) (Or.inl ⟨by rfl, ?_⟩) ?_ ?_
          rotate_left
          · intro w'
            go_simp
            with_reducible rfl
          rotate_left
          · simp only [Act.put, List.setIfInBounds_toArray, List.set_cons_zero, List.set_cons_succ, i64_w, i32_w]
            rfl
          refine pure_ (i := 12) (N := some 57) (v := ?_) (a' := ?_) #[false, true, true, true, false, true, true, true, false, false, false, true, true, false, false, false] rfl rfl (by kernel_rfl) (fun _ _ _ h => h) (Or.inl ⟨by rfl, ?_⟩) ?_ ?_
          rotate_left
          · intro w'
            go_simp
            with_reducible rfl
          rotate_left
          · simp only [Act.put, List.setIfInBounds_toArray, List.set_cons_zero, List.set_cons_succ, i64_w, i32_w]
            rfl
          refine pure_ (i := 13) (N := some 58) (v := ?_) (a' := ?_) #[false, true, true, true, false, true, true, true, false, false, false, true, true, true, false, false] rfl rfl (by kernel_rfl) (fun _ _ _ h => h) (Or.inl ⟨by rfl, ?_⟩) ?_ ?_
          rotate_left
          · intro w'
            go_simp
            with_reducible rfl
          rotate_left
          · simp only [Act.put, List.setIfInBounds_toArray, List.set_cons_zero, List.set_cons_succ, i64_w, i32_w]
            rfl
          refine take_ (i := 8) (N := some 53) (v := ?_) (a' := ?_) #[false, true, true, true, false, true, true, true, true, false, false, true, true, true, false, false] rfl rfl (by kernel_rfl) (fun _ _ _ h => h) (Or.inl ⟨by rfl, ?_⟩) hHeld ?_ ?_
          rotate_left
          · intro w' s0
            go_simp
            with_reducible rfl
          rotate_left
          · simp only [Act.put, List.setIfInBounds_toArray, List.set_cons_zero, List.set_cons_succ, i64_w, i32_w]
            rfl
          refine join_ (σ := Value × Value × Value) 3 #[true, true, true, true, true, true, true, true, true, true, false, true, true, true, false, false] (fun s => [(45, s.1), (49, s.2.1), (54, s.2.2)]) (fun q w' => Kd.R Kd.string 9 w' u.heap.size (fun _ => True) q.2.1 (out.take j) ∧ Kd.R Kd.string 9 w' u.heap.size (fun _ => True) q.2.2 [s] ∧ Below u.heap.size u w') ?_ ?_
          rotate_left
          · intro hCont
            refine two_ (i := 0) (j := 9) (Ni := some 45) (Nj := some 54) #[true, true, true, true, false, true, true, true, true, false, false, true, true, true, false, false] #[false, true, true, true, false, true, true, true, true, true, false, true, true, true, false, false] rfl rfl rfl rfl (by kernel_rfl) (by decide) (by decide) (fun K hK => ?_) (fun K hK => ?_)
            · skip
              refine R_lit_step_ Kd.string (w0 := u) u.heap.size 9 (by rfl) (N := 45) rfl (xs := ([] : List ByteArray)) (inner := []) (ok := fun _ => True) (okp := fun _ => True) ?hr0 ?hp0 (fun _ _ => trivial) trivial ?hB0 (.inl rfl) (by simp) ?_
              case hr0 => first | (go_simp; done) | (go_simp; rfl)
              case hp0 => exact Reps.none _ _
              case hB0 => repeat (first | exact HX.out | apply pw_below_drewN | apply below_drew1)
              intro v45 w45 ho hb hg hat
              have HO45 := Aside0.mk ho
              have HB45 := Aside0.mk hb
              clear ho hb hg hat
              refine hK.out _ _ ((HC0.out _ HB45.out)) (fun hHeld => ?_)
              clear hK K
              refine norm_ (a' := ?_) ?_ ?_
              rotate_left
              · show Act.put _ (some 45) _ = _
                simp only [Act.put, List.setIfInBounds_toArray, List.set_cons_zero, List.set_cons_succ, i64_w, i32_w]
                rfl
              refine two_ (i := 4) (j := 9) (Ni := some 49) (Nj := some 54) #[true, true, true, true, true, true, true, true, true, false, false, true, true, true, false, false] #[true, true, true, true, false, true, true, true, true, true, false, true, true, true, false, false] rfl rfl rfl rfl (by kernel_rfl) (by decide) (by decide) (fun K hK => ?_) (fun K hK => ?_)
              · skip
                refine Kd.R_append_rows_step (Kd.string) (w0 := u) u.heap.size (by rfl) (.tmp 45) (.tmp 48) 22 9 (.string ⟨#[]⟩) 16 (by rfl) Try.underlying22 infoS rfl (by decide) (by omega) v45 [] (out.take j) A3 j c3 (fun _ => True) (fun _ => False) rfl rfl ?aO ?aR (fun _ _ h => h) (fun _ h => h.elim) ?aF ?aB ?aS ?aL ?_
                case aO => exact HO45.out
                case aR => exact (HR3T.out _ HB45.out)
                case aF => exact (fun _ _ => trivial)
                case aB => exact HB45.out
                case aS => exact below_size HB45.out
                case aL => have h9 := HJL.out; simp; omega
                intro v49 w49 ho hb hg hat
                rw [List.nil_append] at ho
                have HO49 := Aside0.mk ho
                have HB49 := Aside0.mk hb
                clear ho hb hg hat
                refine hK.out _ _ ((HC0.out _ HB49.out)) (fun hHeld => ?_)
                clear hK K
                refine norm_ (a' := ?_) ?_ ?_
                rotate_left
                · show Act.put _ (some 49) _ = _
                  simp only [Act.put, List.setIfInBounds_toArray, List.set_cons_zero, List.set_cons_succ, i64_w, i32_w]
                  rfl
                refine one_ (i := 9) (N := some 54) #[true, true, true, true, true, true, true, true, true, true, false, true, true, true, false, false] rfl rfl (by kernel_rfl) (by decide) (fun K hK => ?_)
                refine R_lit_step_ Kd.string (w0 := u) u.heap.size 9 (by rfl) (N := 54) rfl (xs := [s]) (inner := [.string s]) (ok := fun _ => True) (okp := fun _ => True) ?hr9 ?hp9 (fun _ _ => trivial) trivial ?hB9 (.inl rfl) (by simp) ?_
                case hr9 => first | (go_simp; done) | (go_simp; rfl)
                case hp9 => exact (Reps.one rfl (Reps.none _ _))
                case hB9 => exact HB49.out
                intro v54 w54 ho hb hg hat
                have HO54 := Aside0.mk ho
                have HB54 := Aside0.mk hb
                have HO49b := Aside0.mk (Kd.R_grown2 HO49.out rfl hg (by simp))
                clear ho hb hg hat
                refine hK.out _ _ ((HC0.out _ HB54.out)) (fun hHeld => ?_)
                clear hK K
                refine norm_ (a' := ?_) ?_ ?_
                rotate_left
                · show Act.put _ (some 54) _ = _
                  simp only [Act.put, List.setIfInBounds_toArray, List.set_cons_zero, List.set_cons_succ, i64_w, i32_w]
                  rfl
                exact norm_ (by simp only [putAll, Act.put, List.setIfInBounds_toArray, List.set_cons_zero, List.set_cons_succ]) (hCont (v45, v49, v54) _ ⟨HO49b.out, HO54.out, HB54.out⟩)
              · skip
                refine R_lit_step_ Kd.string (w0 := u) u.heap.size 9 (by rfl) (N := 54) rfl (xs := [s]) (inner := [.string s]) (ok := fun _ => True) (okp := fun _ => True) ?hr9 ?hp9 (fun _ _ => trivial) trivial ?hB9 (.inl rfl) (by simp) ?_
                case hr9 => first | (go_simp; done) | (go_simp; rfl)
                case hp9 => exact (Reps.one rfl (Reps.none _ _))
                case hB9 => exact HB45.out
                intro v54 w54 ho hb hg hat
                have HO54 := Aside0.mk ho
                have HB54 := Aside0.mk hb
                have HO45b := Aside0.mk (Kd.R_grown2 HO45.out rfl hg (by simp))
                have NE := Aside0.mk (show ∀ k, v45.ownBlock = some k → some k ≠ v54.ownBlock from fun k hk he => by have h1 := Kd.R_lt HO45.out k hk; obtain ⟨b, e, h2⟩ := hat; rw [e] at he; injection he with he; omega)
                clear ho hb hg hat
                refine hK.out _ _ ((HC0.out _ HB54.out)) (fun hHeld => ?_)
                clear hK K
                refine norm_ (a' := ?_) ?_ ?_
                rotate_left
                · show Act.put _ (some 54) _ = _
                  simp only [Act.put, List.setIfInBounds_toArray, List.set_cons_zero, List.set_cons_succ, i64_w, i32_w]
                  rfl
                refine one_ (i := 4) (N := some 49) #[true, true, true, true, true, true, true, true, true, true, false, true, true, true, false, false] rfl rfl (by kernel_rfl) (by decide) (fun K hK => ?_)
                refine Kd.R_append_rows_step (Kd.string) (w0 := u) u.heap.size (by rfl) (.tmp 45) (.tmp 48) 22 9 (.string ⟨#[]⟩) 16 (by rfl) Try.underlying22 infoS rfl (by decide) (by omega) v45 [] (out.take j) A3 j c3 (fun _ => True) (fun _ => False) rfl rfl ?aO ?aR (fun _ _ h => h) (fun _ h => h.elim) ?aF ?aB ?aS ?aL ?_
                case aO => exact HO45b.out
                case aR => exact (HR3T.out _ HB54.out)
                case aF => exact (fun _ _ => trivial)
                case aB => exact HB54.out
                case aS => exact below_size HB54.out
                case aL => have h9 := HJL.out; simp; omega
                intro v49 w49 ho hb hg hat
                rw [List.nil_append] at ho
                have HO49 := Aside0.mk ho
                have HB49 := Aside0.mk hb
                have HO54c := Aside0.mk (Kd.R_grown2 HO54.out rfl hg NE.out)
                clear ho hb hg hat
                refine hK.out _ _ ((HC0.out _ HB49.out)) (fun hHeld => ?_)
                clear hK K
                refine norm_ (a' := ?_) ?_ ?_
                rotate_left
                · show Act.put _ (some 49) _ = _
                  simp only [Act.put, List.setIfInBounds_toArray, List.set_cons_zero, List.set_cons_succ, i64_w, i32_w]
                  rfl
                exact norm_ (by simp only [putAll, Act.put, List.setIfInBounds_toArray, List.set_cons_zero, List.set_cons_succ]) (hCont (v45, v49, v54) _ ⟨HO49.out, HO54c.out, HB49.out⟩)
            · skip
              refine R_lit_step_ Kd.string (w0 := u) u.heap.size 9 (by rfl) (N := 54) rfl (xs := [s]) (inner := [.string s]) (ok := fun _ => True) (okp := fun _ => True) ?hr9 ?hp9 (fun _ _ => trivial) trivial ?hB9 (.inl rfl) (by simp) ?_
              case hr9 => first | (go_simp; done) | (go_simp; rfl)
              case hp9 => exact (Reps.one rfl (Reps.none _ _))
              case hB9 => repeat (first | exact HX.out | apply pw_below_drewN | apply below_drew1)
              intro v54 w54 ho hb hg hat
              have HO54 := Aside0.mk ho
              have HB54 := Aside0.mk hb
              clear ho hb hg hat
              refine hK.out _ _ ((HC0.out _ HB54.out)) (fun hHeld => ?_)
              clear hK K
              refine norm_ (a' := ?_) ?_ ?_
              rotate_left
              · show Act.put _ (some 54) _ = _
                simp only [Act.put, List.setIfInBounds_toArray, List.set_cons_zero, List.set_cons_succ, i64_w, i32_w]
                rfl
              refine one_ (i := 0) (N := some 45) #[true, true, true, true, false, true, true, true, true, true, false, true, true, true, false, false] rfl rfl (by kernel_rfl) (by decide) (fun K hK => ?_)
              refine R_lit_step_ Kd.string (w0 := u) u.heap.size 9 (by rfl) (N := 45) rfl (xs := ([] : List ByteArray)) (inner := []) (ok := fun _ => True) (okp := fun _ => True) ?hr0 ?hp0 (fun _ _ => trivial) trivial ?hB0 (.inl rfl) (by simp) ?_
              case hr0 => first | (go_simp; done) | (go_simp; rfl)
              case hp0 => exact Reps.none _ _
              case hB0 => exact HB54.out
              intro v45 w45 ho hb hg hat
              have HO45 := Aside0.mk ho
              have HB45 := Aside0.mk hb
              have HO54b := Aside0.mk (Kd.R_grown2 HO54.out rfl hg (by simp))
              have NE := Aside0.mk (show ∀ k, v45.ownBlock = some k → some k ≠ v54.ownBlock from fun k hk he => by have h1 := Kd.R_lt HO54.out k he.symm; obtain ⟨b, e, h2⟩ := hat; rw [e] at hk; injection hk with hk; omega)
              clear ho hb hg hat
              refine hK.out _ _ ((HC0.out _ HB45.out)) (fun hHeld => ?_)
              clear hK K
              refine norm_ (a' := ?_) ?_ ?_
              rotate_left
              · show Act.put _ (some 45) _ = _
                simp only [Act.put, List.setIfInBounds_toArray, List.set_cons_zero, List.set_cons_succ, i64_w, i32_w]
                rfl
              refine one_ (i := 4) (N := some 49) #[true, true, true, true, true, true, true, true, true, true, false, true, true, true, false, false] rfl rfl (by kernel_rfl) (by decide) (fun K hK => ?_)
              refine Kd.R_append_rows_step (Kd.string) (w0 := u) u.heap.size (by rfl) (.tmp 45) (.tmp 48) 22 9 (.string ⟨#[]⟩) 16 (by rfl) Try.underlying22 infoS rfl (by decide) (by omega) v45 [] (out.take j) A3 j c3 (fun _ => True) (fun _ => False) rfl rfl ?aO ?aR (fun _ _ h => h) (fun _ h => h.elim) ?aF ?aB ?aS ?aL ?_
              case aO => exact HO45.out
              case aR => exact (HR3T.out _ HB45.out)
              case aF => exact (fun _ _ => trivial)
              case aB => exact HB45.out
              case aS => exact below_size HB45.out
              case aL => have h9 := HJL.out; simp; omega
              intro v49 w49 ho hb hg hat
              rw [List.nil_append] at ho
              have HO49 := Aside0.mk ho
              have HB49 := Aside0.mk hb
              have HO54c := Aside0.mk (Kd.R_grown2 HO54b.out rfl hg NE.out)
              clear ho hb hg hat
              refine hK.out _ _ ((HC0.out _ HB49.out)) (fun hHeld => ?_)
              clear hK K
              refine norm_ (a' := ?_) ?_ ?_
              rotate_left
              · show Act.put _ (some 49) _ = _
                simp only [Act.put, List.setIfInBounds_toArray, List.set_cons_zero, List.set_cons_succ, i64_w, i32_w]
                rfl
              exact norm_ (by simp only [putAll, Act.put, List.setIfInBounds_toArray, List.set_cons_zero, List.set_cons_succ]) (hCont (v45, v49, v54) _ ⟨HO49.out, HO54c.out, HB49.out⟩)
          rintro ⟨x45, x49, x54⟩ w9 ⟨ho9, hr9, hb9⟩
          dsimp only at ho9 hr9
          have HO9 := Aside0.mk ho9
          obtain ⟨A54, c54, hx54, hl54, hr54⟩ := Kd.R_reads hr9
          subst hx54
          have HR54 := Aside0.mk hr54
          have HB9 := Aside0.mk hb9
          clear ho9 hr9 hb9 hl54 hr54
          have hHeld : w9.cell? (ad0.add i) = some (.string s) := HC0.out _ HB9.out
          refine norm_ (a' := ?_) ?_ ?_
          rotate_left
          · simp only [putAll, Act.put, List.setIfInBounds_toArray, List.set_cons_zero, List.set_cons_succ]
            rfl
          refine one_ (i := 10) (N := some 55) #[true, true, true, true, true, true, true, true, true, true, true, true, true, true, false, false] rfl rfl (by kernel_rfl) (by decide) (fun K hK => ?_)
          refine Kd.R_append_rows_step (Kd.string) (w0 := u) u.heap.size (by rfl) (.tmp 49) (.tmp 54) 22 9 (.string ⟨#[]⟩) 16 (by rfl) Try.underlying22 infoS rfl (by decide) (by omega) x49 (out.take j) [s] A54 1 c54 (fun _ => True) (fun _ => False) rfl rfl ?bO ?bR (fun _ _ h => h) (fun _ h => h.elim) ?bF ?bB ?bS ?bL ?_
          case bO => exact HO9.out
          case bR => exact HR54.out
          case bF => exact (fun _ _ => trivial)
          case bB => exact HB9.out
          case bS => exact below_size HB9.out
          case bL => have h9 := HJL.out; simp; omega
          intro v55 w55 ho hb hg hat
          have HO55 := Aside0.mk ho
          have HB55 := Aside0.mk hb
          clear ho hb hg hat
          refine hK.out _ _ ((HC0.out _ HB55.out)) (fun hHeld => ?_)
          clear hK K
          refine norm_ (a' := ?_) ?_ ?_
          rotate_left
          · show Act.put _ (some 55) _ = _
            simp only [Act.put, List.setIfInBounds_toArray, List.set_cons_zero, List.set_cons_succ, i64_w, i32_w]
            rfl
          refine one_ (i := 14) (N := some 59) #[true, true, true, true, true, true, true, true, true, true, true, true, true, true, true, false] rfl rfl (by kernel_rfl) (by decide) (fun K hK => ?_)
          refine Kd.R_append_rows_step (Kd.string) (w0 := u) u.heap.size (by rfl) (.tmp 55) (.tmp 58) 22 9 (.string ⟨#[]⟩) 16 (by rfl) Try.underlying22 infoS rfl (by decide) (by omega) v55 (out.take j ++ [s]) (out.drop j) AD (out.length - j) (c3 - j) (fun _ => True) (fun _ => False) rfl rfl ?dO ?dR (fun _ _ h => h) (fun _ h => h.elim) ?dF ?dB ?dS ?dL ?_
          case dO => exact HO55.out
          case dR => exact (HRD.out _ HB55.out)
          case dF => exact (fun _ _ => trivial)
          case dB => exact HB55.out
          case dS => exact below_size HB55.out
          case dL => have h9 := HJL.out; simp; omega
          intro v59 w59 ho hb hg hat
          have HO59 := Aside0.mk ho
          have HB59 := Aside0.mk hb
          clear ho hb hg hat
          refine hK.out _ _ ((HC0.out _ HB59.out)) (fun hHeld => ?_)
          clear hK K
          refine norm_ (a' := ?_) ?_ ?_
          rotate_left
          · show Act.put _ (some 59) _ = _
            simp only [Act.put, List.setIfInBounds_toArray, List.set_cons_zero, List.set_cons_succ, i64_w, i32_w]
            rfl
          refine pure_ (i := 15) (N := some 3) (v := ?_) (a' := ?_) #[true, true, true, true, true, true, true, true, true, true, true, true, true, true, true, true] rfl rfl (by kernel_rfl) (fun _ _ _ h => h) (Or.inl ⟨by rfl, ?_⟩) ?_ ?_
          rotate_left
          · intro w'
            go_simp
            with_reducible rfl
          rotate_left
          · simp only [Act.put, List.setIfInBounds_toArray, List.set_cons_zero, List.set_cons_succ, i64_w, i32_w]
            rfl
          refine done_ (by kernel_rfl) ?_
          go_wp2_with fail
          go_roundg k1
          case measure => omega
          case rel => exact ⟨i + 1, out.take j ++ [s] ++ out.drop j, by first | rfl | (rw [HI1.out]), ⟨by have := HI.out; omega⟩, ⟨by have := HOL.out; simp; omega⟩, ⟨by
            intro x hx
            rcases List.mem_append.1 hx with h | h
            · rcases List.mem_append.1 h with h | h
              · exact HOZ.out x (List.mem_of_mem_take h)
              · rw [List.mem_singleton.1 h]; exact HZ.out s HSM.out
            · exact HOZ.out x (List.mem_of_mem_drop h)⟩, ⟨Kd.R_lower HO59.out (below_size HB.out)⟩, ⟨HB.out.trans (HB59.out.mono (below_size HB.out))⟩⟩
        | succ k2 =>
          have hj : j < out.length := by have := HJ.out; omega
          have tj : decide ((j : Int) < (out.length : Int)) = true := decide_eq_true (by omega)
          have tj2 : decide (j < out.length) = true := decide_eq_true (by omega)
          have p3 : ((0 : Int) ≤ (j : Int)) = True := eq_true (by omega)
          have q3 : ((j : Int) < (out.length : Int)) = True := eq_true (by omega)
          have q3n : (j < out.length) = True := eq_true hj
          obtain ⟨ad3, e3, hx3⟩ := Kd.at_string HR3.out (j : Int) (by omega) (by omega)
          subst e3
          obtain ⟨x3, hx3e⟩ : ∃ s, s = at_ out j := ⟨_, rfl⟩
          have HXM : Aside0 (x3 ∈ out) := ⟨by rw [hx3e]; unfold at_; simp [hj]⟩
          have HC3 : Aside0 (∀ W : World, Below u.heap.size u W → W.cell? (ad3.add j) = some (.string x3)) := ⟨fun W hW => by
            rw [Int.toNat_natCast] at hx3
            rw [hW.cell (World.block_lt_of_cell? u _ hx3), hx3, hx3e, at_rd]⟩
          obtain ⟨kc, hkc⟩ := (rc_f x3 s (by have := HOZ.out _ HXM.out; omega) (by have := HZ.out _ HSM.out; omega)).rounds
          obtain ⟨cr, hcr⟩ : ∃ c, c = cs x3 s := ⟨_, rfl⟩
          rw [← hcr] at hkc
          have HKC := Aside0.mk hkc
          have HJ1 : Aside0 (wrap64 ((j : Int) + 1) = ((j + 1 : Nat) : Int)) := ⟨by unfold wrap64; have := HN.out; have := HI.out; have := HOL.out; omega⟩
          clear hj hx3 hx3e hkc hcr
          go_wp2_with fail
          refine start_ (n := 16) (S := fun w' => w'.cell? (ad3.add j) = some (.string x3) ∧ w'.cell? (ad0.add i) = some (.string s)) (ds := []) #[false, false, false, false, false, false, false, false, false, false, false, false, false, false, false, false] (by kernel_rfl) rfl rfl ⟨(HC3.out _ (HBR0.out)), (HC0.out _ (HBR0.out))⟩ (fun hHeld => ?_)
          refine pure_ (i := 0) (N := some 12) (v := ?_) (a' := ?_) #[true, false, false, false, false, false, false, false, false, false, false, false, false, false, false, false] rfl rfl (by kernel_rfl) (fun _ _ _ h => h) (Or.inl ⟨by rfl, ?_⟩) ?_ ?_
          rotate_left
          · intro w'
            go_simp
            with_reducible rfl
          rotate_left
          · simp only [Act.put, List.setIfInBounds_toArray, List.set_cons_zero, List.set_cons_succ, i64_w, i32_w]
            rfl
          refine pure_ (i := 1) (N := some 13) (v := ?_) (a' := ?_) #[true, true, false, false, false, false, false, false, false, false, false, false, false, false, false, false] rfl rfl (by kernel_rfl) (fun _ _ _ h => h) (Or.inl ⟨by rfl, ?_⟩) ?_ ?_
          rotate_left
          · intro w'
            go_simp
            with_reducible rfl
          rotate_left
          · simp only [Act.put, List.setIfInBounds_toArray, List.set_cons_zero, List.set_cons_succ, i64_w, i32_w]
            rfl
          refine pure_ (i := 2) (N := some 14) (v := ?_) (a' := ?_) #[true, true, true, false, false, false, false, false, false, false, false, false, false, false, false, false] rfl rfl (by kernel_rfl) (fun _ _ _ h => h) (Or.inl ⟨by rfl, ?_⟩) ?_ ?_
          rotate_left
          · intro w'
            go_simp
            with_reducible rfl
          rotate_left
          · simp only [Act.put, List.setIfInBounds_toArray, List.set_cons_zero, List.set_cons_succ, i64_w, i32_w]
            rfl
          refine pure_ (i := 3) (N := some 15) (v := ?_) (a' := ?_) #[true, true, true, true, false, false, false, false, false, false, false, false, false, false, false, false] rfl rfl (by kernel_rfl) (fun _ _ _ h => h) (Or.inl ⟨by rfl, ?_⟩) ?_ ?_
          rotate_left
          · intro w'
            go_simp
            with_reducible rfl
          rotate_left
          · simp only [Act.put, List.setIfInBounds_toArray, List.set_cons_zero, List.set_cons_succ, i64_w, i32_w]
            rfl
          refine pure_ (i := 4) (N := some 16) (v := ?_) (a' := ?_) #[true, true, true, true, true, false, false, false, false, false, false, false, false, false, false, false] rfl rfl (by kernel_rfl) (fun _ _ _ h => h) (Or.inl ⟨by rfl, ?_⟩) ?_ ?_
          rotate_left
          · intro w'
            go_simp
            with_reducible rfl
          rotate_left
          · simp only [Act.put, List.setIfInBounds_toArray, List.set_cons_zero, List.set_cons_succ, i64_w, i32_w]
            rfl
          refine pure_ (i := 5) (N := some 17) (v := ?_) (a' := ?_) #[true, true, true, true, true, true, false, false, false, false, false, false, false, false, false, false] rfl rfl (by kernel_rfl) (fun _ _ _ h => h) (Or.inl ⟨by rfl, ?_⟩) ?_ ?_
          rotate_left
          · intro w'
            go_simp
            with_reducible rfl
          rotate_left
          · simp only [Act.put, List.setIfInBounds_toArray, List.set_cons_zero, List.set_cons_succ, i64_w, i32_w]
            rfl
          refine pure_ (i := 6) (N := some 18) (v := ?_) (a' := ?_) #[true, true, true, true, true, true, true, false, false, false, false, false, false, false, false, false] rfl rfl (by kernel_rfl) (fun _ _ _ h => h) (Or.inl ⟨by rfl, ?_⟩) ?_ ?_
          rotate_left
          · intro w'
            go_simp
            with_reducible rfl
          rotate_left
          · simp only [Act.put, List.setIfInBounds_toArray, List.set_cons_zero, List.set_cons_succ, i64_w, i32_w]
            rfl
          refine pure_ (i := 7) (N := some 19) (v := ?_) (a' := ?_) #[true, true, true, true, true, true, true, true, false, false, false, false, false, false, false, false] rfl rfl (by kernel_rfl) (fun _ _ _ h => h) (Or.inl ⟨by rfl, ?_⟩) ?_ ?_
          rotate_left
          · intro w'
            go_simp
            with_reducible rfl
          rotate_left
          · simp only [Act.put, List.setIfInBounds_toArray, List.set_cons_zero, List.set_cons_succ, i64_w, i32_w]
            rfl
          refine pure_ (i := 9) (N := some 21) (v := ?_) (a' := ?_) #[true, true, true, true, true, true, true, true, false, true, false, false, false, false, false, false] rfl rfl (by kernel_rfl) (fun _ _ _ h => h) (Or.inl ⟨by rfl, ?_⟩) ?_ ?_
          rotate_left
          · intro w'
            go_simp
            with_reducible rfl
          rotate_left
          · simp only [Act.put, List.setIfInBounds_toArray, List.set_cons_zero, List.set_cons_succ, i64_w, i32_w]
            rfl
          refine pure_ (i := 10) (N := some 22) (v := ?_) (a' := ?_) #[true, true, true, true, true, true, true, true, false, true, true, false, false, false, false, false] rfl rfl (by kernel_rfl) (fun _ _ _ h => h) (Or.inl ⟨by rfl, ?_⟩) ?_ ?_
          rotate_left
          · intro w'
            go_simp
            with_reducible rfl
          rotate_left
          · simp only [Act.put, List.setIfInBounds_toArray, List.set_cons_zero, List.set_cons_succ, i64_w, i32_w]
            rfl
          refine pure_ (i := 11) (N := some 23) (v := ?_) (a' := ?_) #[true, true, true, true, true, true, true, true, false, true, true, true, false, false, false, false] rfl rfl (by kernel_rfl) (fun _ _ _ h => h) (Or.inl ⟨by rfl, ?_⟩) ?_ ?_
          rotate_left
          · intro w'
            go_simp
            with_reducible rfl
          rotate_left
          · simp only [Act.put, List.setIfInBounds_toArray, List.set_cons_zero, List.set_cons_succ, i64_w, i32_w]
            rfl
          refine take_ (i := 8) (N := some 20) (v := ?_) (a' := ?_) #[true, true, true, true, true, true, true, true, true, true, true, true, false, false, false, false] rfl rfl (by kernel_rfl) (fun _ _ _ h => h) (Or.inl ⟨by rfl, ?_⟩) hHeld ?_ ?_
          rotate_left
          · rintro w' ⟨s0, s1⟩
            go_simp
            with_reducible rfl
          rotate_left
          · simp only [Act.put, List.setIfInBounds_toArray, List.set_cons_zero, List.set_cons_succ, i64_w, i32_w]
            rfl
          refine take_ (i := 12) (N := some 24) (v := ?_) (a' := ?_) #[true, true, true, true, true, true, true, true, true, true, true, true, true, false, false, false] rfl rfl (by kernel_rfl) (fun _ _ _ h => h) (Or.inl ⟨by rfl, ?_⟩) hHeld ?_ ?_
          rotate_left
          · rintro w' ⟨s0, s1⟩
            go_simp
            with_reducible rfl
          rotate_left
          · simp only [Act.put, List.setIfInBounds_toArray, List.set_cons_zero, List.set_cons_succ, i64_w, i32_w]
            rfl
          refine one_ (i := 13) (N := some 25) #[true, true, true, true, true, true, true, true, true, true, true, true, true, true, false, false] rfl rfl (by kernel_rfl) (by decide) (fun K hK => ?_)
          refine goes_ Try.func31 (by kernel_rfl) rfl #[.string x3, .string s] (by rfl) rfl rfl (by simp only [List.map_toArray, List.map_cons, List.map_nil]; rfl) ?_
          with_reducible refine (hopperref07_Compare.calls kc x3 s cr _ HKC.out).mono ?_
          rintro e w8 ⟨rfl, n8, rfl⟩
          refine ⟨_, rfl, ?_⟩
          refine hK.out _ _ ⟨(HC3.out _ (HBR.out n8)), (HC0.out _ (HBR.out n8))⟩ (fun hHeld => ?_)
          clear hK K
          refine norm_ (a' := ?_) ?_ ?_
          rotate_left
          · show Act.put _ (some 25) _ = _
            simp only [Act.put, List.setIfInBounds_toArray, List.set_cons_zero, List.set_cons_succ, i64_w, i32_w]
            rfl
          refine pure_ (i := 14) (N := some 26) (v := ?_) (a' := ?_) #[true, true, true, true, true, true, true, true, true, true, true, true, true, true, true, false] rfl rfl (by kernel_rfl) (fun _ _ _ h => h) (Or.inl ⟨by rfl, ?_⟩) ?_ ?_
          rotate_left
          · intro w'
            go_simp
            with_reducible rfl
          rotate_left
          · simp only [Act.put, List.setIfInBounds_toArray, List.set_cons_zero, List.set_cons_succ, i64_w, i32_w]
            rfl
          refine pure_ (i := 15) (N := some 27) (v := ?_) (a' := ?_) #[true, true, true, true, true, true, true, true, true, true, true, true, true, true, true, true] rfl rfl (by kernel_rfl) (fun _ _ _ h => h) (Or.inl ⟨by rfl, ?_⟩) ?_ ?_
          rotate_left
          · intro w'
            go_simp
            with_reducible rfl
          rotate_left
          · simp only [Act.put, List.setIfInBounds_toArray, List.set_cons_zero, List.set_cons_succ, i64_w, i32_w]
            rfl
          refine done_ (by kernel_rfl) ?_
          by_cases hcr : cr < 0
          · have tc : decide (cr < 0) = true := decide_eq_true hcr
            rw [tc]
            go_wp2_with fail
            go_roundg k2
            case measure => omega
            case rel => exact ⟨j + 1, by first | rfl | (rw [HJ1.out]), ⟨by have := HJ.out; omega⟩, ⟨by repeat (first | exact HX.out | apply pw_below_drewN | apply below_drew1)⟩⟩
          have tc : decide (cr < 0) = false := decide_eq_false hcr
          rw [tc]
          clear hcr
          go_wp2_with fail
          refine start_ (n := 15) (S := fun w' => w'.cell? (ad3.add j) = some (.string x3) ∧ w'.cell? (ad0.add i) = some (.string s)) (ds := []) #[false, false, false, false, false, false, false, false, false, false, false, false, false, false, false] (by kernel_rfl) rfl rfl ⟨(HC3.out _ (by repeat (first | exact HX.out | apply pw_below_drewN | apply below_drew1))), (HC0.out _ (by repeat (first | exact HX.out | apply pw_below_drewN | apply below_drew1)))⟩ (fun hHeld => ?_)
          refine pure_ (i := 0) (N := some 30) (v := ?_) (a' := ?_) #[true, false, false, false, false, false, false, false, false, false, false, false, false, false, false] rfl rfl (by kernel_rfl) (fun _ _ _ h => h) (Or.inl ⟨by rfl, ?_⟩) ?_ ?_
          rotate_left
          · intro w'
            go_simp
            with_reducible rfl
          rotate_left
          · simp only [Act.put, List.setIfInBounds_toArray, List.set_cons_zero, List.set_cons_succ, i64_w, i32_w]
            rfl
          refine pure_ (i := 1) (N := some 31) (v := ?_) (a' := ?_) #[true, true, false, false, false, false, false, false, false, false, false, false, false, false, false] rfl rfl (by kernel_rfl) (fun _ _ _ h => h) (Or.inl ⟨by rfl, ?_⟩) ?_ ?_
          rotate_left
          · intro w'
            go_simp
            with_reducible rfl
          rotate_left
          · simp only [Act.put, List.setIfInBounds_toArray, List.set_cons_zero, List.set_cons_succ, i64_w, i32_w]
            rfl
          refine pure_ (i := 2) (N := some 32) (v := ?_) (a' := ?_) #[true, true, true, false, false, false, false, false, false, false, false, false, false, false, false] rfl rfl (by kernel_rfl) (fun _ _ _ h => h) (Or.inl ⟨by rfl, ?_⟩) ?_ ?_
          rotate_left
          · intro w'
            go_simp
            with_reducible rfl
          rotate_left
          · simp only [Act.put, List.setIfInBounds_toArray, List.set_cons_zero, List.set_cons_succ, i64_w, i32_w]
            rfl
          refine pure_ (i := 3) (N := some 33) (v := ?_) (a' := ?_) #[true, true, true, true, false, false, false, false, false, false, false, false, false, false, false] rfl rfl (by kernel_rfl) (fun _ _ _ h => h) (Or.inl ⟨by rfl, ?_⟩) ?_ ?_
          rotate_left
          · intro w'
            go_simp
            with_reducible rfl
          rotate_left
          · simp only [Act.put, List.setIfInBounds_toArray, List.set_cons_zero, List.set_cons_succ, i64_w, i32_w]
            rfl
          refine pure_ (i := 4) (N := some 34) (v := ?_) (a' := ?_) #[true, true, true, true, true, false, false, false, false, false, false, false, false, false, false] rfl rfl (by kernel_rfl) (fun _ _ _ h => h) (Or.inl ⟨by rfl, ?_⟩) ?_ ?_
          rotate_left
          · intro w'
            go_simp
            with_reducible rfl
          rotate_left
          · simp only [Act.put, List.setIfInBounds_toArray, List.set_cons_zero, List.set_cons_succ, i64_w, i32_w]
            rfl
          refine pure_ (i := 5) (N := some 35) (v := ?_) (a' := ?_) #[true, true, true, true, true, true, false, false, false, false, false, false, false, false, false] rfl rfl (by kernel_rfl) (fun _ _ _ h => h) (Or.inl ⟨by rfl, ?_⟩) ?_ ?_
          rotate_left
          · intro w'
            go_simp
            with_reducible rfl
          rotate_left
          · simp only [Act.put, List.setIfInBounds_toArray, List.set_cons_zero, List.set_cons_succ, i64_w, i32_w]
            rfl
          refine pure_ (i := 6) (N := some 36) (v := ?_) (a' := ?_) #[true, true, true, true, true, true, true, false, false, false, false, false, false, false, false] rfl rfl (by kernel_rfl) (fun _ _ _ h => h) (Or.inl ⟨by rfl, ?_⟩) ?_ ?_
          rotate_left
          · intro w'
            go_simp
            with_reducible rfl
          rotate_left
          · simp only [Act.put, List.setIfInBounds_toArray, List.set_cons_zero, List.set_cons_succ, i64_w, i32_w]
            rfl
          refine pure_ (i := 7) (N := some 37) (v := ?_) (a' := ?_) #[true, true, true, true, true, true, true, true, false, false, false, false, false, false, false] rfl rfl (by kernel_rfl) (fun _ _ _ h => h) (Or.inl ⟨by rfl, ?_⟩) ?_ ?_
          rotate_left
          · intro w'
            go_simp
            with_reducible rfl
          rotate_left
          · simp only [Act.put, List.setIfInBounds_toArray, List.set_cons_zero, List.set_cons_succ, i64_w, i32_w]
            rfl
          refine pure_ (i := 9) (N := some 39) (v := ?_) (a' := ?_) #[true, true, true, true, true, true, true, true, false, true, false, false, false, false, false] rfl rfl (by kernel_rfl) (fun _ _ _ h => h) (Or.inl ⟨by rfl, ?_⟩) ?_ ?_
          rotate_left
          · intro w'
            go_simp
            with_reducible rfl
          rotate_left
          · simp only [Act.put, List.setIfInBounds_toArray, List.set_cons_zero, List.set_cons_succ, i64_w, i32_w]
            rfl
          refine pure_ (i := 10) (N := some 40) (v := ?_) (a' := ?_) #[true, true, true, true, true, true, true, true, false, true, true, false, false, false, false] rfl rfl (by kernel_rfl) (fun _ _ _ h => h) (Or.inl ⟨by rfl, ?_⟩) ?_ ?_
          rotate_left
          · intro w'
            go_simp
            with_reducible rfl
          rotate_left
          · simp only [Act.put, List.setIfInBounds_toArray, List.set_cons_zero, List.set_cons_succ, i64_w, i32_w]
            rfl
          refine pure_ (i := 11) (N := some 41) (v := ?_) (a' := ?_) #[true, true, true, true, true, true, true, true, false, true, true, true, false, false, false] rfl rfl (by kernel_rfl) (fun _ _ _ h => h) (Or.inl ⟨by rfl, ?_⟩) ?_ ?_
          rotate_left
          · intro w'
            go_simp
            with_reducible rfl
          rotate_left
          · simp only [Act.put, List.setIfInBounds_toArray, List.set_cons_zero, List.set_cons_succ, i64_w, i32_w]
            rfl
          refine take_ (i := 8) (N := some 38) (v := ?_) (a' := ?_) #[true, true, true, true, true, true, true, true, true, true, true, true, false, false, false] rfl rfl (by kernel_rfl) (fun _ _ _ h => h) (Or.inl ⟨by rfl, ?_⟩) hHeld ?_ ?_
          rotate_left
          · rintro w' ⟨s0, s1⟩
            go_simp
            with_reducible rfl
          rotate_left
          · simp only [Act.put, List.setIfInBounds_toArray, List.set_cons_zero, List.set_cons_succ, i64_w, i32_w]
            rfl
          refine take_ (i := 12) (N := some 42) (v := ?_) (a' := ?_) #[true, true, true, true, true, true, true, true, true, true, true, true, true, false, false] rfl rfl (by kernel_rfl) (fun _ _ _ h => h) (Or.inl ⟨by rfl, ?_⟩) hHeld ?_ ?_
          rotate_left
          · rintro w' ⟨s0, s1⟩
            go_simp
            with_reducible rfl
          rotate_left
          · simp only [Act.put, List.setIfInBounds_toArray, List.set_cons_zero, List.set_cons_succ, i64_w, i32_w]
            rfl
          refine pure_ (i := 13) (N := some 43) (v := ?_) (a' := ?_) #[true, true, true, true, true, true, true, true, true, true, true, true, true, true, false] rfl rfl (by kernel_rfl) (fun _ _ _ h => h) (Or.inl ⟨by rfl, ?_⟩) ?_ ?_
          rotate_left
          · intro w'
            go_simp
            with_reducible rfl
          rotate_left
          · simp only [Act.put, List.setIfInBounds_toArray, List.set_cons_zero, List.set_cons_succ, i64_w, i32_w]
            rfl
          refine pure_ (i := 14) (N := some 44) (v := ?_) (a' := ?_) #[true, true, true, true, true, true, true, true, true, true, true, true, true, true, true] rfl rfl (by kernel_rfl) (fun _ _ _ h => h) (Or.inl ⟨by rfl, ?_⟩) ?_ ?_
          rotate_left
          · intro w'
            go_simp
            with_reducible rfl
          rotate_left
          · simp only [Act.put, List.setIfInBounds_toArray, List.set_cons_zero, List.set_cons_succ, i64_w, i32_w]
            rfl
          refine done_ (by kernel_rfl) ?_
          cases hxs : (x3.toList == s.toList) with
          | true =>
            go_wp2_with fail
            go_roundg k1
            case measure => omega
            case rel => exact ⟨i + 1, out, by first | rfl | (rw [HI1.out]), ⟨by have := HI.out; omega⟩, ⟨by have := HOL.out; omega⟩, HOZ, ⟨by repeat (first | exact Kd.R_below HO.out HX.out | apply Kd.R_drewN | apply Kd.R_drew)⟩, ⟨HB.out.trans (Below.mono (B := u.heap.size) (by repeat (first | exact HX.out | apply pw_below_drewN | apply below_drew1)) (below_size HB.out))⟩⟩
          | false =>
            clear hxs
            go_wp2_with fail
            have hcutT := cut_to (P := Try.prog) 22 9 .i64 Try.underlying22 hi0 (some ad3) out.length c3 (j : Int) (by omega) (by have := HJ.out; omega) HL3.out
            rw [Int.toNat_natCast] at hcutT
            obtain ⟨AD, hcutD, hAD, hCD⟩ := print_drop_of (P := Try.prog) Value.string (⟨#[]⟩ : ByteArray) 22 9 .i64 Try.underlying22 hi0 hsz0 (some ad3) c3 out (j : Int) (by omega) (by have := HJ.out; omega) HL3.out
            rw [Int.toNat_natCast] at hcutD hAD hCD
            have hjo : j ≤ out.length := by have := HJ.out; omega
            have HR3T : Aside0 (∀ W : World, Below u.heap.size u W → Kd.C Kd.string W (some ad3) j (out.take j)) := ⟨fun W hW => by have h9 := Kd.C_take (m := j) (Kd.C_below HR3.out hW) hjo; rwa [List.length_take, Nat.min_eq_left hjo] at h9⟩
            have HRD : Aside0 (∀ W : World, Below u.heap.size u W → Kd.C Kd.string W AD (out.length - j) (out.drop j)) := ⟨fun W hW => by have h9 := Kd.C_of_reads (h1 := fun _ => rfl) (hAD _ (Kd.reads_of_C (Kd.C_below HR3.out hW))); rwa [List.length_drop] at h9⟩
            have HJL : Aside0 (j ≤ 150 ∧ out.length ≤ 150) := ⟨by have := HN.out; have := HI.out; have := HOL.out; omega⟩
            clear hjo hAD hCD
            rw [List.length_drop] at hcutD
            refine start_ (n := 16) (S := fun w' => w'.cell? (ad0.add i) = some (.string s)) (ds := []) #[false, false, false, false, false, false, false, false, false, false, false, false, false, false, false, false] (by kernel_rfl) rfl rfl ((HC0.out _ (by repeat (first | exact HX.out | apply pw_below_drewN | apply below_drew1)))) (fun hHeld => ?_)
            refine pure_ (i := 1) (N := some 46) (v := ?_) (a' := ?_) #[false, true, false, false, false, false, false, false, false, false, false, false, false, false, false, false] rfl rfl (by kernel_rfl) (fun _ _ _ h => h) (Or.inl ⟨by rfl, ?_⟩) ?_ ?_
            rotate_left
            · intro w'
              go_simp
              with_reducible rfl
            rotate_left
            · simp only [Act.put, List.setIfInBounds_toArray, List.set_cons_zero, List.set_cons_succ, i64_w, i32_w]
              rfl
            refine pure_ (i := 2) (N := some 47) (v := ?_) (a' := ?_) #[false, true, true, false, false, false, false, false, false, false, false, false, false, false, false, false] rfl rfl (by kernel_rfl) (fun _ _ _ h => h) (Or.inl ⟨by rfl, ?_⟩) ?_ ?_
            rotate_left
            · intro w'
              go_simp
              with_reducible rfl
            rotate_left
            · simp only [Act.put, List.setIfInBounds_toArray, List.set_cons_zero, List.set_cons_succ, i64_w, i32_w]
              rfl
            refine pure_ (i := 3) (N := some 48) (v := ?_) (a' := ?_) #[false, true, true, true, false, false, false, false, false, false, false, false, false, false, false, false] rfl rfl (by kernel_rfl) (fun _ _ _ h => h) (Or.inl ⟨by rfl, ?_⟩) ?_ ?_
            rotate_left
            · intro w'
              go_simp
              with_reducible rfl
            rotate_left
            · simp only [Act.put, List.setIfInBounds_toArray, List.set_cons_zero, List.set_cons_succ, i64_w, i32_w]
              rfl
            refine pure_ (i := 5) (N := some 50) (v := ?_) (a' := ?_) #[false, true, true, true, false, true, false, false, false, false, false, false, false, false, false, false] rfl rfl (by kernel_rfl) (fun _ _ _ h => h) (Or.inl ⟨by rfl, ?_⟩) ?_ ?_
            rotate_left
            · intro w'
              go_simp
              with_reducible rfl
            rotate_left
            · simp only [Act.put, List.setIfInBounds_toArray, List.set_cons_zero, List.set_cons_succ, i64_w, i32_w]
              rfl
            refine pure_ (i := 6) (N := some 51) (v := ?_) (a' := ?_) #[false, true, true, true, false, true, true, false, false, false, false, false, false, false, false, false] rfl rfl (by kernel_rfl) (fun _ _ _ h => h) (Or.inl ⟨by rfl, ?_⟩) ?_ ?_
            rotate_left
            · intro w'
              go_simp
              with_reducible rfl
            rotate_left
            · simp only [Act.put, List.setIfInBounds_toArray, List.set_cons_zero, List.set_cons_succ, i64_w, i32_w]
              rfl
            refine pure_ (i := 7) (N := some 52) (v := ?_) (a' := ?_) #[false, true, true, true, false, true, true, true, false, false, false, false, false, false, false, false] rfl rfl (by kernel_rfl) (fun _ _ _ h => h) (Or.inl ⟨by rfl, ?_⟩) ?_ ?_
            rotate_left
            · intro w'
              go_simp
              with_reducible rfl
            rotate_left
            · simp only [Act.put, List.setIfInBounds_toArray, List.set_cons_zero, List.set_cons_succ, i64_w, i32_w]
              rfl
            refine pure_ (i := 11) (N := some 56) (v := ?_) (a' := ?_) #[false, true, true, true, false, true, true, true, false, false, false, true, false, false, false, false] rfl rfl (by kernel_rfl) (fun _ _ _ h => h) (Or.inl ⟨by rfl, ?_⟩) ?_ ?_
            rotate_left
            · intro w'
              go_simp
              with_reducible rfl
            rotate_left
            · simp only [Act.put, List.setIfInBounds_toArray, List.set_cons_zero, List.set_cons_succ, i64_w, i32_w]
              rfl
            refine pure_ (i := 12) (N := some 57) (v := ?_) (a' := ?_) #[false, true, true, true, false, true, true, true, false, false, false, true, true, false, false, false] rfl rfl (by kernel_rfl) (fun _ _ _ h => h) (Or.inl ⟨by rfl, ?_⟩) ?_ ?_
            rotate_left
            · intro w'
              go_simp
              with_reducible rfl
            rotate_left
            · simp only [Act.put, List.setIfInBounds_toArray, List.set_cons_zero, List.set_cons_succ, i64_w, i32_w]
              rfl
            refine pure_ (i := 13) (N := some 58) (v := ?_) (a' := ?_) #[false, true, true, true, false, true, true, true, false, false, false, true, true, true, false, false] rfl rfl (by kernel_rfl) (fun _ _ _ h => h) (Or.inl ⟨by rfl, ?_⟩) ?_ ?_
            rotate_left
            · intro w'
              go_simp
              with_reducible rfl
            rotate_left
            · simp only [Act.put, List.setIfInBounds_toArray, List.set_cons_zero, List.set_cons_succ, i64_w, i32_w]
              rfl
            refine take_ (i := 8) (N := some 53) (v := ?_) (a' := ?_) #[false, true, true, true, false, true, true, true, true, false, false, true, true, true, false, false] rfl rfl (by kernel_rfl) (fun _ _ _ h => h) (Or.inl ⟨by rfl, ?_⟩) hHeld ?_ ?_
            rotate_left
            · intro w' s0
              go_simp
              with_reducible rfl
            rotate_left
            · simp only [Act.put, List.setIfInBounds_toArray, List.set_cons_zero, List.set_cons_succ, i64_w, i32_w]
              rfl
            refine join_ (σ := Value × Value × Value) 3 #[true, true, true, true, true, true, true, true, true, true, false, true, true, true, false, false] (fun s => [(45, s.1), (49, s.2.1), (54, s.2.2)]) (fun q w' => Kd.R Kd.string 9 w' u.heap.size (fun _ => True) q.2.1 (out.take j) ∧ Kd.R Kd.string 9 w' u.heap.size (fun _ => True) q.2.2 [s] ∧ Below u.heap.size u w') ?_ ?_
            rotate_left
            · intro hCont
              refine two_ (i := 0) (j := 9) (Ni := some 45) (Nj := some 54) #[true, true, true, true, false, true, true, true, true, false, false, true, true, true, false, false] #[false, true, true, true, false, true, true, true, true, true, false, true, true, true, false, false] rfl rfl rfl rfl (by kernel_rfl) (by decide) (by decide) (fun K hK => ?_) (fun K hK => ?_)
              · skip
                refine R_lit_step_ Kd.string (w0 := u) u.heap.size 9 (by rfl) (N := 45) rfl (xs := ([] : List ByteArray)) (inner := []) (ok := fun _ => True) (okp := fun _ => True) ?hr0 ?hp0 (fun _ _ => trivial) trivial ?hB0 (.inl rfl) (by simp) ?_
                case hr0 => first | (go_simp; done) | (go_simp; rfl)
                case hp0 => exact Reps.none _ _
                case hB0 => repeat (first | exact HX.out | apply pw_below_drewN | apply below_drew1)
                intro v45 w45 ho hb hg hat
                have HO45 := Aside0.mk ho
                have HB45 := Aside0.mk hb
                clear ho hb hg hat
                refine hK.out _ _ ((HC0.out _ HB45.out)) (fun hHeld => ?_)
                clear hK K
                refine norm_ (a' := ?_) ?_ ?_
                rotate_left
                · show Act.put _ (some 45) _ = _
                  simp only [Act.put, List.setIfInBounds_toArray, List.set_cons_zero, List.set_cons_succ, i64_w, i32_w]
                  rfl
                refine two_ (i := 4) (j := 9) (Ni := some 49) (Nj := some 54) #[true, true, true, true, true, true, true, true, true, false, false, true, true, true, false, false] #[true, true, true, true, false, true, true, true, true, true, false, true, true, true, false, false] rfl rfl rfl rfl (by kernel_rfl) (by decide) (by decide) (fun K hK => ?_) (fun K hK => ?_)
                · skip
                  refine Kd.R_append_rows_step (Kd.string) (w0 := u) u.heap.size (by rfl) (.tmp 45) (.tmp 48) 22 9 (.string ⟨#[]⟩) 16 (by rfl) Try.underlying22 infoS rfl (by decide) (by omega) v45 [] (out.take j) (some ad3) j c3 (fun _ => True) (fun _ => False) rfl rfl ?aO ?aR (fun _ _ h => h) (fun _ h => h.elim) ?aF ?aB ?aS ?aL ?_
                  case aO => exact HO45.out
                  case aR => exact (HR3T.out _ HB45.out)
                  case aF => exact (fun _ _ => trivial)
                  case aB => exact HB45.out
                  case aS => exact below_size HB45.out
                  case aL => have h9 := HJL.out; simp; omega
                  intro v49 w49 ho hb hg hat
                  rw [List.nil_append] at ho
                  have HO49 := Aside0.mk ho
                  have HB49 := Aside0.mk hb
                  clear ho hb hg hat
                  refine hK.out _ _ ((HC0.out _ HB49.out)) (fun hHeld => ?_)
                  clear hK K
                  refine norm_ (a' := ?_) ?_ ?_
                  rotate_left
                  · show Act.put _ (some 49) _ = _
                    simp only [Act.put, List.setIfInBounds_toArray, List.set_cons_zero, List.set_cons_succ, i64_w, i32_w]
                    rfl
                  refine one_ (i := 9) (N := some 54) #[true, true, true, true, true, true, true, true, true, true, false, true, true, true, false, false] rfl rfl (by kernel_rfl) (by decide) (fun K hK => ?_)
                  refine R_lit_step_ Kd.string (w0 := u) u.heap.size 9 (by rfl) (N := 54) rfl (xs := [s]) (inner := [.string s]) (ok := fun _ => True) (okp := fun _ => True) ?hr9 ?hp9 (fun _ _ => trivial) trivial ?hB9 (.inl rfl) (by simp) ?_
                  case hr9 => first | (go_simp; done) | (go_simp; rfl)
                  case hp9 => exact (Reps.one rfl (Reps.none _ _))
                  case hB9 => exact HB49.out
                  intro v54 w54 ho hb hg hat
                  have HO54 := Aside0.mk ho
                  have HB54 := Aside0.mk hb
                  have HO49b := Aside0.mk (Kd.R_grown2 HO49.out rfl hg (by simp))
                  clear ho hb hg hat
                  refine hK.out _ _ ((HC0.out _ HB54.out)) (fun hHeld => ?_)
                  clear hK K
                  refine norm_ (a' := ?_) ?_ ?_
                  rotate_left
                  · show Act.put _ (some 54) _ = _
                    simp only [Act.put, List.setIfInBounds_toArray, List.set_cons_zero, List.set_cons_succ, i64_w, i32_w]
                    rfl
                  exact norm_ (by simp only [putAll, Act.put, List.setIfInBounds_toArray, List.set_cons_zero, List.set_cons_succ]) (hCont (v45, v49, v54) _ ⟨HO49b.out, HO54.out, HB54.out⟩)
                · skip
                  refine R_lit_step_ Kd.string (w0 := u) u.heap.size 9 (by rfl) (N := 54) rfl (xs := [s]) (inner := [.string s]) (ok := fun _ => True) (okp := fun _ => True) ?hr9 ?hp9 (fun _ _ => trivial) trivial ?hB9 (.inl rfl) (by simp) ?_
                  case hr9 => first | (go_simp; done) | (go_simp; rfl)
                  case hp9 => exact (Reps.one rfl (Reps.none _ _))
                  case hB9 => exact HB45.out
                  intro v54 w54 ho hb hg hat
                  have HO54 := Aside0.mk ho
                  have HB54 := Aside0.mk hb
                  have HO45b := Aside0.mk (Kd.R_grown2 HO45.out rfl hg (by simp))
                  have NE := Aside0.mk (show ∀ k, v45.ownBlock = some k → some k ≠ v54.ownBlock from fun k hk he => by have h1 := Kd.R_lt HO45.out k hk; obtain ⟨b, e, h2⟩ := hat; rw [e] at he; injection he with he; omega)
                  clear ho hb hg hat
                  refine hK.out _ _ ((HC0.out _ HB54.out)) (fun hHeld => ?_)
                  clear hK K
                  refine norm_ (a' := ?_) ?_ ?_
                  rotate_left
                  · show Act.put _ (some 54) _ = _
                    simp only [Act.put, List.setIfInBounds_toArray, List.set_cons_zero, List.set_cons_succ, i64_w, i32_w]
                    rfl
                  refine one_ (i := 4) (N := some 49) #[true, true, true, true, true, true, true, true, true, true, false, true, true, true, false, false] rfl rfl (by kernel_rfl) (by decide) (fun K hK => ?_)
                  refine Kd.R_append_rows_step (Kd.string) (w0 := u) u.heap.size (by rfl) (.tmp 45) (.tmp 48) 22 9 (.string ⟨#[]⟩) 16 (by rfl) Try.underlying22 infoS rfl (by decide) (by omega) v45 [] (out.take j) (some ad3) j c3 (fun _ => True) (fun _ => False) rfl rfl ?aO ?aR (fun _ _ h => h) (fun _ h => h.elim) ?aF ?aB ?aS ?aL ?_
                  case aO => exact HO45b.out
                  case aR => exact (HR3T.out _ HB54.out)
                  case aF => exact (fun _ _ => trivial)
                  case aB => exact HB54.out
                  case aS => exact below_size HB54.out
                  case aL => have h9 := HJL.out; simp; omega
                  intro v49 w49 ho hb hg hat
                  rw [List.nil_append] at ho
                  have HO49 := Aside0.mk ho
                  have HB49 := Aside0.mk hb
                  have HO54c := Aside0.mk (Kd.R_grown2 HO54.out rfl hg NE.out)
                  clear ho hb hg hat
                  refine hK.out _ _ ((HC0.out _ HB49.out)) (fun hHeld => ?_)
                  clear hK K
                  refine norm_ (a' := ?_) ?_ ?_
                  rotate_left
                  · show Act.put _ (some 49) _ = _
                    simp only [Act.put, List.setIfInBounds_toArray, List.set_cons_zero, List.set_cons_succ, i64_w, i32_w]
                    rfl
                  exact norm_ (by simp only [putAll, Act.put, List.setIfInBounds_toArray, List.set_cons_zero, List.set_cons_succ]) (hCont (v45, v49, v54) _ ⟨HO49.out, HO54c.out, HB49.out⟩)
              · skip
                refine R_lit_step_ Kd.string (w0 := u) u.heap.size 9 (by rfl) (N := 54) rfl (xs := [s]) (inner := [.string s]) (ok := fun _ => True) (okp := fun _ => True) ?hr9 ?hp9 (fun _ _ => trivial) trivial ?hB9 (.inl rfl) (by simp) ?_
                case hr9 => first | (go_simp; done) | (go_simp; rfl)
                case hp9 => exact (Reps.one rfl (Reps.none _ _))
                case hB9 => repeat (first | exact HX.out | apply pw_below_drewN | apply below_drew1)
                intro v54 w54 ho hb hg hat
                have HO54 := Aside0.mk ho
                have HB54 := Aside0.mk hb
                clear ho hb hg hat
                refine hK.out _ _ ((HC0.out _ HB54.out)) (fun hHeld => ?_)
                clear hK K
                refine norm_ (a' := ?_) ?_ ?_
                rotate_left
                · show Act.put _ (some 54) _ = _
                  simp only [Act.put, List.setIfInBounds_toArray, List.set_cons_zero, List.set_cons_succ, i64_w, i32_w]
                  rfl
                refine one_ (i := 0) (N := some 45) #[true, true, true, true, false, true, true, true, true, true, false, true, true, true, false, false] rfl rfl (by kernel_rfl) (by decide) (fun K hK => ?_)
                refine R_lit_step_ Kd.string (w0 := u) u.heap.size 9 (by rfl) (N := 45) rfl (xs := ([] : List ByteArray)) (inner := []) (ok := fun _ => True) (okp := fun _ => True) ?hr0 ?hp0 (fun _ _ => trivial) trivial ?hB0 (.inl rfl) (by simp) ?_
                case hr0 => first | (go_simp; done) | (go_simp; rfl)
                case hp0 => exact Reps.none _ _
                case hB0 => exact HB54.out
                intro v45 w45 ho hb hg hat
                have HO45 := Aside0.mk ho
                have HB45 := Aside0.mk hb
                have HO54b := Aside0.mk (Kd.R_grown2 HO54.out rfl hg (by simp))
                have NE := Aside0.mk (show ∀ k, v45.ownBlock = some k → some k ≠ v54.ownBlock from fun k hk he => by have h1 := Kd.R_lt HO54.out k he.symm; obtain ⟨b, e, h2⟩ := hat; rw [e] at hk; injection hk with hk; omega)
                clear ho hb hg hat
                refine hK.out _ _ ((HC0.out _ HB45.out)) (fun hHeld => ?_)
                clear hK K
                refine norm_ (a' := ?_) ?_ ?_
                rotate_left
                · show Act.put _ (some 45) _ = _
                  simp only [Act.put, List.setIfInBounds_toArray, List.set_cons_zero, List.set_cons_succ, i64_w, i32_w]
                  rfl
                refine one_ (i := 4) (N := some 49) #[true, true, true, true, true, true, true, true, true, true, false, true, true, true, false, false] rfl rfl (by kernel_rfl) (by decide) (fun K hK => ?_)
                refine Kd.R_append_rows_step (Kd.string) (w0 := u) u.heap.size (by rfl) (.tmp 45) (.tmp 48) 22 9 (.string ⟨#[]⟩) 16 (by rfl) Try.underlying22 infoS rfl (by decide) (by omega) v45 [] (out.take j) (some ad3) j c3 (fun _ => True) (fun _ => False) rfl rfl ?aO ?aR (fun _ _ h => h) (fun _ h => h.elim) ?aF ?aB ?aS ?aL ?_
                case aO => exact HO45.out
                case aR => exact (HR3T.out _ HB45.out)
                case aF => exact (fun _ _ => trivial)
                case aB => exact HB45.out
                case aS => exact below_size HB45.out
                case aL => have h9 := HJL.out; simp; omega
                intro v49 w49 ho hb hg hat
                rw [List.nil_append] at ho
                have HO49 := Aside0.mk ho
                have HB49 := Aside0.mk hb
                have HO54c := Aside0.mk (Kd.R_grown2 HO54b.out rfl hg NE.out)
                clear ho hb hg hat
                refine hK.out _ _ ((HC0.out _ HB49.out)) (fun hHeld => ?_)
                clear hK K
                refine norm_ (a' := ?_) ?_ ?_
                rotate_left
                · show Act.put _ (some 49) _ = _
                  simp only [Act.put, List.setIfInBounds_toArray, List.set_cons_zero, List.set_cons_succ, i64_w, i32_w]
                  rfl
                exact norm_ (by simp only [putAll, Act.put, List.setIfInBounds_toArray, List.set_cons_zero, List.set_cons_succ]) (hCont (v45, v49, v54) _ ⟨HO49.out, HO54c.out, HB49.out⟩)
            rintro ⟨x45, x49, x54⟩ w9 ⟨ho9, hr9, hb9⟩
            dsimp only at ho9 hr9
            have HO9 := Aside0.mk ho9
            obtain ⟨A54, c54, hx54, hl54, hr54⟩ := Kd.R_reads hr9
            subst hx54
            have HR54 := Aside0.mk hr54
            have HB9 := Aside0.mk hb9
            clear ho9 hr9 hb9 hl54 hr54
            have hHeld : w9.cell? (ad0.add i) = some (.string s) := HC0.out _ HB9.out
            refine norm_ (a' := ?_) ?_ ?_
            rotate_left
            · simp only [putAll, Act.put, List.setIfInBounds_toArray, List.set_cons_zero, List.set_cons_succ]
              rfl
            refine one_ (i := 10) (N := some 55) #[true, true, true, true, true, true, true, true, true, true, true, true, true, true, false, false] rfl rfl (by kernel_rfl) (by decide) (fun K hK => ?_)
            refine Kd.R_append_rows_step (Kd.string) (w0 := u) u.heap.size (by rfl) (.tmp 49) (.tmp 54) 22 9 (.string ⟨#[]⟩) 16 (by rfl) Try.underlying22 infoS rfl (by decide) (by omega) x49 (out.take j) [s] A54 1 c54 (fun _ => True) (fun _ => False) rfl rfl ?bO ?bR (fun _ _ h => h) (fun _ h => h.elim) ?bF ?bB ?bS ?bL ?_
            case bO => exact HO9.out
            case bR => exact HR54.out
            case bF => exact (fun _ _ => trivial)
            case bB => exact HB9.out
            case bS => exact below_size HB9.out
            case bL => have h9 := HJL.out; simp; omega
            intro v55 w55 ho hb hg hat
            have HO55 := Aside0.mk ho
            have HB55 := Aside0.mk hb
            clear ho hb hg hat
            refine hK.out _ _ ((HC0.out _ HB55.out)) (fun hHeld => ?_)
            clear hK K
            refine norm_ (a' := ?_) ?_ ?_
            rotate_left
            · show Act.put _ (some 55) _ = _
              simp only [Act.put, List.setIfInBounds_toArray, List.set_cons_zero, List.set_cons_succ, i64_w, i32_w]
              rfl
            refine one_ (i := 14) (N := some 59) #[true, true, true, true, true, true, true, true, true, true, true, true, true, true, true, false] rfl rfl (by kernel_rfl) (by decide) (fun K hK => ?_)
            refine Kd.R_append_rows_step (Kd.string) (w0 := u) u.heap.size (by rfl) (.tmp 55) (.tmp 58) 22 9 (.string ⟨#[]⟩) 16 (by rfl) Try.underlying22 infoS rfl (by decide) (by omega) v55 (out.take j ++ [s]) (out.drop j) AD (out.length - j) (c3 - j) (fun _ => True) (fun _ => False) rfl rfl ?dO ?dR (fun _ _ h => h) (fun _ h => h.elim) ?dF ?dB ?dS ?dL ?_
            case dO => exact HO55.out
            case dR => exact (HRD.out _ HB55.out)
            case dF => exact (fun _ _ => trivial)
            case dB => exact HB55.out
            case dS => exact below_size HB55.out
            case dL => have h9 := HJL.out; simp; omega
            intro v59 w59 ho hb hg hat
            have HO59 := Aside0.mk ho
            have HB59 := Aside0.mk hb
            clear ho hb hg hat
            refine hK.out _ _ ((HC0.out _ HB59.out)) (fun hHeld => ?_)
            clear hK K
            refine norm_ (a' := ?_) ?_ ?_
            rotate_left
            · show Act.put _ (some 59) _ = _
              simp only [Act.put, List.setIfInBounds_toArray, List.set_cons_zero, List.set_cons_succ, i64_w, i32_w]
              rfl
            refine pure_ (i := 15) (N := some 3) (v := ?_) (a' := ?_) #[true, true, true, true, true, true, true, true, true, true, true, true, true, true, true, true] rfl rfl (by kernel_rfl) (fun _ _ _ h => h) (Or.inl ⟨by rfl, ?_⟩) ?_ ?_
            rotate_left
            · intro w'
              go_simp
              with_reducible rfl
            rotate_left
            · simp only [Act.put, List.setIfInBounds_toArray, List.set_cons_zero, List.set_cons_succ, i64_w, i32_w]
              rfl
            refine done_ (by kernel_rfl) ?_
            go_wp2_with fail
            go_roundg k1
            case measure => omega
            case rel => exact ⟨i + 1, out.take j ++ [s] ++ out.drop j, by first | rfl | (rw [HI1.out]), ⟨by have := HI.out; omega⟩, ⟨by have := HOL.out; simp; omega⟩, ⟨by
              intro x hx
              rcases List.mem_append.1 hx with h | h
              · rcases List.mem_append.1 h with h | h
                · exact HOZ.out x (List.mem_of_mem_take h)
                · rw [List.mem_singleton.1 h]; exact HZ.out s HSM.out
              · exact HOZ.out x (List.mem_of_mem_drop h)⟩, ⟨Kd.R_lower HO59.out (below_size HB.out)⟩, ⟨HB.out.trans (HB59.out.mono (below_size HB.out))⟩⟩
end Go.Proofs.Ytljhlpkoilapiaa.HW
end
section
/- A dictionary's bytes are bytes, and few; what opens of a beginning of them. -/
set_option linter.unusedVariables false
set_option linter.unusedSimpArgs false
namespace Go.Proofs.Ytljhlpkoilapiaa.HW
open Go.RowKit Go.Proofs.Ytljhlpkoilapiaa.P Go.Proofs.Ytljhlpkoilapiaa.HP Go.Proofs.YtljhlpkoilapiaaW.PrintWords Go.Proofs.YtljhlpkoilapiaaW.PrintLast Go.Proofs.YtljhlpkoilapiaaW.PrintMore
attribute [local go_sem] max2_int min2_int max_two min_two max_three min_three max_four min_four
theorem fsum_small2 (l : List ByteArray) (h : smallL l) : fsum l ≤ 4096 * l.length := by
  induction l with
  | nil => simp [fsum]
  | cons a l ih =>
    have h1 := h a List.mem_cons_self
    have h2 := ih (fun s hs => h s (List.mem_cons_of_mem _ hs))
    unfold fsum at *
    simp only [List.map_cons, List.sum_cons, List.length_cons]
    omega
theorem isBy_app {a b : List Int} (h1 : isBy a) (h2 : isBy b) : isBy (a ++ b) := fun x hx => by
  rcases List.mem_append.1 hx with h | h
  · exact h1 x h
  · exact h2 x h
theorem vint_by (n : Nat) : isBy (vint n) := by
  induction n using Nat.strongRecOn with
  | _ n ih =>
    by_cases h : n < 128
    · rw [vint_small h]
      intro x hx
      simp at hx
      omega
    · rw [vint_big h]
      intro x hx
      rcases List.mem_cons.1 hx with h1 | h1
      · subst h1; omega
      · exact ih (n / 128) (by omega) x h1
theorem bytes_by (s : ByteArray) : isBy (bytesOf s) := fun x hx => by
  unfold bytesOf at hx
  obtain ⟨b, _, rfl⟩ := List.mem_map.1 hx
  have := b.toNat_lt
  omega
theorem text_by (s : ByteArray) : isBy (textL s) := isBy_app (vint_by _) (bytes_by _)
theorem rest_by : ∀ (t : List ByteArray) (p : ByteArray), isBy (restL p t)
  | [], p => fun x hx => by simp [restL] at hx
  | s :: t, p => isBy_app (isBy_app (vint_by _) (text_by _)) (rest_by t s)
theorem ent_by (c : List ByteArray) : isBy (entL c) := by
  cases c with
  | nil => exact fun x hx => by simp [entL] at hx
  | cons s t => exact isBy_app (text_by s) (rest_by t s)
theorem all_by (k : Nat) (l : List ByteArray) : isBy (allL k l) := fun x hx => by
  unfold allL at hx
  obtain ⟨e, he, hx⟩ := List.mem_flatten.1 hx
  obtain ⟨c, _, rfl⟩ := List.mem_map.1 he
  exact ent_by c x hx
theorem pack_by (b : List Bool) : isBy (pack b) := fun x hx => by
  unfold pack at hx
  obtain ⟨j, _, rfl⟩ := List.mem_map.1 hx
  have h1 := num_lt ((b.drop (8 * j)).take 8)
  have h2 : ((b.drop (8 * j)).take 8).length ≤ 8 := by simp; omega
  have h3 := Nat.pow_le_pow_right (n := 2) (by omega) h2
  omega
theorem write_by {l : List Int} (h : mayL l = true) : isBy (writeL l) := by
  have hw := wide_32 h
  refine isBy_app (isBy_app (vint_by _) ?_) (pack_by _)
  intro x hx
  simp at hx
  omega
theorem build_by (k : Nat) (hk : 1 ≤ k) (l : List ByteArray) (hs : smallL l) (hb : fsum l + 4 * l.length ≤ 1000000000) : isBy (buildL k l) :=
  isBy_app (isBy_app (isBy_app (vint_by _) (vint_by _)) (write_by (sizes_may k hk l hs hb).1)) (all_by k l)
theorem vint1 (n : Nat) (h : n ≤ 127) : (vint n).length = 1 := by rw [vint_small (by omega)]; rfl
/-- Few bytes. -/
theorem build_len (k : Nat) (hk : 1 ≤ k) (hk2 : k ≤ 64) (l : List ByteArray) (hl : l.length ≤ 4096) (hs : smallL l) (hb : fsum l + 4 * l.length ≤ 1000000000) : (buildL k l).length ≤ fsum l + 10 * l.length + 10 := by
  obtain ⟨hm, hc⟩ := sizes_may k hk l hs hb
  have hw := wide_32 hm
  have h1 := vint2 l.length hl
  have h2 := vint1 k (by omega)
  have h3 := allL_len k hk l hs
  have h4 := vint2 (sizesL k l).length (by omega)
  have hpl : (pack (bitsL (wideL (sizesL k l) 0) (sizesL k l))).length = size8 ((sizesL k l).length * wideL (sizesL k l) 0) := by rw [pack_length, bitsL_len]
  have hnw : (sizesL k l).length * wideL (sizesL k l) 0 ≤ l.length * 32 := Nat.mul_le_mul hc hw
  have hs8 : size8 ((sizesL k l).length * wideL (sizesL k l) 0) ≤ 4 * l.length + 1 := by unfold size8; omega
  unfold buildL writeL
  simp only [List.length_append, List.length_singleton, hpl]
  omega
end Go.Proofs.Ytljhlpkoilapiaa.HW
end
section
/- What FrontBack and FrontKeeps need besides. -/
set_option linter.unusedVariables false
set_option linter.unusedSimpArgs false
namespace Go.Proofs.Ytljhlpkoilapiaa.HW
open Go.RowKit Go.Proofs.Ytljhlpkoilapiaa.P Go.Proofs.Ytljhlpkoilapiaa.HP Go.Proofs.YtljhlpkoilapiaaW.PrintWords Go.Proofs.YtljhlpkoilapiaaW.PrintLast Go.Proofs.YtljhlpkoilapiaaW.PrintMore
attribute [local go_sem] max2_int min2_int max_two min_two max_three min_three max_four min_four
theorem same7_l (t : List ByteArray) (hl : t.length ≤ 100000) : ∀ (d i : Nat), i + d = t.length → Ev (fun k => hopperref07_Same.l0 k t t (i : Int)) true := by
  intro d
  induction d with
  | zero =>
    intro i hi
    refine Ev.step (fun k => by rw [hopperref07_Same.l0]) ?_
    simp only [if_neg (show ¬ (i : Int) < (t.length : Int) by omega)]
    exact Ev.now _
  | succ d ih =>
    intro i hi
    have w1 : wrap64 ((i : Int) + 1) = ((i + 1 : Nat) : Int) := wr1 i (by omega)
    refine Ev.step (fun k => by rw [hopperref07_Same.l0]) ?_
    simp only [if_pos (show (i : Int) < (t.length : Int) by omega), if_pos (show (0 : Int) ≤ (i : Int) by omega), w1, if_true]
    exact ih (i + 1) (by omega)
theorem same7 (t : List ByteArray) (hl : t.length ≤ 100000) : Ev (fun k => hopperref07_Same.f k t t) true := by
  unfold hopperref07_Same.f
  simp only [if_true]
  exact same7_l t hl _ 0 (Nat.zero_add _)
theorem fsum_5000 (l : List ByteArray) (h : ∀ s ∈ l, s.size ≤ 5000) : fsum l ≤ 5000 * l.length := by
  induction l with
  | nil => simp [fsum]
  | cons a l ih =>
    have h1 := h a List.mem_cons_self
    have h2 := ih (fun s hs => h s (List.mem_cons_of_mem _ hs))
    unfold fsum at *
    simp only [List.map_cons, List.sum_cons, List.length_cons]
    omega
/-- What is built, opened: the strings again, nothing is left. -/
theorem open_built (k : Nat) (t : List ByteArray) (hr : rightL t (k : Int) = true) (hf : fsum t + 10 * t.length + 10 ≤ 1000000) : OpenR (buildL k t) 0 t (buildL k t).length 0 := by
  obtain ⟨p1, p2, p3, p4⟩ := right_parts hr
  have hb := build_by k (by omega) t p4 (by omega)
  have hlen := build_len k (by omega) (by omega) t p3 p4 (by omega)
  obtain ⟨d1, a1, e1, ho, _⟩ := open_total (buildL k t) hb (by omega) 0 (Nat.zero_le _)
  obtain ⟨r1, r2, r3⟩ := open_at (buildL k t) (by omega) t k hr (by omega) 0 (Nat.zero_le _) [] (by simp) d1 a1 e1 ho
  subst r1 r3
  rw [Nat.zero_add] at r2
  subst r2
  exact ho
end Go.Proofs.Ytljhlpkoilapiaa.HW
end
