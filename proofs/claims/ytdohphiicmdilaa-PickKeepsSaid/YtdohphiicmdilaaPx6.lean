-- Written by hp.py, a wrapper round the kit's print; not by print.sh.
import Derived.Test.YtdohphiicmdilaaPx0
import Derived.Test.YtdohphiicmdilaaPx1
import Derived.Test.YtdohphiicmdilaaPx2
import Derived.Test.YtdohphiicmdilaaPx3
import Derived.Test.YtdohphiicmdilaaPx5
namespace Go.Proofs.Ytdohphiicmdilaa.P
open Go.RowKit Go.Proofs.YtdohphiicmdilaaW.PrintWords Go.Proofs.YtdohphiicmdilaaW.PrintLast Go.Proofs.YtdohphiicmdilaaW.PrintMore
attribute [local go_sem] max2_int min2_int max_two min_two max_three min_three max_four min_four   -- for this text's walks alone
set_option linter.unusedVariables false
set_option linter.unusedSimpArgs false

/-! ### hopperlaw05_PickBack: function 9 -/
def hopperlaw05_PickBack.j0 : Nat → List Bool → Bool → Option (Bool)
  | 0, _, _ => none
  | k + 1, x0, x10 => if x10 = true then ((hopperlaw05_awake.f k).bind fun t199 => (some t199)) else ((pick_Of.f k x0).bind fun t200 => ((hopperlaw05_places.f k x0).bind fun t203 => ((hopperref03_Ints.f k t200 t203).bind fun t206 => (if t206 = true then ((pick_Right.f k t200 (x0.length : Int)).bind fun t207 => (if t207 = true then ((pick_Bits.f k t200 (x0.length : Int)).bind fun t208 => ((hopperref04_Same.f k t208 x0).bind fun t211 => (some t211))) else (some false))) else (some false)))))
def hopperlaw05_PickBack.f (k : Nat) (l0 : List Bool) : Option (Bool) := (hopperlaw05_awake.f k).bind fun t198 => (if t198 = true then (hopperlaw05_PickBack.j0 k l0 (decide ((l0.length : Int) > 1000))) else (hopperlaw05_PickBack.j0 k l0 true))
theorem hopperlaw05_PickBack.mono_l : ∀ k, (∀ y0 y1, LeO (hopperlaw05_PickBack.j0 k y0 y1) (hopperlaw05_PickBack.j0 (k + 1) y0 y1))
  | 0 => fun _ _ r h => by simp [hopperlaw05_PickBack.j0] at h
  | k + 1 => by
    have ih0 := hopperlaw05_PickBack.mono_l k
    · intro y0 y1
      unfold hopperlaw05_PickBack.j0
      repeat' first
      | (with_reducible exact ih0 _ _)
      | (with_reducible exact hopperlaw05_awake.mono _)
      | (with_reducible exact hopperlaw05_places.mono _ _)
      | (with_reducible exact hopperref03_Ints.mono _ _ _)
      | (with_reducible exact hopperref04_Same.mono _ _ _)
      | (with_reducible exact pick_Bits.mono _ _ _)
      | (with_reducible exact pick_Of.mono _ _)
      | (with_reducible exact pick_Right.mono _ _ _)
      | (with_reducible exact LeO.refl _)
      | (with_reducible exact LeO.none _)
      | (with_reducible refine LeO.ite ?_ ?_)
      | (with_reducible refine LeO.bind ?_ (fun _ => ?_))
      | exact ih0 _ _
      | exact hopperlaw05_awake.mono _
      | exact hopperlaw05_places.mono _ _
      | exact hopperref03_Ints.mono _ _ _
      | exact hopperref04_Same.mono _ _ _
      | exact pick_Bits.mono _ _ _
      | exact pick_Of.mono _ _
      | exact pick_Right.mono _ _ _
      | exact LeO.none _
      | refine LeO.ite ?_ ?_
      | refine LeO.bind ?_ (fun _ => ?_)
theorem hopperlaw05_PickBack.mono : ∀ a0 k, LeO (hopperlaw05_PickBack.f k a0) (hopperlaw05_PickBack.f (k + 1) a0) := by
  intro a0 k
  have ih0 := hopperlaw05_PickBack.mono_l k
  unfold hopperlaw05_PickBack.f
  repeat' first
      | (with_reducible exact ih0 _ _)
      | (with_reducible exact hopperlaw05_awake.mono _)
      | (with_reducible exact hopperlaw05_places.mono _ _)
      | (with_reducible exact hopperref03_Ints.mono _ _ _)
      | (with_reducible exact hopperref04_Same.mono _ _ _)
      | (with_reducible exact pick_Bits.mono _ _ _)
      | (with_reducible exact pick_Of.mono _ _)
      | (with_reducible exact pick_Right.mono _ _ _)
      | (with_reducible exact LeO.refl _)
      | (with_reducible exact LeO.none _)
      | (with_reducible refine LeO.ite ?_ ?_)
      | (with_reducible refine LeO.bind ?_ (fun _ => ?_))
      | exact ih0 _ _
      | exact hopperlaw05_awake.mono _
      | exact hopperlaw05_places.mono _ _
      | exact hopperref03_Ints.mono _ _ _
      | exact hopperref04_Same.mono _ _ _
      | exact pick_Bits.mono _ _ _
      | exact pick_Of.mono _ _
      | exact pick_Right.mono _ _ _
      | exact LeO.none _
      | refine LeO.ite ?_ ?_
      | refine LeO.bind ?_ (fun _ => ?_)
set_option maxHeartbeats 8000000 in
set_option maxRecDepth 100000 in
theorem hopperlaw05_PickBack.calls (k : Nat) (A0 : Option Addr) (c0 : Nat) (l0 : List Bool) (r : Bool) (w : World) (hr0 : Kd.C Kd.bool w A0 l0.length l0) (hc0 : l0.length ≤ c0) (h : hopperlaw05_PickBack.f k l0 = some r) :
    Calls Try.prog 9 #[.slice A0 l0.length c0] w fun e w' => e = .returned (.bool r) ∧ Below w.heap.size w w' := by
  have HR0 := Aside0.mk hr0
  have HC0 := Aside0.mk hc0
  clear hr0 hc0
  have HB := Aside0.mk (Below.refl w.heap.size w)
  have H : ((hopperlaw05_awake.f k).bind fun t198 => (if t198 = true then (hopperlaw05_PickBack.j0 k l0 (decide ((l0.length : Int) > 1000))) else (hopperlaw05_PickBack.j0 k l0 true))) = some r := h
  clear h
  have HC2 := Aside0.mk H
  clear H
  go_enter Try.func9, Try.ntmps9
  go_upto_region 1 with (fail)
  go_cut [10] (fun v10 wc => ∃ (kq : Nat) (x10_1 : Bool), v10 = .bool x10_1 ∧ Aside0 (hopperlaw05_PickBack.j0 kq l0 x10_1 = some r) ∧ Aside0 (kq ≤ k) ∧ Aside0 (Below w.heap.size w wc))
  case first =>
    have H := HC2.out
    clear HC2
    replace H := Option.bind_eq_some_iff.mp H
    obtain ⟨t198, A30, H⟩ := H
    replace H : (if t198 = true then (hopperlaw05_PickBack.j0 k l0 (decide ((l0.length : Int) > 1000))) else (hopperlaw05_PickBack.j0 k l0 true)) = some r := H
    have A3 := Aside0.mk A30
    clear A30
    by_cases c4 : t198 = true
    · subst c4
      have H1 : (hopperlaw05_PickBack.j0 k l0 (decide ((l0.length : Int) > 1000))) = some r := by rw [if_pos rfl] at H; exact H
      clear H
      have H := H1
      clear H1
      have H' := Aside0.mk H
      clear H
      go_wp2_with (first | ((with_reducible refine gate_callee (f := 13) rfl ?_); refine goesL_ (some 4) rfl rfl Try.func13 (by kernel_rfl) rfl #[] rfl (by (try simp only [List.map_toArray, List.map_cons, List.map_nil]); first | done | rfl | (simp only [List.length_drop, List.length_take]; rfl)) ?_; (with_reducible refine (hopperlaw05_awake.calls k  true _ A3.out).mono ?_); rintro e w5 ⟨rfl, hb⟩; refine ⟨_, rfl, ?_⟩; have n0_ := Aside0.mk (below_step (by repeat (first | (with_reducible first | exact HB.out | apply below_alloc | apply pw_below_drewN | apply below_drew1) | exact HB.out)) hb); clear HB; have HB := n0_; clear n0_; (try clear hb); (try clear hb2); (try clear hk); (try clear hi)))
      go_meet
      case rel => exact ⟨_, (decide ((l0.length : Int) > 1000)), (by first | rfl | (simp; done) | (simp [*]; done)), H', ⟨by first | omega | exact Nat.le_refl _⟩, ⟨by repeat (first | (with_reducible first | exact HB.out | apply below_alloc | apply pw_below_drewN | apply below_drew1) | exact HB.out)⟩⟩
    · replace c4 := Bool.eq_false_iff.mpr c4
      subst c4
      have H1 : (hopperlaw05_PickBack.j0 k l0 true) = some r := by rw [if_neg (show ¬ (false = true) by decide)] at H; exact H
      clear H
      have H := H1
      clear H1
      have H' := Aside0.mk H
      clear H
      go_wp2_with (first | ((with_reducible refine gate_callee (f := 13) rfl ?_); refine goesL_ (some 4) rfl rfl Try.func13 (by kernel_rfl) rfl #[] rfl (by (try simp only [List.map_toArray, List.map_cons, List.map_nil]); first | done | rfl | (simp only [List.length_drop, List.length_take]; rfl)) ?_; (with_reducible refine (hopperlaw05_awake.calls k  false _ A3.out).mono ?_); rintro e w6 ⟨rfl, hb⟩; refine ⟨_, rfl, ?_⟩; have n0_ := Aside0.mk (below_step (by repeat (first | (with_reducible first | exact HB.out | apply below_alloc | apply pw_below_drewN | apply below_drew1) | exact HB.out)) hb); clear HB; have HB := n0_; clear n0_; (try clear hb); (try clear hb2); (try clear hk); (try clear hi)))
      go_meet
      case rel => exact ⟨_, (true), (by first | rfl | (simp; done) | (simp [*]; done)), H', ⟨by first | omega | exact Nat.le_refl _⟩, ⟨by repeat (first | (with_reducible first | exact HB.out | apply below_alloc | apply pw_below_drewN | apply below_drew1) | exact HB.out)⟩⟩
  case rest =>
    clear HC2
    try clear c1
    try clear p2
    try clear c4
    obtain ⟨kq, x10_1, rfl, HA, HJ1, HB⟩ := hcut
    cases kq with
    | zero => exact absurd HA.out (by simp [hopperlaw05_PickBack.j0])
    | succ kj1 =>
      have H := HA.out
      clear HA
      simp only [hopperlaw05_PickBack.j0] at H
      by_cases c7 : x10_1 = true
      · subst c7
        have H1 : ((hopperlaw05_awake.f kj1).bind fun t199 => (some t199)) = some r := by rw [if_pos rfl] at H; exact H
        clear H
        have H := H1
        clear H1
        replace H := Option.bind_eq_some_iff.mp H
        obtain ⟨t199, A80, H⟩ := H
        replace H : (some t199) = some r := H
        have A8 := Aside0.mk A80
        clear A80
        obtain rfl := Option.some.inj H
        go_wp2_with (first | ((with_reducible refine gate_callee (f := 13) rfl ?_); refine goesL_ (some 11) rfl rfl Try.func13 (by kernel_rfl) rfl #[] rfl (by (try simp only [List.map_toArray, List.map_cons, List.map_nil]); first | done | rfl | (simp only [List.length_drop, List.length_take]; rfl)) ?_; (with_reducible refine (hopperlaw05_awake.calls kj1  t199 _ A8.out).mono ?_); rintro e w9 ⟨rfl, hb⟩; refine ⟨_, rfl, ?_⟩; have n0_ := Aside0.mk (below_step (by repeat (first | (with_reducible first | exact HB.out | apply below_alloc | apply pw_below_drewN | apply below_drew1) | exact HB.out)) hb); clear HB; have HB := n0_; clear n0_; (try clear hb); (try clear hb2); (try clear hk); (try clear hi)))
        go_ret
        exact ⟨by first | rfl | (simp [errW_none, errW_some] <;> rfl) | (simp [*, errW_none, errW_some] <;> rfl), by repeat (first | (with_reducible first | exact HB.out | apply below_alloc | apply pw_below_drewN | apply below_drew1) | exact HB.out)⟩
      · replace c7 := Bool.eq_false_iff.mpr c7
        subst c7
        have H1 : ((pick_Of.f kj1 l0).bind fun t200 => ((hopperlaw05_places.f kj1 l0).bind fun t203 => ((hopperref03_Ints.f kj1 t200 t203).bind fun t206 => (if t206 = true then ((pick_Right.f kj1 t200 (l0.length : Int)).bind fun t207 => (if t207 = true then ((pick_Bits.f kj1 t200 (l0.length : Int)).bind fun t208 => ((hopperref04_Same.f kj1 t208 l0).bind fun t211 => (some t211))) else (some false))) else (some false))))) = some r := by rw [if_neg (show ¬ (false = true) by decide)] at H; exact H
        clear H
        have H := H1
        clear H1
        replace H := Option.bind_eq_some_iff.mp H
        obtain ⟨t200, A100, H⟩ := H
        replace H : ((hopperlaw05_places.f kj1 l0).bind fun t203 => ((hopperref03_Ints.f kj1 t200 t203).bind fun t206 => (if t206 = true then ((pick_Right.f kj1 t200 (l0.length : Int)).bind fun t207 => (if t207 = true then ((pick_Bits.f kj1 t200 (l0.length : Int)).bind fun t208 => ((hopperref04_Same.f kj1 t208 l0).bind fun t211 => (some t211))) else (some false))) else (some false)))) = some r := H
        have A10 := Aside0.mk A100
        clear A100
        replace H := Option.bind_eq_some_iff.mp H
        obtain ⟨t203, A110, H⟩ := H
        replace H : ((hopperref03_Ints.f kj1 t200 t203).bind fun t206 => (if t206 = true then ((pick_Right.f kj1 t200 (l0.length : Int)).bind fun t207 => (if t207 = true then ((pick_Bits.f kj1 t200 (l0.length : Int)).bind fun t208 => ((hopperref04_Same.f kj1 t208 l0).bind fun t211 => (some t211))) else (some false))) else (some false))) = some r := H
        have A11 := Aside0.mk A110
        clear A110
        replace H := Option.bind_eq_some_iff.mp H
        obtain ⟨t206, A120, H⟩ := H
        replace H : (if t206 = true then ((pick_Right.f kj1 t200 (l0.length : Int)).bind fun t207 => (if t207 = true then ((pick_Bits.f kj1 t200 (l0.length : Int)).bind fun t208 => ((hopperref04_Same.f kj1 t208 l0).bind fun t211 => (some t211))) else (some false))) else (some false)) = some r := H
        have A12 := Aside0.mk A120
        clear A120
        by_cases c13 : t206 = true
        · subst c13
          have H1 : ((pick_Right.f kj1 t200 (l0.length : Int)).bind fun t207 => (if t207 = true then ((pick_Bits.f kj1 t200 (l0.length : Int)).bind fun t208 => ((hopperref04_Same.f kj1 t208 l0).bind fun t211 => (some t211))) else (some false))) = some r := by rw [if_pos rfl] at H; exact H
          clear H
          have H := H1
          clear H1
          replace H := Option.bind_eq_some_iff.mp H
          obtain ⟨t207, A140, H⟩ := H
          replace H : (if t207 = true then ((pick_Bits.f kj1 t200 (l0.length : Int)).bind fun t208 => ((hopperref04_Same.f kj1 t208 l0).bind fun t211 => (some t211))) else (some false)) = some r := H
          have A14 := Aside0.mk A140
          clear A140
          by_cases c15 : t207 = true
          · subst c15
            have H1 : ((pick_Bits.f kj1 t200 (l0.length : Int)).bind fun t208 => ((hopperref04_Same.f kj1 t208 l0).bind fun t211 => (some t211))) = some r := by rw [if_pos rfl] at H; exact H
            clear H
            have H := H1
            clear H1
            replace H := Option.bind_eq_some_iff.mp H
            obtain ⟨t208, A160, H⟩ := H
            replace H : ((hopperref04_Same.f kj1 t208 l0).bind fun t211 => (some t211)) = some r := H
            have A16 := Aside0.mk A160
            clear A160
            replace H := Option.bind_eq_some_iff.mp H
            obtain ⟨t211, A170, H⟩ := H
            replace H : (some t211) = some r := H
            have A17 := Aside0.mk A170
            clear A170
            obtain rfl := Option.some.inj H
            go_wp2_with (first | ((with_reducible refine gate_callee (f := 32) rfl ?_); refine goesL_ (some 13) rfl rfl Try.func32 (by kernel_rfl) rfl #[.slice A0 l0.length c0] rfl (by (try simp only [List.map_toArray, List.map_cons, List.map_nil]); first | done | rfl | (simp only [List.length_drop, List.length_take]; rfl)) ?_; (with_reducible refine (pick_Of.calls kj1 _ _ l0 t200 _ ?side1 ?side2 A10.out).mono ?_); (case side1 => repeat (first | exact (Kd.C_below HR0.out HB.out) | (with_reducible refine Kd.C_alloc ?_ _) | (with_reducible refine Kd.C_drewN ?_ _) | (with_reducible refine Kd.C_drew ?_))); (case side2 => exact HC0.out); rintro e w18 ⟨v201, rfl, ho0, hb⟩; refine ⟨_, rfl, ?_⟩; have n0_ := Aside0.mk (Kd.R_lower ho0 (below_size (by repeat (first | (with_reducible first | exact HB.out | apply below_alloc | apply pw_below_drewN | apply below_drew1) | exact HB.out)))); have n1_ := Aside0.mk (below_step (by repeat (first | (with_reducible first | exact HB.out | apply below_alloc | apply pw_below_drewN | apply below_drew1) | exact HB.out)) hb); clear HB; have HO202 := n0_; have HB := n1_; clear n0_ n1_; (try clear hb); (try clear hb2); (try clear hk); (try clear hi); (try clear ho0)) | ((with_reducible refine gate_callee (f := 15) rfl ?_); refine goesL_ (some 16) rfl rfl Try.func15 (by kernel_rfl) rfl #[.slice A0 l0.length c0] rfl (by (try simp only [List.map_toArray, List.map_cons, List.map_nil]); first | done | rfl | (simp only [List.length_drop, List.length_take]; rfl)) ?_; (with_reducible refine (hopperlaw05_places.calls kj1 _ _ l0 t203 _ ?side1 ?side2 A11.out).mono ?_); (case side1 => repeat (first | exact (Kd.C_below HR0.out HB.out) | (with_reducible refine Kd.C_alloc ?_ _) | (with_reducible refine Kd.C_drewN ?_ _) | (with_reducible refine Kd.C_drew ?_))); (case side2 => exact HC0.out); rintro e w19 ⟨v204, rfl, ho0, hb⟩; refine ⟨_, rfl, ?_⟩; have n0_ := Aside0.mk (Kd.R_elder' (by (with_reducible repeat (first | apply Kd.R_alloc | apply Kd.R_drewN | apply Kd.R_drew)); exact HO202.out) (Kd.R_base ho0) hb); have n1_ := Aside0.mk (Kd.R_lower (Kd.R_new' ho0 (Kd.R_lt (by (with_reducible repeat (first | apply Kd.R_alloc | apply Kd.R_drewN | apply Kd.R_drew)); exact HO202.out))) (below_size (by repeat (first | (with_reducible first | exact HB.out | apply below_alloc | apply pw_below_drewN | apply below_drew1) | exact HB.out)))); have n2_ := Aside0.mk (below_step (by repeat (first | (with_reducible first | exact HB.out | apply below_alloc | apply pw_below_drewN | apply below_drew1) | exact HB.out)) hb); clear HO202; clear HB; have HO202 := n0_; have HO205 := n1_; have HB := n2_; clear n0_ n1_ n2_; (try clear hb); (try clear hb2); (try clear hk); (try clear hi); (try clear ho0); obtain ⟨Ao20, co20, eo20⟩ := Kd.R_slice HO202.out; subst eo20; obtain ⟨Ao21, co21, eo21⟩ := Kd.R_slice HO205.out; subst eo21) | ((with_reducible refine gate_callee (f := 18) rfl ?_); refine goesL_ (some 17) rfl rfl Try.func18 (by kernel_rfl) rfl #[.slice Ao20 t200.length co20, .slice Ao21 t203.length co21] rfl (by (try simp only [List.map_toArray, List.map_cons, List.map_nil]); first | done | rfl | (simp only [List.length_drop, List.length_take]; rfl)) ?_; (with_reducible refine (hopperref03_Ints.calls kj1 _ _ t200 _ _ t203 true _ ?side1 ?side2 ?side3 ?side4 A12.out).mono ?_); (case side1 => repeat (first | exact (Kd.R_reads' HO202.out).2.2 | (with_reducible refine Kd.C_alloc ?_ _) | (with_reducible refine Kd.C_drewN ?_ _) | (with_reducible refine Kd.C_drew ?_))); (case side2 => exact (Kd.R_reads' HO202.out).2.1); (case side3 => repeat (first | exact (Kd.R_reads' HO205.out).2.2 | (with_reducible refine Kd.C_alloc ?_ _) | (with_reducible refine Kd.C_drewN ?_ _) | (with_reducible refine Kd.C_drew ?_))); (case side4 => exact (Kd.R_reads' HO205.out).2.1); rintro e w' ⟨rfl, ⟨nd, rfl⟩⟩; refine ⟨_, rfl, ?_⟩) | (go_at_call 14; (with_reducible refine (pick_Right.calls kj1 _ _ t200 (l0.length : Int) true _ ?side1 ?side2 A14.out).mono ?_); (case side1 => repeat (first | exact (Kd.R_reads' HO202.out).2.2 | (with_reducible refine Kd.C_alloc ?_ _) | (with_reducible refine Kd.C_drewN ?_ _) | (with_reducible refine Kd.C_drew ?_))); (case side2 => exact (Kd.R_reads' HO202.out).2.1); rintro e w' ⟨rfl, ⟨nd, rfl⟩⟩) | (go_at_call 33; (with_reducible refine (pick_Bits.calls kj1 _ _ t200 (l0.length : Int) t208 _ ?side1 ?side2 A16.out).mono ?_); (case side1 => repeat (first | exact (Kd.R_reads' HO202.out).2.2 | (with_reducible refine Kd.C_alloc ?_ _) | (with_reducible refine Kd.C_drewN ?_ _) | (with_reducible refine Kd.C_drew ?_))); (case side2 => exact (Kd.R_reads' HO202.out).2.1); rintro e w22 ⟨v209, rfl, ho0, hb⟩; have n0_ := Aside0.mk (Kd.R_below (by (with_reducible repeat (first | apply Kd.R_alloc | apply Kd.R_drewN | apply Kd.R_drew)); exact HO202.out) hb); have n1_ := Aside0.mk (Kd.R_below (by (with_reducible repeat (first | apply Kd.R_alloc | apply Kd.R_drewN | apply Kd.R_drew)); exact HO205.out) hb); have n2_ := Aside0.mk (Kd.R_lower ho0 (below_size (by repeat (first | (with_reducible first | exact HB.out | apply below_alloc | apply pw_below_drewN | apply below_drew1) | exact HB.out)))); have n3_ := Aside0.mk (below_step (by repeat (first | (with_reducible first | exact HB.out | apply below_alloc | apply pw_below_drewN | apply below_drew1) | exact HB.out)) hb); clear HO202; clear HO205; clear HB; have HO202 := n0_; have HO205 := n1_; have HO210 := n2_; have HB := n3_; clear n0_ n1_ n2_ n3_; (try clear hb); (try clear hb2); (try clear hk); (try clear hi); (try clear ho0); obtain ⟨Ao23, co23, eo23⟩ := Kd.R_slice HO210.out; subst eo23) | (go_at_call 30; (with_reducible refine (hopperref04_Same.calls kj1 _ _ t208 _ _ l0 t211 _ ?side1 ?side2 ?side3 ?side4 A17.out).mono ?_); (case side1 => repeat (first | exact (Kd.R_reads' HO210.out).2.2 | (with_reducible refine Kd.C_alloc ?_ _) | (with_reducible refine Kd.C_drewN ?_ _) | (with_reducible refine Kd.C_drew ?_))); (case side2 => exact (Kd.R_reads' HO210.out).2.1); (case side3 => repeat (first | exact (Kd.C_below HR0.out HB.out) | (with_reducible refine Kd.C_alloc ?_ _) | (with_reducible refine Kd.C_drewN ?_ _) | (with_reducible refine Kd.C_drew ?_))); (case side4 => exact HC0.out); rintro e w' ⟨rfl, ⟨nd, rfl⟩⟩))
            go_ret
            exact ⟨by first | rfl | (simp [errW_none, errW_some] <;> rfl) | (simp [*, errW_none, errW_some] <;> rfl), by repeat (first | (with_reducible first | exact HB.out | apply below_alloc | apply pw_below_drewN | apply below_drew1) | exact HB.out)⟩
          · replace c15 := Bool.eq_false_iff.mpr c15
            subst c15
            have H1 : (some false) = some r := by rw [if_neg (show ¬ (false = true) by decide)] at H; exact H
            clear H
            have H := H1
            clear H1
            obtain rfl := Option.some.inj H
            go_wp2_with (first | ((with_reducible refine gate_callee (f := 32) rfl ?_); refine goesL_ (some 13) rfl rfl Try.func32 (by kernel_rfl) rfl #[.slice A0 l0.length c0] rfl (by (try simp only [List.map_toArray, List.map_cons, List.map_nil]); first | done | rfl | (simp only [List.length_drop, List.length_take]; rfl)) ?_; (with_reducible refine (pick_Of.calls kj1 _ _ l0 t200 _ ?side1 ?side2 A10.out).mono ?_); (case side1 => repeat (first | exact (Kd.C_below HR0.out HB.out) | (with_reducible refine Kd.C_alloc ?_ _) | (with_reducible refine Kd.C_drewN ?_ _) | (with_reducible refine Kd.C_drew ?_))); (case side2 => exact HC0.out); rintro e w24 ⟨v201, rfl, ho0, hb⟩; refine ⟨_, rfl, ?_⟩; have n0_ := Aside0.mk (Kd.R_lower ho0 (below_size (by repeat (first | (with_reducible first | exact HB.out | apply below_alloc | apply pw_below_drewN | apply below_drew1) | exact HB.out)))); have n1_ := Aside0.mk (below_step (by repeat (first | (with_reducible first | exact HB.out | apply below_alloc | apply pw_below_drewN | apply below_drew1) | exact HB.out)) hb); clear HB; have HO202 := n0_; have HB := n1_; clear n0_ n1_; (try clear hb); (try clear hb2); (try clear hk); (try clear hi); (try clear ho0)) | ((with_reducible refine gate_callee (f := 15) rfl ?_); refine goesL_ (some 16) rfl rfl Try.func15 (by kernel_rfl) rfl #[.slice A0 l0.length c0] rfl (by (try simp only [List.map_toArray, List.map_cons, List.map_nil]); first | done | rfl | (simp only [List.length_drop, List.length_take]; rfl)) ?_; (with_reducible refine (hopperlaw05_places.calls kj1 _ _ l0 t203 _ ?side1 ?side2 A11.out).mono ?_); (case side1 => repeat (first | exact (Kd.C_below HR0.out HB.out) | (with_reducible refine Kd.C_alloc ?_ _) | (with_reducible refine Kd.C_drewN ?_ _) | (with_reducible refine Kd.C_drew ?_))); (case side2 => exact HC0.out); rintro e w25 ⟨v204, rfl, ho0, hb⟩; refine ⟨_, rfl, ?_⟩; have n0_ := Aside0.mk (Kd.R_elder' (by (with_reducible repeat (first | apply Kd.R_alloc | apply Kd.R_drewN | apply Kd.R_drew)); exact HO202.out) (Kd.R_base ho0) hb); have n1_ := Aside0.mk (Kd.R_lower (Kd.R_new' ho0 (Kd.R_lt (by (with_reducible repeat (first | apply Kd.R_alloc | apply Kd.R_drewN | apply Kd.R_drew)); exact HO202.out))) (below_size (by repeat (first | (with_reducible first | exact HB.out | apply below_alloc | apply pw_below_drewN | apply below_drew1) | exact HB.out)))); have n2_ := Aside0.mk (below_step (by repeat (first | (with_reducible first | exact HB.out | apply below_alloc | apply pw_below_drewN | apply below_drew1) | exact HB.out)) hb); clear HO202; clear HB; have HO202 := n0_; have HO205 := n1_; have HB := n2_; clear n0_ n1_ n2_; (try clear hb); (try clear hb2); (try clear hk); (try clear hi); (try clear ho0); obtain ⟨Ao26, co26, eo26⟩ := Kd.R_slice HO202.out; subst eo26; obtain ⟨Ao27, co27, eo27⟩ := Kd.R_slice HO205.out; subst eo27) | ((with_reducible refine gate_callee (f := 18) rfl ?_); refine goesL_ (some 17) rfl rfl Try.func18 (by kernel_rfl) rfl #[.slice Ao26 t200.length co26, .slice Ao27 t203.length co27] rfl (by (try simp only [List.map_toArray, List.map_cons, List.map_nil]); first | done | rfl | (simp only [List.length_drop, List.length_take]; rfl)) ?_; (with_reducible refine (hopperref03_Ints.calls kj1 _ _ t200 _ _ t203 true _ ?side1 ?side2 ?side3 ?side4 A12.out).mono ?_); (case side1 => repeat (first | exact (Kd.R_reads' HO202.out).2.2 | (with_reducible refine Kd.C_alloc ?_ _) | (with_reducible refine Kd.C_drewN ?_ _) | (with_reducible refine Kd.C_drew ?_))); (case side2 => exact (Kd.R_reads' HO202.out).2.1); (case side3 => repeat (first | exact (Kd.R_reads' HO205.out).2.2 | (with_reducible refine Kd.C_alloc ?_ _) | (with_reducible refine Kd.C_drewN ?_ _) | (with_reducible refine Kd.C_drew ?_))); (case side4 => exact (Kd.R_reads' HO205.out).2.1); rintro e w' ⟨rfl, ⟨nd, rfl⟩⟩; refine ⟨_, rfl, ?_⟩) | (go_at_call 14; (with_reducible refine (pick_Right.calls kj1 _ _ t200 (l0.length : Int) false _ ?side1 ?side2 A14.out).mono ?_); (case side1 => repeat (first | exact (Kd.R_reads' HO202.out).2.2 | (with_reducible refine Kd.C_alloc ?_ _) | (with_reducible refine Kd.C_drewN ?_ _) | (with_reducible refine Kd.C_drew ?_))); (case side2 => exact (Kd.R_reads' HO202.out).2.1); rintro e w' ⟨rfl, ⟨nd, rfl⟩⟩))
            go_ret
            exact ⟨by first | rfl | (simp [errW_none, errW_some] <;> rfl) | (simp [*, errW_none, errW_some] <;> rfl), by repeat (first | (with_reducible first | exact HB.out | apply below_alloc | apply pw_below_drewN | apply below_drew1) | exact HB.out)⟩
        · replace c13 := Bool.eq_false_iff.mpr c13
          subst c13
          have H1 : (some false) = some r := by rw [if_neg (show ¬ (false = true) by decide)] at H; exact H
          clear H
          have H := H1
          clear H1
          obtain rfl := Option.some.inj H
          go_wp2_with (first | ((with_reducible refine gate_callee (f := 32) rfl ?_); refine goesL_ (some 13) rfl rfl Try.func32 (by kernel_rfl) rfl #[.slice A0 l0.length c0] rfl (by (try simp only [List.map_toArray, List.map_cons, List.map_nil]); first | done | rfl | (simp only [List.length_drop, List.length_take]; rfl)) ?_; (with_reducible refine (pick_Of.calls kj1 _ _ l0 t200 _ ?side1 ?side2 A10.out).mono ?_); (case side1 => repeat (first | exact (Kd.C_below HR0.out HB.out) | (with_reducible refine Kd.C_alloc ?_ _) | (with_reducible refine Kd.C_drewN ?_ _) | (with_reducible refine Kd.C_drew ?_))); (case side2 => exact HC0.out); rintro e w28 ⟨v201, rfl, ho0, hb⟩; refine ⟨_, rfl, ?_⟩; have n0_ := Aside0.mk (Kd.R_lower ho0 (below_size (by repeat (first | (with_reducible first | exact HB.out | apply below_alloc | apply pw_below_drewN | apply below_drew1) | exact HB.out)))); have n1_ := Aside0.mk (below_step (by repeat (first | (with_reducible first | exact HB.out | apply below_alloc | apply pw_below_drewN | apply below_drew1) | exact HB.out)) hb); clear HB; have HO202 := n0_; have HB := n1_; clear n0_ n1_; (try clear hb); (try clear hb2); (try clear hk); (try clear hi); (try clear ho0)) | ((with_reducible refine gate_callee (f := 15) rfl ?_); refine goesL_ (some 16) rfl rfl Try.func15 (by kernel_rfl) rfl #[.slice A0 l0.length c0] rfl (by (try simp only [List.map_toArray, List.map_cons, List.map_nil]); first | done | rfl | (simp only [List.length_drop, List.length_take]; rfl)) ?_; (with_reducible refine (hopperlaw05_places.calls kj1 _ _ l0 t203 _ ?side1 ?side2 A11.out).mono ?_); (case side1 => repeat (first | exact (Kd.C_below HR0.out HB.out) | (with_reducible refine Kd.C_alloc ?_ _) | (with_reducible refine Kd.C_drewN ?_ _) | (with_reducible refine Kd.C_drew ?_))); (case side2 => exact HC0.out); rintro e w29 ⟨v204, rfl, ho0, hb⟩; refine ⟨_, rfl, ?_⟩; have n0_ := Aside0.mk (Kd.R_elder' (by (with_reducible repeat (first | apply Kd.R_alloc | apply Kd.R_drewN | apply Kd.R_drew)); exact HO202.out) (Kd.R_base ho0) hb); have n1_ := Aside0.mk (Kd.R_lower (Kd.R_new' ho0 (Kd.R_lt (by (with_reducible repeat (first | apply Kd.R_alloc | apply Kd.R_drewN | apply Kd.R_drew)); exact HO202.out))) (below_size (by repeat (first | (with_reducible first | exact HB.out | apply below_alloc | apply pw_below_drewN | apply below_drew1) | exact HB.out)))); have n2_ := Aside0.mk (below_step (by repeat (first | (with_reducible first | exact HB.out | apply below_alloc | apply pw_below_drewN | apply below_drew1) | exact HB.out)) hb); clear HO202; clear HB; have HO202 := n0_; have HO205 := n1_; have HB := n2_; clear n0_ n1_ n2_; (try clear hb); (try clear hb2); (try clear hk); (try clear hi); (try clear ho0); obtain ⟨Ao30, co30, eo30⟩ := Kd.R_slice HO202.out; subst eo30; obtain ⟨Ao31, co31, eo31⟩ := Kd.R_slice HO205.out; subst eo31) | ((with_reducible refine gate_callee (f := 18) rfl ?_); refine goesL_ (some 17) rfl rfl Try.func18 (by kernel_rfl) rfl #[.slice Ao30 t200.length co30, .slice Ao31 t203.length co31] rfl (by (try simp only [List.map_toArray, List.map_cons, List.map_nil]); first | done | rfl | (simp only [List.length_drop, List.length_take]; rfl)) ?_; (with_reducible refine (hopperref03_Ints.calls kj1 _ _ t200 _ _ t203 false _ ?side1 ?side2 ?side3 ?side4 A12.out).mono ?_); (case side1 => repeat (first | exact (Kd.R_reads' HO202.out).2.2 | (with_reducible refine Kd.C_alloc ?_ _) | (with_reducible refine Kd.C_drewN ?_ _) | (with_reducible refine Kd.C_drew ?_))); (case side2 => exact (Kd.R_reads' HO202.out).2.1); (case side3 => repeat (first | exact (Kd.R_reads' HO205.out).2.2 | (with_reducible refine Kd.C_alloc ?_ _) | (with_reducible refine Kd.C_drewN ?_ _) | (with_reducible refine Kd.C_drew ?_))); (case side4 => exact (Kd.R_reads' HO205.out).2.1); rintro e w' ⟨rfl, ⟨nd, rfl⟩⟩; refine ⟨_, rfl, ?_⟩))
          go_ret
          exact ⟨by first | rfl | (simp [errW_none, errW_some] <;> rfl) | (simp [*, errW_none, errW_some] <;> rfl), by repeat (first | (with_reducible first | exact HB.out | apply below_alloc | apply pw_below_drewN | apply below_drew1) | exact HB.out)⟩


/-! ### pick_And: function 34, given -/
def pick_And.zi (x : Int) (next : List Int → List Int) : List Int → List Int
  | [] => []
  | y :: b => if x < y then next (y :: b) else if y = x then x :: pick_And.zi x next b else pick_And.zi x next b
def pick_And.z : List Int → List Int → List Int
  | [], _ => []
  | x :: a, b => pick_And.zi x (pick_And.z a) b
def pick_And.f (l0 : List Int) (l1 : List Int) : Option (List Int) := if l1.length < 17592186044416 then some (pick_And.z l0 l1) else none
theorem pick_And.info : (Try.prog.info? 3).map (fun i => (i.zero, i.size, i.bytes)) = some (some (.int .i64 0), 1, 8) := by kernel_rfl
theorem pick_And.head (l : List Int) (i : Nat) (hi : i < l.length) : l.drop i = rd l (i : Int) :: l.drop (i + 1) := by
  rw [List.drop_eq_getElem_cons hi]
  simp [rd, List.getD_eq_getElem?_getD, hi]
set_option maxHeartbeats 8000000 in
set_option maxRecDepth 100000 in
theorem pick_And.calls (A0 : Option Addr) (c0 : Nat) (l0 : List Int) (A1 : Option Addr) (c1 : Nat) (l1 : List Int) (r : List Int) (w : World) (hr0 : Kd.C (Kd.int .i64) w A0 l0.length l0) (hc0 : l0.length ≤ c0) (hr1 : Kd.C (Kd.int .i64) w A1 l1.length l1) (hc1 : l1.length ≤ c1) (h : pick_And.f l0 l1 = some r) :
    Calls Try.prog 34 #[.slice A0 l0.length c0, .slice A1 l1.length c1] w fun e w' => ∃ v0_ : Value, e = .returned (v0_) ∧ Kd.R (Kd.int .i64) 3 w' w.heap.size (fun _ => True) v0_ r ∧ Below w.heap.size w w' := by
  by_cases hl : l1.length < 17592186044416
  case neg => unfold pick_And.f at h; rw [if_neg hl] at h; cases h
  unfold pick_And.f at h
  rw [if_pos hl] at h
  have HZ := Aside0.mk (Option.some.inj h)
  have HR0 := Aside0.mk hr0
  have HR1 := Aside0.mk hr1
  have HC1 := Aside0.mk hc1
  have HL := Aside0.mk hl
  have hl0 := hr0.2.1
  clear h hr0 hr1 hc1 hl hc0
  have HB := Aside0.mk (Below.refl w.heap.size w)
  go_enter Try.func34, Try.ntmps34
  go_wp2
  go_step3
  go_wp2
  go_step3
  go_wp2
  go_loopg [1, 5, 11] (l0.length : Nat) (fun kq v1 v5 v11 w' => ∃ (i : Nat) (b o : List Int) (A : Option Addr) (c : Nat), v11 = .int .i64 (i : Int) ∧ v1 = .slice A b.length c ∧ Aside0 (i + kq = l0.length) ∧ Aside0 (r = o ++ pick_And.z (l0.drop i) b) ∧ Aside0 (o.length + b.length ≤ l1.length) ∧ Aside0 (b.length ≤ c) ∧ Aside0 (Kd.C (Kd.int .i64) w A b.length b) ∧ Aside0 (Kd.R (Kd.int .i64) 3 w' w.heap.size (fun _ => True) v5 o) ∧ Aside0 (Below w.heap.size w w'))
  case atStart => exact ⟨0, l1, [], A1, c1, rfl, rfl, ⟨by omega⟩, ⟨by simp [HZ.out]⟩, ⟨by simp⟩, HC1, HR1, ⟨Kd.R_nil _ _ _ _ _⟩, HB⟩
  case round =>
    clear HC1 HR1
    obtain ⟨i, b, o, A, c, rfl, rfl, HI, HE, HN, HC, HRb, HO, HB⟩ := hrel
    obtain ⟨wo, rfl⟩ : ∃ wo : World, wo = wr := ⟨_, rfl⟩
    cases gk with
    | zero =>
      have c_ : ¬ (i : Int) < (l0.length : Int) := by have := HI.out; omega
      have cb : decide ((i : Int) < (l0.length : Int)) = false := decide_eq_false c_
      have cb2 : decide (i < l0.length) = false := decide_eq_false (by omega)
      have HF : Aside0 (r = o) := ⟨by rw [HE.out, List.drop_eq_nil_of_le (by omega)]; simp [pick_And.z]⟩
      clear c_
      go_wp2
      rw [Exit.noGoto_ret]
      go_ret
      exact ⟨_, rfl, by rw [HF.out]; exact HO.out, HB.out⟩
    | succ k1 =>
      have c_ : (i : Int) < (l0.length : Int) := by have := HI.out; omega
      have cn : i < l0.length := by omega
      have cb : decide ((i : Int) < (l0.length : Int)) = true := decide_eq_true c_
      have cb2 : decide (i < l0.length) = true := decide_eq_true cn
      have HD := Aside0.mk (pick_And.head l0 i cn)
      obtain ⟨ad1, e1, hx1⟩ := Kd.at_int HR0.out (i : Int) (by omega) c_
      cases e1
      replace hx1 := (HB.out.cell (World.block_lt_of_cell? w _ hx1)).trans hx1
      simp only [Int.toNat_natCast] at hx1
      generalize rd l0 (i : Int) = x at *
      have HE2 : Aside0 (r = o ++ pick_And.zi x (pick_And.z (l0.drop (i + 1))) b) := ⟨by rw [HE.out, HD.out]; rfl⟩
      clear HE HD
      go_wp2
      clear hx1
      go_loopg [1, 5] (b.length : Nat) (fun kq v1 v5 w' => ∃ (b2 o2 : List Int) (A2 : Option Addr) (c2 : Nat), v1 = .slice A2 b2.length c2 ∧ Aside0 (b2.length = kq) ∧ Aside0 (r = o2 ++ pick_And.zi x (pick_And.z (l0.drop (i + 1))) b2) ∧ Aside0 (o2.length + b2.length ≤ l1.length) ∧ Aside0 (b2.length ≤ c2) ∧ Aside0 (Kd.C (Kd.int .i64) w A2 b2.length b2) ∧ Aside0 (Kd.R (Kd.int .i64) 3 w' w.heap.size (fun _ => True) v5 o2) ∧ Aside0 (Below w.heap.size w w'))
      case atStart => exact ⟨b, o, A, c, rfl, ⟨rfl⟩, HE2, HN, HC, HRb, HO, HB⟩
      case round =>
        clear HE2 HN HC HRb HO HB
        obtain ⟨b2, o2, A2, c2, rfl, HK, HE, HN, HC, HRb, HO, HB⟩ := hrel
        cases gk with
        | zero =>
          obtain rfl : b2 = [] := List.eq_nil_of_length_eq_zero HK.out
          have HF : Aside0 (r = o2) := ⟨by rw [HE.out]; simp [pick_And.zi]⟩
          go_wp2
          rw [Exit.noGoto_ret]
          go_ret
          exact ⟨_, rfl, by rw [HF.out]; exact HO.out, HB.out⟩
        | succ k2 =>
          obtain ⟨y, t, HT⟩ : ∃ y t, Aside0 (b2 = y :: t) := by
            cases b2 with
            | nil => exact absurd HK.out (by simp)
            | cons y t => exact ⟨y, t, ⟨rfl⟩⟩
          have hb : 0 < (b2.length : Int) := by have := HK.out; omega
          have hbn : 0 < b2.length := by omega
          have hb0 : decide (0 < (b2.length : Int)) = true := decide_eq_true hb
          have hb1 : decide (0 < b2.length) = true := decide_eq_true hbn
          obtain ⟨ad2, e2, hx2⟩ := Kd.at_int HRb.out (0 : Int) (by omega) hb
          cases e2
          replace hx2 := (HB.out.cell (World.block_lt_of_cell? w _ hx2)).trans hx2
          rw [show ((0 : Int)).toNat = 0 from rfl, show rd b2 0 = y by rw [HT.out]; rfl, Addr.add_zero'] at hx2
          have hbt : (0 < (b2.length : Int)) = True := eq_true hb
          by_cases hxy : x < y
          · have t1 : decide (x < y) = true := decide_eq_true hxy
            go_wp2
            go_roundg k1
            case measure => omega
            case rel => exact ⟨i + 1, b2, o2, _, c2, (by first | rfl | (simp; done) | go_num), rfl, ⟨by have := HI.out; omega⟩, ⟨by rw [HE.out, HT.out]; simp only [pick_And.zi, if_pos hxy]⟩, HN, HC, HRb, HO, HB⟩
          · have t1 : decide (x < y) = false := decide_eq_false hxy
            obtain ⟨i0, hi0, _, hsz, _⟩ := info_parts pick_And.info
            have hcut := cut_from (P := Try.prog) 22 3 .i64 Try.underlying22 hi0 1 hsz (some ad2) b2.length c2 1 (by omega) (by omega)
            have HRt := Aside0.mk (Kd.C_drop (m := 1) (c := c2) HRb.out (by omega) HC.out)
            have HCt : Aside0 (b2.length - 1 ≤ c2 - 1) := ⟨by have := HC.out; omega⟩
            have HTl : Aside0 (t.length = b2.length - 1) := ⟨by rw [HT.out]; simp⟩
            obtain ⟨A9, HA9⟩ : ∃ A9, Aside0 (A9 = (if c2 = 1 then (some ad2) else ((some ad2) : Option Addr).map (·.add (1 * 1)))) := ⟨_, ⟨rfl⟩⟩
            have HR9 : Aside0 (Kd.C (Kd.int .i64) w A9 t.length t) := ⟨by have z := HRt.out; rw [show List.drop 1 b2 = t by rw [HT.out]; rfl] at z; rw [HA9.out]; exact z⟩
            rw [show (1 : Int).toNat = 1 from rfl, ← HA9.out, ← HTl.out] at hcut
            clear HRt hi0 hsz
            by_cases hyx : y = x
            · have t2 : (y == x) = true := by simpa using hyx
              have HE2 : Aside0 (r = (o2 ++ [x]) ++ pick_And.zi x (pick_And.z (l0.drop (i + 1))) t) := ⟨by rw [HE.out, HT.out]; simp only [pick_And.zi, if_neg hxy, if_pos hyx]; simp⟩
              have HYX := Aside0.mk hyx
              clear hyx
              go_wp2_with (first | ((with_reducible refine gate_builtin (b := .append) (xs := #[.tmp 29, .tmp 31]) rfl ?_); at_builtin; refine Kd.R_append (Kd.int .i64) (w0 := w) w.heap.size rfl (.tmp 29) (.tmp 31) 22 3 (.int .i64 0) 8 rfl Try.underlying22 pick_And.info rfl (by decide) (by omega) u5 o2 x [.int .i64 x] (fun _ => True) (fun _ => False) rfl rfl ?aP (fun _ hk => hk.elim) ?aF ?aO ?aB ?aS ?aL ?_; (case aP => exact rfl); (case aB => exact HB.out); (case aF => exact (fun _ _ => trivial)); (case aO => exact HO.out); (case aS => exact below_size HB.out); (case aL => have := HN.out; have := HL.out; omega); intro v117 w9 ho hb hg hat; have n0_ := Aside0.mk hb; have n1_ := Aside0.mk ho; clear HB; clear HO; have HB := n0_; have HO := n1_; clear n0_ n1_; clear ho hb hg hat))
              go_roundg k2
              case measure => omega
              case rel => exact ⟨t, o2 ++ [x], A9, c2 - 1, rfl, ⟨by have := HTl.out; have := HK.out; omega⟩, HE2, ⟨by have := HTl.out; have := HN.out; simp; omega⟩, ⟨by have := HTl.out; have := HCt.out; omega⟩, HR9, HO, HB⟩
            · have t2 : (y == x) = false := by simpa using hyx
              have HE2 : Aside0 (r = o2 ++ pick_And.zi x (pick_And.z (l0.drop (i + 1))) t) := ⟨by rw [HE.out, HT.out]; simp only [pick_And.zi, if_neg hxy, if_neg hyx]⟩
              clear hyx
              go_wp2
              go_roundg k2
              case measure => omega
              case rel => exact ⟨t, o2, A9, c2 - 1, rfl, ⟨by have := HTl.out; have := HK.out; omega⟩, HE2, ⟨by have := HTl.out; have := HN.out; omega⟩, ⟨by have := HTl.out; have := HCt.out; omega⟩, HR9, HO, HB⟩

end Go.Proofs.Ytdohphiicmdilaa.P
