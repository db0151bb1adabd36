-- Written by hp.py, a wrapper round the kit's print; not by print.sh.
import Derived.Test.YtkdncanoajbdgaaPx0
namespace Go.Proofs.Ytkdncanoajbdgaa.P
open Go.RowKit Go.Proofs.YtkdncanoajbdgaaW.PrintWords Go.Proofs.YtkdncanoajbdgaaW.PrintLast Go.Proofs.YtkdncanoajbdgaaW.PrintMore
attribute [local go_sem] max2_int min2_int max_two min_two max_three min_three max_four min_four   -- for this text's walks alone
set_option linter.unusedVariables false
set_option linter.unusedSimpArgs false


/-! ### bits_Len32: function 45, given -/
def bits_Len32.ren : Go.Shelf.Ren := ⟨fun | 128 => 45 | n => n, fun | 51 => 57 | 3 => 3 | 4 => 4 | 46 => 60 | 5 => 5 | 9 => 9 | n => n, fun | n => n⟩
theorem bits_Len32.lays : Go.Proofs.Lays.n128 Try.prog bits_Len32.ren := {
  mixed := by kernel_rfl
  f128 := Try.func45.trans (congrArg some (by kernel_rfl))
  t3 := Try.underlying3
  a3 := Try.isAgg3
  z3 := Try.sizeOf3
  v3 := Try.zeroValue3
  t4 := Try.underlying4
  a4 := Try.isAgg4
  z4 := Try.sizeOf4
  v4 := Try.zeroValue4
  t5 := Try.underlying5
  a5 := Try.isAgg5
  z5 := Try.sizeOf5
  v5 := Try.zeroValue5
  t9 := Try.underlying9
  a9 := Try.isAgg9
  z9 := Try.sizeOf9
  v9 := Try.zeroValue9
  t46 := Try.underlying60
  a46 := Try.isAgg60
  z46 := Try.sizeOf60
  v46 := Try.zeroValue60
  t51 := Try.underlying57
  a51 := Try.isAgg57
  z51 := Try.sizeOf57
  v51 := Try.zeroValue57 }
def bits_Len32.f (a0 : Int) : Option (Int) := if 0 ≤ a0 ∧ a0 ≤ 4294967295 then some (Go.Lib.bitLen a0.toNat) else none
theorem bits_Len32.calls (a0 : Int) (r : Int) (w : World) (h : bits_Len32.f a0 = some r) :
    Calls Try.prog 45 #[.int .u32 a0] w fun e w' => e = .returned (.int .i64 r) ∧ Drawn0 w w' := by
  unfold bits_Len32.f at h
  by_cases hc : 0 ≤ a0 ∧ a0 ≤ 4294967295
  case neg => rw [if_neg hc] at h; cases h
  rw [if_pos hc] at h
  obtain rfl := Option.some.inj h
  exact (Any.bits_Len32 bits_Len32.lays a0 w hc.1 hc.2).mono fun e w' ⟨he, hw⟩ => ⟨he, by rw [hw]; exact Drawn0.refl _⟩


/-! ### slices_Max_int_int: function 46, given -/
def slices_Max_int_int.m (l : List Int) : Int := (l.drop 1).foldl mx (rd l 0)
def slices_Max_int_int.f (l0 : List Int) : Option (Int) := if 0 < l0.length then some (slices_Max_int_int.m l0) else none
theorem slices_Max_int_int.snoc (l : List Int) (i : Nat) (h0 : 0 < i) (hi : i < l.length) : slices_Max_int_int.m (l.take (i + 1)) = mx (slices_Max_int_int.m (l.take i)) (rd l (i : Int)) := by
  unfold slices_Max_int_int.m
  have e1 : rd (l.take (i + 1)) 0 = rd l 0 := by simp [rd, List.getD_eq_getElem?_getD, List.getElem?_take]
  have e2 : rd (l.take i) 0 = rd l 0 := by simp [rd, List.getD_eq_getElem?_getD, List.getElem?_take, h0]
  have e3 : rd l (i : Int) = l[i] := by simp [rd, List.getD_eq_getElem?_getD, hi]
  rw [e1, e2, e3, List.take_succ_eq_append_getElem hi, List.drop_append_of_le_length (by simp; omega), List.foldl_append]
  rfl
set_option maxHeartbeats 8000000 in
set_option maxRecDepth 100000 in
theorem slices_Max_int_int.calls (A0 : Option Addr) (c0 : Nat) (l0 : List Int) (r : Int) (w : World) (hr0 : Kd.C (Kd.int .i64) w A0 l0.length l0) (hc0 : l0.length ≤ c0) (h : slices_Max_int_int.f l0 = some r) :
    Calls Try.prog 46 #[.slice A0 l0.length c0] w fun e w' => e = .returned (.int .i64 r) ∧ Drawn0 w w' := by
  unfold slices_Max_int_int.f at h
  by_cases hc : 0 < l0.length
  case neg => rw [if_neg hc] at h; cases h
  rw [if_pos hc] at h
  have HE := Aside0.mk (Option.some.inj h)
  have HR0 := Aside0.mk hr0
  have hl0 := hr0.2.1
  clear h hr0 hc0
  have t1 : decide ((l0.length : Int) < 1) = false := decide_eq_false (by omega)
  have t2 : decide (l0.length < 1) = false := decide_eq_false (by omega)
  have t3 : (l0.length == 0) = false := by rw [beq_eq_false_iff_ne]; omega
  have hlt : (0 : Int) < (l0.length : Int) := by omega
  obtain ⟨ad, e1, hx⟩ := Kd.at_int HR0.out (0 : Int) (by omega) (by omega)
  cases e1
  rw [show ((0 : Int)).toNat = 0 from rfl, Addr.add_zero'] at hx
  have HM : Aside0 (rd l0 0 = slices_Max_int_int.m (l0.take 1)) := ⟨by
    unfold slices_Max_int_int.m
    rw [List.drop_eq_nil_of_le (by simp; omega)]
    simp [rd, List.getD_eq_getElem?_getD, List.getElem?_take]⟩
  generalize rd l0 0 = z0 at *
  go_enter Try.func46, Try.ntmps46
  go_wp2
  clear hx
  go_loopg [3, 4] (l0.length : Nat) (fun kq v3 v4 w' => ∃ (i : Nat) (z : Int), v4 = .int .i64 (i : Int) ∧ v3 = .int .i64 z ∧ Aside0 (0 < i) ∧ Aside0 (i + kq = l0.length + 1) ∧ Aside0 (z = slices_Max_int_int.m (l0.take i)) ∧ Drawn0 w w')
  case atStart => exact ⟨1, z0, rfl, rfl, ⟨by omega⟩, ⟨by omega⟩, HM, by repeat (first | exact Drawn0.refl _ | apply Drawn0.step)⟩
  case round =>
    clear HM
    obtain ⟨i, z, rfl, rfl, H0, HI, HZ, ⟨m1, rfl⟩⟩ := hrel
    by_cases c : i < l0.length
    · have cb : decide ((i : Int) < (l0.length : Int)) = true := decide_eq_true (by omega)
      have cb2 : decide (i < l0.length) = true := decide_eq_true c
      have ci : (i : Int) < (l0.length : Int) := by omega
      obtain ⟨ad2, e2, hx2⟩ := Kd.at_int HR0.out (i : Int) (by omega) ci
      cases e2
      simp only [Int.toNat_natCast] at hx2
      have HS := Aside0.mk (slices_Max_int_int.snoc l0 i H0.out c)
      rw [← HZ.out] at HS
      generalize rd l0 (i : Int) = x at *
      obtain ⟨q, hq⟩ : ∃ q, mx z x = q := ⟨_, rfl⟩
      rw [hq] at HS
      have hq2 : (if z < x then x else z) = q := hq
      have HQ := Aside0.mk hq
      clear hq
      cases gk with
      | zero => exact absurd HI.out (by omega)
      | succ k1 =>
        go_wp2
        go_roundg k1
        case measure => omega
        case rel => exact ⟨i + 1, q, (by first | rfl | (simp; done) | go_num), rfl, ⟨by omega⟩, ⟨by have := HI.out; omega⟩, ⟨HS.out.symm⟩, by repeat (first | exact Drawn0.refl _ | apply Drawn0.step)⟩
    · have cb : decide ((i : Int) < (l0.length : Int)) = false := decide_eq_false (by omega)
      have cb2 : decide (i < l0.length) = false := decide_eq_false c
      have HF : Aside0 (z = r) := ⟨by rw [HZ.out, List.take_of_length_le (by omega)]; exact HE.out⟩
      go_wp2
      go_ret
      exact ⟨by rw [← HF.out]; rfl, by repeat (first | exact Drawn0.refl _ | apply Drawn0.step)⟩

/-! ### pack_Width: function 33 -/
def pack_Width.f (l0 : List Int) : Option (Int) := if (l0.length : Int) = 0 then (some 0) else ((slices_Max_int_int.f l0).bind fun t164 => ((bits_Len32.f ((t164) % 4294967296)).bind fun t165 => (some t165)))
set_option maxHeartbeats 8000000 in
set_option maxRecDepth 100000 in
theorem pack_Width.calls (A0 : Option Addr) (c0 : Nat) (l0 : List Int) (r : Int) (w : World) (hr0 : Kd.C (Kd.int .i64) w A0 l0.length l0) (hc0 : l0.length ≤ c0) (h : pack_Width.f l0 = some r) :
    Calls Try.prog 33 #[.slice A0 l0.length c0] w fun e w' => e = .returned (.int .i64 r) ∧ Drawn0 w w' := by
  have HR0 := Aside0.mk hr0
  have HC0 := Aside0.mk hc0
  clear hr0 hc0
  have H : (if (l0.length : Int) = 0 then (some 0) else ((slices_Max_int_int.f l0).bind fun t164 => ((bits_Len32.f ((t164) % 4294967296)).bind fun t165 => (some t165)))) = some r := h
  clear h
  by_cases c2 : (l0.length : Int) = 0
  · rw [if_pos c2] at H
    have c2b0 : ((l0.length : Int) == 0) = true := beq_iff_eq.mpr c2
    have c2b1 : ((l0.length : Int) != 0) = false := bne_eq_false_iff_eq.mpr c2
    clear c2
    obtain rfl := Option.some.inj H
    go_enter Try.func33, Try.ntmps33
    go_wp2
    go_ret
    exact ⟨by first | rfl | (simp; done) | (simp [*]; done), by repeat (first | exact Drawn0.refl _ | apply Drawn0.step)⟩
  · rw [if_neg c2] at H
    have c2b0 : ((l0.length : Int) == 0) = false := beq_eq_false_iff_ne.mpr c2
    have c2b1 : ((l0.length : Int) != 0) = true := bne_iff_ne.mpr c2
    have c2b2 : ¬ (l0 = []) := fun h_ => c2 (by rw [h_]; rfl)
    replace H := Option.bind_eq_some_iff.mp H
    obtain ⟨t164, A30, H⟩ := H
    replace H : ((bits_Len32.f ((t164) % 4294967296)).bind fun t165 => (some t165)) = some r := H
    have A3 := Aside0.mk A30
    clear A30
    replace H := Option.bind_eq_some_iff.mp H
    obtain ⟨t165, A40, H⟩ := H
    replace H : (some t165) = some r := H
    have A4 := Aside0.mk A40
    clear A40
    obtain rfl := Option.some.inj H
    go_enter Try.func33, Try.ntmps33
    go_wp2_with (first | ((with_reducible refine gate_callee (f := 46) rfl ?_); refine goesL_ (some 7) rfl rfl Try.func46 (by kernel_rfl) rfl #[.slice A0 l0.length c0] rfl (by (try simp only [List.map_toArray, List.map_cons, List.map_nil]); first | done | rfl | (simp only [List.length_drop, List.length_take]; rfl)) ?_; (with_reducible refine (slices_Max_int_int.calls _ _ l0 t164 _ ?side1 ?side2 A3.out).mono ?_); (case side1 => repeat (first | exact HR0.out | (with_reducible refine Kd.C_alloc ?_ _) | (with_reducible refine Kd.C_drewN ?_ _) | (with_reducible refine Kd.C_drew ?_))); (case side2 => exact HC0.out); rintro e w' ⟨rfl, ⟨nd, rfl⟩⟩; refine ⟨_, rfl, ?_⟩) | ((with_reducible refine gate_callee (f := 45) rfl ?_); refine goesL_ (some 9) rfl rfl Try.func45 (by kernel_rfl) rfl #[.int .u32 ((t164) % 4294967296)] rfl (by (try simp only [List.map_toArray, List.map_cons, List.map_nil]); first | done | rfl | (simp only [List.length_drop, List.length_take]; rfl)) ?_; (with_reducible refine (bits_Len32.calls ((t164) % 4294967296) t165 _ A4.out).mono ?_); rintro e w' ⟨rfl, ⟨nd, rfl⟩⟩; refine ⟨_, rfl, ?_⟩))
    go_ret
    exact ⟨by first | rfl | (simp; done) | (simp [*]; done), by repeat (first | exact Drawn0.refl _ | apply Drawn0.step)⟩

/-! ### pack_Get: function 35 -/
def pack_Get.l0 : Nat → List Int → Int → Int → Int → Int → Int → Option (Int)
  | 0, _, _, _, _, _, _ => none
  | k + 1, x0, x1, x2, x7, x10, x11 => if x11 < x10 then (if (wrap64 (Int.tdiv (wrap64 ((wrap64 (x2 * x1)) + x11)) 8)) < (x0.length : Int) then (if 0 ≤ (wrap64 (Int.tdiv (wrap64 ((wrap64 (x2 * x1)) + x11)) 8)) then (if 0 ≤ (Int.tmod (wrap64 ((wrap64 (x2 * x1)) + x11)) 8) then (if 0 ≤ x11 then (pack_Get.l0 k x0 x1 x2 (Go.bits .or .i64 x7 (shl .i64 (wrap64 (Go.bits .and .u8 (shr .u8 (rd x0 (wrap64 (Int.tdiv (wrap64 ((wrap64 (x2 * x1)) + x11)) 8))) (Int.tmod (wrap64 ((wrap64 (x2 * x1)) + x11)) 8)) 1)) x11)) x10 (wrap64 (x11 + 1))) else (none)) else (none)) else (none)) else (pack_Get.l0 k x0 x1 x2 x7 x10 (wrap64 (x11 + 1)))) else (some x7)
def pack_Get.f (k : Nat) (l0 : List Int) (a1 : Int) (a2 : Int) : Option (Int) := pack_Get.l0 k l0 a1 a2 0 a1 0
theorem pack_Get.mono_l : ∀ k, (∀ y0 y1 y2 y3 y4 y5, LeO (pack_Get.l0 k y0 y1 y2 y3 y4 y5) (pack_Get.l0 (k + 1) y0 y1 y2 y3 y4 y5))
  | 0 => fun _ _ _ _ _ _ r h => by simp [pack_Get.l0] at h
  | k + 1 => by
    have ih0 := pack_Get.mono_l k
    · intro y0 y1 y2 y3 y4 y5
      unfold pack_Get.l0
      repeat' first
      | (with_reducible exact ih0 _ _ _ _ _ _)
      | (with_reducible exact LeO.refl _)
      | (with_reducible exact LeO.none _)
      | (with_reducible refine LeO.ite ?_ ?_)
      | (with_reducible refine LeO.bind ?_ (fun _ => ?_))
      | exact ih0 _ _ _ _ _ _
      | exact LeO.none _
      | refine LeO.ite ?_ ?_
      | refine LeO.bind ?_ (fun _ => ?_)
theorem pack_Get.mono : ∀ a0 a1 a2 k, LeO (pack_Get.f k a0 a1 a2) (pack_Get.f (k + 1) a0 a1 a2) := by
  intro a0 a1 a2 k
  have ih0 := pack_Get.mono_l k
  unfold pack_Get.f
  repeat' first
      | (with_reducible exact ih0 _ _ _ _ _ _)
      | (with_reducible exact LeO.refl _)
      | (with_reducible exact LeO.none _)
      | (with_reducible refine LeO.ite ?_ ?_)
      | (with_reducible refine LeO.bind ?_ (fun _ => ?_))
      | exact ih0 _ _ _ _ _ _
      | exact LeO.none _
      | refine LeO.ite ?_ ?_
      | refine LeO.bind ?_ (fun _ => ?_)
set_option maxHeartbeats 8000000 in
set_option maxRecDepth 100000 in
theorem pack_Get.calls (k : Nat) (A0 : Option Addr) (c0 : Nat) (l0 : List Int) (a1 : Int) (a2 : Int) (r : Int) (w : World) (hr0 : Kd.C (Kd.int .u8) w A0 l0.length l0) (hc0 : l0.length ≤ c0) (h : pack_Get.f k l0 a1 a2 = some r) :
    Calls Try.prog 35 #[.slice A0 l0.length c0, .int .i64 a1, .int .i64 a2] w fun e w' => e = .returned (.int .i64 r) ∧ Drawn0 w w' := by
  have HR0 := Aside0.mk hr0
  have HC0 := Aside0.mk hc0
  clear hr0 hc0
  have H : (pack_Get.l0 k l0 a1 a2 0 a1 0) = some r := h
  clear h
  have H' := Aside0.mk H
  clear H
  go_enter Try.func35, Try.ntmps35
  go_wp2
  go_loopg [7, 11] k (fun kq v7 v11 w' => ∃ (x7_1 : Int) (x11_1 : Int), v7 = .int .i64 x7_1 ∧ v11 = .int .i64 x11_1 ∧ Aside0 (pack_Get.l0 kq l0 a1 a2 x7_1 a1 x11_1 = some r) ∧ Aside0 (kq ≤ k) ∧ Drawn0 w w')
  case atStart => exact ⟨(0), (0), (by first | rfl | (simp; done) | (simp [*]; done)), (by first | rfl | (simp; done) | (simp [*]; done)), H', ⟨Nat.le_refl _⟩, by repeat (first | exact Drawn0.refl _ | apply Drawn0.step)⟩
  case round =>
    clear H'
    try clear p2
    try clear c3
    obtain ⟨x7_1, x11_1, rfl, rfl, HA, HK1, ⟨m1, rfl⟩⟩ := hrel
    cases gk with
    | zero => exact absurd HA.out (by simp [pack_Get.l0])
    | succ k1 =>
      have H := HA.out
      clear HA
      simp only [pack_Get.l0] at H
      by_cases c4 : x11_1 < a1
      · rw [if_pos c4] at H
        have c4b0 : decide (x11_1 < a1) = true := decide_eq_true c4
        clear c4
        by_cases c5 : (wrap64 (Int.tdiv (wrap64 ((wrap64 (a2 * a1)) + x11_1)) 8)) < (l0.length : Int)
        · rw [if_pos c5] at H
          have c5b0 : decide ((wrap64 (Int.tdiv (wrap64 ((wrap64 (a2 * a1)) + x11_1)) 8)) < (l0.length : Int)) = true := decide_eq_true c5
          clear c5
          obtain ⟨ji6, hji6⟩ : ∃ j_ : Int, (wrap64 (Int.tdiv (wrap64 ((wrap64 (a2 * a1)) + x11_1)) 8)) = j_ := ⟨_, rfl⟩
          replace H : (if 0 ≤ (ji6) then (if 0 ≤ (Int.tmod (wrap64 ((wrap64 (a2 * a1)) + x11_1)) 8) then (if 0 ≤ x11_1 then (pack_Get.l0 k1 l0 a1 a2 (Go.bits .or .i64 x7_1 (shl .i64 (wrap64 (Go.bits .and .u8 (shr .u8 (rd l0 (ji6)) (Int.tmod (wrap64 ((wrap64 (a2 * a1)) + x11_1)) 8)) 1)) x11_1)) a1 (wrap64 (x11_1 + 1))) else (none)) else (none)) else (none)) = some r := by first | (rw [hji6] at H; exact H) | (simp only [hji6] at H ⊢; exact H)
          (try rw [hji6] at c5b0)
          have hji6w : (IntKind.i64.wrap (Int.tdiv (wrap64 ((wrap64 (a2 * a1)) + x11_1)) 8)) = ji6 := (i64_w _).trans hji6
          by_cases c7 : 0 ≤ (ji6)
          · rw [if_pos c7] at H
            have c7b0 : decide (0 ≤ (ji6)) = true := decide_eq_true c7
            clear c7
            obtain ⟨ji8, hji8⟩ : ∃ j_ : Int, (Int.tmod (wrap64 ((wrap64 (a2 * a1)) + x11_1)) 8) = j_ := ⟨_, rfl⟩
            replace H : (if 0 ≤ (ji8) then (if 0 ≤ x11_1 then (pack_Get.l0 k1 l0 a1 a2 (Go.bits .or .i64 x7_1 (shl .i64 (wrap64 (Go.bits .and .u8 (shr .u8 (rd l0 (ji6)) (ji8)) 1)) x11_1)) a1 (wrap64 (x11_1 + 1))) else (none)) else (none)) = some r := by first | (rw [hji8] at H; exact H) | (simp only [hji8] at H ⊢; exact H)
            by_cases c9 : 0 ≤ (ji8)
            · rw [if_pos c9] at H
              have c9b0 := eq_true c9
              have c9b1 : decide (0 ≤ (ji8)) = true := decide_eq_true c9
              clear c9
              obtain ⟨ji10, hji10⟩ : ∃ j_ : Int, (shr .u8 (rd l0 (ji6)) (ji8)) = j_ := ⟨_, rfl⟩
              replace H : (if 0 ≤ x11_1 then (pack_Get.l0 k1 l0 a1 a2 (Go.bits .or .i64 x7_1 (shl .i64 (wrap64 (Go.bits .and .u8 (ji10) 1)) x11_1)) a1 (wrap64 (x11_1 + 1))) else (none)) = some r := by first | (rw [hji10] at H; exact H) | (simp only [hji10] at H ⊢; exact H)
              have hji10_ : ((rd l0 (ji6)) / 2 ^ min (ji8).toNat 8) = ji10 := hji10
              have hji10z : (ji8) ≤ 8 → ((rd l0 (ji6)) / 2 ^ (ji8).toNat) = ji10 := shr_small hji10
              by_cases c11 : 0 ≤ x11_1
              · rw [if_pos c11] at H
                have c11b0 := eq_true c11
                have c11b1 : decide (0 ≤ x11_1) = true := decide_eq_true c11
                clear c11
                obtain ⟨ji12, hji12⟩ : ∃ j_ : Int, (shl .i64 (wrap64 (Go.bits .and .u8 (ji10) 1)) x11_1) = j_ := ⟨_, rfl⟩
                replace H : (pack_Get.l0 k1 l0 a1 a2 (Go.bits .or .i64 x7_1 (ji12)) a1 (wrap64 (x11_1 + 1))) = some r := by first | (rw [hji12] at H; exact H) | (simp only [hji12] at H ⊢; exact H)
                have hji12_ : (IntKind.i64.wrap ((wrap64 (Go.bits .and .u8 (ji10) 1)) * 2 ^ min x11_1.toNat 64)) = ji12 := hji12
                have hji12z : x11_1 ≤ 64 → (IntKind.i64.wrap ((wrap64 (Go.bits .and .u8 (ji10) 1)) * 2 ^ x11_1.toNat)) = ji12 := shl_small hji12
                have hji12y : (wrap64 ((wrap64 (Go.bits .and .u8 (ji10) 1)) * 2 ^ min x11_1.toNat 64)) = ji12 := (i64_w _).symm.trans hji12_
                have hji12x : x11_1 ≤ 64 → (wrap64 ((wrap64 (Go.bits .and .u8 (ji10) 1)) * 2 ^ x11_1.toNat)) = ji12 := fun h_ => (i64_w _).symm.trans (hji12z h_)
                have H' := Aside0.mk H
                clear H
                have p166 : 0 ≤ ((ji6) : Int) := of_decide_eq_true (by first | (with_reducible assumption) | assumption)
                have q166 : (ji6) < (l0.length : Int) := of_decide_eq_true (by first | (with_reducible assumption) | assumption)
                obtain ⟨ad166, e166, hx166_0⟩ := Kd.at_int HR0.out (ji6) p166 q166
                cases e166
                replace p166 := eq_true p166
                replace q166 := eq_true q166
                go_wp2
                go_roundg k1
                case measure => have := HK1.out; omega
                case rel => exact ⟨(Go.bits .or .i64 x7_1 (ji12)), (wrap64 (x11_1 + 1)), (by first | rfl | (simp; done) | (simp only [← hji12] <;> (first | rfl | simp)) | (simp [*]; done)), (by first | rfl | (simp; done) | (simp [*]; done)), H', ⟨by have := HK1.out; omega⟩, by repeat (first | exact Drawn0.refl _ | apply Drawn0.step)⟩
              · rw [if_neg c11] at H
                exact absurd H (by simp)
            · rw [if_neg c9] at H
              exact absurd H (by simp)
          · rw [if_neg c7] at H
            exact absurd H (by simp)
        · rw [if_neg c5] at H
          have c5b0 : decide ((wrap64 (Int.tdiv (wrap64 ((wrap64 (a2 * a1)) + x11_1)) 8)) < (l0.length : Int)) = false := decide_eq_false c5
          clear c5
          have H' := Aside0.mk H
          clear H
          go_wp2
          go_roundg k1
          case measure => have := HK1.out; omega
          case rel => exact ⟨(x7_1), (wrap64 (x11_1 + 1)), (by first | rfl | (simp; done) | (simp [*]; done)), (by first | rfl | (simp; done) | (simp [*]; done)), H', ⟨by have := HK1.out; omega⟩, by repeat (first | exact Drawn0.refl _ | apply Drawn0.step)⟩
      · rw [if_neg c4] at H
        have c4b0 : decide (x11_1 < a1) = false := decide_eq_false c4
        clear c4
        obtain rfl := Option.some.inj H
        go_wp2
        go_ret
        exact ⟨by first | rfl | (simp; done) | (simp [*]; done), by repeat (first | exact Drawn0.refl _ | apply Drawn0.step)⟩

-- NOT PRINTED: function 51 (slices_IndexFunc_int_int)


/-! ### slices_ContainsFunc_int_int: function 47, given -/
def slices_ContainsFunc_int_int.p (x : Int) : Bool := decide (x < 0) || decide (4294967295 < x)
def slices_ContainsFunc_int_int.f (l0 : List Int) (a1 : Nat) : Option (Bool) := if a1 = 48 then some (l0.any slices_ContainsFunc_int_int.p) else none
theorem slices_ContainsFunc_int_int.fn (x : Int) (w : World) : Calls Try.prog 48 #[.int .i64 x] w fun e w' => e = .returned (.bool (slices_ContainsFunc_int_int.p x)) ∧ Drawn0 w w' := by
  by_cases h : x < 0
  · have e : slices_ContainsFunc_int_int.p x = true := by unfold slices_ContainsFunc_int_int.p; simp [h]
    rw [e]
    have t1 : decide (x < 0) = true := decide_eq_true h
    clear e
    go_enter Try.func48, Try.ntmps48
    go_wp2
    repeat (go_quiet (fail); try go_wp2)
    go_ret
    exact ⟨rfl, by repeat (first | exact Drawn0.refl _ | apply Drawn0.step)⟩
  · have e : slices_ContainsFunc_int_int.p x = decide (4294967295 < x) := by unfold slices_ContainsFunc_int_int.p; simp [h]
    rw [e]
    have t1 : decide (x < 0) = false := decide_eq_false h
    clear e
    obtain ⟨b, hb⟩ : ∃ b, decide (4294967295 < x) = b := ⟨_, rfl⟩
    rw [hb]
    go_enter Try.func48, Try.ntmps48
    go_wp2
    repeat (go_quiet (fail); try go_wp2)
    go_ret
    exact ⟨rfl, by repeat (first | exact Drawn0.refl _ | apply Drawn0.step)⟩
theorem slices_ContainsFunc_int_int.any_succ (l : List Int) (i : Nat) (hi : i < l.length) (p : Int → Bool) : (l.take (i + 1)).any p = ((l.take i).any p || p (rd l (i : Int))) := by
  have e : rd l (i : Int) = l[i] := by simp [rd, List.getD_eq_getElem?_getD, hi]
  rw [e, List.take_succ_eq_append_getElem hi, List.any_append]
  simp
theorem slices_ContainsFunc_int_int.any_le (l : List Int) (i : Nat) (p : Int → Bool) (h : (l.take i).any p = true) : l.any p = true := by
  rw [← List.take_append_drop i l, List.any_append, h]
  rfl
def slices_ContainsFunc_int_int.Post (w : World) (l : List Int) (e : Ending) (w' : World) : Prop := ∃ r : Int, e = .returned (.int .i64 r) ∧ decide (0 ≤ r) = l.any slices_ContainsFunc_int_int.p ∧ Drawn0 w w'
set_option maxHeartbeats 8000000 in
set_option maxRecDepth 100000 in
theorem slices_ContainsFunc_int_int.index (A0 : Option Addr) (c0 : Nat) (l0 : List Int) (w : World) (hr0 : Kd.C (Kd.int .i64) w A0 l0.length l0) :
    Calls Try.prog 51 #[.slice A0 l0.length c0, .func (.func 48) #[] #[]] w (slices_ContainsFunc_int_int.Post w l0) := by
  have HR0 := Aside0.mk hr0
  have hl0 := hr0.2.1
  clear hr0
  go_enter Try.func51, Try.ntmps51
  go_wp2
  go_loopg [8] (l0.length : Nat) (fun kq v8 w' => ∃ (i : Nat), v8 = .int .i64 (i : Int) ∧ Aside0 (i + kq = l0.length) ∧ Aside0 ((l0.take i).any slices_ContainsFunc_int_int.p = false) ∧ Drawn0 w w')
  case atStart => exact ⟨0, rfl, ⟨by omega⟩, ⟨rfl⟩, by repeat (first | exact Drawn0.refl _ | apply Drawn0.step)⟩
  case round =>
    obtain ⟨i, rfl, HI, HA, ⟨m1, rfl⟩⟩ := hrel
    cases gk with
    | zero =>
      have c_ : ¬ (i : Int) < (l0.length : Int) := by have := HI.out; omega
      have cb : decide ((i : Int) < (l0.length : Int)) = false := decide_eq_false c_
      have cb2 : decide (i < l0.length) = false := decide_eq_false (by omega)
      have HF : Aside0 (l0.any slices_ContainsFunc_int_int.p = false) := ⟨by have := HA.out; rwa [List.take_of_length_le (by omega)] at this⟩
      clear c_
      go_wp2
      go_ret
      exact ⟨-1, rfl, by rw [HF.out]; rfl, by repeat (first | exact Drawn0.refl _ | apply Drawn0.step)⟩
    | succ k1 =>
      have c_ : (i : Int) < (l0.length : Int) := by have := HI.out; omega
      have cn : i < l0.length := by omega
      have cb : decide ((i : Int) < (l0.length : Int)) = true := decide_eq_true c_
      have cb2 : decide (i < l0.length) = true := decide_eq_true cn
      have HX := Aside0.mk (slices_ContainsFunc_int_int.any_succ l0 i cn slices_ContainsFunc_int_int.p)
      have HY := Aside0.mk (slices_ContainsFunc_int_int.any_le l0 (i + 1) slices_ContainsFunc_int_int.p)
      obtain ⟨ad2, e2, hx2⟩ := Kd.at_int HR0.out (i : Int) (by omega) c_
      cases e2
      simp only [Int.toNat_natCast] at hx2
      generalize rd l0 (i : Int) = x at *
      have HC := Aside0.mk (fun W => slices_ContainsFunc_int_int.fn x W)
      have HP : Aside0 ((l0.take (i + 1)).any slices_ContainsFunc_int_int.p = slices_ContainsFunc_int_int.p x) := ⟨by rw [HX.out, HA.out]; rfl⟩
      generalize slices_ContainsFunc_int_int.p x = b at *
      cases b with
      | true =>
        have HF : Aside0 (l0.any slices_ContainsFunc_int_int.p = true) := ⟨HY.out HP.out⟩
        go_wp2_with (go_at_call 48; (with_reducible refine (HC.out _).mono ?_); rintro e w8 ⟨rfl, ⟨⟨nn, rfl⟩⟩⟩)
        go_ret
        exact ⟨(i : Int), rfl, by rw [HF.out]; simp, by repeat (first | exact Drawn0.refl _ | apply Drawn0.step)⟩
      | false =>
        go_wp2_with (go_at_call 48; (with_reducible refine (HC.out _).mono ?_); rintro e w8 ⟨rfl, ⟨⟨nn, rfl⟩⟩⟩)
        go_roundg k1
        case measure => omega
        case rel => exact ⟨i + 1, (by first | rfl | (simp; done) | go_num), ⟨by have := HI.out; omega⟩, HP, by repeat (first | exact Drawn0.refl _ | apply Drawn0.step)⟩
set_option maxHeartbeats 8000000 in
set_option maxRecDepth 100000 in
theorem slices_ContainsFunc_int_int.calls (A0 : Option Addr) (c0 : Nat) (l0 : List Int) (a1 : Nat) (r : Bool) (w : World) (hr0 : Kd.C (Kd.int .i64) w A0 l0.length l0) (hc0 : l0.length ≤ c0) (h : slices_ContainsFunc_int_int.f l0 a1 = some r) :
    Calls Try.prog 47 #[.slice A0 l0.length c0, .func (.func a1) #[] #[]] w fun e w' => e = .returned (.bool r) ∧ Drawn0 w w' := by
  unfold slices_ContainsFunc_int_int.f at h
  by_cases ha : a1 = 48
  case neg => rw [if_neg ha] at h; cases h
  rw [if_pos ha] at h
  subst ha
  have HE := Aside0.mk (Option.some.inj h)
  have HC := Aside0.mk (slices_ContainsFunc_int_int.index A0 c0 l0 w hr0)
  clear h hr0 hc0
  go_enter Try.func47, Try.ntmps47
  go_wp2_with (go_at_call 51; refine HC.out.mono ?_; rintro e w8 ⟨q, rfl, hq, ⟨⟨nn, rfl⟩⟩⟩; have HQ := Aside0.mk hq; clear hq)
  go_ret
  exact ⟨by rw [← HE.out, ← HQ.out]; rfl, by repeat (first | exact Drawn0.refl _ | apply Drawn0.step)⟩

-- NOT PRINTED: function 52 (slices_Grow_byte_byte)

end Go.Proofs.Ytkdncanoajbdgaa.P
