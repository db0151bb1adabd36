import Derived.Test.YtljhlpkoilapiaaZPx0
-- Written by hp.py, a wrapper round the kit's print; not by print.sh.
namespace Go.Proofs.Ytljhlpkoilapiaa.P
open Go.RowKit Go.Proofs.YtljhlpkoilapiaaW.PrintWords Go.Proofs.YtljhlpkoilapiaaW.PrintLast Go.Proofs.YtljhlpkoilapiaaW.PrintMore
attribute [local go_sem] max2_int min2_int max_two min_two max_three min_three max_four min_four   -- for this text's walks alone
set_option linter.unusedVariables false
set_option linter.unusedSimpArgs false


/-! ### bits_Len32: function 59, given -/
def bits_Len32.ren : Go.Shelf.Ren := ⟨fun | 128 => 59 | n => n, fun | 51 => 78 | 3 => 3 | 4 => 4 | 46 => 72 | 5 => 5 | 9 => 9 | n => n, fun | n => n⟩
theorem bits_Len32.lays : Go.Proofs.Lays.n128 Try.prog bits_Len32.ren := {
  mixed := by kernel_rfl
  f128 := Try.func59.trans (congrArg some (by kernel_rfl))
  t3 := Try.underlying3
  a3 := Try.isAgg3
  z3 := Try.sizeOf3
  v3 := Try.zeroValue3
  t4 := Try.underlying4
  a4 := Try.isAgg4
  z4 := Try.sizeOf4
  v4 := Try.zeroValue4
  t5 := Try.underlying5
  a5 := Try.isAgg5
  z5 := Try.sizeOf5
  v5 := Try.zeroValue5
  t9 := Try.underlying9
  a9 := Try.isAgg9
  z9 := Try.sizeOf9
  v9 := Try.zeroValue9
  t46 := Try.underlying72
  a46 := Try.isAgg72
  z46 := Try.sizeOf72
  v46 := Try.zeroValue72
  t51 := Try.underlying78
  a51 := Try.isAgg78
  z51 := Try.sizeOf78
  v51 := Try.zeroValue78 }
def bits_Len32.f (a0 : Int) : Option (Int) := if 0 ≤ a0 ∧ a0 ≤ 4294967295 then some (Go.Lib.bitLen a0.toNat) else none
theorem bits_Len32.calls (a0 : Int) (r : Int) (w : World) (h : bits_Len32.f a0 = some r) :
    Calls Try.prog 59 #[.int .u32 a0] w fun e w' => e = .returned (.int .i64 r) ∧ Drawn0 w w' := by
  unfold bits_Len32.f at h
  by_cases hc : 0 ≤ a0 ∧ a0 ≤ 4294967295
  case neg => rw [if_neg hc] at h; cases h
  rw [if_pos hc] at h
  obtain rfl := Option.some.inj h
  exact (Any.bits_Len32 bits_Len32.lays a0 w hc.1 hc.2).mono fun e w' ⟨he, hw⟩ => ⟨he, by rw [hw]; exact Drawn0.refl _⟩


/-! ### slices_Max_int_int: function 60, given -/
def slices_Max_int_int.m (l : List Int) : Int := (l.drop 1).foldl mx (rd l 0)
def slices_Max_int_int.f (l0 : List Int) : Option (Int) := if 0 < l0.length then some (slices_Max_int_int.m l0) else none
theorem slices_Max_int_int.snoc (l : List Int) (i : Nat) (h0 : 0 < i) (hi : i < l.length) : slices_Max_int_int.m (l.take (i + 1)) = mx (slices_Max_int_int.m (l.take i)) (rd l (i : Int)) := by
  unfold slices_Max_int_int.m
  have e1 : rd (l.take (i + 1)) 0 = rd l 0 := by simp [rd, List.getD_eq_getElem?_getD, List.getElem?_take]
  have e2 : rd (l.take i) 0 = rd l 0 := by simp [rd, List.getD_eq_getElem?_getD, List.getElem?_take, h0]
  have e3 : rd l (i : Int) = l[i] := by simp [rd, List.getD_eq_getElem?_getD, hi]
  rw [e1, e2, e3, List.take_succ_eq_append_getElem hi, List.drop_append_of_le_length (by simp; omega), List.foldl_append]
  rfl
set_option maxHeartbeats 8000000 in
set_option maxRecDepth 100000 in
theorem slices_Max_int_int.calls (A0 : Option Addr) (c0 : Nat) (l0 : List Int) (r : Int) (w : World) (hr0 : Kd.C (Kd.int .i64) w A0 l0.length l0) (hc0 : l0.length ≤ c0) (h : slices_Max_int_int.f l0 = some r) :
    Calls Try.prog 60 #[.slice A0 l0.length c0] w fun e w' => e = .returned (.int .i64 r) ∧ Drawn0 w w' := by
  unfold slices_Max_int_int.f at h
  by_cases hc : 0 < l0.length
  case neg => rw [if_neg hc] at h; cases h
  rw [if_pos hc] at h
  have HE := Aside0.mk (Option.some.inj h)
  have HR0 := Aside0.mk hr0
  have hl0 := hr0.2.1
  clear h hr0 hc0
  have t1 : decide ((l0.length : Int) < 1) = false := decide_eq_false (by omega)
  have t2 : decide (l0.length < 1) = false := decide_eq_false (by omega)
  have t3 : (l0.length == 0) = false := by rw [beq_eq_false_iff_ne]; omega
  have hlt : (0 : Int) < (l0.length : Int) := by omega
  obtain ⟨ad, e1, hx⟩ := Kd.at_int HR0.out (0 : Int) (by omega) (by omega)
  cases e1
  rw [show ((0 : Int)).toNat = 0 from rfl, Addr.add_zero'] at hx
  have HM : Aside0 (rd l0 0 = slices_Max_int_int.m (l0.take 1)) := ⟨by
    unfold slices_Max_int_int.m
    rw [List.drop_eq_nil_of_le (by simp; omega)]
    simp [rd, List.getD_eq_getElem?_getD, List.getElem?_take]⟩
  generalize rd l0 0 = z0 at *
  go_enter Try.func60, Try.ntmps60
  go_wp2
  clear hx
  go_loopg [3, 4] (l0.length : Nat) (fun kq v3 v4 w' => ∃ (i : Nat) (z : Int), v4 = .int .i64 (i : Int) ∧ v3 = .int .i64 z ∧ Aside0 (0 < i) ∧ Aside0 (i + kq = l0.length + 1) ∧ Aside0 (z = slices_Max_int_int.m (l0.take i)) ∧ Drawn0 w w')
  case atStart => exact ⟨1, z0, rfl, rfl, ⟨by omega⟩, ⟨by omega⟩, HM, by repeat (first | exact Drawn0.refl _ | apply Drawn0.step)⟩
  case round =>
    clear HM
    obtain ⟨i, z, rfl, rfl, H0, HI, HZ, ⟨m1, rfl⟩⟩ := hrel
    by_cases c : i < l0.length
    · have cb : decide ((i : Int) < (l0.length : Int)) = true := decide_eq_true (by omega)
      have cb2 : decide (i < l0.length) = true := decide_eq_true c
      have ci : (i : Int) < (l0.length : Int) := by omega
      obtain ⟨ad2, e2, hx2⟩ := Kd.at_int HR0.out (i : Int) (by omega) ci
      cases e2
      simp only [Int.toNat_natCast] at hx2
      have HS := Aside0.mk (slices_Max_int_int.snoc l0 i H0.out c)
      rw [← HZ.out] at HS
      generalize rd l0 (i : Int) = x at *
      obtain ⟨q, hq⟩ : ∃ q, mx z x = q := ⟨_, rfl⟩
      rw [hq] at HS
      have hq2 : (if z < x then x else z) = q := hq
      have HQ := Aside0.mk hq
      clear hq
      cases gk with
      | zero => exact absurd HI.out (by omega)
      | succ k1 =>
        go_wp2
        go_roundg k1
        case measure => omega
        case rel => exact ⟨i + 1, q, (by first | rfl | (simp; done) | go_num), rfl, ⟨by omega⟩, ⟨by have := HI.out; omega⟩, ⟨HS.out.symm⟩, by repeat (first | exact Drawn0.refl _ | apply Drawn0.step)⟩
    · have cb : decide ((i : Int) < (l0.length : Int)) = false := decide_eq_false (by omega)
      have cb2 : decide (i < l0.length) = false := decide_eq_false c
      have HF : Aside0 (z = r) := ⟨by rw [HZ.out, List.take_of_length_le (by omega)]; exact HE.out⟩
      go_wp2
      go_ret
      exact ⟨by rw [← HF.out]; rfl, by repeat (first | exact Drawn0.refl _ | apply Drawn0.step)⟩

/-! ### pack_Width: function 46 -/
def pack_Width.f (l0 : List Int) : Option (Int) := if (l0.length : Int) = 0 then (some 0) else ((slices_Max_int_int.f l0).bind fun t136 => ((bits_Len32.f ((t136) % 4294967296)).bind fun t137 => (some t137)))
set_option maxHeartbeats 8000000 in
set_option maxRecDepth 100000 in
theorem pack_Width.calls (A0 : Option Addr) (c0 : Nat) (l0 : List Int) (r : Int) (w : World) (hr0 : Kd.C (Kd.int .i64) w A0 l0.length l0) (hc0 : l0.length ≤ c0) (h : pack_Width.f l0 = some r) :
    Calls Try.prog 46 #[.slice A0 l0.length c0] w fun e w' => e = .returned (.int .i64 r) ∧ Drawn0 w w' := by
  have HR0 := Aside0.mk hr0
  have HC0 := Aside0.mk hc0
  clear hr0 hc0
  have H : (if (l0.length : Int) = 0 then (some 0) else ((slices_Max_int_int.f l0).bind fun t136 => ((bits_Len32.f ((t136) % 4294967296)).bind fun t137 => (some t137)))) = some r := h
  clear h
  by_cases c2 : (l0.length : Int) = 0
  · rw [if_pos c2] at H
    have c2b0 : ((l0.length : Int) == 0) = true := beq_iff_eq.mpr c2
    have c2b1 : ((l0.length : Int) != 0) = false := bne_eq_false_iff_eq.mpr c2
    clear c2
    obtain rfl := Option.some.inj H
    go_enter Try.func46, Try.ntmps46
    go_wp2
    go_ret
    exact ⟨by first | rfl | (simp; done) | (simp [*]; done), by repeat (first | exact Drawn0.refl _ | apply Drawn0.step)⟩
  · rw [if_neg c2] at H
    have c2b0 : ((l0.length : Int) == 0) = false := beq_eq_false_iff_ne.mpr c2
    have c2b1 : ((l0.length : Int) != 0) = true := bne_iff_ne.mpr c2
    have c2b2 : ¬ (l0 = []) := fun h_ => c2 (by rw [h_]; rfl)
    replace H := Option.bind_eq_some_iff.mp H
    obtain ⟨t136, A30, H⟩ := H
    replace H : ((bits_Len32.f ((t136) % 4294967296)).bind fun t137 => (some t137)) = some r := H
    have A3 := Aside0.mk A30
    clear A30
    replace H := Option.bind_eq_some_iff.mp H
    obtain ⟨t137, A40, H⟩ := H
    replace H : (some t137) = some r := H
    have A4 := Aside0.mk A40
    clear A40
    obtain rfl := Option.some.inj H
    go_enter Try.func46, Try.ntmps46
    go_wp2_with (first | ((with_reducible refine gate_callee (f := 60) rfl ?_); refine goesL_ (some 7) rfl rfl Try.func60 (by kernel_rfl) rfl #[.slice A0 l0.length c0] rfl (by (try simp only [List.map_toArray, List.map_cons, List.map_nil]); first | done | rfl | (simp only [List.length_drop, List.length_take]; rfl)) ?_; (with_reducible refine (slices_Max_int_int.calls _ _ l0 t136 _ ?side1 ?side2 A3.out).mono ?_); (case side1 => repeat (first | exact HR0.out | (with_reducible refine Kd.C_alloc ?_ _) | (with_reducible refine Kd.C_drewN ?_ _) | (with_reducible refine Kd.C_drew ?_))); (case side2 => exact HC0.out); rintro e w' ⟨rfl, ⟨nd, rfl⟩⟩; refine ⟨_, rfl, ?_⟩) | ((with_reducible refine gate_callee (f := 59) rfl ?_); refine goesL_ (some 9) rfl rfl Try.func59 (by kernel_rfl) rfl #[.int .u32 ((t136) % 4294967296)] rfl (by (try simp only [List.map_toArray, List.map_cons, List.map_nil]); first | done | rfl | (simp only [List.length_drop, List.length_take]; rfl)) ?_; (with_reducible refine (bits_Len32.calls ((t136) % 4294967296) t137 _ A4.out).mono ?_); rintro e w' ⟨rfl, ⟨nd, rfl⟩⟩; refine ⟨_, rfl, ?_⟩))
    go_ret
    exact ⟨by first | rfl | (simp; done) | (simp [*]; done), by repeat (first | exact Drawn0.refl _ | apply Drawn0.step)⟩

/-! ### pack_size: function 54 -/
def pack_size.f (a0 : Int) (a1 : Int) : Option (Int) := some (wrap64 (Int.tdiv (wrap64 ((wrap64 ((wrap64 (a0 * a1)) + 8)) - 1)) 8))
set_option maxHeartbeats 8000000 in
set_option maxRecDepth 100000 in
theorem pack_size.calls (a0 : Int) (a1 : Int) (r : Int) (w : World) (h : pack_size.f a0 a1 = some r) :
    Calls Try.prog 54 #[.int .i64 a0, .int .i64 a1] w fun e w' => e = .returned (.int .i64 r) ∧ Drawn0 w w' := by
  have H : (some (wrap64 (Int.tdiv (wrap64 ((wrap64 ((wrap64 (a0 * a1)) + 8)) - 1)) 8))) = some r := h
  clear h
  obtain rfl := Option.some.inj H
  go_enter Try.func54, Try.ntmps54
  go_wp2
  go_ret
  exact ⟨by first | rfl | (simp; done) | (simp [*]; done), by repeat (first | exact Drawn0.refl _ | apply Drawn0.step)⟩

end Go.Proofs.Ytljhlpkoilapiaa.P
