import Derived.Test.YtljhlpkoilapiaaZPx0
-- Written by hp.py, a wrapper round the kit's print; not by print.sh.
namespace Go.Proofs.Ytljhlpkoilapiaa.P
open Go.RowKit Go.Proofs.YtljhlpkoilapiaaW.PrintWords Go.Proofs.YtljhlpkoilapiaaW.PrintLast Go.Proofs.YtljhlpkoilapiaaW.PrintMore
attribute [local go_sem] max2_int min2_int max_two min_two max_three min_three max_four min_four   -- for this text's walks alone
theorem str_geq_ (t : TypeId) (a b : ByteArray) : binOp .geq t (.string a) (.string b) = pure (.bool !(Op.bytesLess a.toList b.toList)) := by simp [binOp, Op.stringOp]
attribute [local go_sem] str_geq_
set_option linter.unusedVariables false
set_option linter.unusedSimpArgs false

/-! ### front_right: function 25 -/
mutual
def front_right.j0 : Nat → List ByteArray → Bool → Option (Bool)
  | 0, _, _ => none
  | k + 1, x0, x17 => if x17 = true then (some false) else (front_right.l0 k x0 x0 (x0.length : Int) 0)
def front_right.l0 : Nat → List ByteArray → List ByteArray → Int → Int → Option (Bool)
  | 0, _, _, _, _ => none
  | k + 1, x0, x18, x19, x20 => if x20 < x19 then (if 0 ≤ x20 then (if x20 < (x18.length : Int) then (if ((rdOf ByteArray.empty x18 x20).size : Int) > 4096 then (some false) else (if x20 > 0 then (if 0 ≤ (wrap64 (x20 - 1)) then (if (wrap64 (x20 - 1)) < (x0.length : Int) then (if ((Op.bytesLess ((rdOf ByteArray.empty x0 (wrap64 (x20 - 1))).toList) ((rdOf ByteArray.empty x18 x20).toList)) = true) then (front_right.l0 k x0 x18 x19 (wrap64 (x20 + 1))) else (some false)) else (none)) else (none)) else (front_right.l0 k x0 x18 x19 (wrap64 (x20 + 1))))) else (none)) else (none)) else (some true)
end
def front_right.f (k : Nat) (l0 : List ByteArray) (a1 : Int) : Option (Bool) := if a1 < 1 then (front_right.j0 k l0 true) else (if a1 > 64 then (front_right.j0 k l0 true) else (front_right.j0 k l0 (decide ((l0.length : Int) > 4096))))
theorem front_right.mono_l : ∀ k, (∀ y0 y1, LeO (front_right.j0 k y0 y1) (front_right.j0 (k + 1) y0 y1)) ∧ (∀ y0 y1 y2 y3, LeO (front_right.l0 k y0 y1 y2 y3) (front_right.l0 (k + 1) y0 y1 y2 y3))
  | 0 => ⟨fun _ _ r h => by simp [front_right.j0] at h, fun _ _ _ _ r h => by simp [front_right.l0] at h⟩
  | k + 1 => by
    obtain ⟨ih0, ih1⟩ := front_right.mono_l k
    refine ⟨?_, ?_⟩
    · intro y0 y1
      unfold front_right.j0
      repeat' first
      | (with_reducible exact ih0 _ _)
      | (with_reducible exact ih1 _ _ _ _)
      | (with_reducible exact LeO.refl _)
      | (with_reducible exact LeO.none _)
      | (with_reducible refine LeO.ite ?_ ?_)
      | (with_reducible refine LeO.bind ?_ (fun _ => ?_))
      | exact ih0 _ _
      | exact ih1 _ _ _ _
      | exact LeO.none _
      | refine LeO.ite ?_ ?_
      | refine LeO.bind ?_ (fun _ => ?_)
    · intro y0 y1 y2 y3
      unfold front_right.l0
      repeat' first
      | (with_reducible exact ih0 _ _)
      | (with_reducible exact ih1 _ _ _ _)
      | (with_reducible exact LeO.refl _)
      | (with_reducible exact LeO.none _)
      | (with_reducible refine LeO.ite ?_ ?_)
      | (with_reducible refine LeO.bind ?_ (fun _ => ?_))
      | exact ih0 _ _
      | exact ih1 _ _ _ _
      | exact LeO.none _
      | refine LeO.ite ?_ ?_
      | refine LeO.bind ?_ (fun _ => ?_)
theorem front_right.mono : ∀ a0 a1 k, LeO (front_right.f k a0 a1) (front_right.f (k + 1) a0 a1) := by
  intro a0 a1 k
  obtain ⟨ih0, ih1⟩ := front_right.mono_l k
  unfold front_right.f
  repeat' first
      | (with_reducible exact ih0 _ _)
      | (with_reducible exact ih1 _ _ _ _)
      | (with_reducible exact LeO.refl _)
      | (with_reducible exact LeO.none _)
      | (with_reducible refine LeO.ite ?_ ?_)
      | (with_reducible refine LeO.bind ?_ (fun _ => ?_))
      | exact ih0 _ _
      | exact ih1 _ _ _ _
      | exact LeO.none _
      | refine LeO.ite ?_ ?_
      | refine LeO.bind ?_ (fun _ => ?_)
set_option maxHeartbeats 8000000 in
set_option maxRecDepth 100000 in
theorem front_right.calls (k : Nat) (A0 : Option Addr) (c0 : Nat) (l0 : List ByteArray) (a1 : Int) (r : Bool) (w : World) (hr0 : Kd.C Kd.string w A0 l0.length l0) (hc0 : l0.length ≤ c0) (h : front_right.f k l0 a1 = some r) :
    Calls Try.prog 25 #[.slice A0 l0.length c0, .int .i64 a1] w fun e w' => e = .returned (.bool r) ∧ Drawn0 w w' := by
  have HR0 := Aside0.mk hr0
  have HC0 := Aside0.mk hc0
  clear hr0 hc0
  have H : (if a1 < 1 then (front_right.j0 k l0 true) else (if a1 > 64 then (front_right.j0 k l0 true) else (front_right.j0 k l0 (decide ((l0.length : Int) > 4096))))) = some r := h
  clear h
  have HC3 := Aside0.mk H
  clear H
  go_enter Try.func25, Try.ntmps25
  go_upto_region 1 with (fail)
  go_cut [17] (fun v17 wc => ∃ (kq : Nat) (x17_2 : Bool), v17 = .bool x17_2 ∧ Aside0 (front_right.j0 kq l0 x17_2 = some r) ∧ Aside0 (kq ≤ k) ∧ Drawn0 w wc)
  case first =>
    have H := HC3.out
    clear HC3
    by_cases c4 : a1 < 1
    · rw [if_pos c4] at H
      have c4b0 : decide (a1 < 1) = true := decide_eq_true c4
      clear c4
      (first | rw [c4b0] | (simp only [i64_w, i32_w]; rw [c4b0]) | skip)
      have H' := Aside0.mk H
      clear H
      go_wp2
      go_meet
      case rel => exact ⟨_, (true), (by first | rfl | (simp; done) | (simp [*]; done)), H', ⟨by first | omega | exact Nat.le_refl _⟩, by repeat (first | exact Drawn0.refl _ | apply Drawn0.step)⟩
    · rw [if_neg c4] at H
      have c4b0 : decide (a1 < 1) = false := decide_eq_false c4
      clear c4
      (first | rw [c4b0] | (simp only [i64_w, i32_w]; rw [c4b0]) | skip)
      by_cases c5 : a1 > 64
      · rw [if_pos c5] at H
        have c5b0 : decide (64 < a1) = true := decide_eq_true c5
        clear c5
        have H' := Aside0.mk H
        clear H
        go_wp2
        go_meet
        case rel => exact ⟨_, (true), (by first | rfl | (simp; done) | (simp [*]; done)), H', ⟨by first | omega | exact Nat.le_refl _⟩, by repeat (first | exact Drawn0.refl _ | apply Drawn0.step)⟩
      · rw [if_neg c5] at H
        have c5b0 : decide (64 < a1) = false := decide_eq_false c5
        clear c5
        have H' := Aside0.mk H
        clear H
        go_wp2
        go_meet
        case rel => exact ⟨_, (decide ((l0.length : Int) > 4096)), (by first | rfl | (simp; done) | (simp [*]; done)), H', ⟨by first | omega | exact Nat.le_refl _⟩, by repeat (first | exact Drawn0.refl _ | apply Drawn0.step)⟩
  case rest =>
    clear HC3
    try clear c2
    try clear p2
    try clear c4
    try clear c4b0
    try clear c5
    try clear c5b0
    obtain ⟨kq, x17_2, rfl, HA, HJ2, ⟨mc2, rfl⟩⟩ := hcut
    cases kq with
    | zero => exact absurd HA.out (by simp [front_right.j0])
    | succ kj2 =>
      have H := HA.out
      clear HA
      simp only [front_right.j0] at H
      by_cases c6 : x17_2 = true
      · subst c6
        have H1 : (some false) = some r := by rw [if_pos rfl] at H; exact H
        clear H
        have H := H1
        clear H1
        obtain rfl := Option.some.inj H
        go_wp2
        go_ret
        exact ⟨by first | rfl | (simp; done) | (simp [*]; done), by repeat (first | exact Drawn0.refl _ | apply Drawn0.step)⟩
      · replace c6 := Bool.eq_false_iff.mpr c6
        subst c6
        have H1 : (front_right.l0 kj2 l0 l0 (l0.length : Int) 0) = some r := by rw [if_neg (show ¬ (false = true) by decide)] at H; exact H
        clear H
        have H := H1
        clear H1
        have H' := Aside0.mk H
        clear H
        go_wp2
        go_loopg [20] kj2 (fun kq v20 w' => ∃ (x20_2 : Int), v20 = .int .i64 x20_2 ∧ Aside0 (front_right.l0 kq l0 l0 (l0.length : Int) x20_2 = some r) ∧ Aside0 (kq ≤ kj2) ∧ Drawn0 w w')
        case atStart => exact ⟨(0), (by first | rfl | (simp; done) | (simp [*]; done)), H', ⟨Nat.le_refl _⟩, by repeat (first | exact Drawn0.refl _ | apply Drawn0.step)⟩
        case round =>
          clear H'
          try clear c2
          try clear p2
          try clear c4
          try clear c4b0
          try clear c5
          try clear c5b0
          try clear c6
          try clear p2
          obtain ⟨x20_2, rfl, HA, HK2, ⟨m2, rfl⟩⟩ := hrel
          cases gk with
          | zero => exact absurd HA.out (by simp [front_right.l0])
          | succ k2 =>
            have H := HA.out
            clear HA
            simp only [front_right.l0] at H
            by_cases c7 : x20_2 < (l0.length : Int)
            · rw [if_pos c7] at H
              have c7b0 : decide (x20_2 < (l0.length : Int)) = true := decide_eq_true c7
              clear c7
              by_cases c8 : 0 ≤ x20_2
              · rw [if_pos c8] at H
                have c8b0 : decide (0 ≤ x20_2) = true := decide_eq_true c8
                clear c8
                by_cases c9 : x20_2 < (l0.length : Int)
                · rw [if_pos c9] at H
                  have c9b0 : decide (x20_2 < (l0.length : Int)) = true := decide_eq_true c9
                  clear c9
                  by_cases c10 : ((rdOf ByteArray.empty l0 x20_2).size : Int) > 4096
                  · rw [if_pos c10] at H
                    have c10b0 : decide (4096 < ((rdOf ByteArray.empty l0 x20_2).size : Int)) = true := decide_eq_true c10
                    have c10b1 : decide (4096 < (rdOf ByteArray.empty l0 x20_2).size) = true := decide_eq_true (by omega)
                    clear c10
                    obtain rfl := Option.some.inj H
                    have p101 : 0 ≤ (x20_2 : Int) := of_decide_eq_true (by first | (with_reducible assumption) | assumption)
                    have q101 : x20_2 < (l0.length : Int) := of_decide_eq_true (by first | (with_reducible assumption) | assumption)
                    obtain ⟨ad101, e101, hx101_0⟩ := Kd.at_string HR0.out x20_2 p101 q101
                    cases e101
                    replace p101 := eq_true p101
                    replace q101 := eq_true q101
                    go_wp2
                    go_ret
                    exact ⟨by first | rfl | (simp; done) | (simp [*]; done), by repeat (first | exact Drawn0.refl _ | apply Drawn0.step)⟩
                  · rw [if_neg c10] at H
                    have c10b0 : decide (4096 < ((rdOf ByteArray.empty l0 x20_2).size : Int)) = false := decide_eq_false c10
                    have c10b1 : decide (4096 < (rdOf ByteArray.empty l0 x20_2).size) = false := decide_eq_false (by omega)
                    clear c10
                    by_cases c11 : x20_2 > 0
                    · rw [if_pos c11] at H
                      have c11b0 : decide (0 < x20_2) = true := decide_eq_true c11
                      clear c11
                      obtain ⟨ji12, hji12⟩ : ∃ j_ : Int, (wrap64 (x20_2 - 1)) = j_ := ⟨_, rfl⟩
                      replace H : (if 0 ≤ (ji12) then (if (ji12) < (l0.length : Int) then (if ((Op.bytesLess ((rdOf ByteArray.empty l0 (ji12)).toList) ((rdOf ByteArray.empty l0 x20_2).toList)) = true) then (front_right.l0 k2 l0 l0 (l0.length : Int) (wrap64 (x20_2 + 1))) else (some false)) else (none)) else (none)) = some r := by first | (rw [hji12] at H; exact H) | (simp only [hji12] at H ⊢; exact H)
                      have hji12w : (IntKind.i64.wrap (x20_2 - 1)) = ji12 := (i64_w _).trans hji12
                      by_cases c13 : 0 ≤ (ji12)
                      · rw [if_pos c13] at H
                        have c13b0 : decide (0 ≤ (ji12)) = true := decide_eq_true c13
                        clear c13
                        by_cases c14 : (ji12) < (l0.length : Int)
                        · rw [if_pos c14] at H
                          have c14b0 : decide ((ji12) < (l0.length : Int)) = true := decide_eq_true c14
                          clear c14
                          by_cases c15 : ((Op.bytesLess ((rdOf ByteArray.empty l0 (ji12)).toList) ((rdOf ByteArray.empty l0 x20_2).toList)) = true)
                          · rw [if_pos c15] at H
                            have c15b0 : (Op.bytesLess ((rdOf ByteArray.empty l0 (ji12)).toList) ((rdOf ByteArray.empty l0 x20_2).toList)) = true := c15
                            clear c15
                            have H' := Aside0.mk H
                            clear H
                            have p101 : 0 ≤ (x20_2 : Int) := of_decide_eq_true (by first | (with_reducible assumption) | assumption)
                            have q101 : x20_2 < (l0.length : Int) := of_decide_eq_true (by first | (with_reducible assumption) | assumption)
                            obtain ⟨ad101, e101, hx101_0⟩ := Kd.at_string HR0.out x20_2 p101 q101
                            cases e101
                            replace p101 := eq_true p101
                            replace q101 := eq_true q101
                            have p102 : 0 ≤ ((ji12) : Int) := of_decide_eq_true (by first | (with_reducible assumption) | assumption)
                            have q102 : (ji12) < (l0.length : Int) := of_decide_eq_true (by first | (with_reducible assumption) | assumption)
                            obtain ⟨ad102, e102, hx102_0⟩ := Kd.at_string HR0.out (ji12) p102 q102
                            obtain rfl : ad101 = ad102 := (by injection e102)
                            replace p102 := eq_true p102
                            replace q102 := eq_true q102
                            go_wp2
                            go_roundg k2
                            case measure => have := HJ2.out; have := HK2.out; omega
                            case rel => exact ⟨(wrap64 (x20_2 + 1)), (by first | rfl | (simp; done) | (simp [*]; done)), H', ⟨by have := HJ2.out; have := HK2.out; omega⟩, by repeat (first | exact Drawn0.refl _ | apply Drawn0.step)⟩
                          · rw [if_neg c15] at H
                            have c15b0 : (Op.bytesLess ((rdOf ByteArray.empty l0 (ji12)).toList) ((rdOf ByteArray.empty l0 x20_2).toList)) = false := by simpa using c15
                            clear c15
                            obtain rfl := Option.some.inj H
                            have p101 : 0 ≤ (x20_2 : Int) := of_decide_eq_true (by first | (with_reducible assumption) | assumption)
                            have q101 : x20_2 < (l0.length : Int) := of_decide_eq_true (by first | (with_reducible assumption) | assumption)
                            obtain ⟨ad101, e101, hx101_0⟩ := Kd.at_string HR0.out x20_2 p101 q101
                            cases e101
                            replace p101 := eq_true p101
                            replace q101 := eq_true q101
                            have p102 : 0 ≤ ((ji12) : Int) := of_decide_eq_true (by first | (with_reducible assumption) | assumption)
                            have q102 : (ji12) < (l0.length : Int) := of_decide_eq_true (by first | (with_reducible assumption) | assumption)
                            obtain ⟨ad102, e102, hx102_0⟩ := Kd.at_string HR0.out (ji12) p102 q102
                            obtain rfl : ad101 = ad102 := (by injection e102)
                            replace p102 := eq_true p102
                            replace q102 := eq_true q102
                            go_wp2
                            go_ret
                            exact ⟨by first | rfl | (simp; done) | (simp only [← hji12] <;> (first | rfl | simp)) | (simp [*]; done), by repeat (first | exact Drawn0.refl _ | apply Drawn0.step)⟩
                        · rw [if_neg c14] at H
                          exact absurd H (by simp)
                      · rw [if_neg c13] at H
                        exact absurd H (by simp)
                    · rw [if_neg c11] at H
                      have c11b0 : decide (0 < x20_2) = false := decide_eq_false c11
                      clear c11
                      have H' := Aside0.mk H
                      clear H
                      have p101 : 0 ≤ (x20_2 : Int) := of_decide_eq_true (by first | (with_reducible assumption) | assumption)
                      have q101 : x20_2 < (l0.length : Int) := of_decide_eq_true (by first | (with_reducible assumption) | assumption)
                      obtain ⟨ad101, e101, hx101_0⟩ := Kd.at_string HR0.out x20_2 p101 q101
                      cases e101
                      replace p101 := eq_true p101
                      replace q101 := eq_true q101
                      go_wp2
                      go_roundg k2
                      case measure => have := HJ2.out; have := HK2.out; omega
                      case rel => exact ⟨(wrap64 (x20_2 + 1)), (by first | rfl | (simp; done) | (simp [*]; done)), H', ⟨by have := HJ2.out; have := HK2.out; omega⟩, by repeat (first | exact Drawn0.refl _ | apply Drawn0.step)⟩
                · rw [if_neg c9] at H
                  exact absurd H (by simp)
              · rw [if_neg c8] at H
                exact absurd H (by simp)
            · rw [if_neg c7] at H
              have c7b0 : decide (x20_2 < (l0.length : Int)) = false := decide_eq_false c7
              clear c7
              obtain rfl := Option.some.inj H
              go_wp2
              go_ret
              exact ⟨by first | rfl | (simp; done) | (simp [*]; done), by repeat (first | exact Drawn0.refl _ | apply Drawn0.step)⟩

-- NOT PRINTED: function 26 (slices_Chunk_string_string)

-- NOT PRINTED: function 48 (slices_Grow_byte_byte)


/-! ### slices_Concat_byte_byte: function 29, given -/
theorem slices_Concat_byte_byte.info : (Try.prog.info? 5).map (fun i => (i.zero, i.size, i.bytes)) = some (some (.int .u8 0), 1, 1) := by kernel_rfl
set_option maxHeartbeats 8000000 in
set_option maxRecDepth 100000 in
/-- Grow of nil: an empty row of the call's own. -/
theorem slices_Concat_byte_byte.grow (n : Nat) (hn : n < 140737488355328) (w : World) :
    Calls Try.prog 48 #[.slice none 0 0, .int .i64 (n : Int)] w fun e w' => ∃ v0_ : Value, e = .returned (v0_) ∧ Kd.R (Kd.int .u8) 5 w' w.heap.size (fun _ => True) v0_ [] ∧ Below w.heap.size w w' := by
  have HB := Aside0.mk (Below.refl w.heap.size w)
  have t1 : decide ((n : Int) < 0) = false := decide_eq_false (by omega)
  by_cases h0 : n = 0
  · subst h0
    go_enter Try.func48, Try.ntmps48
    go_wp2
    go_ret
    exact ⟨_, rfl, Kd.R_nil _ _ _ _ _, HB.out⟩
  · have t2 : decide ((0 : Int) < (n : Int)) = true := decide_eq_true (by omega)
    have t3 : decide (0 < n) = true := decide_eq_true (by omega)
    have hn2 : (n : Int) ≤ 140737488355327 := by omega
    have HN := Aside0.mk hn
    clear h0 hn
    go_enter Try.func48, Try.ntmps48
    go_wp2_with ((with_reducible refine gate_builtin (b := .append) (xs := #[.tmp 20, .tmp 21]) rfl ?_); at_builtin; refine Kd.R_append_zeros (Kd.int .u8) (w0 := w) w.heap.size rfl (.tmp 20) (.tmp 21) 25 3 5 (.int .u8 0) 1 rfl Try.underlying25 Try.underlying3 slices_Concat_byte_byte.info rfl (by decide) (by omega) (.slice none 0 0) [] (0 : Int) (n : Int) (fun _ => True) rfl rfl ?aZ (fun _ _ => trivial) (Kd.R_nil _ _ _ _ _) (by omega) HB.out (Nat.le_refl _) ?aL ?_; (case aZ => rfl); (case aL => have := HN.out; simp; omega); intro v1 w1 ho hb hg hat; obtain ⟨Ao, co, eo⟩ := Kd.R_slice ho; subst eo; rw [List.nil_append] at ho; have hl_ : (List.replicate (n : Int).toNat (0 : Int)).length = n := (by simp); rw [hl_] at ho; have n1_ := Aside0.mk hb; have n2_ := Aside0.mk (Kd.R_take (m := 0) ho (by simp)); clear HB; have HB := n1_; have HO := n2_; clear n1_ n2_ ho hb hg hat)
    go_ret
    exact ⟨_, rfl, HO.out, HB.out⟩
def slices_Concat_byte_byte.f (l0 : List (List Int)) : Option (List Int) := if l0.flatten.length < 140737488355328 then some l0.flatten else none
theorem slices_Concat_byte_byte.succ (l : List (List Int)) (i : Nat) (hi : i < l.length) : (l.take (i + 1)).flatten = (l.take i).flatten ++ rdOf ([] : List Int) l (i : Int) := by
  have e : rdOf ([] : List Int) l (i : Int) = l[i] := by simp [rdOf, List.getD_eq_getElem?_getD, hi]
  rw [e, List.take_succ_eq_append_getElem hi, List.flatten_append]
  simp
theorem slices_Concat_byte_byte.le (l : List (List Int)) (i : Nat) : (l.take i).flatten.length ≤ l.flatten.length := by
  have h : l.flatten = (l.take i).flatten ++ (l.drop i).flatten := by rw [← List.flatten_append, List.take_append_drop]
  rw [h, List.length_append]
  omega
set_option maxHeartbeats 8000000 in
set_option maxRecDepth 100000 in
theorem slices_Concat_byte_byte.calls (A0 : Option Addr) (c0 : Nat) (l0 : List (List Int)) (r : List Int) (w : World) (hr0 : Kd.C (Kd.slice 5 (Kd.int .u8)) w A0 l0.length l0) (hc0 : l0.length ≤ c0) (h : slices_Concat_byte_byte.f l0 = some r) :
    Calls Try.prog 29 #[.slice A0 l0.length c0] w fun e w' => ∃ v0_ : Value, e = .returned (v0_) ∧ Kd.R (Kd.int .u8) 5 w' w.heap.size (fun _ => True) v0_ r ∧ Below w.heap.size w w' := by
  unfold slices_Concat_byte_byte.f at h
  by_cases hl : l0.flatten.length < 140737488355328
  case neg => rw [if_neg hl] at h; cases h
  rw [if_pos hl] at h
  obtain rfl := Option.some.inj h
  have HL := Aside0.mk hl
  have HR0 := Aside0.mk hr0
  have hl0 := hr0.2.1
  clear h hr0 hc0 hl
  have HB := Aside0.mk (Below.refl w.heap.size w)
  go_enter Try.func29, Try.ntmps29
  go_wp2
  go_loopg [3, 11] (l0.length : Nat) (fun kq v3 v11 w' => ∃ (i s : Nat), v11 = .int .i64 (i : Int) ∧ v3 = .int .i64 (s : Int) ∧ Aside0 (i + kq = l0.length) ∧ Aside0 (s = (l0.take i).flatten.length) ∧ Aside0 (Below w.heap.size w w'))
  case atStart => exact ⟨0, 0, rfl, rfl, ⟨by omega⟩, ⟨rfl⟩, HB⟩
  case round =>
    obtain ⟨i, s, rfl, rfl, HI, HS, HB⟩ := hrel
    obtain ⟨wo, rfl⟩ : ∃ wo : World, wo = wr := ⟨_, rfl⟩
    cases gk with
    | zero =>
      have c_ : ¬ (i : Int) < (l0.length : Int) := by have := HI.out; omega
      have cb : decide ((i : Int) < (l0.length : Int)) = false := decide_eq_false c_
      have cb2 : decide (i < l0.length) = false := decide_eq_false (by omega)
      have HSL : Aside0 (s < 140737488355328) := ⟨by have := HS.out; have := slices_Concat_byte_byte.le l0 i; have := HL.out; omega⟩
      clear c_ HS HI
      go_wp2_with (go_at_call 48; (with_reducible refine (slices_Concat_byte_byte.grow s HSL.out _).mono ?_); rintro e w1 ⟨v1, rfl, ho, hb⟩; have n1_ := Aside0.mk (below_step HB.out hb); have n2_ := Aside0.mk (Kd.R_lower ho (below_size HB.out)); clear HB ho hb; have HB := n1_; have HO := n2_; clear n1_ n2_)
      go_loopg [6, 27] (l0.length : Nat) (fun kq v6 v27 w' => ∃ (i : Nat), v27 = .int .i64 (i : Int) ∧ Aside0 (i + kq = l0.length) ∧ Aside0 (Kd.R (Kd.int .u8) 5 w' w.heap.size (fun _ => True) v6 ((l0.take i).flatten)) ∧ Aside0 (Below w.heap.size w w'))
      case atStart => exact ⟨0, rfl, ⟨by omega⟩, HO, HB⟩
      case round =>
        clear HO HB cb cb2
        obtain ⟨j, rfl, HJ, HO, HB⟩ := hrel
        cases gk with
        | zero =>
          have c_ : ¬ (j : Int) < (l0.length : Int) := by have := HJ.out; omega
          have cb : decide ((j : Int) < (l0.length : Int)) = false := decide_eq_false c_
          have cb2 : decide (j < l0.length) = false := decide_eq_false (by omega)
          have HF : Aside0 ((l0.take j).flatten = l0.flatten) := ⟨by rw [List.take_of_length_le (by omega)]⟩
          clear c_
          go_wp2
          go_ret
          exact ⟨_, rfl, by rw [← HF.out]; exact HO.out, HB.out⟩
        | succ k2 =>
          have c_ : (j : Int) < (l0.length : Int) := by have := HJ.out; omega
          have cn : j < l0.length := by omega
          have cb : decide ((j : Int) < (l0.length : Int)) = true := decide_eq_true c_
          have cb2 : decide (j < l0.length) = true := decide_eq_true cn
          have HX := Aside0.mk (slices_Concat_byte_byte.succ l0 j cn)
          have HY := Aside0.mk (slices_Concat_byte_byte.le l0 (j + 1))
          obtain ⟨ad, cs, e1, hcs, ⟨A2, c2, hc2, hlc2, hC2⟩, hcell⟩ := Kd.C_get HR0.out ([] : List Int) (j : Int) (by omega) c_
          rw [show (l0.getD (j : Int).toNat ([] : List Int)) = rdOf ([] : List Int) l0 (j : Int) from rfl] at hc2 hlc2 hC2
          generalize rdOf ([] : List Int) l0 (j : Int) = l at *
          subst hc2
          have hx1 := hcell 0 _ rfl
          cases e1
          replace hx1 := (HB.out.cell (World.block_lt_of_cell? w _ hx1)).trans hx1
          simp only [Int.toNat_natCast, Nat.add_zero, show (Kd.slice 5 (Kd.int .u8)).sz = 1 from rfl, Nat.mul_one] at hx1
          have HRl := Aside0.mk hC2
          clear hcell hC2 hlc2 hcs
          go_wp2_with ((with_reducible refine gate_builtin (b := .append) (xs := #[.tmp 31, .tmp 32]) rfl ?_); at_builtin; refine Kd.R_append_rows (Kd.int .u8) (w0 := w) w.heap.size rfl (.tmp 31) (.tmp 32) 25 5 (.int .u8 0) 1 rfl Try.underlying25 slices_Concat_byte_byte.info rfl (by decide) (by omega) u6 ((l0.take j).flatten) l _ _ _ (fun _ => True) (fun _ => False) rfl rfl ?aO ?aR (fun _ _ h => h) (fun _ h => h.elim) ?aF ?aB ?aS ?aL ?_; (case aR => exact Kd.C_below HRl.out HB.out); (case aB => exact HB.out); (case aF => exact (fun _ _ => trivial)); (case aO => exact HO.out); (case aS => exact (below_size HB.out)); (case aL => have h1 := HX.out; have h2 := HY.out; rw [h1, List.length_append] at h2; have := HL.out; omega); intro v403 w11 ho hb hg hat; rw [← HX.out] at ho; have n1_ := Aside0.mk hb; have n2_ := Aside0.mk ho; clear HB HO; have HB := n1_; have HO := n2_; clear n1_ n2_; clear ho hb hg hat)
          go_roundg k2
          case measure => omega
          case rel => exact ⟨j + 1, (by first | rfl | (simp; done) | go_num), ⟨by have := HJ.out; omega⟩, HO, HB⟩
    | succ k1 =>
      have c_ : (i : Int) < (l0.length : Int) := by have := HI.out; omega
      have cn : i < l0.length := by omega
      have cb : decide ((i : Int) < (l0.length : Int)) = true := decide_eq_true c_
      have cb2 : decide (i < l0.length) = true := decide_eq_true cn
      have HX := Aside0.mk (slices_Concat_byte_byte.succ l0 i cn)
      have HY := Aside0.mk (slices_Concat_byte_byte.le l0 (i + 1))
      obtain ⟨ad, cs, e1, hcs, ⟨A2, c2, hc2, hlc2, hC2⟩, hcell⟩ := Kd.C_get HR0.out ([] : List Int) (i : Int) (by omega) c_
      rw [show (l0.getD (i : Int).toNat ([] : List Int)) = rdOf ([] : List Int) l0 (i : Int) from rfl] at hc2 hlc2 hC2
      generalize rdOf ([] : List Int) l0 (i : Int) = l at *
      have hsum : (s : Int) + (l.length : Int) ≤ 140737488355328 := by
        have h1 := HX.out; have h2 := HY.out; rw [h1, List.length_append, ← HS.out] at h2; have := HL.out; omega
      have HS2 : Aside0 (s + l.length = (l0.take (i + 1)).flatten.length) := ⟨by rw [HX.out, List.length_append, ← HS.out]⟩
      subst hc2
      have hx1 := hcell 0 _ rfl
      cases e1
      replace hx1 := (HB.out.cell (World.block_lt_of_cell? w _ hx1)).trans hx1
      simp only [Int.toNat_natCast, Nat.add_zero, show (Kd.slice 5 (Kd.int .u8)).sz = 1 from rfl, Nat.mul_one] at hx1
      clear hcell hC2 hlc2 hcs
      have t1 : decide ((s : Int) + (l.length : Int) < 0) = false := decide_eq_false (by omega)
      go_wp2
      go_roundg k1
      case measure => omega
      case rel => exact ⟨i + 1, s + l.length, (by first | rfl | (simp; done) | go_num), (by first | rfl | (simp; done) | go_num), ⟨by have := HI.out; omega⟩, HS2, HB⟩

end Go.Proofs.Ytljhlpkoilapiaa.P
