import Derived.Test.YtljhlpkoilapiaaZPx0
import Derived.Test.YtljhlpkoilapiaaZPx6
-- Written by hp.py, a wrapper round the kit's print; not by print.sh.
namespace Go.Proofs.Ytljhlpkoilapiaa.P
open Go.RowKit Go.Proofs.YtljhlpkoilapiaaW.PrintWords Go.Proofs.YtljhlpkoilapiaaW.PrintLast Go.Proofs.YtljhlpkoilapiaaW.PrintMore
attribute [local go_sem] max2_int min2_int max_two min_two max_three min_three max_four min_four   -- for this text's walks alone
set_option linter.unusedVariables false
set_option linter.unusedSimpArgs false


/-! ### cursor_Cursor_Number: function 51, given -/
def cursor_Cursor_Number.m (i : Nat) (x b : Int) : Int := Go.bits .or .i64 x (wrap64 (wrap64 (Go.bits .and .u8 b 127) * 2 ^ (7 * i)))
def cursor_Cursor_Number.z : List Int → Nat → Int → Int × Int × Int
  | [], _, _ => (0, 0, 2)
  | b :: t, i, x => if i = 9 then (0, 0, 3) else if b < 128 then (if b = 0 ∧ 0 < i then (0, 0, 3) else (cursor_Cursor_Number.m i x b, (i : Int) + 1, 0)) else cursor_Cursor_Number.z t (i + 1) (cursor_Cursor_Number.m i x b)
def cursor_Cursor_Number.f (s0_0 : List Int) (s0_1 : Int) (s0_2 : Int) : Option (Int × Int × Int) := if s0_2 = 0 then (if 0 ≤ s0_1 ∧ s0_1 ≤ (s0_0.length : Int) then some ((cursor_Cursor_Number.z (s0_0.drop s0_1.toNat) 0 0).1, wrap64 (s0_1 + (cursor_Cursor_Number.z (s0_0.drop s0_1.toNat) 0 0).2.1), (cursor_Cursor_Number.z (s0_0.drop s0_1.toNat) 0 0).2.2) else none) else some (0, s0_1, s0_2)
theorem cursor_Cursor_Number.info : (Try.prog.info? 5).map (fun i => (i.zero, i.size, i.bytes)) = some (some (.int .u8 0), 1, 1) := by kernel_rfl
theorem cursor_Cursor_Number.head (l : List Int) (i : Nat) (hi : i < l.length) : l.drop i = rd l (i : Int) :: l.drop (i + 1) := by
  rw [List.drop_eq_getElem_cons hi]
  simp [rd, List.getD_eq_getElem?_getD, hi]
set_option maxHeartbeats 8000000 in
set_option maxRecDepth 100000 in
theorem cursor_Cursor_Number.calls (g : Nat) (s0_0 : List Int) (s0_1 : Int) (s0_2 : Int) (r1 : Int) (r2 : Int) (r3 : Int) (w0 w : World) (hI : IsS59 w0 w g s0_0 s0_1 s0_2) (hB : Below w0.heap.size w0 w) (h : cursor_Cursor_Number.f s0_0 s0_1 s0_2 = some (r1, r2, r3)) :
    Calls Try.prog 51 #[.pointer (some ⟨g, 0, none⟩)] w fun e w' => e = .returned (.int .i64 r1) ∧ IsS59 w0 w' g s0_0 r2 r3 ∧ Below w0.heap.size w0 w' ∧ KeepBut w w' g none := by
  have HI0 := Aside0.mk hI
  have HK := Aside0.mk (KeepBut.refl w g none)
  clear hI
  have HB := Aside0.mk hB
  clear hB
  obtain ⟨AS, cS, HG, hgc, HS⟩ := HI0.out
  have hcz_0 := cellS59_0 HG
  have hcz_1 := cellS59_1 HG
  have hcz_2 := cellS59_2 HG
  have hfz_1 := blk_frozen HG 1
  have hfz_2 := blk_frozen HG 2
  clear HG
  unfold cursor_Cursor_Number.f at h
  by_cases c2 : s0_2 = 0
  · rw [if_pos c2] at h
    subst c2
    by_cases cR : 0 ≤ s0_1 ∧ s0_1 ≤ (s0_0.length : Int)
    case neg => rw [if_neg cR] at h; cases h
    rw [if_pos cR] at h
    obtain ⟨a, rfl⟩ : ∃ a : Nat, s0_1 = (a : Int) := ⟨s0_1.toNat, by omega⟩
    have haL : a ≤ s0_0.length := by omega
    have hlc : s0_0.length ≤ cS := hgc.2.1
    have hlm := HS.2.1
    rw [Int.toNat_natCast] at h
    obtain ⟨l, HL⟩ : ∃ l : List Int, Aside0 (l = s0_0.drop a) := ⟨_, ⟨rfl⟩⟩
    have HZ : Aside0 (r1 = (cursor_Cursor_Number.z l 0 0).1 ∧ r2 = wrap64 ((a : Int) + (cursor_Cursor_Number.z l 0 0).2.1) ∧ r3 = (cursor_Cursor_Number.z l 0 0).2.2) := by
      rw [HL.out]
      simp only [Option.some.injEq, Prod.mk.injEq] at h
      exact ⟨h.1.symm, h.2.1.symm, h.2.2.symm⟩
    obtain ⟨i0, hi0, _, hsz, _⟩ := info_parts cursor_Cursor_Number.info
    have hcut := cut_from (P := Try.prog) 25 5 .i64 Try.underlying25 hi0 1 hsz AS s0_0.length cS a (by omega) (by omega)
    have HLl : Aside0 (l.length = s0_0.length - a) := ⟨by rw [HL.out]; simp⟩
    obtain ⟨A9, HA9⟩ : ∃ A9, Aside0 (A9 = (if cS = a then AS else (AS : Option Addr).map (·.add (a * 1)))) := ⟨_, ⟨rfl⟩⟩
    have HRt := Aside0.mk (Kd.C_drop (m := a) (c := cS) HS (by omega) hlc)
    rw [Int.toNat_natCast, ← HA9.out, ← HLl.out] at hcut
    have HRl : Aside0 (Kd.C (Kd.int .u8) w0 A9 l.length l) := ⟨by have z_ := HRt.out; rw [← HL.out] at z_; rw [HA9.out]; exact z_⟩
    have HLM : Aside0 (a + l.length = s0_0.length ∧ s0_0.length ≤ 9223372036854775807) := ⟨by have := HLl.out; omega⟩
    have hlM := HLM.out.2
    clear HRt hi0 hsz cR h HS haL hlc hlm hgc
    go_enter Try.func51, Try.ntmps51
    go_wp2
    repeat (go_quiet (fail); try go_wp2)
    go_loopg [3, 21] (l.length : Nat) (fun kq v3 v21 w' => ∃ (i : Nat) (x : Int), v21 = .int .i64 (i : Int) ∧ v3 = .int .i64 x ∧ Aside0 (i + kq = l.length) ∧ Aside0 (i ≤ 9) ∧ Aside0 (cursor_Cursor_Number.z l 0 0 = cursor_Cursor_Number.z (l.drop i) i x) ∧ Drawn0 w w')
    case atStart => exact ⟨0, 0, rfl, rfl, ⟨by omega⟩, ⟨by omega⟩, ⟨rfl⟩, by repeat (first | exact Drawn0.refl _ | apply Drawn0.step)⟩
    case round =>
      obtain ⟨i, x, rfl, rfl, HI, HN, HE, ⟨m1, rfl⟩⟩ := hrel
      have hi9 := HN.out
      cases gk with
      | zero =>
        obtain rfl : i = l.length := by have := HI.out; omega
        rw [HE.out, List.drop_length] at HZ
        obtain ⟨h1, h2, h3⟩ := HZ.out
        clear HZ
        simp only [cursor_Cursor_Number.z] at h1 h2 h3
        subst h1 h3
        have e2 : r2 = (a : Int) := by rw [h2]; have := HLM.out; unfold wrap64; omega
        clear h2
        subst e2
        go_wp2_with (first | (go_at_call 38; (refine (cursor_Cursor_Fail.calls g s0_0 (a : Int) 0 2 (a : Int) 2 w0 _ ?side1 ?side2 (by simp [cursor_Cursor_Fail.f])).mono ?_); (case side1 => repeat (first | exact HI0.out | apply IsS59.alloc | apply IsS59.drewN | apply IsS59.drew)); (case side2 => repeat (first | exact HB.out | apply below_alloc | apply pw_below_drewN | apply below_drew1)); rintro e w6 ⟨rfl, hi, hb, hk⟩; have n0_ := Aside0.mk (KeepBut.trans (by repeat (first | exact HK.out | apply keep_drewN | apply keep_drew | apply keep_alloc)) hk (.inl rfl)); have n1_ := Aside0.mk (hb); have n2_ := Aside0.mk (hi); clear HK; clear HB; clear HI0; have HK := n0_; have HB := n1_; have HI0 := n2_; clear n0_ n1_ n2_; (try clear hb); (try clear hk); (try clear hi)))
        go_ret
        exact ⟨by first | rfl | (simp; done), by repeat (first | exact HI0.out | apply IsS59.alloc | apply IsS59.drewN | apply IsS59.drew | apply IsS59.set_1 | apply IsS59.set_2), by repeat (first | exact HB.out | apply below_alloc | apply pw_below_drewN | apply below_drew1 | refine below_set ?_ (IsS59.ge HI0.out)), by repeat (first | exact HK.out | apply KeepBut.set_ | apply keep_drewN | apply keep_drew | apply keep_alloc)⟩
      | succ k1 =>
        have cm : i < l.length := by have := HI.out; omega
        have HD := Aside0.mk (cursor_Cursor_Number.head l i cm)
        have c : (i : Int) < (l.length : Int) := by omega
        have cb : decide ((i : Int) < (l.length : Int)) = true := decide_eq_true c
        have cb2 : decide (i < l.length) = true := decide_eq_true cm
        obtain ⟨ad1, e1, hx1⟩ := Kd.at_int HRl.out (i : Int) (by omega) c
        cases e1
        replace hx1 := (HB.out.cell (World.block_lt_of_cell? w0 _ hx1)).trans hx1
        simp only [Int.toNat_natCast] at hx1
        generalize rd l (i : Int) = b at *
        rw [HE.out, HD.out] at HZ
        simp only [cursor_Cursor_Number.z] at HZ
        by_cases c9 : i = 9
        · rw [if_pos c9] at HZ
          obtain ⟨h1, h2, h3⟩ := HZ.out
          clear HZ
          simp only at h1 h2 h3
          subst h1 h3
          have e2 : r2 = (a : Int) := by rw [h2]; have := HLM.out; unfold wrap64; omega
          clear h2
          subst e2
          have t9 : ((i : Int) == 9) = true := by rw [c9]; rfl
          clear c9
          go_wp2_with (first | (go_at_call 38; (refine (cursor_Cursor_Fail.calls g s0_0 (a : Int) 0 3 (a : Int) 3 w0 _ ?side1 ?side2 (by simp [cursor_Cursor_Fail.f])).mono ?_); (case side1 => repeat (first | exact HI0.out | apply IsS59.alloc | apply IsS59.drewN | apply IsS59.drew)); (case side2 => repeat (first | exact HB.out | apply below_alloc | apply pw_below_drewN | apply below_drew1)); rintro e w6 ⟨rfl, hi, hb, hk⟩; have n0_ := Aside0.mk (KeepBut.trans (by repeat (first | exact HK.out | apply keep_drewN | apply keep_drew | apply keep_alloc)) hk (.inl rfl)); have n1_ := Aside0.mk (hb); have n2_ := Aside0.mk (hi); clear HK; clear HB; clear HI0; have HK := n0_; have HB := n1_; have HI0 := n2_; clear n0_ n1_ n2_; (try clear hb); (try clear hk); (try clear hi)))
          go_ret
          exact ⟨by first | rfl | (simp; done), by repeat (first | exact HI0.out | apply IsS59.alloc | apply IsS59.drewN | apply IsS59.drew | apply IsS59.set_1 | apply IsS59.set_2), by repeat (first | exact HB.out | apply below_alloc | apply pw_below_drewN | apply below_drew1 | refine below_set ?_ (IsS59.ge HI0.out)), by repeat (first | exact HK.out | apply KeepBut.set_ | apply keep_drewN | apply keep_drew | apply keep_alloc)⟩
        · rw [if_neg c9] at HZ
          have t9 : ((i : Int) == 9) = false := by simp; omega
          by_cases c128 : b < 128
          · rw [if_pos c128] at HZ
            have t128 : decide (b < 128) = true := decide_eq_true c128
            by_cases c0 : b = 0
            · have t0 : (b == 0) = true := by simpa using c0
              by_cases ci : 0 < i
              · have ti : decide (0 < (i : Int)) = true := decide_eq_true (by omega)
                have ti2 : decide (0 < i) = true := decide_eq_true ci
                rw [if_pos ⟨c0, ci⟩] at HZ
                obtain ⟨h1, h2, h3⟩ := HZ.out
                clear HZ
                simp only at h1 h2 h3
                subst h1 h3
                have e2 : r2 = (a : Int) := by rw [h2]; have := HLM.out; unfold wrap64; omega
                clear h2 c0 ci c128 c9
                subst e2
                go_wp2_with (first | (go_at_call 38; (refine (cursor_Cursor_Fail.calls g s0_0 (a : Int) 0 3 (a : Int) 3 w0 _ ?side1 ?side2 (by simp [cursor_Cursor_Fail.f])).mono ?_); (case side1 => repeat (first | exact HI0.out | apply IsS59.alloc | apply IsS59.drewN | apply IsS59.drew)); (case side2 => repeat (first | exact HB.out | apply below_alloc | apply pw_below_drewN | apply below_drew1)); rintro e w6 ⟨rfl, hi, hb, hk⟩; have n0_ := Aside0.mk (KeepBut.trans (by repeat (first | exact HK.out | apply keep_drewN | apply keep_drew | apply keep_alloc)) hk (.inl rfl)); have n1_ := Aside0.mk (hb); have n2_ := Aside0.mk (hi); clear HK; clear HB; clear HI0; have HK := n0_; have HB := n1_; have HI0 := n2_; clear n0_ n1_ n2_; (try clear hb); (try clear hk); (try clear hi)))
                go_ret
                exact ⟨by first | rfl | (simp; done), by repeat (first | exact HI0.out | apply IsS59.alloc | apply IsS59.drewN | apply IsS59.drew | apply IsS59.set_1 | apply IsS59.set_2), by repeat (first | exact HB.out | apply below_alloc | apply pw_below_drewN | apply below_drew1 | refine below_set ?_ (IsS59.ge HI0.out)), by repeat (first | exact HK.out | apply KeepBut.set_ | apply keep_drewN | apply keep_drew | apply keep_alloc)⟩
              · have ti : decide (0 < (i : Int)) = false := decide_eq_false (by omega)
                have ti2 : decide (0 < i) = false := decide_eq_false ci
                rw [if_neg (fun z => ci z.2)] at HZ
                obtain ⟨h1, h2, h3⟩ := HZ.out
                clear HZ
                simp only at h1 h2 h3
                subst h1 h2 h3
                clear c0 ci c128 c9
                go_wp2
                go_ret
                exact ⟨by first | rfl | (simp; done), by repeat (first | exact HI0.out | apply IsS59.alloc | apply IsS59.drewN | apply IsS59.drew | apply IsS59.set_1 | apply IsS59.set_2), by repeat (first | exact HB.out | apply below_alloc | apply pw_below_drewN | apply below_drew1 | refine below_set ?_ (IsS59.ge HI0.out)), by repeat (first | exact HK.out | apply KeepBut.set_ | apply keep_drewN | apply keep_drew | apply keep_alloc)⟩
            · have t0 : (b == 0) = false := by simpa using c0
              rw [if_neg (fun z => c0 z.1)] at HZ
              obtain ⟨h1, h2, h3⟩ := HZ.out
              clear HZ
              simp only at h1 h2 h3
              subst h1 h2 h3
              clear c0 c128 c9
              go_wp2
              go_ret
              exact ⟨by first | rfl | (simp; done), by repeat (first | exact HI0.out | apply IsS59.alloc | apply IsS59.drewN | apply IsS59.drew | apply IsS59.set_1 | apply IsS59.set_2), by repeat (first | exact HB.out | apply below_alloc | apply pw_below_drewN | apply below_drew1 | refine below_set ?_ (IsS59.ge HI0.out)), by repeat (first | exact HK.out | apply KeepBut.set_ | apply keep_drewN | apply keep_drew | apply keep_alloc)⟩
          · have t128 : decide (b < 128) = false := decide_eq_false c128
            rw [if_neg c128] at HZ
            have HE2 : Aside0 (cursor_Cursor_Number.z l 0 0 = cursor_Cursor_Number.z (l.drop (i + 1)) (i + 1) (cursor_Cursor_Number.m i x b)) := ⟨by rw [HE.out, HD.out]; simp only [cursor_Cursor_Number.z, if_neg c9, if_neg c128]⟩
            have HN2 : Aside0 (i + 1 ≤ 9) := ⟨by omega⟩
            have HZ2 : Aside0 (r1 = (cursor_Cursor_Number.z l 0 0).1 ∧ r2 = wrap64 ((a : Int) + (cursor_Cursor_Number.z l 0 0).2.1) ∧ r3 = (cursor_Cursor_Number.z l 0 0).2.2) := ⟨by rw [HE2.out]; exact HZ.out⟩
            clear c128 c9 HZ
            go_wp2
            go_roundg k1
            case measure => omega
            case rel => exact ⟨i + 1, cursor_Cursor_Number.m i x b, (by first | rfl | (simp; done) | go_num), (by first | rfl | (simp [cursor_Cursor_Number.m]; done)), ⟨by have := HI.out; omega⟩, HN2, HE2, by repeat (first | exact Drawn0.refl _ | apply Drawn0.step)⟩
  · rw [if_neg c2] at h
    have t2 : (s0_2 != 0) = true := bne_iff_ne.mpr c2
    simp only [Option.some.injEq, Prod.mk.injEq] at h
    obtain ⟨rfl, rfl, rfl⟩ := h
    clear c2
    go_enter Try.func51, Try.ntmps51
    go_wp2
    go_ret
    exact ⟨by first | rfl | (simp; done), by repeat (first | exact HI0.out | apply IsS59.alloc | apply IsS59.drewN | apply IsS59.drew | apply IsS59.set_1 | apply IsS59.set_2), by repeat (first | exact HB.out | apply below_alloc | apply pw_below_drewN | apply below_drew1 | refine below_set ?_ (IsS59.ge HI0.out)), by repeat (first | exact HK.out | apply KeepBut.set_ | apply keep_drewN | apply keep_drew | apply keep_alloc)⟩

/-! ### cursor_Cursor_Most: function 36 -/
def cursor_Cursor_Most.f (s0_0 : List Int) (s0_1 : Int) (s0_2 : Int) (a1 : Int) : Option (Int × Int × Int) := (cursor_Cursor_Number.f s0_0 s0_1 s0_2).bind fun bt164 => (if bt164.1 > a1 then ((cursor_Cursor_Fail.f s0_0 s0_1 bt164.2.2 3).bind fun bt167 => (some (0, bt167.1, bt167.2))) else (some (bt164.1, bt164.2.1, bt164.2.2)))
set_option maxHeartbeats 8000000 in
set_option maxRecDepth 100000 in
theorem cursor_Cursor_Most.calls (g : Nat) (s0_0 : List Int) (s0_1 : Int) (s0_2 : Int) (a1 : Int) (r1 : Int) (r2 : Int) (r3 : Int) (w0 w : World) (hI : IsS59 w0 w g s0_0 s0_1 s0_2) (hB : Below w0.heap.size w0 w) (h : cursor_Cursor_Most.f s0_0 s0_1 s0_2 a1 = some (r1, r2, r3)) :
    Calls Try.prog 36 #[.pointer (some ⟨g, 0, none⟩), .int .i64 a1] w fun e w' => e = .returned (.int .i64 r1) ∧ IsS59 w0 w' g s0_0 r2 r3 ∧ Below w0.heap.size w0 w' ∧ KeepBut w w' g none := by
  have HI0 := Aside0.mk hI
  have HK := Aside0.mk (KeepBut.refl w g none)
  have HL := Aside0.mk hB.size
  clear hI
  have HW0 := Aside0.mk hB.size
  have HB := Aside0.mk hB
  clear hB
  have H : ((cursor_Cursor_Number.f s0_0 s0_1 s0_2).bind fun bt164 => (if bt164.1 > a1 then ((cursor_Cursor_Fail.f s0_0 s0_1 bt164.2.2 3).bind fun bt167 => (some (0, bt167.1, bt167.2))) else (some (bt164.1, bt164.2.1, bt164.2.2)))) = some (r1, r2, r3) := h
  clear h
  replace H := Option.bind_eq_some_iff.mp H
  obtain ⟨⟨t164, t165, t166⟩, A30, H⟩ := H
  replace H : (if t164 > a1 then ((cursor_Cursor_Fail.f s0_0 s0_1 t166 3).bind fun bt167 => (some (0, bt167.1, bt167.2))) else (some (t164, t165, t166))) = some (r1, r2, r3) := H
  have A3 := Aside0.mk A30
  clear A30
  by_cases c4 : t164 > a1
  · rw [if_pos c4] at H
    have c4b0 : decide (a1 < t164) = true := decide_eq_true c4
    clear c4
    replace H := Option.bind_eq_some_iff.mp H
    obtain ⟨⟨t167, t168⟩, A50, H⟩ := H
    replace H : (some (0, t167, t168)) = some (r1, r2, r3) := H
    have A5 := Aside0.mk A50
    clear A50
    simp only [Option.some.injEq, Prod.mk.injEq] at H
    obtain ⟨rfl, rfl, rfl⟩ := H
    obtain ⟨ASz6_0, cSz6_0, HGz6, hgz6, HSz6_0⟩ := HI0.out
    have hcz6_0 := cellS59_0 HGz6
    have hcz6_1 := cellS59_1 HGz6
    have hcz6_2 := cellS59_2 HGz6
    have hfz6_1 := blk_frozen HGz6 1
    have hfz6_2 := blk_frozen HGz6 2
    clear HGz6 hgz6
    go_enter Try.func36, Try.ntmps36
    go_wp2_with (first | ((with_reducible refine gate_callee (f := 51) rfl ?_); refine goesL_ (some 12) rfl rfl Try.func51 (by kernel_rfl) rfl #[.pointer (some ⟨g, 0, none⟩)] rfl (by (try simp only [List.map_toArray, List.map_cons, List.map_nil]); first | done | rfl | (simp only [List.length_drop, List.length_take]; rfl)) ?_; (with_reducible refine (cursor_Cursor_Number.calls g s0_0 s0_1 s0_2 t164 t165 t166 w0 _ ?side1 ?side2 A3.out).mono ?_); (case side1 => repeat (first | (with_reducible first | exact HI0.out | apply IsS59.alloc | apply IsS59.drewN | apply IsS59.drew | apply IsS59.set_1 | apply IsS59.set_2) | exact HI0.out)); (case side2 => repeat (first | (with_reducible first | exact HB.out | apply below_alloc | apply pw_below_drewN | apply below_drew1 | refine below_set ?_ (IsS59.ge HI0.out)) | exact HB.out)); rintro e w7 ⟨rfl, hi, hb, hk⟩; refine ⟨_, rfl, ?_⟩; have n0_ := Aside0.mk (KeepBut.trans (by repeat (first | (with_reducible first | exact HK.out | apply KeepBut.set_ | apply keep_drewN | apply keep_drew | apply keep_alloc) | exact HK.out)) hk (.inl rfl)); have n1_ := Aside0.mk (hb); have n2_ := Aside0.mk (hi); clear HK; clear HB; clear HI0; have HK := n0_; have HB := n1_; have HI0 := n2_; clear n0_ n1_ n2_; (try clear hb); (try clear hb2); (try clear hk); (try clear hi); obtain ⟨ASz8_0, cSz8_0, HGz8, hgz8, HSz8_0⟩ := HI0.out; have hcz8_0 := cellS59_0 HGz8; have hcz8_1 := cellS59_1 HGz8; have hcz8_2 := cellS59_2 HGz8; have hfz8_1 := blk_frozen HGz8 1; have hfz8_2 := blk_frozen HGz8 2; clear HGz8 hgz8) | ((with_reducible refine gate_callee (f := 38) rfl ?_); refine goesL_ (some 21) rfl rfl Try.func38 (by kernel_rfl) rfl #[.pointer (some ⟨g, 0, none⟩), .int .i64 3] rfl (by (try simp only [List.map_toArray, List.map_cons, List.map_nil]); first | done | rfl | (simp only [List.length_drop, List.length_take]; rfl)) ?_; (with_reducible refine (cursor_Cursor_Fail.calls g s0_0 s0_1 t166 3 t167 t168 w0 _ ?side1 ?side2 A5.out).mono ?_); (case side1 => repeat (first | (with_reducible first | exact HI0.out | apply IsS59.alloc | apply IsS59.drewN | apply IsS59.drew | apply IsS59.set_1 | apply IsS59.set_2) | exact HI0.out)); (case side2 => repeat (first | (with_reducible first | exact HB.out | apply below_alloc | apply pw_below_drewN | apply below_drew1 | refine below_set ?_ (IsS59.ge HI0.out)) | exact HB.out)); rintro e w9 ⟨rfl, hi, hb, hk⟩; refine ⟨_, rfl, ?_⟩; have n0_ := Aside0.mk (KeepBut.trans (by repeat (first | (with_reducible first | exact HK.out | apply KeepBut.set_ | apply keep_drewN | apply keep_drew | apply keep_alloc) | exact HK.out)) hk (.inl rfl)); have n1_ := Aside0.mk (hb); have n2_ := Aside0.mk (hi); clear HK; clear HB; clear HI0; have HK := n0_; have HB := n1_; have HI0 := n2_; clear n0_ n1_ n2_; (try clear hb); (try clear hb2); (try clear hk); (try clear hi)))
    go_ret
    exact ⟨by first | rfl | (simp [errW_none, errW_some] <;> rfl) | (simp [*, errW_none, errW_some] <;> rfl), by repeat (first | (with_reducible first | exact HI0.out | apply IsS59.alloc | apply IsS59.drewN | apply IsS59.drew | apply IsS59.set_1 | apply IsS59.set_2) | exact HI0.out), by repeat (first | (with_reducible first | exact HB.out | apply below_alloc | apply pw_below_drewN | apply below_drew1 | refine below_set ?_ (IsS59.ge HI0.out)) | exact HB.out), by repeat (first | (with_reducible first | exact HK.out | apply KeepBut.set_ | apply keep_drewN | apply keep_drew | apply keep_alloc) | exact HK.out)⟩
  · rw [if_neg c4] at H
    have c4b0 : decide (a1 < t164) = false := decide_eq_false c4
    clear c4
    simp only [Option.some.injEq, Prod.mk.injEq] at H
    obtain ⟨rfl, rfl, rfl⟩ := H
    obtain ⟨ASz10_0, cSz10_0, HGz10, hgz10, HSz10_0⟩ := HI0.out
    have hcz10_0 := cellS59_0 HGz10
    have hcz10_1 := cellS59_1 HGz10
    have hcz10_2 := cellS59_2 HGz10
    have hfz10_1 := blk_frozen HGz10 1
    have hfz10_2 := blk_frozen HGz10 2
    clear HGz10 hgz10
    go_enter Try.func36, Try.ntmps36
    go_wp2_with (first | ((with_reducible refine gate_callee (f := 51) rfl ?_); refine goesL_ (some 12) rfl rfl Try.func51 (by kernel_rfl) rfl #[.pointer (some ⟨g, 0, none⟩)] rfl (by (try simp only [List.map_toArray, List.map_cons, List.map_nil]); first | done | rfl | (simp only [List.length_drop, List.length_take]; rfl)) ?_; (with_reducible refine (cursor_Cursor_Number.calls g s0_0 s0_1 s0_2 t164 t165 t166 w0 _ ?side1 ?side2 A3.out).mono ?_); (case side1 => repeat (first | (with_reducible first | exact HI0.out | apply IsS59.alloc | apply IsS59.drewN | apply IsS59.drew | apply IsS59.set_1 | apply IsS59.set_2) | exact HI0.out)); (case side2 => repeat (first | (with_reducible first | exact HB.out | apply below_alloc | apply pw_below_drewN | apply below_drew1 | refine below_set ?_ (IsS59.ge HI0.out)) | exact HB.out)); rintro e w11 ⟨rfl, hi, hb, hk⟩; refine ⟨_, rfl, ?_⟩; have n0_ := Aside0.mk (KeepBut.trans (by repeat (first | (with_reducible first | exact HK.out | apply KeepBut.set_ | apply keep_drewN | apply keep_drew | apply keep_alloc) | exact HK.out)) hk (.inl rfl)); have n1_ := Aside0.mk (hb); have n2_ := Aside0.mk (hi); clear HK; clear HB; clear HI0; have HK := n0_; have HB := n1_; have HI0 := n2_; clear n0_ n1_ n2_; (try clear hb); (try clear hb2); (try clear hk); (try clear hi)))
    go_ret
    exact ⟨by first | rfl | (simp [errW_none, errW_some] <;> rfl) | (simp [*, errW_none, errW_some] <;> rfl), by repeat (first | (with_reducible first | exact HI0.out | apply IsS59.alloc | apply IsS59.drewN | apply IsS59.drew | apply IsS59.set_1 | apply IsS59.set_2) | exact HI0.out), by repeat (first | (with_reducible first | exact HB.out | apply below_alloc | apply pw_below_drewN | apply below_drew1 | refine below_set ?_ (IsS59.ge HI0.out)) | exact HB.out), by repeat (first | (with_reducible first | exact HK.out | apply KeepBut.set_ | apply keep_drewN | apply keep_drew | apply keep_alloc) | exact HK.out)⟩

/-! ### cursor_Cursor_Left: function 20 -/
def cursor_Cursor_Left.f (s0_0 : List Int) (s0_1 : Int) (s0_2 : Int) : Option (Int × Int × Int) := some (wrap64 ((s0_0.length : Int) - s0_1), s0_1, s0_2)
set_option maxHeartbeats 8000000 in
set_option maxRecDepth 100000 in
theorem cursor_Cursor_Left.calls (g : Nat) (s0_0 : List Int) (s0_1 : Int) (s0_2 : Int) (r1 : Int) (r2 : Int) (r3 : Int) (w0 w : World) (hI : IsS59 w0 w g s0_0 s0_1 s0_2) (hB : Below w0.heap.size w0 w) (h : cursor_Cursor_Left.f s0_0 s0_1 s0_2 = some (r1, r2, r3)) :
    Calls Try.prog 20 #[.pointer (some ⟨g, 0, none⟩)] w fun e w' => e = .returned (.int .i64 r1) ∧ IsS59 w0 w' g s0_0 r2 r3 ∧ Below w0.heap.size w0 w' ∧ KeepBut w w' g none := by
  have HI0 := Aside0.mk hI
  have HK := Aside0.mk (KeepBut.refl w g none)
  have HL := Aside0.mk hB.size
  clear hI
  have HW0 := Aside0.mk hB.size
  have HB := Aside0.mk hB
  clear hB
  have H : (some (wrap64 ((s0_0.length : Int) - s0_1), s0_1, s0_2)) = some (r1, r2, r3) := h
  clear h
  simp only [Option.some.injEq, Prod.mk.injEq] at H
  obtain ⟨rfl, rfl, rfl⟩ := H
  obtain ⟨ASz2_0, cSz2_0, HGz2, hgz2, HSz2_0⟩ := HI0.out
  have hcz2_0 := cellS59_0 HGz2
  have hcz2_1 := cellS59_1 HGz2
  have hcz2_2 := cellS59_2 HGz2
  have hfz2_1 := blk_frozen HGz2 1
  have hfz2_2 := blk_frozen HGz2 2
  clear HGz2 hgz2
  go_enter Try.func20, Try.ntmps20
  go_wp2
  repeat (go_quiet (fail); try go_wp2)
  go_ret
  exact ⟨by first | rfl | (simp [errW_none, errW_some] <;> rfl) | (simp [*, errW_none, errW_some] <;> rfl), by repeat (first | (with_reducible first | exact HI0.out | apply IsS59.alloc | apply IsS59.drewN | apply IsS59.drew | apply IsS59.set_1 | apply IsS59.set_2) | exact HI0.out), by repeat (first | (with_reducible first | exact HB.out | apply below_alloc | apply pw_below_drewN | apply below_drew1 | refine below_set ?_ (IsS59.ge HI0.out)) | exact HB.out), by repeat (first | (with_reducible first | exact HK.out | apply KeepBut.set_ | apply keep_drewN | apply keep_drew | apply keep_alloc) | exact HK.out)⟩


/-! ### cursor_Cursor_Bytes: function 53, given -/
def cursor_Cursor_Bytes.f (s0_0 : List Int) (s0_1 : Int) (s0_2 : Int) (a1 : Int) : Option (List Int × Int × Int) := if s0_2 = 0 then (if a1 < 0 then some ([], s0_1, 3) else if 0 ≤ s0_1 ∧ s0_1 ≤ (s0_0.length : Int) then (if a1 > (s0_0.length : Int) - s0_1 then some ([], s0_1, 2) else if s0_0.length < 140737488355328 then some ((s0_0.drop s0_1.toNat).take a1.toNat, s0_1 + a1, 0) else none) else none) else some ([], s0_1, s0_2)
theorem cursor_Cursor_Bytes.info : (Try.prog.info? 5).map (fun i => (i.zero, i.size, i.bytes)) = some (some (.int .u8 0), 1, 1) := by kernel_rfl
set_option maxHeartbeats 8000000 in
set_option maxRecDepth 100000 in
theorem cursor_Cursor_Bytes.calls (g : Nat) (s0_0 : List Int) (s0_1 : Int) (s0_2 : Int) (a1 : Int) (r1 : List Int) (r2 : Int) (r3 : Int) (w0 w : World) (hI : IsS59 w0 w g s0_0 s0_1 s0_2) (hB : Below w0.heap.size w0 w) (h : cursor_Cursor_Bytes.f s0_0 s0_1 s0_2 a1 = some (r1, r2, r3)) :
    Calls Try.prog 53 #[.pointer (some ⟨g, 0, none⟩), .int .i64 a1] w fun e w' => ∃ v0_ : Value, e = .returned (v0_) ∧ Kd.R (Kd.int .u8) 5 w' w.heap.size (fun _ => True) v0_ r1 ∧ IsS59 w0 w' g s0_0 r2 r3 ∧ Below w0.heap.size w0 w' ∧ KeepBut w w' g none := by
  have HI0 := Aside0.mk hI
  have HK := Aside0.mk (KeepBut.refl w g none)
  clear hI
  have HB := Aside0.mk hB
  clear hB
  obtain ⟨AS, cS, HG, hgc, HS⟩ := HI0.out
  have hcz_0 := cellS59_0 HG
  have hcz_1 := cellS59_1 HG
  have hcz_2 := cellS59_2 HG
  have hfz_1 := blk_frozen HG 1
  have hfz_2 := blk_frozen HG 2
  have hlm := HS.2.1
  clear HG hgc HS
  unfold cursor_Cursor_Bytes.f at h
  by_cases c2 : s0_2 = 0
  · rw [if_pos c2] at h
    subst c2
    by_cases cn : a1 < 0
    · rw [if_pos cn] at h
      have tn : decide (a1 < 0) = true := decide_eq_true cn
      simp only [Option.some.injEq, Prod.mk.injEq] at h
      obtain ⟨rfl, rfl, rfl⟩ := h
      clear cn
      go_enter Try.func53, Try.ntmps53
      go_wp2_with (first | (go_at_call 38; (refine (cursor_Cursor_Fail.calls g s0_0 s0_1 0 3 s0_1 3 w0 _ ?side1 ?side2 (by simp [cursor_Cursor_Fail.f])).mono ?_); (case side1 => repeat (first | exact HI0.out | apply IsS59.alloc | apply IsS59.drewN | apply IsS59.drew)); (case side2 => repeat (first | exact HB.out | apply below_alloc | apply pw_below_drewN | apply below_drew1)); rintro e w6 ⟨rfl, hi, hb, hk⟩; have n0_ := Aside0.mk (KeepBut.trans (by repeat (first | exact HK.out | apply keep_drewN | apply keep_drew | apply keep_alloc)) hk (.inl rfl)); have n1_ := Aside0.mk (hb); have n2_ := Aside0.mk (hi); clear HK; clear HB; clear HI0; have HK := n0_; have HB := n1_; have HI0 := n2_; clear n0_ n1_ n2_; (try clear hb); (try clear hk); (try clear hi)))
      go_ret
      exact ⟨.slice none 0 0, by first | rfl | (simp; done), Kd.R_nil _ _ _ _ _, by repeat (first | exact HI0.out | apply IsS59.alloc | apply IsS59.drewN | apply IsS59.drew | apply IsS59.set_1 | apply IsS59.set_2), by repeat (first | exact HB.out | apply below_alloc | apply pw_below_drewN | apply below_drew1 | refine below_set ?_ (IsS59.ge HI0.out)), by repeat (first | exact HK.out | apply KeepBut.set_ | apply keep_drewN | apply keep_drew | apply keep_alloc)⟩
    · rw [if_neg cn] at h
      have tn : decide (a1 < 0) = false := decide_eq_false cn
      by_cases cR : 0 ≤ s0_1 ∧ s0_1 ≤ (s0_0.length : Int)
      case neg => rw [if_neg cR] at h; cases h
      rw [if_pos cR] at h
      obtain ⟨a, rfl⟩ : ∃ a : Nat, s0_1 = (a : Int) := ⟨s0_1.toNat, by omega⟩
      obtain ⟨n, rfl⟩ : ∃ n : Nat, a1 = (n : Int) := ⟨a1.toNat, by omega⟩
      have HA := Aside0.mk cR.2
      have HW : Aside0 (wrap64 ((s0_0.length : Int) - (a : Int)) = (s0_0.length : Int) - (a : Int)) := ⟨by unfold wrap64; omega⟩
      by_cases cg : (n : Int) > (s0_0.length : Int) - (a : Int)
      · rw [if_pos cg] at h
        have tg : decide ((s0_0.length : Int) - (a : Int) < (n : Int)) = true := decide_eq_true cg
        simp only [Option.some.injEq, Prod.mk.injEq] at h
        obtain ⟨rfl, rfl, rfl⟩ := h
        clear cn cg cR
        go_enter Try.func53, Try.ntmps53
        go_wp2_with (first | (go_at_call 20; (refine (cursor_Cursor_Left.calls g s0_0 (a : Int) 0 ((s0_0.length : Int) - (a : Int)) (a : Int) 0 w0 _ ?side1 ?side2 (by simp only [cursor_Cursor_Left.f, HW.out])).mono ?_); (case side1 => repeat (first | exact HI0.out | apply IsS59.alloc | apply IsS59.drewN | apply IsS59.drew)); (case side2 => repeat (first | exact HB.out | apply below_alloc | apply pw_below_drewN | apply below_drew1)); rintro e w7 ⟨rfl, hi, hb, hk⟩; have n0_ := Aside0.mk (KeepBut.trans (by repeat (first | exact HK.out | apply keep_drewN | apply keep_drew | apply keep_alloc)) hk (.inl rfl)); have n1_ := Aside0.mk (hb); have n2_ := Aside0.mk (hi); clear HK; clear HB; clear HI0; have HK := n0_; have HB := n1_; have HI0 := n2_; clear n0_ n1_ n2_; (try clear hb); (try clear hk); (try clear hi); obtain ⟨AS2, cS2, HG2, hgc2, HS2⟩ := HI0.out; have hcy_0 := cellS59_0 HG2; have hcy_1 := cellS59_1 HG2; have hcy_2 := cellS59_2 HG2; have hfy_1 := blk_frozen HG2 1; have hfy_2 := blk_frozen HG2 2; have HS2a := Aside0.mk HS2; have HG2a := Aside0.mk hgc2.2.1; clear HG2 hgc2 HS2) | (go_at_call 38; (refine (cursor_Cursor_Fail.calls g s0_0 (a : Int) 0 2 (a : Int) 2 w0 _ ?side1 ?side2 (by simp [cursor_Cursor_Fail.f])).mono ?_); (case side1 => repeat (first | exact HI0.out | apply IsS59.alloc | apply IsS59.drewN | apply IsS59.drew)); (case side2 => repeat (first | exact HB.out | apply below_alloc | apply pw_below_drewN | apply below_drew1)); rintro e w6 ⟨rfl, hi, hb, hk⟩; have n0_ := Aside0.mk (KeepBut.trans (by repeat (first | exact HK.out | apply keep_drewN | apply keep_drew | apply keep_alloc)) hk (.inl rfl)); have n1_ := Aside0.mk (hb); have n2_ := Aside0.mk (hi); clear HK; clear HB; clear HI0; have HK := n0_; have HB := n1_; have HI0 := n2_; clear n0_ n1_ n2_; (try clear hb); (try clear hk); (try clear hi)))
        go_ret
        exact ⟨.slice none 0 0, by first | rfl | (simp; done), Kd.R_nil _ _ _ _ _, by repeat (first | exact HI0.out | apply IsS59.alloc | apply IsS59.drewN | apply IsS59.drew | apply IsS59.set_1 | apply IsS59.set_2), by repeat (first | exact HB.out | apply below_alloc | apply pw_below_drewN | apply below_drew1 | refine below_set ?_ (IsS59.ge HI0.out)), by repeat (first | exact HK.out | apply KeepBut.set_ | apply keep_drewN | apply keep_drew | apply keep_alloc)⟩
      · rw [if_neg cg] at h
        have tg : decide ((s0_0.length : Int) - (a : Int) < (n : Int)) = false := decide_eq_false cg
        by_cases cl : s0_0.length < 140737488355328
        case neg => rw [if_neg cl] at h; cases h
        rw [if_pos cl] at h
        have HAN : Aside0 (a + n ≤ s0_0.length) := ⟨by omega⟩
        have hs1 : (a : Int) + (n : Int) ≤ 140737488355328 := by omega
        have HCL := Aside0.mk cl
        clear cn cg cR cl hlm
        go_enter Try.func53, Try.ntmps53
        go_wp2_with (first | (go_at_call 20; (refine (cursor_Cursor_Left.calls g s0_0 (a : Int) 0 ((s0_0.length : Int) - (a : Int)) (a : Int) 0 w0 _ ?side1 ?side2 (by simp only [cursor_Cursor_Left.f, HW.out])).mono ?_); (case side1 => repeat (first | exact HI0.out | apply IsS59.alloc | apply IsS59.drewN | apply IsS59.drew)); (case side2 => repeat (first | exact HB.out | apply below_alloc | apply pw_below_drewN | apply below_drew1)); rintro e w7 ⟨rfl, hi, hb, hk⟩; have n0_ := Aside0.mk (KeepBut.trans (by repeat (first | exact HK.out | apply keep_drewN | apply keep_drew | apply keep_alloc)) hk (.inl rfl)); have n1_ := Aside0.mk (hb); have n2_ := Aside0.mk (hi); clear HK; clear HB; clear HI0; have HK := n0_; have HB := n1_; have HI0 := n2_; clear n0_ n1_ n2_; (try clear hb); (try clear hk); (try clear hi); obtain ⟨AS2, cS2, HG2, hgc2, HS2⟩ := HI0.out; have hcy_0 := cellS59_0 HG2; have hcy_1 := cellS59_1 HG2; have hcy_2 := cellS59_2 HG2; have hfy_1 := blk_frozen HG2 1; have hfy_2 := blk_frozen HG2 2; have HS2a := Aside0.mk HS2; have HG2a := Aside0.mk hgc2.2.1; clear HG2 hgc2 HS2))
        obtain ⟨W8, hW8⟩ : ∃ W8 : World, W8 = w7.setCell ⟨g, 1, none⟩ (.int .i64 ((a : Int) + (n : Int))) := ⟨_, rfl⟩
        rw [← hW8]
        have HI1 : Aside0 (IsS59 w0 W8 g s0_0 ((a : Int) + (n : Int)) 0) := ⟨by rw [hW8]; exact IsS59.set_1 HI0.out _⟩
        have HB1 : Aside0 (Below w0.heap.size w0 W8) := ⟨by rw [hW8]; exact below_set HB.out (IsS59.ge HI0.out)⟩
        have HK1 : Aside0 (KeepBut w W8 g none) := ⟨by rw [hW8]; exact KeepBut.set_ HK.out _ _⟩
        clear hW8 HI0 HB HK hcy_0 hcy_1 hcy_2 hfy_1 hfy_2 HS2a HG2a
        obtain ⟨AS3, cS3, HG3, hgc3, HS3⟩ := HI1.out
        have hcx_0 := cellS59_0 HG3
        have hcx_1 := cellS59_1 HG3
        have HS3a := Aside0.mk HS3
        obtain ⟨i0, hi0, _, hsz, _⟩ := info_parts cursor_Cursor_Bytes.info
        have hcut := cut_mid (P := Try.prog) 25 5 .i64 .i64 Try.underlying25 hi0 1 hsz AS3 s0_0.length cS3 (a : Int) ((a : Int) + (n : Int)) (by omega) (by omega) (by have := HAN.out; omega) hgc3.2.1
        have hsub : (a : Int) + (n : Int) - (n : Int) = (a : Int) := by omega
        have hlen : ((a : Int) + (n : Int)).toNat - (a : Int).toNat = ((s0_0.drop a).take n).length := by have := HAN.out; simp; omega
        have HRd := Kd.C_take (m := n) (Kd.C_drop (m := a) (c := cS3) HS3 (by have := HAN.out; omega) hgc3.2.1) (by have := HAN.out; simp; omega)
        obtain ⟨A9, hA9⟩ : ∃ A9, A9 = (if cS3 = (a : Int).toNat then AS3 else (AS3 : Option Addr).map (·.add ((a : Int).toNat * 1))) := ⟨_, rfl⟩
        obtain ⟨c9, hc9⟩ : ∃ c9, c9 = cS3 - (a : Int).toNat := ⟨_, rfl⟩
        have HRl : Aside0 (Kd.C (Kd.int .u8) w0 A9 ((s0_0.drop a).take n).length ((s0_0.drop a).take n)) := ⟨by rw [hA9, Int.toNat_natCast]; exact HRd⟩
        have HC9 : Aside0 (((s0_0.drop a).take n).length ≤ c9) := ⟨by rw [hc9]; have := HAN.out; have := hgc3.2.1; simp; omega⟩
        have HZ : Aside0 (r1 = (s0_0.drop a).take n ∧ r2 = (a : Int) + (n : Int) ∧ r3 = 0) := ⟨by simp only [Option.some.injEq, Prod.mk.injEq, Int.toNat_natCast] at h; exact ⟨h.1.symm, h.2.1.symm, h.2.2.symm⟩⟩
        obtain ⟨L, hL⟩ : ∃ L : List Int, L = (s0_0.drop a).take n := ⟨_, rfl⟩
        have HLL : Aside0 (L.length < 140737488355328) := ⟨by rw [hL]; have := HCL.out; simp; omega⟩
        rw [← hA9, ← hc9, hlen, ← hL] at hcut
        rw [← hL] at HRl HC9 HZ
        have hcut2 : ∀ W : World, (Instr.slice 25 (.slice AS3 s0_0.length cS3) (some (.int .i64 ((a : Int) + (n : Int) - (n : Int)))) (some (.int .i64 ((a : Int) + (n : Int)))) none).run Try.prog W = .ok (.slice A9 L.length c9) W := by intro W; rw [hsub]; exact hcut W
        have hwa : IntKind.i64.wrap (a : Int) = (a : Int) := by have := HAN.out; have := HCL.out; rw [IntKind.wrap_i64]; omega
        have hwb : IntKind.i64.wrap ((a : Int) + (n : Int) - (n : Int)) = (a : Int) := by rw [hsub]; exact hwa
        clear HRd hA9 hc9 hlen hL hi0 hsz HG3 hgc3 HS3 h
        go_region_held3 (fun w' => w'.cell? ⟨g, 0, none⟩ = some (.slice AS3 s0_0.length cS3) ∧ w'.cell? ⟨g, 1, none⟩ = some (.int .i64 ((a : Int) + (n : Int)))) (first | go_keep | exact ⟨(hb9.cell (World.block_lt_of_cell? _ _ hcx_0)).trans hcx_0, (hb9.cell (World.block_lt_of_cell? _ _ hcx_1)).trans hcx_1⟩) (first | (go_at_call 35; (refine (slices_Clone_byte_byte.calls _ _ L L _ ?side1 ?side2 (by unfold slices_Clone_byte_byte.f; rw [if_pos HLL.out])).mono ?_); (case side1 => repeat (first | exact Kd.C_below HRl.out HB1.out | refine Kd.C_alloc ?_ _ | refine Kd.C_drewN ?_ _ | refine Kd.C_drew ?_)); (case side2 => exact HC9.out); rintro e w9 ⟨v9, rfl, ho9, hb9⟩; have n0_ := Aside0.mk (KeepBut.trans (by repeat (first | exact HK1.out | apply keep_drewN | apply keep_drew | apply keep_alloc)) (KeepBut.of_below hb9 g none) (.inl rfl)); have n1_ := Aside0.mk (below_step (by repeat (first | exact HB1.out | apply below_alloc | apply pw_below_drewN | apply below_drew1)) hb9); have n2_ := Aside0.mk (IsS59.below (by repeat (first | exact HI1.out | apply IsS59.alloc | apply IsS59.drewN | apply IsS59.drew)) hb9); have n4_ := HK1.out.1; have HO := Aside0.mk (Kd.R_lower ho9 n4_)))
        have HK := n0_
        have HB := n1_
        have HI0 := n2_
        obtain ⟨rfl, rfl, rfl⟩ := HZ.out
        clear HZ
        go_wp2
        go_ret
        exact ⟨_, by first | rfl | (simp; done), HO.out, by repeat (first | exact HI0.out | apply IsS59.alloc | apply IsS59.drewN | apply IsS59.drew | apply IsS59.set_1 | apply IsS59.set_2), by repeat (first | exact HB.out | apply below_alloc | apply pw_below_drewN | apply below_drew1 | refine below_set ?_ (IsS59.ge HI0.out)), by repeat (first | exact HK.out | apply KeepBut.set_ | apply keep_drewN | apply keep_drew | apply keep_alloc)⟩
  · rw [if_neg c2] at h
    have t2 : (s0_2 != 0) = true := bne_iff_ne.mpr c2
    simp only [Option.some.injEq, Prod.mk.injEq] at h
    obtain ⟨rfl, rfl, rfl⟩ := h
    clear c2
    go_enter Try.func53, Try.ntmps53
    go_wp2
    go_ret
    exact ⟨.slice none 0 0, by first | rfl | (simp; done), Kd.R_nil _ _ _ _ _, by repeat (first | exact HI0.out | apply IsS59.alloc | apply IsS59.drewN | apply IsS59.drew | apply IsS59.set_1 | apply IsS59.set_2), by repeat (first | exact HB.out | apply below_alloc | apply pw_below_drewN | apply below_drew1 | refine below_set ?_ (IsS59.ge HI0.out)), by repeat (first | exact HK.out | apply KeepBut.set_ | apply keep_drewN | apply keep_drew | apply keep_alloc)⟩

/-! ### cursor_Cursor_Byte: function 52 -/
def cursor_Cursor_Byte.f (s0_0 : List Int) (s0_1 : Int) (s0_2 : Int) : Option (Int × Int × Int) := (cursor_Cursor_Bytes.f s0_0 s0_1 s0_2 1).bind fun bt169 => (if (bt169.1.length : Int) = 1 then (if 0 < (bt169.1.length : Int) then (some (wrap64 (rd bt169.1 0), bt169.2.1, bt169.2.2)) else (none)) else (some (0, bt169.2.1, bt169.2.2)))
set_option maxHeartbeats 8000000 in
set_option maxRecDepth 100000 in
theorem cursor_Cursor_Byte.calls (g : Nat) (s0_0 : List Int) (s0_1 : Int) (s0_2 : Int) (r1 : Int) (r2 : Int) (r3 : Int) (w0 w : World) (hI : IsS59 w0 w g s0_0 s0_1 s0_2) (hB : Below w0.heap.size w0 w) (h : cursor_Cursor_Byte.f s0_0 s0_1 s0_2 = some (r1, r2, r3)) :
    Calls Try.prog 52 #[.pointer (some ⟨g, 0, none⟩)] w fun e w' => e = .returned (.int .i64 r1) ∧ IsS59 w0 w' g s0_0 r2 r3 ∧ Below w0.heap.size w0 w' ∧ KeepBut w w' g none := by
  have HI0 := Aside0.mk hI
  have HK := Aside0.mk (KeepBut.refl w g none)
  have HL := Aside0.mk hB.size
  clear hI
  have HW0 := Aside0.mk hB.size
  have HB := Aside0.mk hB
  clear hB
  have H : ((cursor_Cursor_Bytes.f s0_0 s0_1 s0_2 1).bind fun bt169 => (if (bt169.1.length : Int) = 1 then (if 0 < (bt169.1.length : Int) then (some (wrap64 (rd bt169.1 0), bt169.2.1, bt169.2.2)) else (none)) else (some (0, bt169.2.1, bt169.2.2)))) = some (r1, r2, r3) := h
  clear h
  replace H := Option.bind_eq_some_iff.mp H
  obtain ⟨⟨t169, t172, t173⟩, A20, H⟩ := H
  replace H : (if (t169.length : Int) = 1 then (if 0 < (t169.length : Int) then (some (wrap64 (rd t169 0), t172, t173)) else (none)) else (some (0, t172, t173))) = some (r1, r2, r3) := H
  have A2 := Aside0.mk A20
  clear A20
  by_cases c3 : (t169.length : Int) = 1
  · rw [if_pos c3] at H
    have c3b0 : ((t169.length : Int) == 1) = true := beq_iff_eq.mpr c3
    have c3b1 : ((t169.length : Int) != 1) = false := bne_eq_false_iff_eq.mpr c3
    clear c3
    by_cases c4 : 0 < (t169.length : Int)
    · rw [if_pos c4] at H
      have c4b0 : decide (0 < (t169.length : Int)) = true := decide_eq_true c4
      have c4b1 : decide (0 < t169.length) = true := decide_eq_true (by omega)
      clear c4
      simp only [Option.some.injEq, Prod.mk.injEq] at H
      obtain ⟨rfl, rfl, rfl⟩ := H
      go_enter Try.func52, Try.ntmps52
      go_wp2_with (first | ((with_reducible refine gate_callee (f := 53) rfl ?_); refine goesL_ (some 5) rfl rfl Try.func53 (by kernel_rfl) rfl #[.pointer (some ⟨g, 0, none⟩), .int .i64 1] rfl (by (try simp only [List.map_toArray, List.map_cons, List.map_nil]); first | done | rfl | (simp only [List.length_drop, List.length_take]; rfl)) ?_; (with_reducible refine (cursor_Cursor_Bytes.calls g s0_0 s0_1 s0_2 1 t169 t172 t173 w0 _ ?side1 ?side2 A2.out).mono ?_); (case side1 => repeat (first | (with_reducible first | exact HI0.out | apply IsS59.alloc | apply IsS59.drewN | apply IsS59.drew | apply IsS59.set_1 | apply IsS59.set_2) | exact HI0.out)); (case side2 => repeat (first | (with_reducible first | exact HB.out | apply below_alloc | apply pw_below_drewN | apply below_drew1 | refine below_set ?_ (IsS59.ge HI0.out)) | exact HB.out)); rintro e w5 ⟨v170, rfl, ho0, hi, hb, hk⟩; refine ⟨_, rfl, ?_⟩; have n0_ := Aside0.mk (Kd.R_lower ho0 (keep_size (w := w) (g := g) (row := none) (by repeat (first | (with_reducible first | exact HK.out | apply KeepBut.set_ | apply keep_drewN | apply keep_drew | apply keep_alloc) | exact HK.out)))); have n1_ := Aside0.mk (KeepBut.trans (by repeat (first | (with_reducible first | exact HK.out | apply KeepBut.set_ | apply keep_drewN | apply keep_drew | apply keep_alloc) | exact HK.out)) hk (.inl rfl)); have n2_ := Aside0.mk (hb); have n3_ := Aside0.mk (hi); clear HK; clear HB; clear HI0; have HO171 := n0_; have HK := n1_; have HB := n2_; have HI0 := n3_; clear n0_ n1_ n2_ n3_; (try clear hb); (try clear hb2); (try clear hk); (try clear hi); (try clear ho0); obtain ⟨Ao6, co6, eo6⟩ := Kd.R_slice HO171.out; subst eo6; have p174 : 0 ≤ (0 : Int) := (by omega); have q174 : 0 < (t169.length : Int) := of_decide_eq_true (by first | (with_reducible assumption) | assumption); obtain ⟨ad174, e174, hx174_0⟩ := Kd.at_int (Kd.R_reads' HO171.out).2.2 0 p174 q174; cases e174; have qi174 : (0 < t169.length) = True := eq_true (by omega); (try rw [show ((0 : Int)).toNat = 0 from rfl] at hx174_0); (try rw [Addr.add_zero'] at hx174_0); replace p174 := eq_true p174; replace q174 := eq_true q174))
      go_ret
      exact ⟨by first | rfl | (simp [errW_none, errW_some] <;> rfl) | (simp [*, errW_none, errW_some] <;> rfl), by repeat (first | (with_reducible first | exact HI0.out | apply IsS59.alloc | apply IsS59.drewN | apply IsS59.drew | apply IsS59.set_1 | apply IsS59.set_2) | exact HI0.out), by repeat (first | (with_reducible first | exact HB.out | apply below_alloc | apply pw_below_drewN | apply below_drew1 | refine below_set ?_ (IsS59.ge HI0.out)) | exact HB.out), by repeat (first | (with_reducible first | exact HK.out | apply KeepBut.set_ | apply keep_drewN | apply keep_drew | apply keep_alloc) | exact HK.out)⟩
    · rw [if_neg c4] at H
      exact absurd H (by simp)
  · rw [if_neg c3] at H
    have c3b0 : ((t169.length : Int) == 1) = false := beq_eq_false_iff_ne.mpr c3
    have c3b1 : ((t169.length : Int) != 1) = true := bne_iff_ne.mpr c3
    simp only [Option.some.injEq, Prod.mk.injEq] at H
    obtain ⟨rfl, rfl, rfl⟩ := H
    go_enter Try.func52, Try.ntmps52
    go_wp2_with (first | ((with_reducible refine gate_callee (f := 53) rfl ?_); refine goesL_ (some 5) rfl rfl Try.func53 (by kernel_rfl) rfl #[.pointer (some ⟨g, 0, none⟩), .int .i64 1] rfl (by (try simp only [List.map_toArray, List.map_cons, List.map_nil]); first | done | rfl | (simp only [List.length_drop, List.length_take]; rfl)) ?_; (with_reducible refine (cursor_Cursor_Bytes.calls g s0_0 s0_1 s0_2 1 t169 t172 t173 w0 _ ?side1 ?side2 A2.out).mono ?_); (case side1 => repeat (first | (with_reducible first | exact HI0.out | apply IsS59.alloc | apply IsS59.drewN | apply IsS59.drew | apply IsS59.set_1 | apply IsS59.set_2) | exact HI0.out)); (case side2 => repeat (first | (with_reducible first | exact HB.out | apply below_alloc | apply pw_below_drewN | apply below_drew1 | refine below_set ?_ (IsS59.ge HI0.out)) | exact HB.out)); rintro e w7 ⟨v170, rfl, ho0, hi, hb, hk⟩; refine ⟨_, rfl, ?_⟩; have n0_ := Aside0.mk (Kd.R_lower ho0 (keep_size (w := w) (g := g) (row := none) (by repeat (first | (with_reducible first | exact HK.out | apply KeepBut.set_ | apply keep_drewN | apply keep_drew | apply keep_alloc) | exact HK.out)))); have n1_ := Aside0.mk (KeepBut.trans (by repeat (first | (with_reducible first | exact HK.out | apply KeepBut.set_ | apply keep_drewN | apply keep_drew | apply keep_alloc) | exact HK.out)) hk (.inl rfl)); have n2_ := Aside0.mk (hb); have n3_ := Aside0.mk (hi); clear HK; clear HB; clear HI0; have HO171 := n0_; have HK := n1_; have HB := n2_; have HI0 := n3_; clear n0_ n1_ n2_ n3_; (try clear hb); (try clear hb2); (try clear hk); (try clear hi); (try clear ho0); obtain ⟨Ao8, co8, eo8⟩ := Kd.R_slice HO171.out; subst eo8))
    go_ret
    exact ⟨by first | rfl | (simp [errW_none, errW_some] <;> rfl) | (simp [*, errW_none, errW_some] <;> rfl), by repeat (first | (with_reducible first | exact HI0.out | apply IsS59.alloc | apply IsS59.drewN | apply IsS59.drew | apply IsS59.set_1 | apply IsS59.set_2) | exact HI0.out), by repeat (first | (with_reducible first | exact HB.out | apply below_alloc | apply pw_below_drewN | apply below_drew1 | refine below_set ?_ (IsS59.ge HI0.out)) | exact HB.out), by repeat (first | (with_reducible first | exact HK.out | apply KeepBut.set_ | apply keep_drewN | apply keep_drew | apply keep_alloc) | exact HK.out)⟩

end Go.Proofs.Ytljhlpkoilapiaa.P
