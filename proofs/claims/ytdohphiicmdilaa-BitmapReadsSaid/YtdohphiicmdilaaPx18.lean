-- Written by hp.py, a wrapper round the kit's print; not by print.sh.
import Derived.Test.YtdohphiicmdilaaPx0
import Derived.Test.YtdohphiicmdilaaPx17
namespace Go.Proofs.Ytdohphiicmdilaa.P
open Go.RowKit Go.Proofs.YtdohphiicmdilaaW.PrintWords Go.Proofs.YtdohphiicmdilaaW.PrintLast Go.Proofs.YtdohphiicmdilaaW.PrintMore
attribute [local go_sem] max2_int min2_int max_two min_two max_three min_three max_four min_four   -- for this text's walks alone
set_option linter.unusedVariables false
set_option linter.unusedSimpArgs false


/-! ### cursor_Cursor_Bytes: function 50, given -/
def cursor_Cursor_Bytes.f (s0_0 : List Int) (s0_1 : Int) (s0_2 : Int) (a1 : Int) : Option (List Int × Int × Int) := if s0_2 = 0 then (if a1 < 0 then some ([], s0_1, 3) else if 0 ≤ s0_1 ∧ s0_1 ≤ (s0_0.length : Int) then (if a1 > (s0_0.length : Int) - s0_1 then some ([], s0_1, 2) else if s0_0.length < 140737488355328 then some ((s0_0.drop s0_1.toNat).take a1.toNat, s0_1 + a1, 0) else none) else none) else some ([], s0_1, s0_2)
theorem cursor_Cursor_Bytes.info : (Try.prog.info? 5).map (fun i => (i.zero, i.size, i.bytes)) = some (some (.int .u8 0), 1, 1) := by kernel_rfl
set_option maxHeartbeats 8000000 in
set_option maxRecDepth 100000 in
theorem cursor_Cursor_Bytes.calls (g : Nat) (s0_0 : List Int) (s0_1 : Int) (s0_2 : Int) (a1 : Int) (r1 : List Int) (r2 : Int) (r3 : Int) (w0 w : World) (hI : IsS56 w0 w g s0_0 s0_1 s0_2) (hB : Below w0.heap.size w0 w) (h : cursor_Cursor_Bytes.f s0_0 s0_1 s0_2 a1 = some (r1, r2, r3)) :
    Calls Try.prog 50 #[.pointer (some ⟨g, 0, none⟩), .int .i64 a1] w fun e w' => ∃ v0_ : Value, e = .returned (v0_) ∧ Kd.R (Kd.int .u8) 5 w' w.heap.size (fun _ => True) v0_ r1 ∧ IsS56 w0 w' g s0_0 r2 r3 ∧ Below w0.heap.size w0 w' ∧ KeepBut w w' g none := by
  have HI0 := Aside0.mk hI
  have HK := Aside0.mk (KeepBut.refl w g none)
  clear hI
  have HB := Aside0.mk hB
  clear hB
  obtain ⟨AS, cS, HG, hgc, HS⟩ := HI0.out
  have hcz_0 := cellS56_0 HG
  have hcz_1 := cellS56_1 HG
  have hcz_2 := cellS56_2 HG
  have hfz_1 := blk_frozen HG 1
  have hfz_2 := blk_frozen HG 2
  have hlm := HS.2.1
  clear HG hgc HS
  unfold cursor_Cursor_Bytes.f at h
  by_cases c2 : s0_2 = 0
  · rw [if_pos c2] at h
    subst c2
    by_cases cn : a1 < 0
    · rw [if_pos cn] at h
      have tn : decide (a1 < 0) = true := decide_eq_true cn
      simp only [Option.some.injEq, Prod.mk.injEq] at h
      obtain ⟨rfl, rfl, rfl⟩ := h
      clear cn
      go_enter Try.func50, Try.ntmps50
      go_wp2_with (first | (go_at_call 52; (refine (cursor_Cursor_Fail.calls g s0_0 s0_1 0 3 s0_1 3 w0 _ ?side1 ?side2 (by simp [cursor_Cursor_Fail.f])).mono ?_); (case side1 => repeat (first | exact HI0.out | apply IsS56.alloc | apply IsS56.drewN | apply IsS56.drew)); (case side2 => repeat (first | exact HB.out | apply below_alloc | apply pw_below_drewN | apply below_drew1)); rintro e w6 ⟨rfl, hi, hb, hk⟩; have n0_ := Aside0.mk (KeepBut.trans (by repeat (first | exact HK.out | apply keep_drewN | apply keep_drew | apply keep_alloc)) hk (.inl rfl)); have n1_ := Aside0.mk (hb); have n2_ := Aside0.mk (hi); clear HK; clear HB; clear HI0; have HK := n0_; have HB := n1_; have HI0 := n2_; clear n0_ n1_ n2_; (try clear hb); (try clear hk); (try clear hi)))
      go_ret
      exact ⟨.slice none 0 0, by first | rfl | (simp; done), Kd.R_nil _ _ _ _ _, by repeat (first | exact HI0.out | apply IsS56.alloc | apply IsS56.drewN | apply IsS56.drew | apply IsS56.set_1 | apply IsS56.set_2), by repeat (first | exact HB.out | apply below_alloc | apply pw_below_drewN | apply below_drew1 | refine below_set ?_ (IsS56.ge HI0.out)), by repeat (first | exact HK.out | apply KeepBut.set_ | apply keep_drewN | apply keep_drew | apply keep_alloc)⟩
    · rw [if_neg cn] at h
      have tn : decide (a1 < 0) = false := decide_eq_false cn
      by_cases cR : 0 ≤ s0_1 ∧ s0_1 ≤ (s0_0.length : Int)
      case neg => rw [if_neg cR] at h; cases h
      rw [if_pos cR] at h
      obtain ⟨a, rfl⟩ : ∃ a : Nat, s0_1 = (a : Int) := ⟨s0_1.toNat, by omega⟩
      obtain ⟨n, rfl⟩ : ∃ n : Nat, a1 = (n : Int) := ⟨a1.toNat, by omega⟩
      have HA := Aside0.mk cR.2
      have HW : Aside0 (wrap64 ((s0_0.length : Int) - (a : Int)) = (s0_0.length : Int) - (a : Int)) := ⟨by unfold wrap64; omega⟩
      by_cases cg : (n : Int) > (s0_0.length : Int) - (a : Int)
      · rw [if_pos cg] at h
        have tg : decide ((s0_0.length : Int) - (a : Int) < (n : Int)) = true := decide_eq_true cg
        simp only [Option.some.injEq, Prod.mk.injEq] at h
        obtain ⟨rfl, rfl, rfl⟩ := h
        clear cn cg cR
        go_enter Try.func50, Try.ntmps50
        go_wp2_with (first | (go_at_call 39; (refine (cursor_Cursor_Left.calls g s0_0 (a : Int) 0 ((s0_0.length : Int) - (a : Int)) (a : Int) 0 w0 _ ?side1 ?side2 (by simp only [cursor_Cursor_Left.f, HW.out])).mono ?_); (case side1 => repeat (first | exact HI0.out | apply IsS56.alloc | apply IsS56.drewN | apply IsS56.drew)); (case side2 => repeat (first | exact HB.out | apply below_alloc | apply pw_below_drewN | apply below_drew1)); rintro e w7 ⟨rfl, hi, hb, hk⟩; have n0_ := Aside0.mk (KeepBut.trans (by repeat (first | exact HK.out | apply keep_drewN | apply keep_drew | apply keep_alloc)) hk (.inl rfl)); have n1_ := Aside0.mk (hb); have n2_ := Aside0.mk (hi); clear HK; clear HB; clear HI0; have HK := n0_; have HB := n1_; have HI0 := n2_; clear n0_ n1_ n2_; (try clear hb); (try clear hk); (try clear hi); obtain ⟨AS2, cS2, HG2, hgc2, HS2⟩ := HI0.out; have hcy_0 := cellS56_0 HG2; have hcy_1 := cellS56_1 HG2; have hcy_2 := cellS56_2 HG2; have hfy_1 := blk_frozen HG2 1; have hfy_2 := blk_frozen HG2 2; have HS2a := Aside0.mk HS2; have HG2a := Aside0.mk hgc2.2.1; clear HG2 hgc2 HS2) | (go_at_call 52; (refine (cursor_Cursor_Fail.calls g s0_0 (a : Int) 0 2 (a : Int) 2 w0 _ ?side1 ?side2 (by simp [cursor_Cursor_Fail.f])).mono ?_); (case side1 => repeat (first | exact HI0.out | apply IsS56.alloc | apply IsS56.drewN | apply IsS56.drew)); (case side2 => repeat (first | exact HB.out | apply below_alloc | apply pw_below_drewN | apply below_drew1)); rintro e w6 ⟨rfl, hi, hb, hk⟩; have n0_ := Aside0.mk (KeepBut.trans (by repeat (first | exact HK.out | apply keep_drewN | apply keep_drew | apply keep_alloc)) hk (.inl rfl)); have n1_ := Aside0.mk (hb); have n2_ := Aside0.mk (hi); clear HK; clear HB; clear HI0; have HK := n0_; have HB := n1_; have HI0 := n2_; clear n0_ n1_ n2_; (try clear hb); (try clear hk); (try clear hi)))
        go_ret
        exact ⟨.slice none 0 0, by first | rfl | (simp; done), Kd.R_nil _ _ _ _ _, by repeat (first | exact HI0.out | apply IsS56.alloc | apply IsS56.drewN | apply IsS56.drew | apply IsS56.set_1 | apply IsS56.set_2), by repeat (first | exact HB.out | apply below_alloc | apply pw_below_drewN | apply below_drew1 | refine below_set ?_ (IsS56.ge HI0.out)), by repeat (first | exact HK.out | apply KeepBut.set_ | apply keep_drewN | apply keep_drew | apply keep_alloc)⟩
      · rw [if_neg cg] at h
        have tg : decide ((s0_0.length : Int) - (a : Int) < (n : Int)) = false := decide_eq_false cg
        by_cases cl : s0_0.length < 140737488355328
        case neg => rw [if_neg cl] at h; cases h
        rw [if_pos cl] at h
        have HAN : Aside0 (a + n ≤ s0_0.length) := ⟨by omega⟩
        have hs1 : (a : Int) + (n : Int) ≤ 140737488355328 := by omega
        have HCL := Aside0.mk cl
        clear cn cg cR cl hlm
        go_enter Try.func50, Try.ntmps50
        go_wp2_with (first | (go_at_call 39; (refine (cursor_Cursor_Left.calls g s0_0 (a : Int) 0 ((s0_0.length : Int) - (a : Int)) (a : Int) 0 w0 _ ?side1 ?side2 (by simp only [cursor_Cursor_Left.f, HW.out])).mono ?_); (case side1 => repeat (first | exact HI0.out | apply IsS56.alloc | apply IsS56.drewN | apply IsS56.drew)); (case side2 => repeat (first | exact HB.out | apply below_alloc | apply pw_below_drewN | apply below_drew1)); rintro e w7 ⟨rfl, hi, hb, hk⟩; have n0_ := Aside0.mk (KeepBut.trans (by repeat (first | exact HK.out | apply keep_drewN | apply keep_drew | apply keep_alloc)) hk (.inl rfl)); have n1_ := Aside0.mk (hb); have n2_ := Aside0.mk (hi); clear HK; clear HB; clear HI0; have HK := n0_; have HB := n1_; have HI0 := n2_; clear n0_ n1_ n2_; (try clear hb); (try clear hk); (try clear hi); obtain ⟨AS2, cS2, HG2, hgc2, HS2⟩ := HI0.out; have hcy_0 := cellS56_0 HG2; have hcy_1 := cellS56_1 HG2; have hcy_2 := cellS56_2 HG2; have hfy_1 := blk_frozen HG2 1; have hfy_2 := blk_frozen HG2 2; have HS2a := Aside0.mk HS2; have HG2a := Aside0.mk hgc2.2.1; clear HG2 hgc2 HS2))
        obtain ⟨W8, hW8⟩ : ∃ W8 : World, W8 = w7.setCell ⟨g, 1, none⟩ (.int .i64 ((a : Int) + (n : Int))) := ⟨_, rfl⟩
        rw [← hW8]
        have HI1 : Aside0 (IsS56 w0 W8 g s0_0 ((a : Int) + (n : Int)) 0) := ⟨by rw [hW8]; exact IsS56.set_1 HI0.out _⟩
        have HB1 : Aside0 (Below w0.heap.size w0 W8) := ⟨by rw [hW8]; exact below_set HB.out (IsS56.ge HI0.out)⟩
        have HK1 : Aside0 (KeepBut w W8 g none) := ⟨by rw [hW8]; exact KeepBut.set_ HK.out _ _⟩
        clear hW8 HI0 HB HK hcy_0 hcy_1 hcy_2 hfy_1 hfy_2 HS2a HG2a
        obtain ⟨AS3, cS3, HG3, hgc3, HS3⟩ := HI1.out
        have hcx_0 := cellS56_0 HG3
        have hcx_1 := cellS56_1 HG3
        have HS3a := Aside0.mk HS3
        obtain ⟨i0, hi0, _, hsz, _⟩ := info_parts cursor_Cursor_Bytes.info
        have hcut := cut_mid (P := Try.prog) 32 5 .i64 .i64 Try.underlying32 hi0 1 hsz AS3 s0_0.length cS3 (a : Int) ((a : Int) + (n : Int)) (by omega) (by omega) (by have := HAN.out; omega) hgc3.2.1
        have hsub : (a : Int) + (n : Int) - (n : Int) = (a : Int) := by omega
        have hlen : ((a : Int) + (n : Int)).toNat - (a : Int).toNat = ((s0_0.drop a).take n).length := by have := HAN.out; simp; omega
        have HRd := Kd.C_take (m := n) (Kd.C_drop (m := a) (c := cS3) HS3 (by have := HAN.out; omega) hgc3.2.1) (by have := HAN.out; simp; omega)
        obtain ⟨A9, hA9⟩ : ∃ A9, A9 = (if cS3 = (a : Int).toNat then AS3 else (AS3 : Option Addr).map (·.add ((a : Int).toNat * 1))) := ⟨_, rfl⟩
        obtain ⟨c9, hc9⟩ : ∃ c9, c9 = cS3 - (a : Int).toNat := ⟨_, rfl⟩
        have HRl : Aside0 (Kd.C (Kd.int .u8) w0 A9 ((s0_0.drop a).take n).length ((s0_0.drop a).take n)) := ⟨by rw [hA9, Int.toNat_natCast]; exact HRd⟩
        have HC9 : Aside0 (((s0_0.drop a).take n).length ≤ c9) := ⟨by rw [hc9]; have := HAN.out; have := hgc3.2.1; simp; omega⟩
        have HZ : Aside0 (r1 = (s0_0.drop a).take n ∧ r2 = (a : Int) + (n : Int) ∧ r3 = 0) := ⟨by simp only [Option.some.injEq, Prod.mk.injEq, Int.toNat_natCast] at h; exact ⟨h.1.symm, h.2.1.symm, h.2.2.symm⟩⟩
        obtain ⟨L, hL⟩ : ∃ L : List Int, L = (s0_0.drop a).take n := ⟨_, rfl⟩
        have HLL : Aside0 (L.length < 140737488355328) := ⟨by rw [hL]; have := HCL.out; simp; omega⟩
        rw [← hA9, ← hc9, hlen, ← hL] at hcut
        rw [← hL] at HRl HC9 HZ
        have hcut2 : ∀ W : World, (Instr.slice 32 (.slice AS3 s0_0.length cS3) (some (.int .i64 ((a : Int) + (n : Int) - (n : Int)))) (some (.int .i64 ((a : Int) + (n : Int)))) none).run Try.prog W = .ok (.slice A9 L.length c9) W := by intro W; rw [hsub]; exact hcut W
        have hwa : IntKind.i64.wrap (a : Int) = (a : Int) := by have := HAN.out; have := HCL.out; rw [IntKind.wrap_i64]; omega
        have hwb : IntKind.i64.wrap ((a : Int) + (n : Int) - (n : Int)) = (a : Int) := by rw [hsub]; exact hwa
        clear HRd hA9 hc9 hlen hL hi0 hsz HG3 hgc3 HS3 h
        go_region_held3 (fun w' => w'.cell? ⟨g, 0, none⟩ = some (.slice AS3 s0_0.length cS3) ∧ w'.cell? ⟨g, 1, none⟩ = some (.int .i64 ((a : Int) + (n : Int)))) (first | go_keep | exact ⟨(hb9.cell (World.block_lt_of_cell? _ _ hcx_0)).trans hcx_0, (hb9.cell (World.block_lt_of_cell? _ _ hcx_1)).trans hcx_1⟩) (first | (go_at_call 48; (refine (slices_Clone_byte_byte.calls _ _ L L _ ?side1 ?side2 (by unfold slices_Clone_byte_byte.f; rw [if_pos HLL.out])).mono ?_); (case side1 => repeat (first | exact Kd.C_below HRl.out HB1.out | refine Kd.C_alloc ?_ _ | refine Kd.C_drewN ?_ _ | refine Kd.C_drew ?_)); (case side2 => exact HC9.out); rintro e w9 ⟨v9, rfl, ho9, hb9⟩; have n0_ := Aside0.mk (KeepBut.trans (by repeat (first | exact HK1.out | apply keep_drewN | apply keep_drew | apply keep_alloc)) (KeepBut.of_below hb9 g none) (.inl rfl)); have n1_ := Aside0.mk (below_step (by repeat (first | exact HB1.out | apply below_alloc | apply pw_below_drewN | apply below_drew1)) hb9); have n2_ := Aside0.mk (IsS56.below (by repeat (first | exact HI1.out | apply IsS56.alloc | apply IsS56.drewN | apply IsS56.drew)) hb9); have n4_ := HK1.out.1; have HO := Aside0.mk (Kd.R_lower ho9 n4_)))
        have HK := n0_
        have HB := n1_
        have HI0 := n2_
        obtain ⟨rfl, rfl, rfl⟩ := HZ.out
        clear HZ
        go_wp2
        go_ret
        exact ⟨_, by first | rfl | (simp; done), HO.out, by repeat (first | exact HI0.out | apply IsS56.alloc | apply IsS56.drewN | apply IsS56.drew | apply IsS56.set_1 | apply IsS56.set_2), by repeat (first | exact HB.out | apply below_alloc | apply pw_below_drewN | apply below_drew1 | refine below_set ?_ (IsS56.ge HI0.out)), by repeat (first | exact HK.out | apply KeepBut.set_ | apply keep_drewN | apply keep_drew | apply keep_alloc)⟩
  · rw [if_neg c2] at h
    have t2 : (s0_2 != 0) = true := bne_iff_ne.mpr c2
    simp only [Option.some.injEq, Prod.mk.injEq] at h
    obtain ⟨rfl, rfl, rfl⟩ := h
    clear c2
    go_enter Try.func50, Try.ntmps50
    go_wp2
    go_ret
    exact ⟨.slice none 0 0, by first | rfl | (simp; done), Kd.R_nil _ _ _ _ _, by repeat (first | exact HI0.out | apply IsS56.alloc | apply IsS56.drewN | apply IsS56.drew | apply IsS56.set_1 | apply IsS56.set_2), by repeat (first | exact HB.out | apply below_alloc | apply pw_below_drewN | apply below_drew1 | refine below_set ?_ (IsS56.ge HI0.out)), by repeat (first | exact HK.out | apply KeepBut.set_ | apply keep_drewN | apply keep_drew | apply keep_alloc)⟩

/-! ### slices_Equal_byte_byte: function 51 -/
def slices_Equal_byte_byte.l0 : Nat → List Int → List Int → Int → Int → Option (Bool)
  | 0, _, _, _, _ => none
  | k + 1, x0, x1, x12, x13 => if x13 < x12 then (if 0 ≤ x13 then (if x13 < (x0.length : Int) then (if x13 < (x1.length : Int) then (if (rd x0 x13) = (rd x1 x13) then (slices_Equal_byte_byte.l0 k x0 x1 x12 (wrap64 (x13 + 1))) else (some false)) else (none)) else (none)) else (none)) else (some true)
def slices_Equal_byte_byte.f (k : Nat) (l0 : List Int) (l1 : List Int) : Option (Bool) := if (l0.length : Int) = (l1.length : Int) then (slices_Equal_byte_byte.l0 k l0 l1 (l0.length : Int) 0) else (some false)
theorem slices_Equal_byte_byte.mono_l : ∀ k, (∀ y0 y1 y2 y3, LeO (slices_Equal_byte_byte.l0 k y0 y1 y2 y3) (slices_Equal_byte_byte.l0 (k + 1) y0 y1 y2 y3))
  | 0 => fun _ _ _ _ r h => by simp [slices_Equal_byte_byte.l0] at h
  | k + 1 => by
    have ih0 := slices_Equal_byte_byte.mono_l k
    · intro y0 y1 y2 y3
      unfold slices_Equal_byte_byte.l0
      repeat' first
      | (with_reducible exact ih0 _ _ _ _)
      | (with_reducible exact LeO.refl _)
      | (with_reducible exact LeO.none _)
      | (with_reducible refine LeO.ite ?_ ?_)
      | (with_reducible refine LeO.bind ?_ (fun _ => ?_))
      | exact ih0 _ _ _ _
      | exact LeO.none _
      | refine LeO.ite ?_ ?_
      | refine LeO.bind ?_ (fun _ => ?_)
theorem slices_Equal_byte_byte.mono : ∀ a0 a1 k, LeO (slices_Equal_byte_byte.f k a0 a1) (slices_Equal_byte_byte.f (k + 1) a0 a1) := by
  intro a0 a1 k
  have ih0 := slices_Equal_byte_byte.mono_l k
  unfold slices_Equal_byte_byte.f
  repeat' first
      | (with_reducible exact ih0 _ _ _ _)
      | (with_reducible exact LeO.refl _)
      | (with_reducible exact LeO.none _)
      | (with_reducible refine LeO.ite ?_ ?_)
      | (with_reducible refine LeO.bind ?_ (fun _ => ?_))
      | exact ih0 _ _ _ _
      | exact LeO.none _
      | refine LeO.ite ?_ ?_
      | refine LeO.bind ?_ (fun _ => ?_)
set_option maxHeartbeats 8000000 in
set_option maxRecDepth 100000 in
theorem slices_Equal_byte_byte.calls (k : Nat) (A0 : Option Addr) (c0 : Nat) (l0 : List Int) (A1 : Option Addr) (c1 : Nat) (l1 : List Int) (r : Bool) (w : World) (hr0 : Kd.C (Kd.int .u8) w A0 l0.length l0) (hc0 : l0.length ≤ c0) (hr1 : Kd.C (Kd.int .u8) w A1 l1.length l1) (hc1 : l1.length ≤ c1) (h : slices_Equal_byte_byte.f k l0 l1 = some r) :
    Calls Try.prog 51 #[.slice A0 l0.length c0, .slice A1 l1.length c1] w fun e w' => e = .returned (.bool r) ∧ Drawn0 w w' := by
  have HR0 := Aside0.mk hr0
  have HC0 := Aside0.mk hc0
  clear hr0 hc0
  have HR1 := Aside0.mk hr1
  have HC1 := Aside0.mk hc1
  clear hr1 hc1
  have H : (if (l0.length : Int) = (l1.length : Int) then (slices_Equal_byte_byte.l0 k l0 l1 (l0.length : Int) 0) else (some false)) = some r := h
  clear h
  by_cases c3 : (l0.length : Int) = (l1.length : Int)
  · rw [if_pos c3] at H
    have c3b0 : ((l0.length : Int) == (l1.length : Int)) = true := beq_iff_eq.mpr c3
    have c3b1 : ((l0.length : Int) != (l1.length : Int)) = false := bne_eq_false_iff_eq.mpr c3
    have c3b2 : (l0.length == l1.length) = true := by first | simpa using c3 | (simp at c3 ⊢; omega)
    clear c3
    have H' := Aside0.mk H
    clear H
    go_enter Try.func51, Try.ntmps51
    go_wp2
    repeat (go_quiet (fail); try go_wp2)
    go_loopg [13] k (fun kq v13 w' => ∃ (x13_1 : Int), v13 = .int .i64 x13_1 ∧ Aside0 (slices_Equal_byte_byte.l0 kq l0 l1 (l0.length : Int) x13_1 = some r) ∧ Aside0 (kq ≤ k) ∧ Drawn0 w w')
    case atStart => exact ⟨(0), (by first | rfl | (simp; done) | (simp [*]; done)), H', ⟨Nat.le_refl _⟩, by repeat (first | exact Drawn0.refl _ | apply Drawn0.step)⟩
    case round =>
      clear H'
      try clear c1
      try clear p2
      try clear c3
      try clear c3b0
      try clear c3b1
      try clear c3b2
      obtain ⟨x13_1, rfl, HA, HK1, ⟨m1, rfl⟩⟩ := hrel
      cases gk with
      | zero => exact absurd HA.out (by simp [slices_Equal_byte_byte.l0])
      | succ k1 =>
        have H := HA.out
        clear HA
        simp only [slices_Equal_byte_byte.l0] at H
        by_cases c4 : x13_1 < (l0.length : Int)
        · rw [if_pos c4] at H
          have c4b0 : decide (x13_1 < (l0.length : Int)) = true := decide_eq_true c4
          clear c4
          by_cases c5 : 0 ≤ x13_1
          · rw [if_pos c5] at H
            have c5b0 : decide (0 ≤ x13_1) = true := decide_eq_true c5
            clear c5
            by_cases c6 : x13_1 < (l0.length : Int)
            · rw [if_pos c6] at H
              have c6b0 : decide (x13_1 < (l0.length : Int)) = true := decide_eq_true c6
              clear c6
              by_cases c7 : x13_1 < (l1.length : Int)
              · rw [if_pos c7] at H
                have c7b0 : decide (x13_1 < (l1.length : Int)) = true := decide_eq_true c7
                clear c7
                by_cases c8 : (rd l0 x13_1) = (rd l1 x13_1)
                · rw [if_pos c8] at H
                  have c8b0 : ((rd l0 x13_1) == (rd l1 x13_1)) = true := beq_iff_eq.mpr c8
                  have c8b1 : ((rd l0 x13_1) != (rd l1 x13_1)) = false := bne_eq_false_iff_eq.mpr c8
                  clear c8
                  have H' := Aside0.mk H
                  clear H
                  have p512 : 0 ≤ (x13_1 : Int) := of_decide_eq_true (by first | (with_reducible assumption) | assumption)
                  have q512 : x13_1 < (l0.length : Int) := of_decide_eq_true (by first | (with_reducible assumption) | assumption)
                  obtain ⟨ad512, e512, hx512_0⟩ := Kd.at_int HR0.out x13_1 p512 q512
                  cases e512
                  replace p512 := eq_true p512
                  replace q512 := eq_true q512
                  have p513 : 0 ≤ (x13_1 : Int) := of_decide_eq_true (by first | (with_reducible assumption) | assumption)
                  have q513 : x13_1 < (l1.length : Int) := of_decide_eq_true (by first | (with_reducible assumption) | assumption)
                  obtain ⟨ad513, e513, hx513_0⟩ := Kd.at_int HR1.out x13_1 p513 q513
                  cases e513
                  replace p513 := eq_true p513
                  replace q513 := eq_true q513
                  go_wp2
                  repeat (go_quiet (fail); try go_wp2)
                  go_roundg k1
                  case measure => have := HK1.out; omega
                  case rel => exact ⟨(wrap64 (x13_1 + 1)), (by first | rfl | (simp; done) | (simp [*]; done)), H', ⟨by have := HK1.out; omega⟩, by repeat (first | exact Drawn0.refl _ | apply Drawn0.step)⟩
                · rw [if_neg c8] at H
                  have c8b0 : ((rd l0 x13_1) == (rd l1 x13_1)) = false := beq_eq_false_iff_ne.mpr c8
                  have c8b1 : ((rd l0 x13_1) != (rd l1 x13_1)) = true := bne_iff_ne.mpr c8
                  obtain rfl := Option.some.inj H
                  have p512 : 0 ≤ (x13_1 : Int) := of_decide_eq_true (by first | (with_reducible assumption) | assumption)
                  have q512 : x13_1 < (l0.length : Int) := of_decide_eq_true (by first | (with_reducible assumption) | assumption)
                  obtain ⟨ad512, e512, hx512_0⟩ := Kd.at_int HR0.out x13_1 p512 q512
                  cases e512
                  replace p512 := eq_true p512
                  replace q512 := eq_true q512
                  have p513 : 0 ≤ (x13_1 : Int) := of_decide_eq_true (by first | (with_reducible assumption) | assumption)
                  have q513 : x13_1 < (l1.length : Int) := of_decide_eq_true (by first | (with_reducible assumption) | assumption)
                  obtain ⟨ad513, e513, hx513_0⟩ := Kd.at_int HR1.out x13_1 p513 q513
                  cases e513
                  replace p513 := eq_true p513
                  replace q513 := eq_true q513
                  go_wp2
                  repeat (go_quiet (fail); try go_wp2)
                  go_ret
                  exact ⟨by first | rfl | (simp; done) | (simp [*]; done), by repeat (first | exact Drawn0.refl _ | apply Drawn0.step)⟩
              · rw [if_neg c7] at H
                exact absurd H (by simp)
            · rw [if_neg c6] at H
              exact absurd H (by simp)
          · rw [if_neg c5] at H
            exact absurd H (by simp)
        · rw [if_neg c4] at H
          have c4b0 : decide (x13_1 < (l0.length : Int)) = false := decide_eq_false c4
          clear c4
          obtain rfl := Option.some.inj H
          go_wp2
          repeat (go_quiet (fail); try go_wp2)
          go_ret
          exact ⟨by first | rfl | (simp; done) | (simp [*]; done), by repeat (first | exact Drawn0.refl _ | apply Drawn0.step)⟩
  · rw [if_neg c3] at H
    have c3b0 : ((l0.length : Int) == (l1.length : Int)) = false := beq_eq_false_iff_ne.mpr c3
    have c3b1 : ((l0.length : Int) != (l1.length : Int)) = true := bne_iff_ne.mpr c3
    have c3b2 : (l0.length == l1.length) = false := by first | simpa using c3 | (simp at c3 ⊢; omega)
    obtain rfl := Option.some.inj H
    go_enter Try.func51, Try.ntmps51
    go_wp2
    repeat (go_quiet (fail); try go_wp2)
    go_ret
    exact ⟨by first | rfl | (simp; done) | (simp [*]; done), by repeat (first | exact Drawn0.refl _ | apply Drawn0.step)⟩

end Go.Proofs.Ytdohphiicmdilaa.P
