/- CursorKeeps: the law, walked. -/
import Derived.Test.YtkdncanoajbdgaaHCurB
import Derived.Test.YtkdncanoajbdgaaPx1
set_option linter.unusedVariables false
set_option linter.unusedSimpArgs false
namespace Go.Proofs.Ytkdncanoajbdgaa.HW
open Go.RowKit Go.Proofs.Ytkdncanoajbdgaa.P Go.Proofs.YtkdncanoajbdgaaW.PrintWords Go.Proofs.YtkdncanoajbdgaaW.PrintLast Go.Proofs.YtkdncanoajbdgaaW.PrintMore
attribute [local go_sem] max2_int min2_int max_two min_two max_three min_three max_four min_four
theorem info8 : (Try.prog.info? 5).map (fun i => (i.zero, i.size, i.bytes)) = some (some (.int .u8 0), 1, 1) := by kernel_rfl
theorem bytes_all (l : List Int) (hl : l.length < 140737488355328) : cursor_Cursor_Bytes.f l 0 0 (l.length : Int) = some (l, (l.length : Int), 0) := by
  unfold cursor_Cursor_Bytes.f
  rw [if_pos rfl, if_neg (by omega), if_pos (by omega), if_neg (by omega), if_pos hl]
  simp
theorem same_self (a : List Int) : hopperref01_Same.f a a = some true := by unfold hopperref01_Same.f; simp
set_option maxHeartbeats 8000000 in
set_option maxRecDepth 100000 in
theorem CursorKeeps (A0 : Option Addr) (c0 : Nat) (l0 : List Int) (w : World) (hr0 : Kd.C (Kd.int .u8) w A0 l0.length l0) (hc0 : l0.length ≤ c0) (hs0 : l0.length * 1 ≤ 140737488351232) (hw0 : ∀ x ∈ l0, (Lit.int .u8 x).wf = true) :
    Calls Try.prog 5 #[.slice A0 l0.length c0] w fun e w' => e = .returned (.bool true) ∧ Below w.heap.size w w' := by
  have HR0 := Aside0.mk hr0
  have HC0 := Aside0.mk hc0
  have HB := Aside0.mk (Below.refl w.heap.size w)
  clear hr0 hc0 hw0
  by_cases h5 : (l0.length : Int) > 500
  · have t5 : decide (500 < (l0.length : Int)) = true := decide_eq_true h5
    have t5b : decide (500 < l0.length) = true := decide_eq_true (by omega)
    clear h5
    go_enter Try.func5, Try.ntmps5
    go_wp2_with fail
    refine (hopperlaw01_awake.calls true _ rfl).mono ?_
    rintro e w1 ⟨rfl, hb⟩
    have HB1 := Aside0.mk (below_step HB.out hb)
    clear HB hb
    go_wp2_with fail
    refine (hopperlaw01_awake.calls true _ rfl).mono ?_
    rintro e w2 ⟨rfl, hb⟩
    have HB2 := Aside0.mk (below_step HB1.out hb)
    clear HB1 hb
    go_wp2_with fail
    go_ret
    exact ⟨rfl, HB2.out⟩
  · have t5 : decide (500 < (l0.length : Int)) = false := decide_eq_false h5
    have t5b : decide (500 < l0.length) = false := decide_eq_false (by omega)
    have HL := Aside0.mk (show l0.length ≤ 500 by omega)
    clear h5 hs0
    go_enter Try.func5, Try.ntmps5
    go_wp2_with fail
    refine (hopperlaw01_awake.calls true _ rfl).mono ?_
    rintro e w1 ⟨rfl, hb⟩
    have HB1 := Aside0.mk (below_step HB.out hb)
    clear HB hb
    have HB := HB1
    clear HB1
    go_wp2_with (first | ((with_reducible refine gate_dst (N := 18) rfl ?_); refine Kd.R_lit (Kd.int .u8) _ 5 ?hg (N := 18) ?hd (xs := ([] : List Int)) (inner := []) (ok := fun _ => True) (okp := fun _ => True) ?hr ?hp (fun _ hk => hk) trivial (Below.refl _ _) (Nat.le_refl _) (by simp) ?_; (case hd => rfl); (case hg => rfl); (case hr => first | (go_simp; done) | (go_simp; rfl)); (case hp => exact Reps.none _ _); intro v397 w8 ho9 hb hg_ hnew_; clear hg_ hnew_; have n0_ := Aside0.mk (Kd.R_lower ho9 (below_size HB.out)); have n1_ := Aside0.mk (below_step HB.out hb); clear HB; have HB := n1_; have HO := n0_; clear n1_ n0_ hb ho9) | ((with_reducible refine gate_builtin (b := .append) (xs := #[.tmp 18, .tmp 19]) rfl ?_); at_builtin; refine Kd.R_append_rows (Kd.int .u8) (w0 := w) w.heap.size rfl (.tmp 18) (.tmp 19) 24 5 (.int .u8 0) 1 rfl Try.underlying24 info8 rfl (by decide) (by omega) v397 [] l0 _ _ _ (fun _ => True) (fun _ => False) rfl rfl ?aO ?aR (fun _ _ h => h) (fun _ h => h.elim) ?aF ?aB ?aS ?aL ?_; (case aR => exact Kd.C_below HR0.out HB.out); (case aB => exact HB.out); (case aF => exact (fun _ _ => trivial)); (case aO => exact HO.out); (case aS => exact (below_size HB.out)); (case aL => have := HL.out; simp; omega); intro v403 w11 ho hb hg hat; rw [List.nil_append] at ho; have n1_ := Aside0.mk hb; have n2_ := Aside0.mk ho; clear HB HO; have HB := n1_; have HO := n2_; clear n1_ n2_; clear ho hb hg hat))
    obtain ⟨Ao, co, rfl, hlo, hro⟩ := Kd.R_reads HO.out
    have hL := HL.out
    refine (Cur.make Ao co l0 _ hro hlo (by omega)).mono ?_
    rintro e w2 ⟨g, rfl, hc, hb⟩
    obtain ⟨lo, hlo2⟩ : ∃ lo, Aside0 (lo = w11.heap.size ∧ w.heap.size ≤ lo) := ⟨_, ⟨rfl, below_size HB.out⟩⟩
    have HO2 : Aside0 (Kd.R (Kd.int .u8) 5 w2 w.heap.size (fun k => k < lo) (.slice Ao l0.length co) l0) := ⟨Kd.R_below (Kd.R_mono (Kd.R_bound HO.out) (fun k h => by rw [hlo2.out.1]; exact h.2.2.1)) hb⟩
    have HB2 := Aside0.mk (below_step HB.out hb)
    have HC2 : Aside0 (Cur lo w2 g l0 0 0) := ⟨by rw [hlo2.out.1]; exact hc⟩
    clear HB HO hlo hro hb hc
    go_wp2_with fail
    go_loopg [5] (l0.length : Nat) (fun kq v5 w' => ∃ (i : Nat) (x : List Int), v5 = .int .i64 (i : Int) ∧ Aside0 (i + kq = l0.length) ∧ Aside0 (x.length = l0.length) ∧ Aside0 (Kd.R (Kd.int .u8) 5 w' w.heap.size (fun k => k < lo) (.slice Ao l0.length co) x) ∧ Aside0 (Cur lo w' g l0 0 0) ∧ Aside0 (Below w.heap.size w w'))
    case atStart => exact ⟨0, l0, rfl, ⟨by omega⟩, ⟨rfl⟩, HO2, HC2, HB2⟩
    case round =>
      clear HO2 HC2 HB2
      obtain ⟨i, x, rfl, HI, HX, HO, HC, HB⟩ := hrel
      cases gk with
      | zero =>
        obtain rfl : i = l0.length := by have := HI.out; omega
        clear HO HX HI
        go_wp2_with fail
        refine (Cur.bytes HC.out (n := (l0.length : Int)) (r := l0) (i' := (l0.length : Int)) (e' := 0) (bytes_all l0 (by have := HL.out; omega))).mono ?_
        rintro e w3 ⟨v3, rfl, ho, hc, hk, hb⟩
        obtain ⟨A3, c3, rfl, hl3, hr3⟩ := Kd.R_reads ho
        have HO3 := Aside0.mk (Kd.R_lower ho (below_size HB.out))
        have HB3 := Aside0.mk (Cur.wide2 HB.out hb hlo2.out.2)
        have HR3 := Aside0.mk hr3
        have HL3 := Aside0.mk hl3
        clear HB HC ho hc hk hb hl3 hr3
        go_wp2_with fail
        refine (hopperref01_Same.calls A3 c3 l0 A0 c0 l0 true _ HR3.out HL3.out (Kd.C_below HR0.out HB3.out) HC0.out (same_self l0)).mono ?_
        rintro e w4 ⟨rfl, n4, rfl⟩
        clear HR3 HL3
        go_wp2_with fail
        go_loopg [8] (l0.length : Nat) (fun kq v8 w' => ∃ (i : Nat) (x : List Int), v8 = .int .i64 (i : Int) ∧ Aside0 (i + kq = l0.length) ∧ Aside0 (x.length = l0.length) ∧ Aside0 (Kd.R (Kd.int .u8) 5 w' w.heap.size (fun _ => True) (.slice A3 l0.length c3) x) ∧ Aside0 (Below w.heap.size w w'))
        case atStart => exact ⟨0, l0, rfl, ⟨by omega⟩, ⟨rfl⟩, ⟨Kd.R_drewN HO3.out _⟩, ⟨pw_below_drewN HB3.out _⟩⟩
        case round =>
          clear HO3 HB3
          obtain ⟨i, x, rfl, HI, HX, HO, HB⟩ := hrel
          cases gk with
          | zero =>
            obtain rfl : i = l0.length := by have := HI.out; omega
            clear HO HX HI
            go_wp2_with fail
            refine (Cur.make A0 c0 l0 _ (Kd.C_below HR0.out HB.out) HC0.out (by have := HL.out; omega)).mono ?_
            rintro e w5 ⟨g5, rfl, hc, hb⟩
            have HS5 := Aside0.mk (below_size HB.out)
            have HB5 := Aside0.mk (below_step HB.out hb)
            have HC5 := Aside0.mk hc
            clear HB hb hc
            go_wp2_with fail
            refine (Cur.bytes HC5.out (n := (l0.length : Int)) (r := l0) (i' := (l0.length : Int)) (e' := 0) (bytes_all l0 (by have := HL.out; omega))).mono ?_
            rintro e w6 ⟨v6, rfl, ho, hc, hk, hb⟩
            obtain ⟨A6, c6, rfl, hl6, hr6⟩ := Kd.R_reads ho
            have HB6 := Aside0.mk (Cur.wide2 HB5.out hb HS5.out)
            have HR6 := Aside0.mk hr6
            have HL6 := Aside0.mk hl6
            clear HB5 HC5 ho hc hk hb hl6 hr6
            go_wp2_with fail
            refine (hopperref01_Same.calls A6 c6 l0 A0 c0 l0 true _ HR6.out HL6.out (Kd.C_below HR0.out HB6.out) HC0.out (same_self l0)).mono ?_
            rintro e w7 ⟨rfl, n7, rfl⟩
            clear HR6 HL6
            go_wp2_with fail
            go_ret
            exact ⟨rfl, by repeat (first | exact HB6.out | apply below_alloc | apply pw_below_drewN | apply below_drew1)⟩
          | succ k1 =>
            have cm : i < l0.length := by have := HI.out; omega
            have c : (i : Int) < (l0.length : Int) := by omega
            have cb : decide ((i : Int) < (l0.length : Int)) = true := decide_eq_true c
            have cb2 : decide (i < l0.length) = true := decide_eq_true cm
            have hxl := HX.out
            obtain ⟨go21, co21, eo21, gb21, gl21, cl21, HG21⟩ := Kd.R_form HO.out (by omega)
            injection eo21 with ea en ec
            subst ea ec
            obtain ⟨hx2, hf2⟩ := Kd.R_celln 0 HO.out (i : Int) (by omega) (by omega)
            have HP := Kd.R_putg HO.out (i : Int) (7)
            have HPa := Aside0.mk HP.1
            have HBa := Aside0.mk gb21
            clear HP gb21 gl21 HG21 en
            simp only [Int.toNat_natCast] at hx2 hf2
            go_wp2
            go_roundg k1
            case measure => omega
            case rel => exact ⟨i + 1, _, (by first | rfl | (simp; done) | go_num), ⟨by have := HI.out; omega⟩, ⟨by have := HX.out; simp; omega⟩, ⟨HPa.out⟩, ⟨below_set HB.out HBa.out⟩⟩
      | succ k1 =>
        have cm : i < l0.length := by have := HI.out; omega
        have c : (i : Int) < (l0.length : Int) := by omega
        have cb : decide ((i : Int) < (l0.length : Int)) = true := decide_eq_true c
        have cb2 : decide (i < l0.length) = true := decide_eq_true cm
        have hxl := HX.out
        obtain ⟨go21, co21, eo21, gb21, gl21, cl21, HG21⟩ := Kd.R_form HO.out (by omega)
        injection eo21 with ea en ec
        subst ea ec
        obtain ⟨hx2, hf2⟩ := Kd.R_celln 0 HO.out (i : Int) (by omega) (by omega)
        have HP := Kd.R_putg HO.out (i : Int) (Go.bits .xor .u8 (rdOf 0 x (i : Int)) 255)
        have HPa := Aside0.mk HP.1
        have HBa := Aside0.mk gb21
        have HGl := Aside0.mk (HO.out.1 go21 rfl)
        clear HP gb21 gl21 HG21 en
        simp only [Int.toNat_natCast] at hx2 hf2
        go_wp2
        go_roundg k1
        case measure => omega
        case rel => exact ⟨i + 1, _, (by first | rfl | (simp; done) | go_num), ⟨by have := HI.out; omega⟩, ⟨by have := HX.out; simp; omega⟩, ⟨HPa.out⟩, ⟨Cur.moved HC.out (fun k h1 h2 => Below.heap_setCell _ _ _ k (by have := HGl.out; show k ≠ go21; omega))⟩, ⟨below_set HB.out HBa.out⟩⟩
end Go.Proofs.Ytkdncanoajbdgaa.HW
