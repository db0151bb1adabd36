import Derived.Test.YtljhlpkoilapiaaZD
/- FrontKeeps: the law, walked. -/
set_option linter.unusedVariables false
set_option linter.unusedSimpArgs false
namespace Go.Proofs.Ytljhlpkoilapiaa.HW
open Go.RowKit Go.Proofs.Ytljhlpkoilapiaa.P Go.Proofs.Ytljhlpkoilapiaa.HP Go.Proofs.YtljhlpkoilapiaaW.PrintWords Go.Proofs.YtljhlpkoilapiaaW.PrintLast Go.Proofs.YtljhlpkoilapiaaW.PrintMore
attribute [local go_sem] max2_int min2_int max_two min_two max_three min_three max_four min_four
set_option maxHeartbeats 8000000 in
set_option maxRecDepth 100000 in
theorem FrontKeeps_few (A0 : Option Addr) (c0 : Nat) (l0 : List ByteArray) (w : World) (hr : Kd.C Kd.string w A0 l0.length l0) (hcl : l0.length ≤ c0) (kf : Nat) (hf : hopperref13_Few.f kf l0 = some false) :
    Calls Try.prog 7 #[.slice A0 l0.length c0] w fun e w' => e = .returned (.bool true) ∧ Below w.heap.size w w' := by
  have HR := Aside0.mk hr
  have HC := Aside0.mk hcl
  have HF := Aside0.mk hf
  have HB := Aside0.mk (Below.refl w.heap.size w)
  clear hr hcl hf
  go_enter Try.func7, Try.ntmps7
  go_wp2_with fail
  refine (law13_awake _).mono ?_
  rintro e w1 ⟨rfl, hb⟩
  have HB1 := Aside0.mk (below_step HB.out hb)
  clear HB hb
  go_wp2_with fail
  refine (hopperref13_Few.calls kf A0 c0 l0 false _ (Kd.C_below HR.out HB1.out) HC.out HF.out).mono ?_
  rintro e w2 ⟨rfl, n2, rfl⟩
  have HB2 := Aside0.mk (pw_below_drewN HB1.out n2)
  clear HB1
  go_wp2_with fail
  refine (law13_awake _).mono ?_
  rintro e w3 ⟨rfl, hb⟩
  have HB3 := Aside0.mk (below_step HB2.out hb)
  clear HB2 hb
  go_wp2_with fail
  go_ret
  exact ⟨rfl, HB3.out⟩
set_option maxHeartbeats 8000000 in
set_option maxRecDepth 100000 in
theorem FrontKeeps_main (A0 : Option Addr) (c0 : Nat) (l0 : List ByteArray) (w : World) (hr : Kd.C Kd.string w A0 l0.length l0) (hcl : l0.length ≤ c0) (kf : Nat) (hf : hopperref13_Few.f kf l0 = some true) (hn : l0.length ≤ 150) (hz : ∀ s ∈ l0, s.size ≤ 5000) :
    Calls Try.prog 7 #[.slice A0 l0.length c0] w fun e w' => e = .returned (.bool true) ∧ Below w.heap.size w w' := by
  have HR := Aside0.mk hr
  have HC := Aside0.mk hcl
  have HF := Aside0.mk hf
  have HB := Aside0.mk (Below.refl w.heap.size w)
  have HN := Aside0.mk hn
  have HZ := Aside0.mk hz
  clear hr hcl hf hn hz
  go_enter Try.func7, Try.ntmps7
  go_wp2_with fail
  refine (law13_awake _).mono ?_
  rintro e w1 ⟨rfl, hb⟩
  have HB1 := Aside0.mk (below_step HB.out hb)
  clear HB hb
  go_wp2_with fail
  refine (hopperref13_Few.calls kf A0 c0 l0 true _ (Kd.C_below HR.out HB1.out) HC.out HF.out).mono ?_
  rintro e w2 ⟨rfl, n2, rfl⟩
  have HB2 := Aside0.mk (pw_below_drewN HB1.out n2)
  clear HB1
  go_wp2_with fail
  refine (Sorted_ A0 c0 l0 _ (Kd.C_below HR.out HB2.out) HC.out HN.out HZ.out).mono ?_
  rintro e w3 ⟨v3, t, rfl, ho3, ht1, ht2, hb3⟩
  obtain ⟨A3, c3, rfl, hl3, hr3⟩ := Kd.R_reads ho3
  have HR3 := Aside0.mk hr3
  have HL3 := Aside0.mk hl3
  have HT := Aside0.mk (And.intro ht1 ht2)
  have HLT : Aside0 (t.length ≤ 150) := ⟨by have := HN.out; omega⟩
  have HB3 := Aside0.mk (below_step HB2.out hb3)
  have HT3 := Aside0.mk (Below.refl w3.heap.size w3)
  clear ho3 ht1 ht2 hb3 hl3 hr3 HB2
  go_wp2_with (first | ((with_reducible refine gate_dst (N := 20) rfl ?_); refine Kd.R_lit Kd.string _ 9 ?hg (N := 20) ?hd (xs := ([] : List ByteArray)) (inner := []) (ok := fun _ => True) (okp := fun _ => True) ?hr ?hp (fun _ hk => hk) trivial (Below.refl _ _) (Nat.le_refl _) (by simp) ?_; (case hd => rfl); (case hg => rfl); (case hr => first | (go_simp; done) | (go_simp; rfl)); (case hp => exact Reps.none _ _); intro v397 w8 ho9 hb hg_ hnew_; clear hg_ hnew_; have n0_ := Aside0.mk (Kd.R_lower ho9 (below_size HT3.out)); have n1_ := Aside0.mk (below_step HT3.out hb); clear HT3; have HT3 := n1_; have HO := n0_; clear n1_ n0_ hb ho9) | ((with_reducible refine gate_builtin (b := .append) (xs := #[.tmp 20, .tmp 21]) rfl ?_); at_builtin; refine Kd.R_append_rows Kd.string (w0 := w3) w3.heap.size rfl (.tmp 20) (.tmp 21) 22 9 (.string ⟨#[]⟩) 16 rfl Try.underlying22 infoS rfl (by decide) (by omega) v397 [] t _ _ _ (fun _ => True) (fun _ => False) rfl rfl ?aO ?aR (fun _ _ h => h) (fun _ h => h.elim) ?aF ?aB ?aS ?aL ?_; (case aR => exact Kd.C_below HR3.out HT3.out); (case aB => exact HT3.out); (case aF => exact (fun _ _ => trivial)); (case aO => exact HO.out); (case aS => exact (below_size HT3.out)); (case aL => have := HLT.out; simp; omega); intro v403 w11 ho hb hg hat; rw [List.nil_append] at ho; have n1_ := Aside0.mk hb; have n2_ := Aside0.mk ho; clear HT3 HO; have HT3 := n1_; have HO := n2_; clear n1_ n2_; clear ho hb hg hat))
  obtain ⟨Aw, cw, rfl, hlw, hrw⟩ := Kd.R_reads HO.out
  have HRW := Aside0.mk hrw
  have HLW := Aside0.mk hlw
  have HBT : Aside0 (∀ W : World, Below w11.heap.size w11 W → Below w3.heap.size w3 W) := ⟨fun W hW => HT3.out.trans (hW.mono (below_size HT3.out))⟩
  have HT3 := Aside0.mk HT3.out
  have HRT := Aside0.mk (Kd.C_below HR3.out HT3.out)
  have HW3 : Aside0 (∀ W : World, Below w3.heap.size w3 W → Below w.heap.size w W) := ⟨fun W hW => HB3.out.trans (hW.mono (below_size HB3.out))⟩
  clear hlw hrw HO HR3 HB3
  cases hx : rightL t ((3 : Nat) : Int) with
  | false =>
    refine (Build_bad A3 c3 t ((3 : Nat) : Int) _ HL3.out HRT.out hx).mono ?_
    rintro e w4 ⟨rfl, hb⟩
    have HB4 := Aside0.mk (HBT.out _ hb)
    clear hb hx
    go_wp2_with fail
    go_ret
    exact ⟨rfl, HW3.out _ HB4.out⟩
  | true =>
    obtain ⟨p1, p2, p3, p4⟩ := right_parts hx
    have hfs : fsum t + 4 * t.length ≤ 1000000000 := by have := fsum_small2 t p4; omega
    have hf5 : fsum t + 10 * t.length + 10 ≤ 1000000 := by have h2 := fsum_5000 t HT.out.2; have h3 := HT.out.1; have h4 := HN.out; omega
    refine (Build_ok A3 c3 t 3 _ HL3.out HRT.out hx hfs).mono ?_
    rintro e w4 ⟨v4, rfl, ho4, hb⟩
    have hop := open_built 3 t hx hf5
    have hlen := build_len 3 (by omega) (by omega) t p3 p4 hfs
    obtain ⟨Bl, hBl⟩ : ∃ Bl, Bl = buildL 3 t := ⟨_, rfl⟩
    rw [← hBl] at ho4 hop hlen
    obtain ⟨A4, c4, rfl, hl4, hr4⟩ := Kd.R_reads ho4
    have HR4 := Aside0.mk hr4
    have HL4 := Aside0.mk hl4
    have HRT := Aside0.mk (Kd.C_below HRT.out hb)
    have HRW := Aside0.mk (Kd.C_below HRW.out hb)
    have HB4 := Aside0.mk (HW3.out _ (HBT.out _ hb))
    have HOP := Aside0.mk hop
    have HLEN : Aside0 (Bl.length ≤ 1000000 ∧ t.length ≤ 150) := ⟨by have h3 := HT.out.1; have h4 := HN.out; omega⟩
    clear hb hx p1 p2 p3 p4 hfs hf5 ho4 hl4 hr4 hBl hop hlen
    go_wp2_with fail
    refine (Cur.make A4 c4 Bl _ HR4.out HL4.out (by have := HLEN.out; omega)).mono ?_
    rintro e w5 ⟨g, rfl, hc5, hb5⟩
    have HC5 := Aside0.mk hc5
    have HG5 := Aside0.mk hc5.lt
    have HHB : Aside0 (∀ W : World, Below w4.heap.size w4 W → Below w.heap.size w W) := ⟨fun W hW => HB4.out.trans (hW.mono (below_size HB4.out))⟩
    have HX5 := Aside0.mk hb5
    clear hc5 hb5
    go_wp2_with fail
    refine (Open_ _ HC5.out _ _ _ HOP.out).mono ?_
    rintro e w6 ⟨q, rfl, hq, hd6, hc6, hk6, hb6⟩
    have HX6 := Aside0.mk (HX5.out.trans hb6)
    have HD6 := Aside0.mk hd6
    clear hd6 hc6 hk6 hb6 hq HX5
    go_wp2_with fail
    refine (DictP.all _ q t HD6.out (by have := HLEN.out; omega)).mono ?_
    rintro e w9 ⟨v9, rfl, ho9, hb9⟩
    obtain ⟨u, hu⟩ : ∃ U, U = w6 := ⟨_, rfl⟩
    rw [← hu] at ho9 hb9 HX6 HD6
    obtain ⟨A9, c9, rfl, hl9, hr9⟩ := Kd.R_reads ho9
    have HO9 := Aside0.mk ho9
    have HX9 := Aside0.mk hb9
    have HRU := Aside0.mk (Kd.C_below HRT.out HX6.out)
    have HRX := Aside0.mk (Kd.C_below HRW.out HX6.out)
    have HUB : Aside0 (∀ W : World, Below u.heap.size u W → Below w.heap.size w W) := ⟨fun W hW => HHB.out W (HX6.out.trans (hW.mono (below_size HX6.out)))⟩
    obtain ⟨ks, hks⟩ := (same7 t (by have := HLEN.out; omega)).rounds
    have HKS := Aside0.mk hks
    clear hu ho9 hb9 hl9 hr9 hks HC5 HR4 HOP HX6 HRT HRW
    go_wp2_with fail
    go_loopg [9] (t.length : Nat) (fun kq v9 w' => ∃ (i : Nat) (x : List ByteArray), v9 = .int .i64 (i : Int) ∧ Aside0 (i + kq = t.length) ∧ Aside0 (x.length = t.length) ∧ Aside0 (Kd.R Kd.string 9 w' u.heap.size (fun _ => True) (.slice A9 t.length c9) x) ∧ Aside0 (Below u.heap.size u w'))
    case atStart => exact ⟨0, t, rfl, ⟨Nat.zero_add _⟩, ⟨rfl⟩, ⟨by repeat (first | exact HO9.out | apply Kd.R_drewN | apply Kd.R_drew)⟩, ⟨by repeat (first | exact HX9.out | apply pw_below_drewN | apply below_drew1)⟩⟩
    case round =>
      clear HO9 HX9
      obtain ⟨i, x, rfl, HI, HX, HO, HB⟩ := hrel
      cases gk with
      | zero =>
        obtain rfl : i = t.length := by have := HI.out; omega
        clear HX HO HI
        go_wp2_with fail
        refine (hopperref07_Same.calls ks A3 c3 t Aw cw t true _ (Kd.C_below HRU.out HB.out) HL3.out (Kd.C_below HRX.out HB.out) HLW.out HKS.out).mono ?_
        rintro e w10 ⟨rfl, n10, rfl⟩
        have HX10 := Aside0.mk (pw_below_drewN HB.out n10)
        clear HB
        go_wp2_with fail
        refine (DictP.all _ q t (HD6.out.below HX10.out) (by have := HLEN.out; omega)).mono ?_
        rintro e w12 ⟨v12, rfl, ho12, hb12⟩
        obtain ⟨A12, c12, rfl, hl12, hr12⟩ := Kd.R_reads ho12
        have HR12 := Aside0.mk hr12
        have HL12 := Aside0.mk hl12
        have HX12 := Aside0.mk (HX10.out.trans (hb12.mono (below_size HX10.out)))
        clear hb12 ho12 hl12 hr12 HX10
        go_wp2_with fail
        refine (hopperref07_Same.calls ks A12 c12 t Aw cw t true _ HR12.out HL12.out (Kd.C_below HRX.out HX12.out) HLW.out HKS.out).mono ?_
        rintro e w13 ⟨rfl, n13, rfl⟩
        have HX13 := Aside0.mk (pw_below_drewN HX12.out n13)
        clear HX12
        go_wp2_with fail
        go_ret
        exact ⟨rfl, HUB.out _ HX13.out⟩
      | succ k1 =>
        have cm : i < t.length := by have := HI.out; omega
        have c : (i : Int) < (t.length : Int) := by omega
        have cb : decide ((i : Int) < (t.length : Int)) = true := decide_eq_true c
        have cb2 : decide (i < t.length) = true := decide_eq_true cm
        have hxl := HX.out
        obtain ⟨go21, co21, eo21, gb21, gl21, cl21, HG21⟩ := Kd.R_form HO.out (by omega)
        injection eo21 with ea en ec
        subst ea ec
        obtain ⟨hx2, hf2⟩ := Kd.R_celln (⟨#[]⟩ : ByteArray) HO.out (i : Int) (by omega) (by omega)
        have HP := Kd.R_putg HO.out (i : Int) (⟨#[63]⟩ : ByteArray)
        have HPa := Aside0.mk HP.1
        have HBa := Aside0.mk gb21
        have HXL : Aside0 (t.length ≤ 150) := HLT
        have HI1 : Aside0 (wrap64 ((i : Int) + 1) = ((i + 1 : Nat) : Int)) := ⟨by unfold wrap64; have := HXL.out; omega⟩
        clear HP gb21 gl21 HG21 en
        simp only [Int.toNat_natCast] at hx2 hf2
        go_wp2
        go_roundg k1
        case measure => omega
        case rel => exact ⟨i + 1, _, by first | rfl | (rw [HI1.out]), ⟨by have := HI.out; omega⟩, ⟨by have := HX.out; simp; omega⟩, ⟨HPa.out⟩, ⟨below_set HB.out HBa.out⟩⟩
theorem FrontKeeps (A0 : Option Addr) (c0 : Nat) (l0 : List ByteArray) (w : World) (hr : Kd.C Kd.string w A0 l0.length l0) (hcl : l0.length ≤ c0) (hs : l0.length * 16 ≤ 140737488351232) (hw : ∀ s ∈ l0, s.size ≤ 9223372036854775807) :
    Calls Try.prog 7 #[.slice A0 l0.length c0] w fun e w' => e = .returned (.bool true) ∧ Below w.heap.size w w' := by
  obtain ⟨r, hev, hfew⟩ := few13 l0
  obtain ⟨kf, hf⟩ := hev.rounds
  cases r with
  | false => exact FrontKeeps_few A0 c0 l0 w hr hcl kf hf
  | true =>
    obtain ⟨h1, h2, h3⟩ := hfew rfl
    exact FrontKeeps_main A0 c0 l0 w hr hcl kf hf h1 h2
end Go.Proofs.Ytljhlpkoilapiaa.HW
