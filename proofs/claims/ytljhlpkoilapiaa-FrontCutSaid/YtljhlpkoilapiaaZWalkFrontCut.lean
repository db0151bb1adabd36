import Derived.Test.YtljhlpkoilapiaaZD
/- FrontCut: the law, walked. -/
set_option linter.unusedVariables false
set_option linter.unusedSimpArgs false
namespace Go.Proofs.Ytljhlpkoilapiaa.HW
open Go.RowKit Go.Proofs.Ytljhlpkoilapiaa.P Go.Proofs.Ytljhlpkoilapiaa.HP Go.Proofs.YtljhlpkoilapiaaW.PrintWords Go.Proofs.YtljhlpkoilapiaaW.PrintLast Go.Proofs.YtljhlpkoilapiaaW.PrintMore
attribute [local go_sem] max2_int min2_int max_two min_two max_three min_three max_four min_four
theorem fsum_5000 (l : List ByteArray) (h : ∀ s ∈ l, s.size ≤ 5000) : fsum l ≤ 5000 * l.length := by
  induction l with
  | nil => simp [fsum]
  | cons a l ih =>
    have h1 := h a List.mem_cons_self
    have h2 := ih (fun s hs => h s (List.mem_cons_of_mem _ hs))
    unfold fsum at *
    simp only [List.map_cons, List.sum_cons, List.length_cons]
    omega
set_option maxHeartbeats 8000000 in
set_option maxRecDepth 100000 in
theorem FrontCut_few (A0 : Option Addr) (c0 : Nat) (l0 : List ByteArray) (a1 a2 : Int) (w : World) (hr : Kd.C Kd.string w A0 l0.length l0) (hcl : l0.length ≤ c0) (kf : Nat) (hf : hopperref13_Few.f kf l0 = some false) :
    Calls Try.prog 6 #[.slice A0 l0.length c0, .int .u8 a1, .int .u16 a2] w fun e w' => e = .returned (.bool true) ∧ Below w.heap.size w w' := by
  have HR := Aside0.mk hr
  have HC := Aside0.mk hcl
  have HF := Aside0.mk hf
  have HB := Aside0.mk (Below.refl w.heap.size w)
  clear hr hcl hf
  go_enter Try.func6, Try.ntmps6
  go_wp2_with fail
  refine (law13_awake _).mono ?_
  rintro e w1 ⟨rfl, hb⟩
  have HB1 := Aside0.mk (below_step HB.out hb)
  clear HB hb
  go_wp2_with fail
  refine (hopperref13_Few.calls kf A0 c0 l0 false _ (Kd.C_below HR.out HB1.out) HC.out HF.out).mono ?_
  rintro e w2 ⟨rfl, n2, rfl⟩
  have HB2 := Aside0.mk (pw_below_drewN HB1.out n2)
  clear HB1
  go_wp2_with fail
  refine (law13_awake _).mono ?_
  rintro e w3 ⟨rfl, hb⟩
  have HB3 := Aside0.mk (below_step HB2.out hb)
  clear HB2 hb
  go_wp2_with fail
  go_ret
  exact ⟨rfl, HB3.out⟩
set_option maxHeartbeats 8000000 in
set_option maxRecDepth 100000 in
theorem FrontCut_main (A0 : Option Addr) (c0 : Nat) (l0 : List ByteArray) (a1 a2 : Int) (w : World) (hr : Kd.C Kd.string w A0 l0.length l0) (hcl : l0.length ≤ c0) (kf : Nat) (hf : hopperref13_Few.f kf l0 = some true) (hn : l0.length ≤ 150) (hz : ∀ s ∈ l0, s.size ≤ 5000) (k : Nat) (hk : wrap64 (1 + wrap64 (Int.tmod a1 64)) = (k : Int)) (hk2 : 1 ≤ k ∧ k ≤ 64) (ha2 : 0 ≤ a2 ∧ a2 ≤ 65535) :
    Calls Try.prog 6 #[.slice A0 l0.length c0, .int .u8 a1, .int .u16 a2] w fun e w' => e = .returned (.bool true) ∧ Below w.heap.size w w' := by
  have HR := Aside0.mk hr
  have HC := Aside0.mk hcl
  have HF := Aside0.mk hf
  have HB := Aside0.mk (Below.refl w.heap.size w)
  have HN := Aside0.mk hn
  have HZ := Aside0.mk hz
  have HK := Aside0.mk hk
  have HK2 := Aside0.mk hk2
  have HA2 := Aside0.mk ha2
  clear hr hcl hf hn hz hk hk2 ha2
  go_enter Try.func6, Try.ntmps6
  go_wp2_with fail
  refine (law13_awake _).mono ?_
  rintro e w1 ⟨rfl, hb⟩
  have HB1 := Aside0.mk (below_step HB.out hb)
  clear HB hb
  go_wp2_with fail
  refine (hopperref13_Few.calls kf A0 c0 l0 true _ (Kd.C_below HR.out HB1.out) HC.out HF.out).mono ?_
  rintro e w2 ⟨rfl, n2, rfl⟩
  have HB2 := Aside0.mk (pw_below_drewN HB1.out n2)
  clear HB1
  go_wp2_with fail
  refine (Sorted_ A0 c0 l0 _ (Kd.C_below HR.out HB2.out) HC.out HN.out HZ.out).mono ?_
  rintro e w3 ⟨v3, t, rfl, ho3, ht1, ht2, hb3⟩
  obtain ⟨A3, c3, rfl, hl3, hr3⟩ := Kd.R_reads ho3
  have HR3 := Aside0.mk hr3
  have HL3 := Aside0.mk hl3
  have HT := Aside0.mk (And.intro ht1 ht2)
  have HB3 := Aside0.mk (below_step HB2.out hb3)
  have hk := HK.out
  clear ho3 ht1 ht2 hb3 hl3 hr3 HB2
  go_wp2_with fail
  rw [hk]
  clear hk
  cases hx : rightL t (k : Int) with
  | false =>
    refine (Build_bad A3 c3 t (k : Int) _ HL3.out HR3.out hx).mono ?_
    rintro e w4 ⟨rfl, hb⟩
    have HB4 := Aside0.mk (below_step HB3.out hb)
    clear hb hx
    go_wp2_with fail
    go_ret
    exact ⟨rfl, HB4.out⟩
  | true =>
    have HX := Aside0.mk hx
    obtain ⟨p1, p2, p3, p4⟩ := right_parts hx
    have hfs : fsum t + 4 * t.length ≤ 1000000000 := by have := fsum_small2 t p4; omega
    refine (Build_ok A3 c3 t k _ HL3.out HR3.out hx hfs).mono ?_
    rintro e w4 ⟨v4, rfl, ho4, hb⟩
    obtain ⟨Bl, hBl⟩ : ∃ Bl, Bl = buildL k t := ⟨_, rfl⟩
    rw [← hBl] at ho4
    have hpos : 0 < Bl.length := by have h9 := vint_pos t.length; rw [hBl]; unfold buildL; rw [List.append_assoc, List.append_assoc, List.length_append]; omega
    have HPOS := Aside0.mk hpos
    have hne : ((Bl.length : Int) = 0) = False := eq_false (by omega)
    have hne2 : ((Bl.length : Int) == 0) = false := by rw [beq_eq_false_iff_ne]; omega
    have hne3 : (Bl.length = 0) = False := eq_false (by omega)
    have hne4 : (Bl = []) = False := eq_false (by intro h; rw [h] at hpos; simp at hpos)
    obtain ⟨A4, c4, rfl, hl4, hr4⟩ := Kd.R_reads ho4
    have HR4 := Aside0.mk hr4
    have HL4 := Aside0.mk hl4
    have HB4 := Aside0.mk (below_step HB3.out hb)
    have HBl := Aside0.mk hBl
    obtain ⟨m, hm⟩ : ∃ m : Nat, (wrap64 a2).tmod (Bl.length : Int) = (m : Int) ∧ m < Bl.length := by
      have h1 : wrap64 a2 = a2 := by unfold wrap64; have := HA2.out; omega
      have h2 := Int.emod_nonneg a2 (b := (Bl.length : Int)) (by omega)
      have h3 := Int.emod_lt_of_pos a2 (b := (Bl.length : Int)) (by omega)
      rw [h1, Int.tmod_eq_emod_of_nonneg HA2.out.1]
      exact ⟨(a2 % (Bl.length : Int)).toNat, by omega, by omega⟩
    obtain ⟨hm, hml⟩ := hm
    have HML := Aside0.mk hml
    obtain ⟨i0, hi0, _, hsz, _⟩ := info_parts info8
    have hcut := cut_to (P := Try.prog) 25 5 .i64 Try.underlying25 hi0 A4 Bl.length c4 (m : Int) (by omega) (by omega) hl4
    rw [Int.toNat_natCast] at hcut
    obtain ⟨PP, hPP⟩ : ∃ P, P = Bl.take m := ⟨_, rfl⟩
    have hPL : PP.length = m := by rw [hPP, List.length_take]; omega
    have HR5 : Aside0 (Kd.C (Kd.int .u8) w4 A4 PP.length PP) := ⟨by have h9 := Kd.C_take (m := m) hr4 (by omega); rwa [← hPP] at h9⟩
    rw [← hPL] at hcut hm
    have HL5 : Aside0 (PP.length ≤ c4 ∧ PP.length ≤ 1000000) := ⟨by
      have h1 := build_len k (by omega) (by omega) t p3 p4 hfs
      rw [← hBl] at h1
      have h2 := fsum_5000 t HT.out.2
      have h3 := HT.out.1
      have h4 := HN.out
      omega⟩
    obtain ⟨d, a', e', hop, _⟩ := open_total PP (by rw [hPP, hBl]; exact isBy_take (build_by k (by omega) t p4 hfs) m) HL5.out.2 0 (Nat.zero_le _)
    obtain ⟨he, rfl⟩ := cut_open k t hx (by have h2 := fsum_5000 t HT.out.2; have h3 := HT.out.1; have h4 := HN.out; omega) m (by rw [← hBl]; exact hml) d a' e' (by rw [← hBl, ← hPP]; exact hop)
    have HOP := Aside0.mk hop
    have HE := Aside0.mk he
    clear hb hx p1 p2 p3 p4 hfs hpos ho4 hl4 hr4 hBl hml hi0 hsz hPP hPL hop he HR4
    go_wp2_with fail
    refine (Cur.make A4 c4 PP _ HR5.out HL5.out.1 (by have := HL5.out; omega)).mono ?_
    rintro e w5 ⟨g, rfl, hc5, hb5⟩
    have HC5 := Aside0.mk hc5
    have HG5 := Aside0.mk hc5.lt
    have HHB : Aside0 (∀ W : World, Below w4.heap.size w4 W → Below w.heap.size w W) := ⟨fun W hW => HB4.out.trans (hW.mono (below_size HB4.out))⟩
    have HX5 := Aside0.mk hb5
    clear hc5 hb5
    go_wp2_with fail
    refine (Open_ _ HC5.out _ _ _ HOP.out).mono ?_
    rintro e w6 ⟨q, rfl, hq, hd6, hc6, hk6, hb6⟩
    have HD6 := Aside0.mk hd6
    have HC6 := Aside0.mk hc6
    have HX6 := Aside0.mk (HX5.out.trans hb6)
    clear hd6 hc6 hk6 hb6 hq
    go_wp2_with fail
    refine (Cur.good HC6.out (r := false) (i' := (a' : Int)) (e' := e') (by unfold cursor_Cursor_Good.f; rw [beq_eq_false_iff_ne.2 HE.out])).mono ?_
    rintro e w7 ⟨rfl, hc7, hk7, hb7⟩
    have HD7 := Aside0.mk (HD6.out.keep hk7 HG5.out)
    have HX7 := Aside0.mk (HX6.out.trans hb7)
    clear hc7 hk7 hb7 HC6 HD6 HX6
    go_wp2_with fail
    refine (DictP.len _ q [] HD7.out).mono ?_
    rintro e w8 ⟨rfl, hb8⟩
    have HX8 := Aside0.mk (HX7.out.trans (hb8.mono (below_size HX7.out)))
    rw [show (([] : List ByteArray).length : Int) = 0 from rfl]
    go_wp2_with fail
    go_ret
    exact ⟨rfl, HHB.out _ HX8.out⟩
theorem FrontCut (A0 : Option Addr) (c0 : Nat) (l0 : List ByteArray) (a1 a2 : Int) (w : World) (hr : Kd.C Kd.string w A0 l0.length l0) (hcl : l0.length ≤ c0) (hs : l0.length * 16 ≤ 140737488351232) (hw : ∀ s ∈ l0, s.size ≤ 9223372036854775807) (hw1 : (Lit.int .u8 a1).wf = true) (hw2 : (Lit.int .u16 a2).wf = true) :
    Calls Try.prog 6 #[.slice A0 l0.length c0, .int .u8 a1, .int .u16 a2] w fun e w' => e = .returned (.bool true) ∧ Below w.heap.size w w' := by
  obtain ⟨r, hev, hfew⟩ := few13 l0
  obtain ⟨kf, hf⟩ := hev.rounds
  cases r with
  | false => exact FrontCut_few A0 c0 l0 a1 a2 w hr hcl kf hf
  | true =>
    obtain ⟨h1, h2, h3⟩ := hfew rfl
    have e1 : 0 ≤ a1 ∧ a1 < 256 := by
      simp [Lit.wf, IntKind.min, IntKind.max, IntKind.signed, IntKind.bits] at hw1
      omega
    have e2 : 0 ≤ a2 ∧ a2 ≤ 65535 := by
      simp [Lit.wf, IntKind.min, IntKind.max, IntKind.signed, IntKind.bits] at hw2
      omega
    have e3 := Int.emod_nonneg a1 (b := 64) (by omega)
    have e4 := Int.emod_lt_of_pos a1 (b := 64) (by omega)
    exact FrontCut_main A0 c0 l0 a1 a2 w hr hcl kf hf h1 h2 (1 + a1 % 64).toNat (by rw [Int.tmod_eq_emod_of_nonneg e1.1]; unfold wrap64; omega) (by omega) e2
end Go.Proofs.Ytljhlpkoilapiaa.HW
