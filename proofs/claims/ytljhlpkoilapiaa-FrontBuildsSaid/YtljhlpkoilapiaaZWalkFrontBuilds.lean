import Derived.Test.YtljhlpkoilapiaaZC
import Derived.Test.YtljhlpkoilapiaaZPx13
import Derived.Test.YtljhlpkoilapiaaZPx17
/- FrontBuilds: the law, walked. -/
set_option linter.unusedVariables false
set_option linter.unusedSimpArgs false
namespace Go.Proofs.Ytljhlpkoilapiaa.HW
open Go.RowKit Go.Proofs.Ytljhlpkoilapiaa.P Go.Proofs.Ytljhlpkoilapiaa.HP Go.Proofs.YtljhlpkoilapiaaW.PrintWords Go.Proofs.YtljhlpkoilapiaaW.PrintLast Go.Proofs.YtljhlpkoilapiaaW.PrintMore
attribute [local go_sem] max2_int min2_int max_two min_two max_three min_three max_four min_four
set_option maxHeartbeats 8000000 in
set_option maxRecDepth 100000 in
theorem FrontBuilds_few (A0 : Option Addr) (c0 : Nat) (l0 : List ByteArray) (a1 : Int) (w : World) (hr : Kd.C Kd.string w A0 l0.length l0) (hcl : l0.length ≤ c0) (kf : Nat) (hf : hopperref13_Few.f kf l0 = some false) :
    Calls Try.prog 3 #[.slice A0 l0.length c0, .int .i64 a1] w fun e w' => e = .returned (.bool true) ∧ Below w.heap.size w w' := by
  have HR := Aside0.mk hr
  have HC := Aside0.mk hcl
  have HF := Aside0.mk hf
  have HB := Aside0.mk (Below.refl w.heap.size w)
  clear hr hcl hf
  go_enter Try.func3, Try.ntmps3
  go_wp2_with fail
  refine (law13_awake _).mono ?_
  rintro e w1 ⟨rfl, hb⟩
  have HB1 := Aside0.mk (below_step HB.out hb)
  clear HB hb
  go_wp2_with fail
  refine (hopperref13_Few.calls kf A0 c0 l0 false _ (Kd.C_below HR.out HB1.out) HC.out HF.out).mono ?_
  rintro e w2 ⟨rfl, n2, rfl⟩
  have HB2 := Aside0.mk (pw_below_drewN HB1.out n2)
  clear HB1
  go_wp2_with fail
  refine (law13_awake _).mono ?_
  rintro e w3 ⟨rfl, hb⟩
  have HB3 := Aside0.mk (below_step HB2.out hb)
  clear HB2 hb
  go_wp2_with fail
  go_ret
  exact ⟨rfl, HB3.out⟩
set_option maxHeartbeats 8000000 in
set_option maxRecDepth 100000 in
theorem FrontBuilds_bad (A0 : Option Addr) (c0 : Nat) (l0 : List ByteArray) (a1 : Int) (w : World) (hr : Kd.C Kd.string w A0 l0.length l0) (hcl : l0.length ≤ c0) (kf : Nat) (hf : hopperref13_Few.f kf l0 = some true) (kr : Nat) (hrt : hopperref13_Right.f kr l0 a1 = some false) (hx : rightL l0 a1 = false) :
    Calls Try.prog 3 #[.slice A0 l0.length c0, .int .i64 a1] w fun e w' => e = .returned (.bool true) ∧ Below w.heap.size w w' := by
  have HR := Aside0.mk hr
  have HC := Aside0.mk hcl
  have HF := Aside0.mk hf
  have HB := Aside0.mk (Below.refl w.heap.size w)
  have HT := Aside0.mk hrt
  have HBD := Aside0.mk (fun W hW => Build_bad A0 c0 l0 a1 W hcl (Kd.C_below hr hW) hx)
  clear hr hcl hf hrt hx
  go_enter Try.func3, Try.ntmps3
  go_wp2_with fail
  refine (law13_awake _).mono ?_
  rintro e w1 ⟨rfl, hb⟩
  have HB1 := Aside0.mk (below_step HB.out hb)
  clear HB hb
  go_wp2_with fail
  refine (hopperref13_Few.calls kf A0 c0 l0 true _ (Kd.C_below HR.out HB1.out) HC.out HF.out).mono ?_
  rintro e w2 ⟨rfl, n2, rfl⟩
  have HB2 := Aside0.mk (pw_below_drewN HB1.out n2)
  clear HB1
  go_wp2_with fail
  refine (HBD.out _ HB2.out).mono ?_
  rintro e w3 ⟨rfl, hb⟩
  have HB3 := Aside0.mk (below_step HB2.out hb)
  clear HB2 hb
  go_wp2_with fail
  refine (hopperref13_Right.calls kr A0 c0 l0 a1 false _ (Kd.C_below HR.out HB3.out) HC.out HT.out).mono ?_
  rintro e w4 ⟨rfl, n4, rfl⟩
  have HB4 := Aside0.mk (pw_below_drewN HB3.out n4)
  go_wp2_with fail
  go_ret
  exact ⟨rfl, HB4.out⟩
set_option maxHeartbeats 8000000 in
set_option maxRecDepth 100000 in
theorem FrontBuilds_good (A0 : Option Addr) (c0 : Nat) (l0 : List ByteArray) (a1 : Int) (w : World) (hr : Kd.C Kd.string w A0 l0.length l0) (hcl : l0.length ≤ c0) (kf : Nat) (hf : hopperref13_Few.f kf l0 = some true) (k : Nat) (ha : a1 = (k : Int)) (kr : Nat) (hrt : hopperref13_Right.f kr l0 (k : Int) = some true) (kb : Nat) (hbd : hopperref13_Build.f kb l0 (k : Int) = some (buildL k l0)) (hx : rightL l0 (k : Int) = true) (hfs : fsum l0 + 4 * l0.length ≤ 1000000000) :
    Calls Try.prog 3 #[.slice A0 l0.length c0, .int .i64 a1] w fun e w' => e = .returned (.bool true) ∧ Below w.heap.size w w' := by
  subst ha
  have HR := Aside0.mk hr
  have HC := Aside0.mk hcl
  have HF := Aside0.mk hf
  have HB := Aside0.mk (Below.refl w.heap.size w)
  have HT := Aside0.mk hrt
  have HRB := Aside0.mk hbd
  have HBD := Aside0.mk (fun W hW => Build_ok A0 c0 l0 k W hcl (Kd.C_below hr hW) hx hfs)
  obtain ⟨Bl, hBl⟩ : ∃ Bl, Bl = buildL k l0 := ⟨_, rfl⟩
  rw [← hBl] at HRB HBD
  clear hr hcl hf hrt hx hbd hfs hBl
  go_enter Try.func3, Try.ntmps3
  go_wp2_with fail
  refine (law13_awake _).mono ?_
  rintro e w1 ⟨rfl, hb⟩
  have HB1 := Aside0.mk (below_step HB.out hb)
  clear HB hb
  go_wp2_with fail
  refine (hopperref13_Few.calls kf A0 c0 l0 true _ (Kd.C_below HR.out HB1.out) HC.out HF.out).mono ?_
  rintro e w2 ⟨rfl, n2, rfl⟩
  have HB2 := Aside0.mk (pw_below_drewN HB1.out n2)
  clear HB1
  go_wp2_with fail
  refine (HBD.out _ HB2.out).mono ?_
  rintro e w3 ⟨v3, rfl, ho3, hb⟩
  obtain ⟨A3, c3, rfl, hl3, hr3⟩ := Kd.R_reads ho3
  have HR3 := Aside0.mk hr3
  have HL3 := Aside0.mk hl3
  have HB3 := Aside0.mk (below_step HB2.out hb)
  clear HB2 hb ho3 hr3 hl3
  go_wp2_with fail
  refine (hopperref13_Right.calls kr A0 c0 l0 (k : Int) true _ (Kd.C_below HR.out HB3.out) HC.out HT.out).mono ?_
  rintro e w4 ⟨rfl, n4, rfl⟩
  have HB4 := Aside0.mk (pw_below_drewN HB3.out n4)
  have HR4 := Aside0.mk (Kd.C_below HR3.out (pw_below_drewN (Below.refl _ _) n4))
  clear HB3 HR3
  go_wp2_with fail
  refine (hopperref13_Build.calls kb A0 c0 l0 (k : Int) Bl _ (Kd.C_below HR.out HB4.out) HC.out HRB.out).mono ?_
  rintro e w5 ⟨v5, rfl, ho5, hb⟩
  obtain ⟨A5, c5, rfl, hl5, hr5⟩ := Kd.R_reads ho5
  have HR5 := Aside0.mk hr5
  have HL5 := Aside0.mk hl5
  have HR45 := Aside0.mk (Kd.C_below HR4.out hb)
  have HB5 := Aside0.mk (below_step HB4.out hb)
  clear HB4 HR4 hb ho5 hr5 hl5
  go_wp2_with fail
  refine (hopperref01_Same.calls A3 c3 Bl A5 c5 Bl true _ HR45.out HL3.out HR5.out HL5.out (same_self Bl)).mono ?_
  rintro e w6 ⟨rfl, n6, rfl⟩
  have HB6 := Aside0.mk (pw_below_drewN HB5.out n6)
  go_wp2_with fail
  go_ret
  exact ⟨rfl, HB6.out⟩
theorem FrontBuilds (A0 : Option Addr) (c0 : Nat) (l0 : List ByteArray) (a1 : Int) (w : World) (hr : Kd.C Kd.string w A0 l0.length l0) (hcl : l0.length ≤ c0) (hs : l0.length * 16 ≤ 140737488351232) (hw : ∀ s ∈ l0, s.size ≤ 9223372036854775807) (hwf : (Lit.int .i64 a1).wf = true) :
    Calls Try.prog 3 #[.slice A0 l0.length c0, .int .i64 a1] w fun e w' => e = .returned (.bool true) ∧ Below w.heap.size w w' := by
  obtain ⟨r, hev, hfew⟩ := few13 l0
  obtain ⟨kf, hf⟩ := hev.rounds
  cases r with
  | false => exact FrontBuilds_few A0 c0 l0 a1 w hr hcl kf hf
  | true =>
    obtain ⟨h1, h2, h3⟩ := hfew rfl
    obtain ⟨kr, hkr⟩ := (rright_f l0 a1).rounds
    cases hx : rightL l0 a1 with
    | false =>
      rw [hx] at hkr
      exact FrontBuilds_bad A0 c0 l0 a1 w hr hcl kf hf kr hkr hx
    | true =>
      rw [hx] at hkr
      obtain ⟨p1, p2, p3, p4⟩ := right_parts hx
      obtain ⟨k, rfl⟩ : ∃ k : Nat, a1 = (k : Int) := ⟨a1.toNat, by omega⟩
      have hfs : fsum l0 + 4 * l0.length ≤ 1000000000 := by omega
      obtain ⟨kb, hkb⟩ := (rbuild_f k (by omega) (by omega) l0 (by omega) p4 hfs).rounds
      exact FrontBuilds_good A0 c0 l0 (k : Int) w hr hcl kf hf k rfl kr hkr kb hkb hx hfs
end Go.Proofs.Ytljhlpkoilapiaa.HW
