/- CrcZeros: the law, walked. -/
import Derived.Test.YtmedgpchmkmifaaHCrcZ
import Derived.Test.YtmedgpchmkmifaaPx4
import Derived.Test.YtmedgpchmkmifaaPx1
set_option linter.unusedVariables false
set_option linter.unusedSimpArgs false
namespace Go.Proofs.Ytmedgpchmkmifaa.HW
open Go.RowKit Go.Proofs.Ytmedgpchmkmifaa.P Go.Proofs.Ytmedgpchmkmifaa.HP Go.Proofs.YtmedgpchmkmifaaW.PrintWords Go.Proofs.YtmedgpchmkmifaaW.PrintLast Go.Proofs.YtmedgpchmkmifaaW.PrintMore
attribute [local go_sem] max2_int min2_int max_two min_two max_three min_three max_four min_four
theorem info8 : (Try.prog.info? 5).map (fun i => (i.zero, i.size, i.bytes)) = some (some (.int .u8 0), 1, 1) := by kernel_rfl
theorem row2 {W : World} {A1 A2 : Option Addr} {c1 c2 : Nat} {l1 l2 : List Int} (h1 : Kd.C (Kd.int .u8) W A1 l1.length l1) (hc1 : l1.length ≤ c1) (h2 : Kd.C (Kd.int .u8) W A2 l2.length l2) (hc2 : l2.length ≤ c2) :
    Kd.C (Kd.slice 5 (Kd.int .u8)) (W.alloc (.cells #[.slice A1 l1.length c1, .slice A2 l2.length c2] 27)) (some ⟨W.heap.size, 0, none⟩) [l1, l2].length [l1, l2] := by
  refine ⟨rfl, by simp, fun _ => ⟨_, rfl, fun j p hj => ?_⟩⟩
  match j, hj with
  | 0, hj =>
    obtain rfl : l1 = p := by simpa using hj
    refine ⟨[.slice A1 l1.length c1], rfl, ⟨_, c1, rfl, hc1, Kd.C_below h1 (below_alloc (Below.refl _ _) _)⟩, fun i u hu => ?_⟩
    match i, hu with
    | 0, hu =>
      obtain rfl : Value.slice A1 l1.length c1 = u := by simpa using hu
      rw [add_plain, World.cell?_alloc_mark]
      rfl
    | i + 1, hu => simp at hu
  | 1, hj =>
    obtain rfl : l2 = p := by simpa using hj
    refine ⟨[.slice A2 l2.length c2], rfl, ⟨_, c2, rfl, hc2, Kd.C_below h2 (below_alloc (Below.refl _ _) _)⟩, fun i u hu => ?_⟩
    match i, hu with
    | 0, hu =>
      obtain rfl : Value.slice A2 l2.length c2 = u := by simpa using hu
      rw [add_plain, World.cell?_alloc_mark]
      rfl
    | i + 1, hu => simp at hu
  | j + 2, hj => simp at hj
theorem row1 {W : World} {A1 : Option Addr} {c1 : Nat} {l1 : List Int} (h1 : Kd.C (Kd.int .u8) W A1 l1.length l1) (hc1 : l1.length ≤ c1) :
    Kd.C (Kd.slice 5 (Kd.int .u8)) (W.alloc (.cells #[.slice A1 l1.length c1] 27)) (some ⟨W.heap.size, 0, none⟩) [l1].length [l1] := by
  refine ⟨rfl, by simp, fun _ => ⟨_, rfl, fun j p hj => ?_⟩⟩
  match j, hj with
  | 0, hj =>
    obtain rfl : l1 = p := by simpa using hj
    refine ⟨[.slice A1 l1.length c1], rfl, ⟨_, c1, rfl, hc1, Kd.C_below h1 (below_alloc (Below.refl _ _) _)⟩, fun i u hu => ?_⟩
    match i, hu with
    | 0, hu =>
      obtain rfl : Value.slice A1 l1.length c1 = u := by simpa using hu
      rw [add_plain, World.cell?_alloc_mark]
      rfl
    | i + 1, hu => simp at hu
  | j + 1, hj => simp at hj
set_option maxHeartbeats 8000000 in
set_option maxRecDepth 100000 in
theorem CrcZeros (A0 : Option Addr) (c0 : Nat) (l0 : List Int) (A1 : Option Addr) (c1 : Nat) (l1 : List Int) (a2 : Int) (a3 : Int) (w : World) (hr0 : Kd.C (Kd.int .u8) w A0 l0.length l0) (hc0 : l0.length ≤ c0) (hr1 : Kd.C (Kd.int .u8) w A1 l1.length l1) (hc1 : l1.length ≤ c1) (hs0 : l0.length * 1 ≤ 140737488351232) (hw0 : ∀ x ∈ l0, (Lit.int .u8 x).wf = true) (hs1 : l1.length * 1 ≤ 140737488351232) (hw1 : ∀ x ∈ l1, (Lit.int .u8 x).wf = true) (w2 : (Lit.int .u8 a2).wf = true) (w3 : (Lit.int .u8 a3).wf = true) :
    Calls Try.prog 9 #[.slice A0 l0.length c0, .slice A1 l1.length c1, .int .u8 a2, .int .u8 a3] w fun e w' => e = .returned (.bool true) ∧ Below w.heap.size w w' := by
  have b2 : 0 ≤ a2 ∧ a2 < 256 := by simp [Lit.wf, IntKind.min, IntKind.max, IntKind.signed, IntKind.bits] at w2; omega
  have b3 : 0 ≤ a3 ∧ a3 < 256 := by simp [Lit.wf, IntKind.min, IntKind.max, IntKind.signed, IntKind.bits] at w3; omega
  have HI0 := Aside0.mk (isB_wf hw0)
  have HI1 := Aside0.mk (isB_wf hw1)
  have HR0 := Aside0.mk hr0
  have HC0 := Aside0.mk hc0
  have HR1 := Aside0.mk hr1
  have HC1 := Aside0.mk hc1
  have HB := Aside0.mk (Below.refl w.heap.size w)
  clear hr0 hc0 hr1 hc1 hw0 hw1 w2 w3 hs0 hs1
  by_cases h5 : (l0.length : Int) > 1000
  · have t9 : decide (1000 < (l0.length : Int)) = true := decide_eq_true h5
    have t9b : decide (1000 < l0.length) = true := decide_eq_true (by omega)
    clear h5
    go_enter Try.func9, Try.ntmps9
    go_wp2_with fail
    refine (hopperlaw02_awake.calls true _ rfl).mono ?_
    rintro e w1 ⟨rfl, hb⟩
    have HB1 := Aside0.mk (below_step HB.out hb)
    clear HB hb
    go_wp2_with fail
    refine (hopperlaw02_awake.calls true _ rfl).mono ?_
    rintro e w2 ⟨rfl, hb⟩
    have HB2 := Aside0.mk (below_step HB1.out hb)
    clear HB1 hb
    go_wp2_with fail
    go_ret
    exact ⟨rfl, HB2.out⟩
  by_cases h6 : (l1.length : Int) > 1000
  · have t5 : decide (1000 < (l0.length : Int)) = false := decide_eq_false h5
    have t5b : decide (1000 < l0.length) = false := decide_eq_false (by omega)
    have t9 : decide (1000 < (l1.length : Int)) = true := decide_eq_true h6
    have t9b : decide (1000 < l1.length) = true := decide_eq_true (by omega)
    clear h6
    go_enter Try.func9, Try.ntmps9
    go_wp2_with fail
    refine (hopperlaw02_awake.calls true _ rfl).mono ?_
    rintro e w1 ⟨rfl, hb⟩
    have HB1 := Aside0.mk (below_step HB.out hb)
    clear HB hb
    go_wp2_with fail
    refine (hopperlaw02_awake.calls true _ rfl).mono ?_
    rintro e w2 ⟨rfl, hb⟩
    have HB2 := Aside0.mk (below_step HB1.out hb)
    clear HB1 hb
    go_wp2_with fail
    go_ret
    exact ⟨rfl, HB2.out⟩
  have t5 : decide (1000 < (l0.length : Int)) = false := decide_eq_false h5
  have t5b : decide (1000 < l0.length) = false := decide_eq_false (by omega)
  have t6 : decide (1000 < (l1.length : Int)) = false := decide_eq_false h6
  have t6b : decide (1000 < l1.length) = false := decide_eq_false (by omega)
  have HL := Aside0.mk (show l0.length ≤ 1000 ∧ l1.length ≤ 1000 by omega)
  clear h5 h6
  go_enter Try.func9, Try.ntmps9
  go_wp2_with fail
  refine (hopperlaw02_awake.calls true _ rfl).mono ?_
  rintro e w1 ⟨rfl, hb⟩
  have HB1 := Aside0.mk (below_step HB.out hb)
  clear HB hb
  have HB := HB1
  clear HB1
  go_wp2_with (first | ((with_reducible refine gate_dst (N := 24) rfl ?_); refine Kd.R_lit (Kd.int .u8) _ 5 ?hg (N := 24) ?hd (xs := ([] : List Int)) (inner := []) (ok := fun _ => True) (okp := fun _ => True) ?hr ?hp (fun _ hk => hk) trivial (Below.refl _ _) (Nat.le_refl _) (by simp) ?_; (case hd => rfl); (case hg => rfl); (case hr => first | (go_simp; done) | (go_simp; rfl)); (case hp => exact Reps.none _ _); intro v397 w8 ho9 hb hg_ hnew_; clear hg_ hnew_; have n0_ := Aside0.mk (Kd.R_lower ho9 (below_size HB.out)); have n1_ := Aside0.mk (below_step HB.out hb); clear HB; have HB := n1_; have HO := n0_; clear n1_ n0_ hb ho9) | ((with_reducible refine gate_builtin (b := .append) (xs := #[.tmp 24, .tmp 25]) rfl ?_); at_builtin; refine Kd.R_append_rows (Kd.int .u8) (w0 := w) w.heap.size rfl (.tmp 24) (.tmp 25) 27 5 (.int .u8 0) 1 rfl Try.underlying27 info8 rfl (by decide) (by omega) v397 [] l0 _ _ _ (fun _ => True) (fun _ => False) rfl rfl ?aO ?aR (fun _ _ h => h) (fun _ h => h.elim) ?aF ?aB ?aS ?aL ?_; (case aR => exact Kd.C_below HR0.out HB.out); (case aB => exact HB.out); (case aF => exact (fun _ _ => trivial)); (case aO => exact HO.out); (case aS => exact (below_size HB.out)); (case aL => have := HL.out; simp; omega); intro v403 w11 ho hb hg hat; rw [List.nil_append] at ho; have n1_ := Aside0.mk hb; have n2_ := Aside0.mk ho; clear HO; clear HB; have HB := n1_; have HO := n2_; clear n1_ n2_; clear ho hb hg hat) | ((with_reducible refine gate_builtin (b := .append) (xs := #[.tmp 26, .tmp 28]) rfl ?_); at_builtin; refine Kd.R_append (Kd.int .u8) (w0 := w) w.heap.size rfl (.tmp 26) (.tmp 28) 27 5 (.int .u8 0) 1 rfl Try.underlying27 info8 rfl (by decide) (by omega) v403 l0 a2 [.int .u8 a2] (fun _ => True) (fun _ => False) rfl rfl ?aP (fun _ hk => hk.elim) ?aF ?aO ?aB ?aS ?aL ?_; (case aP => exact rfl); (case aB => exact HB.out); (case aF => exact (fun _ _ => trivial)); (case aO => exact HO.out); (case aS => exact below_size HB.out); (case aL => have := HL.out; omega); intro v117 w9 ho hb hg hat; have n0_ := Aside0.mk hb; have n1_ := Aside0.mk ho; clear HO; clear HB; have HB := n0_; have HO := n1_; clear n0_ n1_; clear ho hb hg hat) | ((with_reducible refine gate_dst (N := 30) rfl ?_); have HOA : Aside0 (Kd.R (Kd.int .u8) 5 w9 w.heap.size (fun k => k < w9.heap.size) v117 (l0 ++ [a2])) := ⟨Kd.R_mono (Kd.R_bound HO.out) (fun k h => h.2.2.1)⟩; have HRU := Aside0.mk (Kd.C_below HR0.out HB.out); have HBU := Aside0.mk (Below.refl w9.heap.size w9); clear HO; refine Kd.R_lit (Kd.int .u8) _ 5 ?hg (N := 30) ?hd (xs := ([] : List Int)) (inner := []) (ok := fun _ => True) (okp := fun _ => True) ?hr ?hp (fun _ hk => hk) trivial (Below.refl _ _) (Nat.le_refl _) (by simp) ?_; (case hd => rfl); (case hg => rfl); (case hr => first | (go_simp; done) | (go_simp; rfl)); (case hp => exact Reps.none _ _); intro v497 w18 ho9 hb hg_ hnew_; clear hg_ hnew_; have n0_ := Aside0.mk (Kd.R_lower ho9 (below_size HBU.out)); have n1_ := Aside0.mk (below_step HBU.out hb); clear HBU; have HBU := n1_; have HP := n0_; clear n1_ n0_ hb ho9) | ((with_reducible refine gate_builtin (b := .append) (xs := #[.tmp 30, .tmp 31]) rfl ?_); at_builtin; refine Kd.R_append_rows (Kd.int .u8) (w0 := w9) w9.heap.size rfl (.tmp 30) (.tmp 31) 27 5 (.int .u8 0) 1 rfl Try.underlying27 info8 rfl (by decide) (by omega) v497 [] l0 _ _ _ (fun _ => True) (fun _ => False) rfl rfl ?aO ?aR (fun _ _ h => h) (fun _ h => h.elim) ?aF ?aB ?aS ?aL ?_; (case aR => exact Kd.C_below HRU.out HBU.out); (case aB => exact HBU.out); (case aF => exact (fun _ _ => trivial)); (case aO => exact HP.out); (case aS => exact (below_size HBU.out)); (case aL => have := HL.out; simp; omega); intro v503 w21 ho hb hg hat; rw [List.nil_append] at ho; have n1_ := Aside0.mk hb; have n2_ := Aside0.mk ho; clear HP; clear HBU; have HBU := n1_; have HP := n2_; clear n1_ n2_; clear ho hb hg hat) | ((with_reducible refine gate_builtin (b := .append) (xs := #[.tmp 32, .tmp 34]) rfl ?_); at_builtin; refine Kd.R_append (Kd.int .u8) (w0 := w9) w9.heap.size rfl (.tmp 32) (.tmp 34) 27 5 (.int .u8 0) 1 rfl Try.underlying27 info8 rfl (by decide) (by omega) v503 l0 a3 [.int .u8 a3] (fun _ => True) (fun _ => False) rfl rfl ?aP (fun _ hk => hk.elim) ?aF ?aO ?aB ?aS ?aL ?_; (case aP => exact rfl); (case aB => exact HBU.out); (case aF => exact (fun _ _ => trivial)); (case aO => exact HP.out); (case aS => exact below_size HBU.out); (case aL => have := HL.out; omega); intro v217 w19 ho hb hg hat; have n0_ := Aside0.mk hb; have n1_ := Aside0.mk ho; clear HP; clear HBU; have HBU := n0_; have HP := n1_; clear n0_ n1_; clear ho hb hg hat; have HOB : Aside0 (Kd.R (Kd.int .u8) 5 w19 w.heap.size (fun _ => True) v117 (l0 ++ [a2])) := ⟨Kd.R_mono (Kd.R_step HOA.out (fun k hk _ => HBU.out.block k hk)) (fun _ _ => trivial)⟩; have HBV := Aside0.mk (HB.out.trans (HBU.out.mono (below_size HB.out))); clear HB HBU HOA HRU; obtain ⟨A9, c9, rfl, hl9, hr9⟩ := Kd.R_reads HOB.out; obtain ⟨A8, c8, rfl, hl8, hr8⟩ := Kd.R_reads HP.out; have HA9 := Aside0.mk hr9; have HL9 := Aside0.mk hl9; have HA8 := Aside0.mk hr8; have HL8 := Aside0.mk hl8; have HA1 := Aside0.mk (Kd.C_below HR1.out HBV.out); obtain ⟨one, h1e⟩ : ∃ L, L = l0 ++ [a2] := ⟨_, rfl⟩; obtain ⟨two, h2e⟩ : ∃ L, L = l0 ++ [a3] := ⟨_, rfl⟩; rw [← h1e] at HA9 HL9 ⊢; rw [← h2e] at HA8 HL8 ⊢; have H1e := Aside0.mk h1e; have H2e := Aside0.mk h2e; clear HOB HP hl9 hr9 hl8 hr8 h1e h2e))
  have HONE : Aside0 (one.length ≤ 1001 ∧ two.length ≤ 1001) := ⟨by rw [H1e.out, H2e.out]; have := HL.out; simp; omega⟩
  have hb1 : isB (one ++ l1) := isB_app (by rw [H1e.out]; exact isB_app HI0.out (fun x hx => by obtain rfl := List.mem_singleton.1 hx; exact b2)) HI1.out
  have hb2 : isB (two ++ l1) := isB_app (by rw [H2e.out]; exact isB_app HI0.out (fun x hx => by obtain rfl := List.mem_singleton.1 hx; exact b3)) HI1.out
  have of1 : crc_Of.f [one, l1] = some ((crcN (one ++ l1) : Nat) : Int) := by have := of_f [one, l1] (by simpa using hb1); simpa using this
  have of2 : crc_Of.f [two, l1] = some ((crcN (two ++ l1) : Nat) : Int) := by have := of_f [two, l1] (by simpa using hb2); simpa using this
  have hpq : (crcN (one ++ l1) = crcN (two ++ l1)) ↔ a2 = a3 := by
    rw [H1e.out, H2e.out] at *
    rw [List.append_assoc, List.append_assoc] at *
    exact ⟨fun h => crc_ne hb1 hb2 h, fun h => by rw [h]⟩
  obtain ⟨Z, hZ⟩ : ∃ Z : Nat, ∀ l, isB l → crcN (sealL l) = Z := ⟨_, fun l h => crc_seal l h⟩
  have ofz : ∀ l, isB l → crc_Of.f [sealL l] = some ((Z : Nat) : Int) := fun l h => by
    have := of_f [sealL l] (by simpa using sealL_b h)
    simp only [List.flatten_cons, List.flatten_nil, List.append_nil, hZ l h] at this
    exact this
  have OFA := Aside0.mk (ofz l0 HI0.out)
  have OFB := Aside0.mk (ofz l1 HI1.out)
  generalize crcN (one ++ l1) = p at *
  generalize crcN (two ++ l1) = q at *
  have OF1 := Aside0.mk of1
  have OF2 := Aside0.mk of2
  have SEA := Aside0.mk (seal_f l0 (by have := HL.out; omega) HI0.out)
  have SEB := Aside0.mk (seal_f l1 (by have := HL.out; omega) HI1.out)
  have hpq2 : (((p : Int) == (q : Int)) == (a2 == a3)) = true := by
    by_cases h : a2 = a3
    · have := hpq.2 h; subst this; subst h; simp
    · have h2 : ¬ p = q := fun e => h (hpq.1 e)
      have h3 : ((p : Int) == (q : Int)) = false := by simp; omega
      have h4 : (a2 == a3) = false := by simpa using h
      rw [h3, h4]; rfl
  obtain ⟨t1, ht1⟩ : ∃ t1 : Bool, ((p : Int) == (q : Int)) = t1 := ⟨_, rfl⟩
  obtain ⟨t2, ht2⟩ : ∃ t2 : Bool, (a2 == a3) = t2 := ⟨_, rfl⟩
  rw [ht1, ht2] at hpq2
  obtain rfl : t1 = t2 := by simpa using hpq2
  clear of1 of2 hb1 hb2 hpq hpq2 hZ ofz
  refine (crc_Of.calls _ 2 [one, l1] (p : Int) _ (row2 HA9.out HL9.out HA1.out HC1.out) (by simp) OF1.out).mono ?_
  rintro e w31 ⟨rfl, hb⟩
  have n1_ := Aside0.mk (below_step (below_alloc HBV.out (.cells #[.slice A9 one.length c9, .slice A1 l1.length c1] 27)) hb)
  have n2_ := Aside0.mk (Kd.C_below (Kd.C_below HA8.out (below_alloc (Below.refl _ _) (.cells #[.slice A9 one.length c9, .slice A1 l1.length c1] 27))) hb)
  clear HBV HA8 HA9 HA1 hb
  have HA1 := Aside0.mk (Kd.C_below HR1.out n1_.out)
  go_wp2_with fail
  refine (crc_Of.calls _ 2 [two, l1] (q : Int) _ (row2 n2_.out HL8.out HA1.out HC1.out) (by simp) OF2.out).mono ?_
  rintro e w32 ⟨rfl, hb⟩
  have HB32 := Aside0.mk (below_step (below_alloc n1_.out (.cells #[.slice A8 two.length c8, .slice A1 l1.length c1] 27)) hb)
  clear n1_ n2_ HA1 hb
  go_wp2_with fail
  refine (crc_Seal.calls (fun _ => True) A0 c0 l0 (sealL l0) _ (hopperlaw02_awake.shared (Kd.C_below HR0.out HB32.out) HC0.out) SEA.out).mono ?_
  rintro e w33 ⟨v33, rfl, ho, hb⟩
  obtain ⟨A33, c33, rfl, hl33, hr33⟩ := Kd.R_reads ho
  have HB33 := Aside0.mk (below_step HB32.out hb)
  have HR33 := Aside0.mk hr33
  have HL33 := Aside0.mk hl33
  clear HB32 ho hb hl33 hr33
  obtain ⟨sa, hsa⟩ : ∃ L, L = sealL l0 := ⟨_, rfl⟩
  obtain ⟨sb, hsb⟩ : ∃ L, L = sealL l1 := ⟨_, rfl⟩
  rw [← hsa] at HR33 HL33 OFA ⊢
  rw [← hsb] at OFB SEB
  clear hsa hsb
  go_wp2_with fail
  refine (crc_Of.calls _ 1 [sa] (Z : Int) _ (row1 HR33.out HL33.out) (by simp) OFA.out).mono ?_
  rintro e w34 ⟨rfl, hb⟩
  have HB34 := Aside0.mk (below_step (below_alloc HB33.out (.cells #[.slice A33 sa.length c33] 27)) hb)
  clear HB33 HR33 hb
  go_wp2_with fail
  refine (crc_Seal.calls (fun _ => True) A1 c1 l1 sb _ (hopperlaw02_awake.shared (Kd.C_below HR1.out HB34.out) HC1.out) SEB.out).mono ?_
  rintro e w35 ⟨v35, rfl, ho, hb⟩
  obtain ⟨A35, c35, rfl, hl35, hr35⟩ := Kd.R_reads ho
  have HB35 := Aside0.mk (below_step HB34.out hb)
  have HR35 := Aside0.mk hr35
  have HL35 := Aside0.mk hl35
  clear HB34 ho hb hl35 hr35
  go_wp2_with fail
  refine (crc_Of.calls _ 1 [sb] (Z : Int) _ (row1 HR35.out HL35.out) (by simp) OFB.out).mono ?_
  rintro e w36 ⟨rfl, hb⟩
  have HB36 := Aside0.mk (below_step (below_alloc HB35.out (.cells #[.slice A35 sb.length c35] 27)) hb)
  clear HB35 HR35 hb
  go_wp2_with fail
  go_ret
  exact ⟨rfl, HB36.out⟩
end Go.Proofs.Ytmedgpchmkmifaa.HW
