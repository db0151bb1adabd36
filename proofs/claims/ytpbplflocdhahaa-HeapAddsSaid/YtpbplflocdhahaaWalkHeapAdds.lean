/- HeapAdds: the law, walked. -/
import Derived.Test.YtpbplflocdhahaaHAddP
set_option linter.unusedVariables false
set_option linter.unusedSimpArgs false
namespace Go.Proofs.Ytpbplflocdhahaa.HW
open Go.RowKit Go.Proofs.Ytpbplflocdhahaa.P Go.Proofs.Ytpbplflocdhahaa.HP Go.Proofs.YtpbplflocdhahaaW.PrintWords Go.Proofs.YtpbplflocdhahaaW.PrintLast Go.Proofs.YtpbplflocdhahaaW.PrintMore
attribute [local go_sem] max2_int min2_int max_two min_two max_three min_three max_four min_four
theorem infoStr : (Try.prog.info? 9).map (fun i => (i.zero, i.size, i.bytes)) = some (some (.string ⟨#[]⟩), 1, 16) := by kernel_rfl
theorem wf_i64 {x : Int} (h : (Lit.int .i64 x).wf = true) : -9223372036854775808 ≤ x ∧ x ≤ 9223372036854775807 := by
  simp [Lit.wf, IntKind.min, IntKind.max, IntKind.signed, IntKind.bits] at h
  omega
theorem str_keep {lo : Nat} {W W' : World} {v : Value} {xs : List ByteArray} (h : Kd.R Kd.string 9 W lo (fun _ => True) v xs) (k : KT W W') : Kd.R Kd.string 9 W' lo (fun _ => True) v xs := by
  obtain ⟨inner, ho⟩ := Kd.R_own h
  refine Kd.R_mono (Kd.R_step (Kd.R_tight rfl h) (fun j hj _ => ?_)) (fun _ _ => trivial)
  obtain ⟨cells, hc⟩ := own_typed ho j hj.symm
  rw [hc]
  exact k j cells _ hc (by decide) (by decide) (by decide)
theorem str_keep2 {lo : Nat} {W W' : World} {v : Value} {xs : List ByteArray} (h : Kd.R Kd.string 9 W lo (fun _ => True) v xs) (k : ∀ (k : Nat) (cs : Array Value) (t : TypeId), t ≠ 28 → W.heap[k]? = some (.cells cs t (0, 0)) → W'.heap[k]? = some (.cells cs t (0, 0))) : Kd.R Kd.string 9 W' lo (fun _ => True) v xs := by
  obtain ⟨inner, ho⟩ := Kd.R_own h
  refine Kd.R_mono (Kd.R_step (Kd.R_tight rfl h) (fun j hj _ => ?_)) (fun _ _ => trivial)
  obtain ⟨cells, hc⟩ := own_typed ho j hj.symm
  rw [hc]
  exact k j cells _ (by decide) hc
theorem raw_keep2 {lo : Nat} {W W' : World} {v : Value} {rows : List (List Value)} (h : (Kd.raw 16).R 28 W lo (fun _ => True) v rows) (k : ∀ (k : Nat) (cs : Array Value) (t : TypeId), t ≠ 9 → W.heap[k]? = some (.cells cs t (0, 0)) → W'.heap[k]? = some (.cells cs t (0, 0))) : (Kd.raw 16).R 28 W' lo (fun _ => True) v rows := by
  obtain ⟨inner, ho⟩ := Kd.R_own h
  refine Kd.raw_any (Kd.R_step (Kd.raw_tight h) (fun j hj _ => ?_))
  obtain ⟨cells, hc⟩ := own_typed ho j hj.symm
  rw [hc]
  exact k j cells _ (by decide) hc
set_option maxHeartbeats 8000000 in
set_option maxRecDepth 100000 in
theorem HeapAdds_neg (A0 : Option Addr) (c0 : Nat) (l0 : List ByteArray) (a1 : Int) (w : World) (hcl : l0.length ≤ c0) (hr : Kd.C Kd.string w A0 l0.length l0) (hwf : (Lit.int .i64 a1).wf = true) (hneg : a1 < 0) :
    Calls Try.prog 3 #[.slice A0 l0.length c0, .int .i64 a1] w fun e w' => e = .returned (.bool true) ∧ Below w.heap.size w w' := by
  obtain ⟨r, hev, hfew⟩ := few_f l0
  obtain ⟨kf, hkf⟩ := hev.rounds
  have hm : 0 ≤ (if a1 < 0 then 0 else a1) ∧ (if a1 < 0 then 0 else a1) ≤ 9223372036854775807 := by
    have := wf_i64 hwf
    by_cases h : a1 < 0
    · rw [if_pos h]; omega
    · rw [if_neg h]; omega
  have tm : decide (a1 < 0) = true := decide_eq_true (by omega)
  rw [if_pos hneg] at hm
  have HFew := Aside0.mk (fun W (hW : Kd.C Kd.string W A0 l0.length l0) => hopperref07_Few.calls kf A0 c0 l0 r W hW hcl hkf)
  obtain ⟨N, hN⟩ : ∃ N, N = l0.length := ⟨_, rfl⟩
  have HRD : Aside0 (∀ W, Below w.heap.size w W → ∀ (i : Nat) (s : ByteArray), l0[i]? = some s → A0 = some (A0.getD ⟨0, 0, none⟩) ∧ W.cell? ((A0.getD ⟨0, 0, none⟩).add i) = some (.string s)) := ⟨fun W hW i s hs => by
    have hi := (List.getElem?_eq_some_iff.1 hs).1
    obtain ⟨ad, e, hc⟩ := Kd.at_string (Kd.C_below hr hW) (i : Int) (by omega) (by omega)
    have hrd : rdOf ByteArray.empty l0 (i : Int) = s := by simp [rdOf, List.getD_eq_getElem?_getD, hs]
    rw [hrd, Int.toNat_natCast] at hc
    subst e
    exact ⟨rfl, hc⟩⟩
  have HL := Aside0.mk hr
  have HNE := Aside0.mk hN
  rw [← hN] at HFew HL ⊢
  rw [← hN] at hfew
  have HFW := Aside0.mk hfew
  obtain ⟨m, hme⟩ : ∃ m, m = (0 : Int) := ⟨_, rfl⟩
  have HMM : Aside0 (0 ≤ m ∧ m ≤ 9223372036854775807) := ⟨by rw [hme]; exact hm⟩
  have hz := zero16
  have hgd := guard16
  obtain ⟨Z, hZ⟩ : ∃ Z, Z = cel z16 := ⟨_, rfl⟩
  rw [← hZ] at hz
  have HSZ : Aside0 (Z.size = 16) := ⟨by rw [hZ]; rfl⟩
  have H1Z : Aside0 (Z.all (·.oneCell') = true) := ⟨by rw [hZ]; exact cel_one _⟩
  have HBL : Aside0 (Try.prog.built 28 [] = some Z) := ⟨by rw [hZ]; kernel_rfl⟩
  have HZE := Aside0.mk hZ
  have heq : ∀ W, (Op.equalIn 10000 28 (.agg Z) (.agg Z)).run Try.prog W = .ok true W := fun W => by rw [hZ, eq16 z16 z16 rfl rfl W]; rfl
  have HEQ := Aside0.mk heq
  obtain ⟨I16, hi16, hzz⟩ := Option.map_eq_some_iff.1 info16z
  have HI16 := Aside0.mk (show Try.prog.info? 28 = some I16 ∧ I16.zero = some (.agg (cel z16)) ∧ I16.size = 16 by simp only [Prod.mk.injEq] at hzz; exact ⟨hi16, hzz.1, hzz.2.1⟩)
  have HB := Aside0.mk (Below.refl w.heap.size w)
  have HTM := Aside0.mk tm
  have HME := Aside0.mk hme
  have HNG := Aside0.mk hneg
  clear hcl hr hwf hfew hev hkf hm hN hZ hi16 hzz hme hneg heq
  go_enter Try.func3, Try.ntmps3
  go_wp2_with fail
  refine (law7_awake _).mono ?_
  rintro e w1 ⟨rfl, hb⟩
  have HB1 := Aside0.mk (below_step HB.out hb)
  clear HB hb
  go_wp2_with fail
  refine (HFew.out _ (Kd.C_below HL.out HB1.out)).mono ?_
  rintro e w2 ⟨rfl, hb⟩
  have HB2 := Aside0.mk (below_step HB1.out hb.below)
  clear HB1 hb HFew
  cases r with
  | false =>
    go_wp2_with fail
    refine (law7_awake _).mono ?_
    rintro e w3 ⟨rfl, hb⟩
    have HB3 := Aside0.mk (below_step HB2.out hb)
    clear HB2 hb
    go_wp2_with fail
    go_ret
    exact ⟨rfl, HB3.out⟩
  | true =>
    have HNB : Aside0 (N ≤ 300) := ⟨(HFW.out rfl).1⟩
    have HSM : Aside0 (∀ s ∈ l0, s.size ≤ 5000) := ⟨(HFW.out rfl).2.1⟩
    go_wp2_with fail
    refine (HM.new a1 _).mono ?_
    rintro e w3 ⟨g, rfl, hh, hb⟩
    rw [if_pos HNG.out] at hh
    have hh : HM w2.heap.size w3 g [] 0 m := by rw [HME.out]; exact hh
    obtain ⟨lo, hlo⟩ : ∃ lo, Aside0 (lo = w2.heap.size ∧ w.heap.size ≤ lo) := ⟨_, ⟨rfl, below_size HB2.out⟩⟩
    rw [← hlo.out.1] at hh
    have HB3 := Aside0.mk (below_step HB2.out hb)
    have HLW := Aside0.mk hlo.out.2
    have HLS : Aside0 (lo ≤ w3.heap.size) := ⟨by rw [hlo.out.1]; exact hb.size⟩
    have HH3 := Aside0.mk hh
    clear HB2 hb hh
    go_wp2_with fail
    go_loopg [6, 7, 8, 9] (N : Nat) (fun kq v6 v7 v8 v9 w' => ∃ (i : Nat) (ins : List ByteArray) (vs : List (List Int)) (Bs : List (List Int)) (A : ByteArray), v9 = .int .i64 (i : Int) ∧ v8 = .string A ∧ Aside0 (i + kq = N) ∧ Aside0 (ins.length = vs.length) ∧ Aside0 (vs.length ≤ i) ∧ Aside0 (∀ (j : Nat) (x : List Int) (s : ByteArray), vs[j]? = some x → ins[j]? = some s → HoldsM Bs x s) ∧ Aside0 (HM lo w' g Bs (Bs.flatten.length : Int) m) ∧ Aside0 (bytesOf A = Bs.flatten) ∧ Aside0 (Bs.flatten.length ≤ 5000 * i) ∧ Aside0 (Bs.length ≤ i) ∧ Aside0 (GB Bs) ∧ Aside0 (Kd.R Kd.string 9 w' w.heap.size (fun _ => True) v6 ins) ∧ Aside0 ((Kd.raw 16).R 28 w' w.heap.size (fun _ => True) v7 (vs.map vb)) ∧ Aside0 (Below w.heap.size w w'))
    case atStart => exact ⟨0, [], [], [], ⟨#[]⟩, rfl, rfl, ⟨by omega⟩, ⟨rfl⟩, ⟨by simp⟩, ⟨fun j x s h => by simp at h⟩, HH3, ⟨rfl⟩, ⟨by simp⟩, ⟨by simp⟩, ⟨fun b hb => by simp at hb⟩, ⟨Kd.R_nil _ _ _ _ _⟩, ⟨Kd.R_nil _ _ _ _ _⟩, HB3⟩
    case round =>
      obtain ⟨i, ins, vs, Bs, A, rfl, rfl, HI, HIN, HVN, HHO, HH, HA, HFL, HBN, HGB, HS, HV, HB⟩ := hrel
      clear HH3 HB3
      cases gk with
      | zero =>
        obtain rfl : i = N := by have := HI.out; omega
        have tN : decide ((i : Int) < (i : Int)) = false := decide_eq_false (by omega)
        obtain ⟨A6, c6, hv6, hl6, hr6⟩ := Kd.R_reads HS.out
        obtain ⟨A7, c7, hv7, hl7, hr7⟩ := Kd.R_reads HV.out
        rw [List.length_map] at hv7 hl7 hr7
        obtain ⟨wl, hwl⟩ : ∃ W, W = wr := ⟨_, rfl⟩
        obtain ⟨M, hM⟩ : ∃ M, M = ins.length := ⟨_, rfl⟩
        have HM0 := Aside0.mk hM
        have hMv : vs.length = M := by rw [hM, HIN.out]
        have HMV := Aside0.mk hMv
        rw [← hM] at hv6 hl6 hr6
        rw [hMv] at hv7 hl7 hr7
        subst hv6 hv7
        have HRS : Aside0 (∀ W, Below wl.heap.size wl W → ∀ (j : Nat) (s : ByteArray), ins[j]? = some s → A6 = some (A6.getD ⟨0, 0, none⟩) ∧ W.cell? ((A6.getD ⟨0, 0, none⟩).add j) = some (.string s)) := ⟨fun W hW j s hs => by
          have hj := (List.getElem?_eq_some_iff.1 hs).1
          obtain ⟨ad, e, hc⟩ := Kd.at_string (Kd.C_below (by rw [hwl]; exact hr6) hW) (j : Int) (by omega) (by omega)
          have hrd : rdOf ByteArray.empty ins (j : Int) = s := by simp [rdOf, List.getD_eq_getElem?_getD, hs]
          rw [hrd, Int.toNat_natCast] at hc
          subst e
          exact ⟨rfl, hc⟩⟩
        have HRV : Aside0 (∀ W, Below wl.heap.size wl W → ∀ (j : Nat) (x : List Int), vs[j]? = some x → A7 = some (A7.getD ⟨0, 0, none⟩) ∧ (loadVar 28 ((A7.getD ⟨0, 0, none⟩).add (j * 16))).run Try.prog W = .ok (.agg (cel x)) W) := ⟨fun W hW j x hx => by
          have hj := (List.getElem?_eq_some_iff.1 hx).1
          have hcr : (Kd.raw 16).C W A7 M (vs.map vb) := Kd.C_below (by rw [hwl]; exact hr7) hW
          obtain ⟨ad', e, hcell⟩ := hcr.2.2 (by omega)
          subst e
          obtain ⟨c, hl, hk, hcc⟩ := hcell j (vb x) (by rw [List.getElem?_map, hx]; rfl)
          obtain ⟨rfl, _⟩ := hk
          rw [cel_vb]
          refine ⟨rfl, loadVar_at 28 (ad'.add (j * 16)) (vb x) (fun q v hq => ?_) _ Try.underlying28 rfl (by rw [info16, hl]; rfl)⟩
          have e : (ad'.add (j * 16)).add q = ad'.add (j * 16 + q) := Go.Deep.add_add ad' (j * 16) q
          rw [e]
          exact hcc q v hq⟩
        have HHW := Aside0.mk (show ∀ W : World, Below wl.heap.size wl W → HM lo W g Bs (Bs.flatten.length : Int) m from fun W hW => HM.below (by rw [hwl]; exact HH.out) hW)
        have HBW := Aside0.mk (show ∀ W : World, Below wl.heap.size wl W → Below w.heap.size w W from fun W hW => Below.trans (by rw [hwl]; exact HB.out) (hW.mono (by rw [hwl]; exact below_size HB.out)))
        have HB0 : Aside0 (Below wl.heap.size wl wr) := ⟨by rw [hwl]; exact Below.refl _ _⟩
        have HMI : Aside0 (M ≤ 300) := ⟨by have := HVN.out; have := HNB.out; omega⟩
        clear hwl hl6 hr6 hl7 hr7 HS HV HB HH HI hM hMv
        go_wp2_with fail
        go_loopg [14] (M : Nat) (fun kq v14 w' => ∃ j : Nat, v14 = .int .i64 (j : Int) ∧ Aside0 (j + kq = M) ∧ Aside0 (Below wl.heap.size wl w'))
        case atStart => exact ⟨0, rfl, ⟨by omega⟩, HB0⟩
        case round =>
          obtain ⟨j, rfl, HJ, HB⟩ := hrel
          clear HB0
          cases gk with
          | zero =>
            obtain rfl : j = M := by have := HJ.out; omega
            have tM : decide ((j : Int) < (j : Int)) = false := decide_eq_false (by omega)
            have hAs : A.size = Bs.flatten.length := by rw [← HA.out, bytes_len]
            have HSZ9 := Aside0.mk (fun W (hW : HM lo W g Bs (Bs.flatten.length : Int) m) => HM.size W hW)
            have HBY := Aside0.mk (fun W (hW : HM lo W g Bs (Bs.flatten.length : Int) m) => HM.bytes W hW (by have := HBN.out; have := HNB.out; omega) (fun b hb => (HGB.out b hb).2) (fun b hb => (HGB.out b hb).1) (by have := HFL.out; have := HNB.out; omega))
            rw [← hAs] at HSZ9 HBY
            rw [← HA.out] at HBY
            have HHX := Aside0.mk HHW.out
            rw [← hAs] at HHX
            clear HHW
            go_wp2_with fail
            refine (HSZ9.out _ (HHX.out _ HB.out)).mono ?_
            rintro e w8 ⟨rfl, hb⟩
            have HB8 := Aside0.mk (below_step HB.out hb)
            clear HB hb
            go_wp2_with fail
            refine (HBY.out _ (HHX.out _ HB8.out)).mono ?_
            rintro e w9 ⟨A9, c9, rfl, hl9, hr9, hb⟩
            have HB9 := Aside0.mk (below_step HB8.out hb)
            try rw [bytes_len] at hl9
            try rw [bytes_len] at hr9
            have hcv := Kd.C_string (P := Try.prog) (c := c9) Try.underlying36 Try.underlying5 Try.underlying9 hr9
            rw [str_b] at hcv
            try rw [bytes_len]
            clear hl9 hr9 hb HB8 hAs
            go_wp2_with fail
            go_ret
            exact ⟨rfl, HBW.out _ HB9.out⟩
          | succ k2 =>
            have hj : j < M := by have := HJ.out; omega
            obtain ⟨s, hs⟩ : ∃ s, ins[j]? = some s := ⟨_, List.getElem?_eq_getElem (by rw [← HM0.out]; exact hj)⟩
            obtain ⟨x, hx⟩ : ∃ x, vs[j]? = some x := ⟨_, List.getElem?_eq_getElem (by rw [HMV.out]; exact hj)⟩
            have hho := HHO.out j x s hx hs
            have HGT := Aside0.mk (fun W (hW : HM lo W g Bs (Bs.flatten.length : Int) m) => HM.get x s W hW (by have := HBN.out; have := HNB.out; omega) hho)
            have HLN := Aside0.mk (fun W => view_Len.calls x W hho.1.ha hho.1.hb)
            rw [hho.1.hn] at HLN
            obtain ⟨ad6, had6⟩ : ∃ ad, A6 = some ad := ⟨_, (HRS.out _ HB.out j s hs).1⟩
            obtain ⟨ad7, had7⟩ : ∃ ad, A7 = some ad := ⟨_, (HRV.out _ HB.out j x hx).1⟩
            subst had6 had7
            simp only [Option.getD_some] at HRS HRV
            have HLD := Aside0.mk (HRV.out _ HB.out j x hx).2
            have HSJ := Aside0.mk hs
            have HXJ := Aside0.mk hx
            have p4 : ((0 : Int) ≤ (j : Int)) = True := eq_true (by omega)
            have q4 : ((j : Int) < (M : Int)) = True := eq_true (by omega)
            have q4n : (j < M) = True := eq_true hj
            have t4 : decide ((j : Int) < (M : Int)) = true := decide_eq_true (by omega)
            have t4n : decide (j < M) = true := decide_eq_true hj
            have hwj : wrap64 ((j : Int) + 1) = ((j + 1 : Nat) : Int) := wr1 j (by have := HMI.out; omega)
            have HWJ := Aside0.mk hwj
            clear hj hs hx hho hwj
            go_wp2_with (first | ((with_reducible refine gate_dst (N := 114) rfl ?_); refine Kd.event_run rfl (load_exec (x := .tmp 113) rfl rfl HLD.out) ?_))
            refine (HGT.out _ (HHW.out _ HB.out)).mono ?_
            rintro e w8 ⟨rfl, hb⟩
            have HB8 := Aside0.mk (below_step HB.out hb)
            have hc8 : w8.cell? (ad6.add j) = some (.string s) := (HRS.out _ HB8.out j s HSJ.out).2
            have HLD3 := Aside0.mk (HRV.out _ HB8.out j x HXJ.out).2
            clear hb HB HLD
            go_wp2_with (first | ((with_reducible refine gate_dst (N := 132) rfl ?_); refine Go.BigFrame.wpList_want ?hw (fun K hK => ?_); (case hw => rfl); refine wp_run (load_exec (x := .tmp 131) rfl rfl HLD3.out) ?_; refine hK _ _ ?_; clear hK K))
            refine (HLN.out _).mono ?_
            rintro e w9 ⟨rfl, hb⟩
            have HB9 := Aside0.mk (below_step HB8.out hb)
            clear hb hc8 HB8
            go_wp2_with fail
            go_roundg k2
            case measure => omega
            case rel => exact ⟨j + 1, by first | rfl | (rw [HWJ.out]), ⟨by have := HJ.out; omega⟩, HB9⟩
      | succ k1 =>
        have hi : i < N := by have := HI.out; omega
        obtain ⟨s, hs⟩ : ∃ s, l0[i]? = some s := ⟨_, List.getElem?_eq_getElem (by rw [← HNE.out]; exact hi)⟩
        have HSI := Aside0.mk hs
        have HS5K := Aside0.mk (HSM.out s (List.mem_of_getElem? hs))
        have p3 : (0 : Int) ≤ (i : Int) := by omega
        have q3 : (i : Int) < (N : Int) := by omega
        have q3n : i < N := hi
        have ti : decide ((i : Int) < (N : Int)) = true := decide_eq_true q3
        have ti2 : decide (i < N) = true := decide_eq_true q3n
        obtain ⟨ad, had⟩ : ∃ ad, A0 = some ad := ⟨_, (HRD.out _ HB.out i s hs).1⟩
        subst had
        simp only [Option.getD_some] at HRD
        have hx : wr.cell? (ad.add i) = some (.string s) := (HRD.out _ HB.out i s hs).2
        have hwi : wrap64 ((i : Int) + 1) = ((i + 1 : Nat) : Int) := wr1 i (by have := HNB.out; omega)
        have HWI := Aside0.mk hwi
        have HAS : Aside0 (A.size = Bs.flatten.length) := ⟨by rw [← HA.out, bytes_len]⟩
        have hws : wrap64 (m - (A.size : Int)) = m - (A.size : Int) := by
          have := HMM.out
          have h9 : A.size ≤ 1500000 := by have := HFL.out; have := HAS.out; have := HNB.out; omega
          clear hwi ti
          unfold wrap64
          omega
        have HWS := Aside0.mk hws
        clear hwi hi hs hws
        replace p3 := eq_true p3
        replace q3 := eq_true q3
        by_cases h4 : s.size ≤ 4096
        · by_cases h12 : 12 < s.size
          · by_cases hfit : m - (Bs.flatten.length : Int) < (s.size : Int)
            · have t0 : decide (12 < (s.size : Int)) = true := decide_eq_true (by omega)
              have t1 : decide (4096 < (s.size : Int)) = false := decide_eq_false (by omega)
              have t2 : decide (m - (A.size : Int) < (s.size : Int)) = true := decide_eq_true (by rw [HAS.out]; exact hfit)
              have hws := HWS.out; rw [HME.out, Int.zero_sub] at hws t2
              have heq := HEQ.out
              go_wp2_with fail
              refine (HM.add_full s wr HH.out h12 h4 HMM.out (by have := HFL.out; have := HI.out; have := HNB.out; omega) hfit).mono ?_
              rintro e w4 ⟨rfl, hb⟩
              rw [← HZE.out]
              clear h4 h12 hfit
              have HB3 := Aside0.mk (HB.out.trans (hb.mono (below_size HB.out)))
              have HM4 := Aside0.mk (blk_new w4 (.cells Z 28))
              have HC4 := Aside0.mk (setRow_heap _ _ _ Z _ _ HM4.out)
              have hbw := below_row (below_alloc (Below.refl w4.heap.size w4) (.cells Z 28)) (Nat.le_refl _) Z
              have HB4 := Aside0.mk (below_step HB3.out hbw)
              have hx := (HRD.out _ HB4.out i s HSI.out).2
              have HS4 := Aside0.mk (Kd.R_below (Kd.R_below HS.out hb) hbw)
              have HV4 := Aside0.mk (Kd.R_below (Kd.R_below HV.out hb) hbw)
              have HH4 := Aside0.mk ((HH.out.below hb).below hbw)
              clear hb hbw
              go_wp2_with (first | ((with_reducible refine gate_store (t := 28) (p := 10) rfl ?_); refine wpList_store_row rfl 28 _ _ rfl w4.heap.size Z (by rfl) (by rfl) 28 Z HM4.out (by rw [info16, HSZ.out]) (HSZ.out.trans HSZ.out.symm) H1Z.out ?_) | ((with_reducible refine gate_dst (N := 78) rfl ?_); refine Go.BigFrame.wpList_want ?hw (fun K hK => ?_); (case hw => rfl); refine wp_load_row 28 _ rfl w4.heap.size ?hx 28 Z (0, 0) _ HC4.out Try.underlying28 rfl ?hi ?_; (case hx => rfl); (case hi => rw [info16, HSZ.out]); refine hK _ _ ?_; clear hK K) | ((with_reducible refine gate_dst (N := 79) rfl ?_); refine Go.BigFrame.wpList_want ?hw (fun K hK => ?_); (case hw => rfl); refine wp_build 28 #[] rfl Z ?hbu ?_; (case hbu => exact HBL.out); refine hK _ _ ?_; clear hK K))
              go_roundg k1
              case measure => omega
              case rel => exact ⟨i + 1, ins, vs, Bs, A, by first | rfl | (rw [HWI.out]), rfl, ⟨by have := HI.out; omega⟩, HIN, ⟨by have := HVN.out; omega⟩, HHO, HH4, HA, ⟨by have := HFL.out; omega⟩, ⟨by have := HBN.out; omega⟩, HGB, HS4, HV4, HB4⟩
            · have t0 : decide (12 < (s.size : Int)) = true := decide_eq_true (by omega)
              have t1 : decide (4096 < (s.size : Int)) = false := decide_eq_false (by omega)
              have t2 : decide (m - (A.size : Int) < (s.size : Int)) = false := decide_eq_false (by rw [HAS.out]; exact hfit)
              have hws := HWS.out; rw [HME.out, Int.zero_sub] at hws t2
              have HLG : Aside0 ((if 12 < s.size then bytesOf s else []) = bytesOf s) := ⟨if_pos h12⟩
              have hcat : (9223372036854775807 < A.size + s.size) = False := eq_false (by have := HAS.out; have := HFL.out; have := HNB.out; omega)
              go_wp2_with fail
              refine (HM.add_in s wr HH.out (Nat.le_trans HH.out.1 (Nat.le_of_lt HH.out.lt)) (by have := HBN.out; have := HI.out; have := HNB.out; omega) HGB.out h4 HMM.out (by have := HFL.out; have := HI.out; have := HNB.out; omega) (fun _ => by omega)).mono ?_
              rintro e w4 ⟨x, Bs', rfl, hh, hb, hkt, hho, hgr, hbl, hgb, hfl⟩
              obtain ⟨C, hC⟩ : ∃ C, C = cel x := ⟨_, rfl⟩
              have HSC : Aside0 (C.size = 16) := ⟨by rw [hC, cel_size, hho.1.ha]⟩
              have H1C : Aside0 (C.all (·.oneCell') = true) := ⟨by rw [hC]; exact cel_one _⟩
              have HCX : Aside0 (C.toList = vb x) := ⟨by rw [hC, cel_vb]⟩
              have HVL : Aside0 (C.toList.length = 16) := ⟨by rw [HCX.out]; unfold vb; rw [List.length_map, hho.1.ha]⟩
              have HV1 : Aside0 (∀ u ∈ C.toList, u.oneCell' = true) := ⟨by intro u hu; rw [HCX.out] at hu; unfold vb at hu; rw [List.mem_map] at hu; obtain ⟨_, _, rfl⟩ := hu; rfl⟩
              have HB3 := Aside0.mk (HB.out.trans (hb.mono HLW.out))
              have HM4 := Aside0.mk (blk_new w4 (.cells Z 28))
              have HC4 := Aside0.mk (setRow_heap _ _ _ C _ _ HM4.out)
              have hbw := below_row (below_alloc (Below.refl w4.heap.size w4) (.cells Z 28)) (Nat.le_refl _) C
              have HB4 := Aside0.mk (below_step HB3.out hbw)
              have hx := (HRD.out _ HB4.out i s HSI.out).2
              have HS4 := Aside0.mk (Kd.R_below (str_keep HS.out hkt) hbw)
              have HV4 := Aside0.mk (Kd.R_below (raw_keep HV.out hkt) hbw)
              have HH4 := Aside0.mk (hh.below hbw)
              have HHO4 := Aside0.mk (show ∀ (j : Nat) (y : List Int) (t : ByteArray), (vs ++ [x])[j]? = some y → (ins ++ [s])[j]? = some t → HoldsM Bs' y t from fun j y t hy ht => by
                rcases Nat.lt_or_ge j vs.length with hj | hj
                · rw [List.getElem?_append_left hj] at hy
                  rw [List.getElem?_append_left (by rw [HIN.out]; exact hj)] at ht
                  exact hgr _ _ (HHO.out j y t hy ht)
                · rw [List.getElem?_append_right hj] at hy
                  rw [List.getElem?_append_right (by rw [HIN.out]; exact hj), HIN.out] at ht
                  have hj0 : j - vs.length = 0 := by
                    rcases Nat.eq_zero_or_pos (j - vs.length) with h | h
                    · exact h
                    · rw [List.getElem?_eq_none (by simp; omega)] at hy; cases hy
                  rw [hj0] at hy ht
                  simp at hy ht
                  subst hy ht
                  exact hho)
              have HA4 : Aside0 (bytesOf (A ++ s) = Bs'.flatten) := ⟨by rw [hfl, ← HA.out, HLG.out]; exact bytes_app A s⟩
              have HFL4 : Aside0 (Bs'.flatten.length ≤ 5000 * (i + 1)) := ⟨by rw [hfl, HLG.out, List.length_append]; rw [bytes_len]; have := HS5K.out; have := HFL.out; omega⟩
              have HBN4 : Aside0 (Bs'.length ≤ i + 1) := ⟨by have := HBN.out; omega⟩
              have HGB4 := Aside0.mk hgb
              rw [← hC]
              clear hh hb hkt hho hgr hbl hgb hfl hbw hC hfit h4 h12
              go_wp2_with (first | ((with_reducible refine gate_store (t := 28) (p := 10) rfl ?_); refine wpList_store_row rfl 28 _ _ rfl w4.heap.size C (by rfl) (by rfl) 28 Z HM4.out (by rw [info16, HSC.out]) (HSZ.out.trans HSC.out.symm) H1C.out ?_) | ((with_reducible refine gate_dst (N := 100) rfl ?_); refine wpList_load_row rfl 28 _ rfl w4.heap.size (by rfl) 28 C (0, 0) _ HC5.out Try.underlying28 rfl (by rw [info16, HSC.out]) ?_) | ((with_reducible refine gate_dst (N := 101) rfl ?_); refine wpList_buildSlice rfl 27 28 1 _ rfl C I16 (.agg (cel z16)) Try.underlying27 HI16.out.1 HI16.out.2.1 (by rw [HI16.out.2.2]; decide) (by rw [HI16.out.2.2]; decide) ?bf ?_; (case bf => rw [HI16.out.2.2]; simp only [List.map_toArray, List.map_cons, List.map_nil]; exact fill16 C _ HSC.out (by simp))) | ((with_reducible refine gate_builtin (b := .append) (xs := #[.tmp 92, .tmp 97]) rfl ?_); at_builtin; refine Kd.R_append Kd.string (w0 := w) w.heap.size rfl (.tmp 92) (.tmp 97) 22 9 (.string ⟨#[]⟩) 16 rfl Try.underlying22 infoStr rfl (by decide) (by omega) _ ins s [.string s] (fun _ => True) (fun _ => False) rfl ?aX ?aP (fun _ hk => hk.elim) ?aF ?aO ?aB ?aS ?aL ?_; (case aX => first | rfl | (rw [size_row, World.size_alloc]; rfl)); (case aP => exact rfl); (case aB => exact HB4.out); (case aF => exact (fun _ _ => trivial)); (case aO => exact HS4.out); (case aS => exact below_size HB4.out); (case aL => have := HIN.out; have := HVN.out; have := HI.out; have := HNB.out; omega); intro v98 w5 ho hb hg hat; have HS5 := Aside0.mk ho; have HB5 := Aside0.mk hb; have HK5 := Aside0.mk (show ∀ (k : Nat) (cs : Array Value) (t : TypeId), t ≠ 9 → ((w4.alloc (.cells Z 28)).setRow w4.heap.size C).heap[k]? = some (.cells cs t (0, 0)) → w5.heap[k]? = some (.cells cs t (0, 0)) from fun k cs t ht hk => blk_grown hk hg (Kd.R_ne HS4.out hk (Ne.symm ht))); have HV5 := Aside0.mk (raw_keep2 HV4.out HK5.out); have HC5 := Aside0.mk (HK5.out _ _ _ (by decide) HC4.out); clear ho hb hg hat) | ((with_reducible refine gate_builtin (b := .append) (xs := #[.tmp 99, .tmp 101]) rfl ?_); at_builtin; refine Kd.R_append (Kd.raw 16) (w0 := w) w.heap.size rfl (.tmp 99) (.tmp 101) 27 28 (.agg (cel z16)) 16 rfl Try.underlying27 info16z rfl (by decide) (by omega) _ (vs.map vb) C.toList C.toList (fun _ => True) (fun _ => False) rfl rfl ?aP (fun _ hk => hk.elim) ?aF ?aO ?aB ?aS ?aL ?_; (case aP => exact ⟨rfl, HVL.out, HV1.out⟩); (case aB => exact HB5.out); (case aF => exact (fun _ _ => trivial)); (case aO => exact HV5.out); (case aS => exact below_size HB5.out); (case aL => have := HVN.out; have := HI.out; have := HNB.out; simp; omega); intro v102 w6 ho hb hg hat; have HO6 := Aside0.mk ho; have HB6 := Aside0.mk hb; have HK6 := Aside0.mk (show ∀ (k : Nat) (cs : Array Value) (t : TypeId), t ≠ 28 → w5.heap[k]? = some (.cells cs t (0, 0)) → w6.heap[k]? = some (.cells cs t (0, 0)) from fun k cs t ht hk => blk_grown hk hg (Kd.R_ne HV5.out hk (Ne.symm ht))); clear ho hb hg hat))
              have HH6 := Aside0.mk ((HH4.out.keep (fun k cs t ht hk => HK5.out k cs t (by rcases ht with rfl | rfl | rfl <;> decide) hk)).keep (fun k cs t ht hk => HK6.out k cs t (by rcases ht with rfl | rfl | rfl <;> decide) hk))
              have HS6 := Aside0.mk (str_keep2 HS5.out HK6.out)
              have HV6 := Aside0.mk (show (Kd.raw 16).R 28 w6 w.heap.size (fun _ => True) v102 ((vs ++ [x]).map vb) from by have h9 := HO6.out; rw [HCX.out] at h9; rw [List.map_append]; exact h9)
              go_roundg k1
              case measure => omega
              case rel => exact ⟨i + 1, ins ++ [s], vs ++ [x], Bs', (A ++ s), by first | rfl | (rw [HWI.out]), rfl, ⟨by have := HI.out; omega⟩, ⟨by rw [List.length_append, List.length_append, HIN.out]; rfl⟩, ⟨by rw [List.length_append]; have := HVN.out; simp; omega⟩, HHO4, HH6, HA4, HFL4, HBN4, HGB4, HS6, HV6, HB6⟩
          · have t0 : decide (12 < (s.size : Int)) = false := decide_eq_false (by omega)
            have t1 : decide (4096 < (s.size : Int)) = false := decide_eq_false (by omega)
            have HLG : Aside0 ((if 12 < s.size then bytesOf s else []) = []) := ⟨if_neg h12⟩
            go_wp2_with fail
            refine (HM.add_in s wr HH.out (Nat.le_trans HH.out.1 (Nat.le_of_lt HH.out.lt)) (by have := HBN.out; have := HI.out; have := HNB.out; omega) HGB.out h4 HMM.out (by have := HFL.out; have := HI.out; have := HNB.out; omega) (fun h => by omega)).mono ?_
            rintro e w4 ⟨x, Bs', rfl, hh, hb, hkt, hho, hgr, hbl, hgb, hfl⟩
            obtain ⟨C, hC⟩ : ∃ C, C = cel x := ⟨_, rfl⟩
            have HSC : Aside0 (C.size = 16) := ⟨by rw [hC, cel_size, hho.1.ha]⟩
            have H1C : Aside0 (C.all (·.oneCell') = true) := ⟨by rw [hC]; exact cel_one _⟩
            have HCX : Aside0 (C.toList = vb x) := ⟨by rw [hC, cel_vb]⟩
            have HVL : Aside0 (C.toList.length = 16) := ⟨by rw [HCX.out]; unfold vb; rw [List.length_map, hho.1.ha]⟩
            have HV1 : Aside0 (∀ u ∈ C.toList, u.oneCell' = true) := ⟨by intro u hu; rw [HCX.out] at hu; unfold vb at hu; rw [List.mem_map] at hu; obtain ⟨_, _, rfl⟩ := hu; rfl⟩
            have HB3 := Aside0.mk (HB.out.trans (hb.mono HLW.out))
            have HM4 := Aside0.mk (blk_new w4 (.cells Z 28))
            have HC4 := Aside0.mk (setRow_heap _ _ _ C _ _ HM4.out)
            have hbw := below_row (below_alloc (Below.refl w4.heap.size w4) (.cells Z 28)) (Nat.le_refl _) C
            have HB4 := Aside0.mk (below_step HB3.out hbw)
            have hx := (HRD.out _ HB4.out i s HSI.out).2
            have HS4 := Aside0.mk (Kd.R_below (str_keep HS.out hkt) hbw)
            have HV4 := Aside0.mk (Kd.R_below (raw_keep HV.out hkt) hbw)
            have HH4 := Aside0.mk (hh.below hbw)
            have HHO4 := Aside0.mk (show ∀ (j : Nat) (y : List Int) (t : ByteArray), (vs ++ [x])[j]? = some y → (ins ++ [s])[j]? = some t → HoldsM Bs' y t from fun j y t hy ht => by
              rcases Nat.lt_or_ge j vs.length with hj | hj
              · rw [List.getElem?_append_left hj] at hy
                rw [List.getElem?_append_left (by rw [HIN.out]; exact hj)] at ht
                exact hgr _ _ (HHO.out j y t hy ht)
              · rw [List.getElem?_append_right hj] at hy
                rw [List.getElem?_append_right (by rw [HIN.out]; exact hj), HIN.out] at ht
                have hj0 : j - vs.length = 0 := by
                  rcases Nat.eq_zero_or_pos (j - vs.length) with h | h
                  · exact h
                  · rw [List.getElem?_eq_none (by simp; omega)] at hy; cases hy
                rw [hj0] at hy ht
                simp at hy ht
                subst hy ht
                exact hho)
            have HA4 : Aside0 (bytesOf A = Bs'.flatten) := ⟨by rw [hfl, ← HA.out, HLG.out]; simp⟩
            have HFL4 : Aside0 (Bs'.flatten.length ≤ 5000 * (i + 1)) := ⟨by rw [hfl, HLG.out, List.length_append]; simp only [List.length_nil]; have := HFL.out; omega⟩
            have HBN4 : Aside0 (Bs'.length ≤ i + 1) := ⟨by have := HBN.out; omega⟩
            have HGB4 := Aside0.mk hgb
            rw [← hC]
            clear hh hb hkt hho hgr hbl hgb hfl hbw hC h4 h12
            go_wp2_with (first | ((with_reducible refine gate_store (t := 28) (p := 10) rfl ?_); refine wpList_store_row rfl 28 _ _ rfl w4.heap.size C (by rfl) (by rfl) 28 Z HM4.out (by rw [info16, HSC.out]) (HSZ.out.trans HSC.out.symm) H1C.out ?_) | ((with_reducible refine gate_dst (N := 100) rfl ?_); refine wpList_load_row rfl 28 _ rfl w4.heap.size (by rfl) 28 C (0, 0) _ HC5.out Try.underlying28 rfl (by rw [info16, HSC.out]) ?_) | ((with_reducible refine gate_dst (N := 101) rfl ?_); refine wpList_buildSlice rfl 27 28 1 _ rfl C I16 (.agg (cel z16)) Try.underlying27 HI16.out.1 HI16.out.2.1 (by rw [HI16.out.2.2]; decide) (by rw [HI16.out.2.2]; decide) ?bf ?_; (case bf => rw [HI16.out.2.2]; simp only [List.map_toArray, List.map_cons, List.map_nil]; exact fill16 C _ HSC.out (by simp))) | ((with_reducible refine gate_builtin (b := .append) (xs := #[.tmp 92, .tmp 97]) rfl ?_); at_builtin; refine Kd.R_append Kd.string (w0 := w) w.heap.size rfl (.tmp 92) (.tmp 97) 22 9 (.string ⟨#[]⟩) 16 rfl Try.underlying22 infoStr rfl (by decide) (by omega) _ ins s [.string s] (fun _ => True) (fun _ => False) rfl ?aX ?aP (fun _ hk => hk.elim) ?aF ?aO ?aB ?aS ?aL ?_; (case aX => first | rfl | (rw [size_row, World.size_alloc]; rfl)); (case aP => exact rfl); (case aB => exact HB4.out); (case aF => exact (fun _ _ => trivial)); (case aO => exact HS4.out); (case aS => exact below_size HB4.out); (case aL => have := HIN.out; have := HVN.out; have := HI.out; have := HNB.out; omega); intro v98 w5 ho hb hg hat; have HS5 := Aside0.mk ho; have HB5 := Aside0.mk hb; have HK5 := Aside0.mk (show ∀ (k : Nat) (cs : Array Value) (t : TypeId), t ≠ 9 → ((w4.alloc (.cells Z 28)).setRow w4.heap.size C).heap[k]? = some (.cells cs t (0, 0)) → w5.heap[k]? = some (.cells cs t (0, 0)) from fun k cs t ht hk => blk_grown hk hg (Kd.R_ne HS4.out hk (Ne.symm ht))); have HV5 := Aside0.mk (raw_keep2 HV4.out HK5.out); have HC5 := Aside0.mk (HK5.out _ _ _ (by decide) HC4.out); clear ho hb hg hat) | ((with_reducible refine gate_builtin (b := .append) (xs := #[.tmp 99, .tmp 101]) rfl ?_); at_builtin; refine Kd.R_append (Kd.raw 16) (w0 := w) w.heap.size rfl (.tmp 99) (.tmp 101) 27 28 (.agg (cel z16)) 16 rfl Try.underlying27 info16z rfl (by decide) (by omega) _ (vs.map vb) C.toList C.toList (fun _ => True) (fun _ => False) rfl rfl ?aP (fun _ hk => hk.elim) ?aF ?aO ?aB ?aS ?aL ?_; (case aP => exact ⟨rfl, HVL.out, HV1.out⟩); (case aB => exact HB5.out); (case aF => exact (fun _ _ => trivial)); (case aO => exact HV5.out); (case aS => exact below_size HB5.out); (case aL => have := HVN.out; have := HI.out; have := HNB.out; simp; omega); intro v102 w6 ho hb hg hat; have HO6 := Aside0.mk ho; have HB6 := Aside0.mk hb; have HK6 := Aside0.mk (show ∀ (k : Nat) (cs : Array Value) (t : TypeId), t ≠ 28 → w5.heap[k]? = some (.cells cs t (0, 0)) → w6.heap[k]? = some (.cells cs t (0, 0)) from fun k cs t ht hk => blk_grown hk hg (Kd.R_ne HV5.out hk (Ne.symm ht))); clear ho hb hg hat))
            have HH6 := Aside0.mk ((HH4.out.keep (fun k cs t ht hk => HK5.out k cs t (by rcases ht with rfl | rfl | rfl <;> decide) hk)).keep (fun k cs t ht hk => HK6.out k cs t (by rcases ht with rfl | rfl | rfl <;> decide) hk))
            have HS6 := Aside0.mk (str_keep2 HS5.out HK6.out)
            have HV6 := Aside0.mk (show (Kd.raw 16).R 28 w6 w.heap.size (fun _ => True) v102 ((vs ++ [x]).map vb) from by have h9 := HO6.out; rw [HCX.out] at h9; rw [List.map_append]; exact h9)
            go_roundg k1
            case measure => omega
            case rel => exact ⟨i + 1, ins ++ [s], vs ++ [x], Bs', A, by first | rfl | (rw [HWI.out]), rfl, ⟨by have := HI.out; omega⟩, ⟨by rw [List.length_append, List.length_append, HIN.out]; rfl⟩, ⟨by rw [List.length_append]; have := HVN.out; simp; omega⟩, HHO4, HH6, HA4, HFL4, HBN4, HGB4, HS6, HV6, HB6⟩
        · have t0 : decide (12 < (s.size : Int)) = true := decide_eq_true (by omega)
          have t1 : decide (4096 < (s.size : Int)) = true := decide_eq_true (by omega)
          have heq := HEQ.out
          go_wp2_with fail
          refine (add_big g s wr (by omega)).mono ?_
          rintro e w4 ⟨rfl, hb⟩
          rw [← HZE.out]
          clear h4
          have HB3 := Aside0.mk (HB.out.trans (hb.mono (below_size HB.out)))
          have HM4 := Aside0.mk (blk_new w4 (.cells Z 28))
          have HC4 := Aside0.mk (setRow_heap _ _ _ Z _ _ HM4.out)
          have hbw := below_row (below_alloc (Below.refl w4.heap.size w4) (.cells Z 28)) (Nat.le_refl _) Z
          have HB4 := Aside0.mk (below_step HB3.out hbw)
          have hx := (HRD.out _ HB4.out i s HSI.out).2
          have HS4 := Aside0.mk (Kd.R_below (Kd.R_below HS.out hb) hbw)
          have HV4 := Aside0.mk (Kd.R_below (Kd.R_below HV.out hb) hbw)
          have HH4 := Aside0.mk ((HH.out.below hb).below hbw)
          clear hb hbw
          go_wp2_with (first | ((with_reducible refine gate_store (t := 28) (p := 10) rfl ?_); refine wpList_store_row rfl 28 _ _ rfl w4.heap.size Z (by rfl) (by rfl) 28 Z HM4.out (by rw [info16, HSZ.out]) (HSZ.out.trans HSZ.out.symm) H1Z.out ?_) | ((with_reducible refine gate_dst (N := 78) rfl ?_); refine Go.BigFrame.wpList_want ?hw (fun K hK => ?_); (case hw => rfl); refine wp_load_row 28 _ rfl w4.heap.size ?hx 28 Z (0, 0) _ HC4.out Try.underlying28 rfl ?hi ?_; (case hx => rfl); (case hi => rw [info16, HSZ.out]); refine hK _ _ ?_; clear hK K) | ((with_reducible refine gate_dst (N := 79) rfl ?_); refine Go.BigFrame.wpList_want ?hw (fun K hK => ?_); (case hw => rfl); refine wp_build 28 #[] rfl Z ?hbu ?_; (case hbu => exact HBL.out); refine hK _ _ ?_; clear hK K))
          go_roundg k1
          case measure => omega
          case rel => exact ⟨i + 1, ins, vs, Bs, A, by first | rfl | (rw [HWI.out]), rfl, ⟨by have := HI.out; omega⟩, HIN, ⟨by have := HVN.out; omega⟩, HHO, HH4, HA, ⟨by have := HFL.out; omega⟩, ⟨by have := HBN.out; omega⟩, HGB, HS4, HV4, HB4⟩
set_option maxHeartbeats 8000000 in
set_option maxRecDepth 100000 in
theorem HeapAdds_pos (A0 : Option Addr) (c0 : Nat) (l0 : List ByteArray) (a1 : Int) (w : World) (hcl : l0.length ≤ c0) (hr : Kd.C Kd.string w A0 l0.length l0) (hwf : (Lit.int .i64 a1).wf = true) (hneg : ¬ a1 < 0) :
    Calls Try.prog 3 #[.slice A0 l0.length c0, .int .i64 a1] w fun e w' => e = .returned (.bool true) ∧ Below w.heap.size w w' := by
  obtain ⟨r, hev, hfew⟩ := few_f l0
  obtain ⟨kf, hkf⟩ := hev.rounds
  have hm : 0 ≤ (if a1 < 0 then 0 else a1) ∧ (if a1 < 0 then 0 else a1) ≤ 9223372036854775807 := by
    have := wf_i64 hwf
    by_cases h : a1 < 0
    · rw [if_pos h]; omega
    · rw [if_neg h]; omega
  have tm : decide (a1 < 0) = false := decide_eq_false (by omega)
  rw [if_neg hneg] at hm
  have HFew := Aside0.mk (fun W (hW : Kd.C Kd.string W A0 l0.length l0) => hopperref07_Few.calls kf A0 c0 l0 r W hW hcl hkf)
  obtain ⟨N, hN⟩ : ∃ N, N = l0.length := ⟨_, rfl⟩
  have HRD : Aside0 (∀ W, Below w.heap.size w W → ∀ (i : Nat) (s : ByteArray), l0[i]? = some s → A0 = some (A0.getD ⟨0, 0, none⟩) ∧ W.cell? ((A0.getD ⟨0, 0, none⟩).add i) = some (.string s)) := ⟨fun W hW i s hs => by
    have hi := (List.getElem?_eq_some_iff.1 hs).1
    obtain ⟨ad, e, hc⟩ := Kd.at_string (Kd.C_below hr hW) (i : Int) (by omega) (by omega)
    have hrd : rdOf ByteArray.empty l0 (i : Int) = s := by simp [rdOf, List.getD_eq_getElem?_getD, hs]
    rw [hrd, Int.toNat_natCast] at hc
    subst e
    exact ⟨rfl, hc⟩⟩
  have HL := Aside0.mk hr
  have HNE := Aside0.mk hN
  rw [← hN] at HFew HL ⊢
  rw [← hN] at hfew
  have HFW := Aside0.mk hfew
  obtain ⟨m, hme⟩ : ∃ m, m = a1 := ⟨_, rfl⟩
  have HMM : Aside0 (0 ≤ m ∧ m ≤ 9223372036854775807) := ⟨by rw [hme]; exact hm⟩
  have hz := zero16
  have hgd := guard16
  obtain ⟨Z, hZ⟩ : ∃ Z, Z = cel z16 := ⟨_, rfl⟩
  rw [← hZ] at hz
  have HSZ : Aside0 (Z.size = 16) := ⟨by rw [hZ]; rfl⟩
  have H1Z : Aside0 (Z.all (·.oneCell') = true) := ⟨by rw [hZ]; exact cel_one _⟩
  have HBL : Aside0 (Try.prog.built 28 [] = some Z) := ⟨by rw [hZ]; kernel_rfl⟩
  have HZE := Aside0.mk hZ
  have heq : ∀ W, (Op.equalIn 10000 28 (.agg Z) (.agg Z)).run Try.prog W = .ok true W := fun W => by rw [hZ, eq16 z16 z16 rfl rfl W]; rfl
  have HEQ := Aside0.mk heq
  obtain ⟨I16, hi16, hzz⟩ := Option.map_eq_some_iff.1 info16z
  have HI16 := Aside0.mk (show Try.prog.info? 28 = some I16 ∧ I16.zero = some (.agg (cel z16)) ∧ I16.size = 16 by simp only [Prod.mk.injEq] at hzz; exact ⟨hi16, hzz.1, hzz.2.1⟩)
  have HB := Aside0.mk (Below.refl w.heap.size w)
  have HTM := Aside0.mk tm
  have HME := Aside0.mk hme
  have HNG := Aside0.mk hneg
  clear hcl hr hwf hfew hev hkf hm hN hZ hi16 hzz hme hneg heq
  go_enter Try.func3, Try.ntmps3
  go_wp2_with fail
  refine (law7_awake _).mono ?_
  rintro e w1 ⟨rfl, hb⟩
  have HB1 := Aside0.mk (below_step HB.out hb)
  clear HB hb
  go_wp2_with fail
  refine (HFew.out _ (Kd.C_below HL.out HB1.out)).mono ?_
  rintro e w2 ⟨rfl, hb⟩
  have HB2 := Aside0.mk (below_step HB1.out hb.below)
  clear HB1 hb HFew
  cases r with
  | false =>
    go_wp2_with fail
    refine (law7_awake _).mono ?_
    rintro e w3 ⟨rfl, hb⟩
    have HB3 := Aside0.mk (below_step HB2.out hb)
    clear HB2 hb
    go_wp2_with fail
    go_ret
    exact ⟨rfl, HB3.out⟩
  | true =>
    have HNB : Aside0 (N ≤ 300) := ⟨(HFW.out rfl).1⟩
    have HSM : Aside0 (∀ s ∈ l0, s.size ≤ 5000) := ⟨(HFW.out rfl).2.1⟩
    go_wp2_with fail
    refine (HM.new a1 _).mono ?_
    rintro e w3 ⟨g, rfl, hh, hb⟩
    rw [if_neg (show ¬ a1 < 0 by have := HNG.out; omega)] at hh
    have hh : HM w2.heap.size w3 g [] 0 m := by rw [HME.out]; exact hh
    obtain ⟨lo, hlo⟩ : ∃ lo, Aside0 (lo = w2.heap.size ∧ w.heap.size ≤ lo) := ⟨_, ⟨rfl, below_size HB2.out⟩⟩
    rw [← hlo.out.1] at hh
    have HB3 := Aside0.mk (below_step HB2.out hb)
    have HLW := Aside0.mk hlo.out.2
    have HLS : Aside0 (lo ≤ w3.heap.size) := ⟨by rw [hlo.out.1]; exact hb.size⟩
    have HH3 := Aside0.mk hh
    clear HB2 hb hh
    go_wp2_with fail
    go_loopg [6, 7, 8, 9] (N : Nat) (fun kq v6 v7 v8 v9 w' => ∃ (i : Nat) (ins : List ByteArray) (vs : List (List Int)) (Bs : List (List Int)) (A : ByteArray), v9 = .int .i64 (i : Int) ∧ v8 = .string A ∧ Aside0 (i + kq = N) ∧ Aside0 (ins.length = vs.length) ∧ Aside0 (vs.length ≤ i) ∧ Aside0 (∀ (j : Nat) (x : List Int) (s : ByteArray), vs[j]? = some x → ins[j]? = some s → HoldsM Bs x s) ∧ Aside0 (HM lo w' g Bs (Bs.flatten.length : Int) m) ∧ Aside0 (bytesOf A = Bs.flatten) ∧ Aside0 (Bs.flatten.length ≤ 5000 * i) ∧ Aside0 (Bs.length ≤ i) ∧ Aside0 (GB Bs) ∧ Aside0 (Kd.R Kd.string 9 w' w.heap.size (fun _ => True) v6 ins) ∧ Aside0 ((Kd.raw 16).R 28 w' w.heap.size (fun _ => True) v7 (vs.map vb)) ∧ Aside0 (Below w.heap.size w w'))
    case atStart => exact ⟨0, [], [], [], ⟨#[]⟩, rfl, rfl, ⟨by omega⟩, ⟨rfl⟩, ⟨by simp⟩, ⟨fun j x s h => by simp at h⟩, HH3, ⟨rfl⟩, ⟨by simp⟩, ⟨by simp⟩, ⟨fun b hb => by simp at hb⟩, ⟨Kd.R_nil _ _ _ _ _⟩, ⟨Kd.R_nil _ _ _ _ _⟩, HB3⟩
    case round =>
      obtain ⟨i, ins, vs, Bs, A, rfl, rfl, HI, HIN, HVN, HHO, HH, HA, HFL, HBN, HGB, HS, HV, HB⟩ := hrel
      clear HH3 HB3
      cases gk with
      | zero =>
        obtain rfl : i = N := by have := HI.out; omega
        have tN : decide ((i : Int) < (i : Int)) = false := decide_eq_false (by omega)
        obtain ⟨A6, c6, hv6, hl6, hr6⟩ := Kd.R_reads HS.out
        obtain ⟨A7, c7, hv7, hl7, hr7⟩ := Kd.R_reads HV.out
        rw [List.length_map] at hv7 hl7 hr7
        obtain ⟨wl, hwl⟩ : ∃ W, W = wr := ⟨_, rfl⟩
        obtain ⟨M, hM⟩ : ∃ M, M = ins.length := ⟨_, rfl⟩
        have HM0 := Aside0.mk hM
        have hMv : vs.length = M := by rw [hM, HIN.out]
        have HMV := Aside0.mk hMv
        rw [← hM] at hv6 hl6 hr6
        rw [hMv] at hv7 hl7 hr7
        subst hv6 hv7
        have HRS : Aside0 (∀ W, Below wl.heap.size wl W → ∀ (j : Nat) (s : ByteArray), ins[j]? = some s → A6 = some (A6.getD ⟨0, 0, none⟩) ∧ W.cell? ((A6.getD ⟨0, 0, none⟩).add j) = some (.string s)) := ⟨fun W hW j s hs => by
          have hj := (List.getElem?_eq_some_iff.1 hs).1
          obtain ⟨ad, e, hc⟩ := Kd.at_string (Kd.C_below (by rw [hwl]; exact hr6) hW) (j : Int) (by omega) (by omega)
          have hrd : rdOf ByteArray.empty ins (j : Int) = s := by simp [rdOf, List.getD_eq_getElem?_getD, hs]
          rw [hrd, Int.toNat_natCast] at hc
          subst e
          exact ⟨rfl, hc⟩⟩
        have HRV : Aside0 (∀ W, Below wl.heap.size wl W → ∀ (j : Nat) (x : List Int), vs[j]? = some x → A7 = some (A7.getD ⟨0, 0, none⟩) ∧ (loadVar 28 ((A7.getD ⟨0, 0, none⟩).add (j * 16))).run Try.prog W = .ok (.agg (cel x)) W) := ⟨fun W hW j x hx => by
          have hj := (List.getElem?_eq_some_iff.1 hx).1
          have hcr : (Kd.raw 16).C W A7 M (vs.map vb) := Kd.C_below (by rw [hwl]; exact hr7) hW
          obtain ⟨ad', e, hcell⟩ := hcr.2.2 (by omega)
          subst e
          obtain ⟨c, hl, hk, hcc⟩ := hcell j (vb x) (by rw [List.getElem?_map, hx]; rfl)
          obtain ⟨rfl, _⟩ := hk
          rw [cel_vb]
          refine ⟨rfl, loadVar_at 28 (ad'.add (j * 16)) (vb x) (fun q v hq => ?_) _ Try.underlying28 rfl (by rw [info16, hl]; rfl)⟩
          have e : (ad'.add (j * 16)).add q = ad'.add (j * 16 + q) := Go.Deep.add_add ad' (j * 16) q
          rw [e]
          exact hcc q v hq⟩
        have HHW := Aside0.mk (show ∀ W : World, Below wl.heap.size wl W → HM lo W g Bs (Bs.flatten.length : Int) m from fun W hW => HM.below (by rw [hwl]; exact HH.out) hW)
        have HBW := Aside0.mk (show ∀ W : World, Below wl.heap.size wl W → Below w.heap.size w W from fun W hW => Below.trans (by rw [hwl]; exact HB.out) (hW.mono (by rw [hwl]; exact below_size HB.out)))
        have HB0 : Aside0 (Below wl.heap.size wl wr) := ⟨by rw [hwl]; exact Below.refl _ _⟩
        have HMI : Aside0 (M ≤ 300) := ⟨by have := HVN.out; have := HNB.out; omega⟩
        clear hwl hl6 hr6 hl7 hr7 HS HV HB HH HI hM hMv
        go_wp2_with fail
        go_loopg [14] (M : Nat) (fun kq v14 w' => ∃ j : Nat, v14 = .int .i64 (j : Int) ∧ Aside0 (j + kq = M) ∧ Aside0 (Below wl.heap.size wl w'))
        case atStart => exact ⟨0, rfl, ⟨by omega⟩, HB0⟩
        case round =>
          obtain ⟨j, rfl, HJ, HB⟩ := hrel
          clear HB0
          cases gk with
          | zero =>
            obtain rfl : j = M := by have := HJ.out; omega
            have tM : decide ((j : Int) < (j : Int)) = false := decide_eq_false (by omega)
            have hAs : A.size = Bs.flatten.length := by rw [← HA.out, bytes_len]
            have HSZ9 := Aside0.mk (fun W (hW : HM lo W g Bs (Bs.flatten.length : Int) m) => HM.size W hW)
            have HBY := Aside0.mk (fun W (hW : HM lo W g Bs (Bs.flatten.length : Int) m) => HM.bytes W hW (by have := HBN.out; have := HNB.out; omega) (fun b hb => (HGB.out b hb).2) (fun b hb => (HGB.out b hb).1) (by have := HFL.out; have := HNB.out; omega))
            rw [← hAs] at HSZ9 HBY
            rw [← HA.out] at HBY
            have HHX := Aside0.mk HHW.out
            rw [← hAs] at HHX
            clear HHW
            go_wp2_with fail
            refine (HSZ9.out _ (HHX.out _ HB.out)).mono ?_
            rintro e w8 ⟨rfl, hb⟩
            have HB8 := Aside0.mk (below_step HB.out hb)
            clear HB hb
            go_wp2_with fail
            refine (HBY.out _ (HHX.out _ HB8.out)).mono ?_
            rintro e w9 ⟨A9, c9, rfl, hl9, hr9, hb⟩
            have HB9 := Aside0.mk (below_step HB8.out hb)
            try rw [bytes_len] at hl9
            try rw [bytes_len] at hr9
            have hcv := Kd.C_string (P := Try.prog) (c := c9) Try.underlying36 Try.underlying5 Try.underlying9 hr9
            rw [str_b] at hcv
            try rw [bytes_len]
            clear hl9 hr9 hb HB8 hAs
            go_wp2_with fail
            go_ret
            exact ⟨rfl, HBW.out _ HB9.out⟩
          | succ k2 =>
            have hj : j < M := by have := HJ.out; omega
            obtain ⟨s, hs⟩ : ∃ s, ins[j]? = some s := ⟨_, List.getElem?_eq_getElem (by rw [← HM0.out]; exact hj)⟩
            obtain ⟨x, hx⟩ : ∃ x, vs[j]? = some x := ⟨_, List.getElem?_eq_getElem (by rw [HMV.out]; exact hj)⟩
            have hho := HHO.out j x s hx hs
            have HGT := Aside0.mk (fun W (hW : HM lo W g Bs (Bs.flatten.length : Int) m) => HM.get x s W hW (by have := HBN.out; have := HNB.out; omega) hho)
            have HLN := Aside0.mk (fun W => view_Len.calls x W hho.1.ha hho.1.hb)
            rw [hho.1.hn] at HLN
            obtain ⟨ad6, had6⟩ : ∃ ad, A6 = some ad := ⟨_, (HRS.out _ HB.out j s hs).1⟩
            obtain ⟨ad7, had7⟩ : ∃ ad, A7 = some ad := ⟨_, (HRV.out _ HB.out j x hx).1⟩
            subst had6 had7
            simp only [Option.getD_some] at HRS HRV
            have HLD := Aside0.mk (HRV.out _ HB.out j x hx).2
            have HSJ := Aside0.mk hs
            have HXJ := Aside0.mk hx
            have p4 : ((0 : Int) ≤ (j : Int)) = True := eq_true (by omega)
            have q4 : ((j : Int) < (M : Int)) = True := eq_true (by omega)
            have q4n : (j < M) = True := eq_true hj
            have t4 : decide ((j : Int) < (M : Int)) = true := decide_eq_true (by omega)
            have t4n : decide (j < M) = true := decide_eq_true hj
            have hwj : wrap64 ((j : Int) + 1) = ((j + 1 : Nat) : Int) := wr1 j (by have := HMI.out; omega)
            have HWJ := Aside0.mk hwj
            clear hj hs hx hho hwj
            go_wp2_with (first | ((with_reducible refine gate_dst (N := 114) rfl ?_); refine Kd.event_run rfl (load_exec (x := .tmp 113) rfl rfl HLD.out) ?_))
            refine (HGT.out _ (HHW.out _ HB.out)).mono ?_
            rintro e w8 ⟨rfl, hb⟩
            have HB8 := Aside0.mk (below_step HB.out hb)
            have hc8 : w8.cell? (ad6.add j) = some (.string s) := (HRS.out _ HB8.out j s HSJ.out).2
            have HLD3 := Aside0.mk (HRV.out _ HB8.out j x HXJ.out).2
            clear hb HB HLD
            go_wp2_with (first | ((with_reducible refine gate_dst (N := 132) rfl ?_); refine Go.BigFrame.wpList_want ?hw (fun K hK => ?_); (case hw => rfl); refine wp_run (load_exec (x := .tmp 131) rfl rfl HLD3.out) ?_; refine hK _ _ ?_; clear hK K))
            refine (HLN.out _).mono ?_
            rintro e w9 ⟨rfl, hb⟩
            have HB9 := Aside0.mk (below_step HB8.out hb)
            clear hb hc8 HB8
            go_wp2_with fail
            go_roundg k2
            case measure => omega
            case rel => exact ⟨j + 1, by first | rfl | (rw [HWJ.out]), ⟨by have := HJ.out; omega⟩, HB9⟩
      | succ k1 =>
        have hi : i < N := by have := HI.out; omega
        obtain ⟨s, hs⟩ : ∃ s, l0[i]? = some s := ⟨_, List.getElem?_eq_getElem (by rw [← HNE.out]; exact hi)⟩
        have HSI := Aside0.mk hs
        have HS5K := Aside0.mk (HSM.out s (List.mem_of_getElem? hs))
        have p3 : (0 : Int) ≤ (i : Int) := by omega
        have q3 : (i : Int) < (N : Int) := by omega
        have q3n : i < N := hi
        have ti : decide ((i : Int) < (N : Int)) = true := decide_eq_true q3
        have ti2 : decide (i < N) = true := decide_eq_true q3n
        obtain ⟨ad, had⟩ : ∃ ad, A0 = some ad := ⟨_, (HRD.out _ HB.out i s hs).1⟩
        subst had
        simp only [Option.getD_some] at HRD
        have hx : wr.cell? (ad.add i) = some (.string s) := (HRD.out _ HB.out i s hs).2
        have hwi : wrap64 ((i : Int) + 1) = ((i + 1 : Nat) : Int) := wr1 i (by have := HNB.out; omega)
        have HWI := Aside0.mk hwi
        have HAS : Aside0 (A.size = Bs.flatten.length) := ⟨by rw [← HA.out, bytes_len]⟩
        have hws : wrap64 (m - (A.size : Int)) = m - (A.size : Int) := by
          have := HMM.out
          have h9 : A.size ≤ 1500000 := by have := HFL.out; have := HAS.out; have := HNB.out; omega
          clear hwi ti
          unfold wrap64
          omega
        have HWS := Aside0.mk hws
        clear hwi hi hs hws
        replace p3 := eq_true p3
        replace q3 := eq_true q3
        by_cases h4 : s.size ≤ 4096
        · by_cases h12 : 12 < s.size
          · by_cases hfit : m - (Bs.flatten.length : Int) < (s.size : Int)
            · have t0 : decide (12 < (s.size : Int)) = true := decide_eq_true (by omega)
              have t1 : decide (4096 < (s.size : Int)) = false := decide_eq_false (by omega)
              have t2 : decide (m - (A.size : Int) < (s.size : Int)) = true := decide_eq_true (by rw [HAS.out]; exact hfit)
              have hws := HWS.out; rw [HME.out] at hws t2
              have heq := HEQ.out
              go_wp2_with fail
              refine (HM.add_full s wr HH.out h12 h4 HMM.out (by have := HFL.out; have := HI.out; have := HNB.out; omega) hfit).mono ?_
              rintro e w4 ⟨rfl, hb⟩
              rw [← HZE.out]
              clear h4 h12 hfit
              have HB3 := Aside0.mk (HB.out.trans (hb.mono (below_size HB.out)))
              have HM4 := Aside0.mk (blk_new w4 (.cells Z 28))
              have HC4 := Aside0.mk (setRow_heap _ _ _ Z _ _ HM4.out)
              have hbw := below_row (below_alloc (Below.refl w4.heap.size w4) (.cells Z 28)) (Nat.le_refl _) Z
              have HB4 := Aside0.mk (below_step HB3.out hbw)
              have hx := (HRD.out _ HB4.out i s HSI.out).2
              have HS4 := Aside0.mk (Kd.R_below (Kd.R_below HS.out hb) hbw)
              have HV4 := Aside0.mk (Kd.R_below (Kd.R_below HV.out hb) hbw)
              have HH4 := Aside0.mk ((HH.out.below hb).below hbw)
              clear hb hbw
              go_wp2_with (first | ((with_reducible refine gate_store (t := 28) (p := 10) rfl ?_); refine wpList_store_row rfl 28 _ _ rfl w4.heap.size Z (by rfl) (by rfl) 28 Z HM4.out (by rw [info16, HSZ.out]) (HSZ.out.trans HSZ.out.symm) H1Z.out ?_) | ((with_reducible refine gate_dst (N := 78) rfl ?_); refine Go.BigFrame.wpList_want ?hw (fun K hK => ?_); (case hw => rfl); refine wp_load_row 28 _ rfl w4.heap.size ?hx 28 Z (0, 0) _ HC4.out Try.underlying28 rfl ?hi ?_; (case hx => rfl); (case hi => rw [info16, HSZ.out]); refine hK _ _ ?_; clear hK K) | ((with_reducible refine gate_dst (N := 79) rfl ?_); refine Go.BigFrame.wpList_want ?hw (fun K hK => ?_); (case hw => rfl); refine wp_build 28 #[] rfl Z ?hbu ?_; (case hbu => exact HBL.out); refine hK _ _ ?_; clear hK K))
              go_roundg k1
              case measure => omega
              case rel => exact ⟨i + 1, ins, vs, Bs, A, by first | rfl | (rw [HWI.out]), rfl, ⟨by have := HI.out; omega⟩, HIN, ⟨by have := HVN.out; omega⟩, HHO, HH4, HA, ⟨by have := HFL.out; omega⟩, ⟨by have := HBN.out; omega⟩, HGB, HS4, HV4, HB4⟩
            · have t0 : decide (12 < (s.size : Int)) = true := decide_eq_true (by omega)
              have t1 : decide (4096 < (s.size : Int)) = false := decide_eq_false (by omega)
              have t2 : decide (m - (A.size : Int) < (s.size : Int)) = false := decide_eq_false (by rw [HAS.out]; exact hfit)
              have hws := HWS.out; rw [HME.out] at hws t2
              have HLG : Aside0 ((if 12 < s.size then bytesOf s else []) = bytesOf s) := ⟨if_pos h12⟩
              have hcat : (9223372036854775807 < A.size + s.size) = False := eq_false (by have := HAS.out; have := HFL.out; have := HNB.out; omega)
              go_wp2_with fail
              refine (HM.add_in s wr HH.out (Nat.le_trans HH.out.1 (Nat.le_of_lt HH.out.lt)) (by have := HBN.out; have := HI.out; have := HNB.out; omega) HGB.out h4 HMM.out (by have := HFL.out; have := HI.out; have := HNB.out; omega) (fun _ => by omega)).mono ?_
              rintro e w4 ⟨x, Bs', rfl, hh, hb, hkt, hho, hgr, hbl, hgb, hfl⟩
              obtain ⟨C, hC⟩ : ∃ C, C = cel x := ⟨_, rfl⟩
              have HSC : Aside0 (C.size = 16) := ⟨by rw [hC, cel_size, hho.1.ha]⟩
              have H1C : Aside0 (C.all (·.oneCell') = true) := ⟨by rw [hC]; exact cel_one _⟩
              have HCX : Aside0 (C.toList = vb x) := ⟨by rw [hC, cel_vb]⟩
              have HVL : Aside0 (C.toList.length = 16) := ⟨by rw [HCX.out]; unfold vb; rw [List.length_map, hho.1.ha]⟩
              have HV1 : Aside0 (∀ u ∈ C.toList, u.oneCell' = true) := ⟨by intro u hu; rw [HCX.out] at hu; unfold vb at hu; rw [List.mem_map] at hu; obtain ⟨_, _, rfl⟩ := hu; rfl⟩
              have HB3 := Aside0.mk (HB.out.trans (hb.mono HLW.out))
              have HM4 := Aside0.mk (blk_new w4 (.cells Z 28))
              have HC4 := Aside0.mk (setRow_heap _ _ _ C _ _ HM4.out)
              have hbw := below_row (below_alloc (Below.refl w4.heap.size w4) (.cells Z 28)) (Nat.le_refl _) C
              have HB4 := Aside0.mk (below_step HB3.out hbw)
              have hx := (HRD.out _ HB4.out i s HSI.out).2
              have HS4 := Aside0.mk (Kd.R_below (str_keep HS.out hkt) hbw)
              have HV4 := Aside0.mk (Kd.R_below (raw_keep HV.out hkt) hbw)
              have HH4 := Aside0.mk (hh.below hbw)
              have HHO4 := Aside0.mk (show ∀ (j : Nat) (y : List Int) (t : ByteArray), (vs ++ [x])[j]? = some y → (ins ++ [s])[j]? = some t → HoldsM Bs' y t from fun j y t hy ht => by
                rcases Nat.lt_or_ge j vs.length with hj | hj
                · rw [List.getElem?_append_left hj] at hy
                  rw [List.getElem?_append_left (by rw [HIN.out]; exact hj)] at ht
                  exact hgr _ _ (HHO.out j y t hy ht)
                · rw [List.getElem?_append_right hj] at hy
                  rw [List.getElem?_append_right (by rw [HIN.out]; exact hj), HIN.out] at ht
                  have hj0 : j - vs.length = 0 := by
                    rcases Nat.eq_zero_or_pos (j - vs.length) with h | h
                    · exact h
                    · rw [List.getElem?_eq_none (by simp; omega)] at hy; cases hy
                  rw [hj0] at hy ht
                  simp at hy ht
                  subst hy ht
                  exact hho)
              have HA4 : Aside0 (bytesOf (A ++ s) = Bs'.flatten) := ⟨by rw [hfl, ← HA.out, HLG.out]; exact bytes_app A s⟩
              have HFL4 : Aside0 (Bs'.flatten.length ≤ 5000 * (i + 1)) := ⟨by rw [hfl, HLG.out, List.length_append]; rw [bytes_len]; have := HS5K.out; have := HFL.out; omega⟩
              have HBN4 : Aside0 (Bs'.length ≤ i + 1) := ⟨by have := HBN.out; omega⟩
              have HGB4 := Aside0.mk hgb
              rw [← hC]
              clear hh hb hkt hho hgr hbl hgb hfl hbw hC hfit h4 h12
              go_wp2_with (first | ((with_reducible refine gate_store (t := 28) (p := 10) rfl ?_); refine wpList_store_row rfl 28 _ _ rfl w4.heap.size C (by rfl) (by rfl) 28 Z HM4.out (by rw [info16, HSC.out]) (HSZ.out.trans HSC.out.symm) H1C.out ?_) | ((with_reducible refine gate_dst (N := 100) rfl ?_); refine wpList_load_row rfl 28 _ rfl w4.heap.size (by rfl) 28 C (0, 0) _ HC5.out Try.underlying28 rfl (by rw [info16, HSC.out]) ?_) | ((with_reducible refine gate_dst (N := 101) rfl ?_); refine wpList_buildSlice rfl 27 28 1 _ rfl C I16 (.agg (cel z16)) Try.underlying27 HI16.out.1 HI16.out.2.1 (by rw [HI16.out.2.2]; decide) (by rw [HI16.out.2.2]; decide) ?bf ?_; (case bf => rw [HI16.out.2.2]; simp only [List.map_toArray, List.map_cons, List.map_nil]; exact fill16 C _ HSC.out (by simp))) | ((with_reducible refine gate_builtin (b := .append) (xs := #[.tmp 92, .tmp 97]) rfl ?_); at_builtin; refine Kd.R_append Kd.string (w0 := w) w.heap.size rfl (.tmp 92) (.tmp 97) 22 9 (.string ⟨#[]⟩) 16 rfl Try.underlying22 infoStr rfl (by decide) (by omega) _ ins s [.string s] (fun _ => True) (fun _ => False) rfl ?aX ?aP (fun _ hk => hk.elim) ?aF ?aO ?aB ?aS ?aL ?_; (case aX => first | rfl | (rw [size_row, World.size_alloc]; rfl)); (case aP => exact rfl); (case aB => exact HB4.out); (case aF => exact (fun _ _ => trivial)); (case aO => exact HS4.out); (case aS => exact below_size HB4.out); (case aL => have := HIN.out; have := HVN.out; have := HI.out; have := HNB.out; omega); intro v98 w5 ho hb hg hat; have HS5 := Aside0.mk ho; have HB5 := Aside0.mk hb; have HK5 := Aside0.mk (show ∀ (k : Nat) (cs : Array Value) (t : TypeId), t ≠ 9 → ((w4.alloc (.cells Z 28)).setRow w4.heap.size C).heap[k]? = some (.cells cs t (0, 0)) → w5.heap[k]? = some (.cells cs t (0, 0)) from fun k cs t ht hk => blk_grown hk hg (Kd.R_ne HS4.out hk (Ne.symm ht))); have HV5 := Aside0.mk (raw_keep2 HV4.out HK5.out); have HC5 := Aside0.mk (HK5.out _ _ _ (by decide) HC4.out); clear ho hb hg hat) | ((with_reducible refine gate_builtin (b := .append) (xs := #[.tmp 99, .tmp 101]) rfl ?_); at_builtin; refine Kd.R_append (Kd.raw 16) (w0 := w) w.heap.size rfl (.tmp 99) (.tmp 101) 27 28 (.agg (cel z16)) 16 rfl Try.underlying27 info16z rfl (by decide) (by omega) _ (vs.map vb) C.toList C.toList (fun _ => True) (fun _ => False) rfl rfl ?aP (fun _ hk => hk.elim) ?aF ?aO ?aB ?aS ?aL ?_; (case aP => exact ⟨rfl, HVL.out, HV1.out⟩); (case aB => exact HB5.out); (case aF => exact (fun _ _ => trivial)); (case aO => exact HV5.out); (case aS => exact below_size HB5.out); (case aL => have := HVN.out; have := HI.out; have := HNB.out; simp; omega); intro v102 w6 ho hb hg hat; have HO6 := Aside0.mk ho; have HB6 := Aside0.mk hb; have HK6 := Aside0.mk (show ∀ (k : Nat) (cs : Array Value) (t : TypeId), t ≠ 28 → w5.heap[k]? = some (.cells cs t (0, 0)) → w6.heap[k]? = some (.cells cs t (0, 0)) from fun k cs t ht hk => blk_grown hk hg (Kd.R_ne HV5.out hk (Ne.symm ht))); clear ho hb hg hat))
              have HH6 := Aside0.mk ((HH4.out.keep (fun k cs t ht hk => HK5.out k cs t (by rcases ht with rfl | rfl | rfl <;> decide) hk)).keep (fun k cs t ht hk => HK6.out k cs t (by rcases ht with rfl | rfl | rfl <;> decide) hk))
              have HS6 := Aside0.mk (str_keep2 HS5.out HK6.out)
              have HV6 := Aside0.mk (show (Kd.raw 16).R 28 w6 w.heap.size (fun _ => True) v102 ((vs ++ [x]).map vb) from by have h9 := HO6.out; rw [HCX.out] at h9; rw [List.map_append]; exact h9)
              go_roundg k1
              case measure => omega
              case rel => exact ⟨i + 1, ins ++ [s], vs ++ [x], Bs', (A ++ s), by first | rfl | (rw [HWI.out]), rfl, ⟨by have := HI.out; omega⟩, ⟨by rw [List.length_append, List.length_append, HIN.out]; rfl⟩, ⟨by rw [List.length_append]; have := HVN.out; simp; omega⟩, HHO4, HH6, HA4, HFL4, HBN4, HGB4, HS6, HV6, HB6⟩
          · have t0 : decide (12 < (s.size : Int)) = false := decide_eq_false (by omega)
            have t1 : decide (4096 < (s.size : Int)) = false := decide_eq_false (by omega)
            have HLG : Aside0 ((if 12 < s.size then bytesOf s else []) = []) := ⟨if_neg h12⟩
            go_wp2_with fail
            refine (HM.add_in s wr HH.out (Nat.le_trans HH.out.1 (Nat.le_of_lt HH.out.lt)) (by have := HBN.out; have := HI.out; have := HNB.out; omega) HGB.out h4 HMM.out (by have := HFL.out; have := HI.out; have := HNB.out; omega) (fun h => by omega)).mono ?_
            rintro e w4 ⟨x, Bs', rfl, hh, hb, hkt, hho, hgr, hbl, hgb, hfl⟩
            obtain ⟨C, hC⟩ : ∃ C, C = cel x := ⟨_, rfl⟩
            have HSC : Aside0 (C.size = 16) := ⟨by rw [hC, cel_size, hho.1.ha]⟩
            have H1C : Aside0 (C.all (·.oneCell') = true) := ⟨by rw [hC]; exact cel_one _⟩
            have HCX : Aside0 (C.toList = vb x) := ⟨by rw [hC, cel_vb]⟩
            have HVL : Aside0 (C.toList.length = 16) := ⟨by rw [HCX.out]; unfold vb; rw [List.length_map, hho.1.ha]⟩
            have HV1 : Aside0 (∀ u ∈ C.toList, u.oneCell' = true) := ⟨by intro u hu; rw [HCX.out] at hu; unfold vb at hu; rw [List.mem_map] at hu; obtain ⟨_, _, rfl⟩ := hu; rfl⟩
            have HB3 := Aside0.mk (HB.out.trans (hb.mono HLW.out))
            have HM4 := Aside0.mk (blk_new w4 (.cells Z 28))
            have HC4 := Aside0.mk (setRow_heap _ _ _ C _ _ HM4.out)
            have hbw := below_row (below_alloc (Below.refl w4.heap.size w4) (.cells Z 28)) (Nat.le_refl _) C
            have HB4 := Aside0.mk (below_step HB3.out hbw)
            have hx := (HRD.out _ HB4.out i s HSI.out).2
            have HS4 := Aside0.mk (Kd.R_below (str_keep HS.out hkt) hbw)
            have HV4 := Aside0.mk (Kd.R_below (raw_keep HV.out hkt) hbw)
            have HH4 := Aside0.mk (hh.below hbw)
            have HHO4 := Aside0.mk (show ∀ (j : Nat) (y : List Int) (t : ByteArray), (vs ++ [x])[j]? = some y → (ins ++ [s])[j]? = some t → HoldsM Bs' y t from fun j y t hy ht => by
              rcases Nat.lt_or_ge j vs.length with hj | hj
              · rw [List.getElem?_append_left hj] at hy
                rw [List.getElem?_append_left (by rw [HIN.out]; exact hj)] at ht
                exact hgr _ _ (HHO.out j y t hy ht)
              · rw [List.getElem?_append_right hj] at hy
                rw [List.getElem?_append_right (by rw [HIN.out]; exact hj), HIN.out] at ht
                have hj0 : j - vs.length = 0 := by
                  rcases Nat.eq_zero_or_pos (j - vs.length) with h | h
                  · exact h
                  · rw [List.getElem?_eq_none (by simp; omega)] at hy; cases hy
                rw [hj0] at hy ht
                simp at hy ht
                subst hy ht
                exact hho)
            have HA4 : Aside0 (bytesOf A = Bs'.flatten) := ⟨by rw [hfl, ← HA.out, HLG.out]; simp⟩
            have HFL4 : Aside0 (Bs'.flatten.length ≤ 5000 * (i + 1)) := ⟨by rw [hfl, HLG.out, List.length_append]; simp only [List.length_nil]; have := HFL.out; omega⟩
            have HBN4 : Aside0 (Bs'.length ≤ i + 1) := ⟨by have := HBN.out; omega⟩
            have HGB4 := Aside0.mk hgb
            rw [← hC]
            clear hh hb hkt hho hgr hbl hgb hfl hbw hC h4 h12
            go_wp2_with (first | ((with_reducible refine gate_store (t := 28) (p := 10) rfl ?_); refine wpList_store_row rfl 28 _ _ rfl w4.heap.size C (by rfl) (by rfl) 28 Z HM4.out (by rw [info16, HSC.out]) (HSZ.out.trans HSC.out.symm) H1C.out ?_) | ((with_reducible refine gate_dst (N := 100) rfl ?_); refine wpList_load_row rfl 28 _ rfl w4.heap.size (by rfl) 28 C (0, 0) _ HC5.out Try.underlying28 rfl (by rw [info16, HSC.out]) ?_) | ((with_reducible refine gate_dst (N := 101) rfl ?_); refine wpList_buildSlice rfl 27 28 1 _ rfl C I16 (.agg (cel z16)) Try.underlying27 HI16.out.1 HI16.out.2.1 (by rw [HI16.out.2.2]; decide) (by rw [HI16.out.2.2]; decide) ?bf ?_; (case bf => rw [HI16.out.2.2]; simp only [List.map_toArray, List.map_cons, List.map_nil]; exact fill16 C _ HSC.out (by simp))) | ((with_reducible refine gate_builtin (b := .append) (xs := #[.tmp 92, .tmp 97]) rfl ?_); at_builtin; refine Kd.R_append Kd.string (w0 := w) w.heap.size rfl (.tmp 92) (.tmp 97) 22 9 (.string ⟨#[]⟩) 16 rfl Try.underlying22 infoStr rfl (by decide) (by omega) _ ins s [.string s] (fun _ => True) (fun _ => False) rfl ?aX ?aP (fun _ hk => hk.elim) ?aF ?aO ?aB ?aS ?aL ?_; (case aX => first | rfl | (rw [size_row, World.size_alloc]; rfl)); (case aP => exact rfl); (case aB => exact HB4.out); (case aF => exact (fun _ _ => trivial)); (case aO => exact HS4.out); (case aS => exact below_size HB4.out); (case aL => have := HIN.out; have := HVN.out; have := HI.out; have := HNB.out; omega); intro v98 w5 ho hb hg hat; have HS5 := Aside0.mk ho; have HB5 := Aside0.mk hb; have HK5 := Aside0.mk (show ∀ (k : Nat) (cs : Array Value) (t : TypeId), t ≠ 9 → ((w4.alloc (.cells Z 28)).setRow w4.heap.size C).heap[k]? = some (.cells cs t (0, 0)) → w5.heap[k]? = some (.cells cs t (0, 0)) from fun k cs t ht hk => blk_grown hk hg (Kd.R_ne HS4.out hk (Ne.symm ht))); have HV5 := Aside0.mk (raw_keep2 HV4.out HK5.out); have HC5 := Aside0.mk (HK5.out _ _ _ (by decide) HC4.out); clear ho hb hg hat) | ((with_reducible refine gate_builtin (b := .append) (xs := #[.tmp 99, .tmp 101]) rfl ?_); at_builtin; refine Kd.R_append (Kd.raw 16) (w0 := w) w.heap.size rfl (.tmp 99) (.tmp 101) 27 28 (.agg (cel z16)) 16 rfl Try.underlying27 info16z rfl (by decide) (by omega) _ (vs.map vb) C.toList C.toList (fun _ => True) (fun _ => False) rfl rfl ?aP (fun _ hk => hk.elim) ?aF ?aO ?aB ?aS ?aL ?_; (case aP => exact ⟨rfl, HVL.out, HV1.out⟩); (case aB => exact HB5.out); (case aF => exact (fun _ _ => trivial)); (case aO => exact HV5.out); (case aS => exact below_size HB5.out); (case aL => have := HVN.out; have := HI.out; have := HNB.out; simp; omega); intro v102 w6 ho hb hg hat; have HO6 := Aside0.mk ho; have HB6 := Aside0.mk hb; have HK6 := Aside0.mk (show ∀ (k : Nat) (cs : Array Value) (t : TypeId), t ≠ 28 → w5.heap[k]? = some (.cells cs t (0, 0)) → w6.heap[k]? = some (.cells cs t (0, 0)) from fun k cs t ht hk => blk_grown hk hg (Kd.R_ne HV5.out hk (Ne.symm ht))); clear ho hb hg hat))
            have HH6 := Aside0.mk ((HH4.out.keep (fun k cs t ht hk => HK5.out k cs t (by rcases ht with rfl | rfl | rfl <;> decide) hk)).keep (fun k cs t ht hk => HK6.out k cs t (by rcases ht with rfl | rfl | rfl <;> decide) hk))
            have HS6 := Aside0.mk (str_keep2 HS5.out HK6.out)
            have HV6 := Aside0.mk (show (Kd.raw 16).R 28 w6 w.heap.size (fun _ => True) v102 ((vs ++ [x]).map vb) from by have h9 := HO6.out; rw [HCX.out] at h9; rw [List.map_append]; exact h9)
            go_roundg k1
            case measure => omega
            case rel => exact ⟨i + 1, ins ++ [s], vs ++ [x], Bs', A, by first | rfl | (rw [HWI.out]), rfl, ⟨by have := HI.out; omega⟩, ⟨by rw [List.length_append, List.length_append, HIN.out]; rfl⟩, ⟨by rw [List.length_append]; have := HVN.out; simp; omega⟩, HHO4, HH6, HA4, HFL4, HBN4, HGB4, HS6, HV6, HB6⟩
        · have t0 : decide (12 < (s.size : Int)) = true := decide_eq_true (by omega)
          have t1 : decide (4096 < (s.size : Int)) = true := decide_eq_true (by omega)
          have heq := HEQ.out
          go_wp2_with fail
          refine (add_big g s wr (by omega)).mono ?_
          rintro e w4 ⟨rfl, hb⟩
          rw [← HZE.out]
          clear h4
          have HB3 := Aside0.mk (HB.out.trans (hb.mono (below_size HB.out)))
          have HM4 := Aside0.mk (blk_new w4 (.cells Z 28))
          have HC4 := Aside0.mk (setRow_heap _ _ _ Z _ _ HM4.out)
          have hbw := below_row (below_alloc (Below.refl w4.heap.size w4) (.cells Z 28)) (Nat.le_refl _) Z
          have HB4 := Aside0.mk (below_step HB3.out hbw)
          have hx := (HRD.out _ HB4.out i s HSI.out).2
          have HS4 := Aside0.mk (Kd.R_below (Kd.R_below HS.out hb) hbw)
          have HV4 := Aside0.mk (Kd.R_below (Kd.R_below HV.out hb) hbw)
          have HH4 := Aside0.mk ((HH.out.below hb).below hbw)
          clear hb hbw
          go_wp2_with (first | ((with_reducible refine gate_store (t := 28) (p := 10) rfl ?_); refine wpList_store_row rfl 28 _ _ rfl w4.heap.size Z (by rfl) (by rfl) 28 Z HM4.out (by rw [info16, HSZ.out]) (HSZ.out.trans HSZ.out.symm) H1Z.out ?_) | ((with_reducible refine gate_dst (N := 78) rfl ?_); refine Go.BigFrame.wpList_want ?hw (fun K hK => ?_); (case hw => rfl); refine wp_load_row 28 _ rfl w4.heap.size ?hx 28 Z (0, 0) _ HC4.out Try.underlying28 rfl ?hi ?_; (case hx => rfl); (case hi => rw [info16, HSZ.out]); refine hK _ _ ?_; clear hK K) | ((with_reducible refine gate_dst (N := 79) rfl ?_); refine Go.BigFrame.wpList_want ?hw (fun K hK => ?_); (case hw => rfl); refine wp_build 28 #[] rfl Z ?hbu ?_; (case hbu => exact HBL.out); refine hK _ _ ?_; clear hK K))
          go_roundg k1
          case measure => omega
          case rel => exact ⟨i + 1, ins, vs, Bs, A, by first | rfl | (rw [HWI.out]), rfl, ⟨by have := HI.out; omega⟩, HIN, ⟨by have := HVN.out; omega⟩, HHO, HH4, HA, ⟨by have := HFL.out; omega⟩, ⟨by have := HBN.out; omega⟩, HGB, HS4, HV4, HB4⟩
theorem HeapAdds (A0 : Option Addr) (c0 : Nat) (l0 : List ByteArray) (a1 : Int) (w : World) (hr : Kd.C Kd.string w A0 l0.length l0) (hcl : l0.length ≤ c0) (hs : l0.length * 16 ≤ 140737488351232) (hw : ∀ s ∈ l0, s.size ≤ 9223372036854775807) (hwf : (Lit.int .i64 a1).wf = true) :
    Calls Try.prog 3 #[.slice A0 l0.length c0, .int .i64 a1] w fun e w' => e = .returned (.bool true) ∧ Below w.heap.size w w' := by
  by_cases h : a1 < 0
  · exact HeapAdds_neg A0 c0 l0 a1 w hcl hr hwf h
  · exact HeapAdds_pos A0 c0 l0 a1 w hcl hr hwf h
end Go.Proofs.Ytpbplflocdhahaa.HW
