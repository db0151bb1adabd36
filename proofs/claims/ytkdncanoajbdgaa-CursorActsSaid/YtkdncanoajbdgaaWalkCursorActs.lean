/- CursorActs: the law, walked (its region 20 lies in texts of its own, one a kind of act). -/
import Derived.Test.YtkdncanoajbdgaaActV0z
import Derived.Test.YtkdncanoajbdgaaActV0n
import Derived.Test.YtkdncanoajbdgaaActV1z
import Derived.Test.YtkdncanoajbdgaaActV1n
import Derived.Test.YtkdncanoajbdgaaActV2z
import Derived.Test.YtkdncanoajbdgaaActV2n
import Derived.Test.YtkdncanoajbdgaaActV3z
import Derived.Test.YtkdncanoajbdgaaActV3n
import Derived.Test.YtkdncanoajbdgaaActV4z
import Derived.Test.YtkdncanoajbdgaaActV4n
import Derived.Test.YtkdncanoajbdgaaActV5z
import Derived.Test.YtkdncanoajbdgaaActV5n
set_option linter.unusedVariables false
set_option linter.unusedSimpArgs false
namespace Go.Proofs.Ytkdncanoajbdgaa.HW
open Go.RowKit Go.Proofs.Ytkdncanoajbdgaa.P Go.Proofs.Ytkdncanoajbdgaa.HP Go.Proofs.YtkdncanoajbdgaaW.PrintWords Go.Proofs.YtkdncanoajbdgaaW.PrintLast Go.Proofs.YtkdncanoajbdgaaW.PrintMore
attribute [local go_sem] max2_int min2_int max_two min_two max_three min_three max_four min_four
set_option maxHeartbeats 80000000 in
set_option maxRecDepth 100000 in
theorem CursorActs (A0 : Option Addr) (c0 : Nat) (l0 : List Int) (A1 : Option Addr) (c1 : Nat) (l1 : List (Int × Int)) (w : World) (hr0 : Kd.C (Kd.int .u8) w A0 l0.length l0) (hc0 : l0.length ≤ c0) (hr1 : ActsC w A1 l1) (hw0 : ∀ x ∈ l0, (Lit.int .u8 x).wf = true) (hw1 : ∀ p ∈ l1, (-9223372036854775808 ≤ p.1 ∧ p.1 < 9223372036854775808) ∧ (-9223372036854775808 ≤ p.2 ∧ p.2 < 9223372036854775808)) :
    Calls Try.prog 6 #[.slice A0 l0.length c0, .slice A1 l1.length c1] w fun e w' => e = .returned (.bool true) ∧ Below w.heap.size w w' := by
  have HY := Aside0.mk (isBy_wf hw0)
  have HW := Aside0.mk hw1
  have HR0 := Aside0.mk hr0
  have HC0 := Aside0.mk hc0
  have HA := Aside0.mk hr1
  have HB := Aside0.mk (Below.refl w.heap.size w)
  clear hr0 hc0 hr1 hw0 hw1
  by_cases h5 : 2000 < l0.length
  · have t5a : decide (2000 < (l0.length : Int)) = true := decide_eq_true (by omega)
    have t5b : decide (2000 < l0.length) = true := decide_eq_true (by omega)
    clear h5
    go_enter Try.func6, Try.ntmps6
    go_wp2_with fail
    refine (hopperlaw01_awake.calls true _ rfl).mono ?_
    rintro e w1 ⟨rfl, hb⟩
    have HB1 := Aside0.mk (below_step HB.out hb)
    clear HB hb
    go_wp2_with fail
    refine (hopperlaw01_awake.calls true _ rfl).mono ?_
    rintro e w2 ⟨rfl, hb⟩
    have HB2 := Aside0.mk (below_step HB1.out hb)
    clear HB1 hb
    go_wp2_with fail
    go_ret
    exact ⟨rfl, HB2.out⟩
  have t5a : decide (2000 < (l0.length : Int)) = false := decide_eq_false (by omega)
  have t5b : decide (2000 < l0.length) = false := decide_eq_false (by omega)
  by_cases h6 : 80 < l1.length
  · have t6a : decide (80 < (l1.length : Int)) = true := decide_eq_true (by omega)
    have t6b : decide (80 < l1.length) = true := decide_eq_true (by omega)
    clear h5 h6
    go_enter Try.func6, Try.ntmps6
    go_wp2_with fail
    refine (hopperlaw01_awake.calls true _ rfl).mono ?_
    rintro e w1 ⟨rfl, hb⟩
    have HB1 := Aside0.mk (below_step HB.out hb)
    clear HB hb
    go_wp2_with fail
    refine (hopperlaw01_awake.calls true _ rfl).mono ?_
    rintro e w2 ⟨rfl, hb⟩
    have HB2 := Aside0.mk (below_step HB1.out hb)
    clear HB1 hb
    go_wp2_with fail
    go_ret
    exact ⟨rfl, HB2.out⟩
  have t6a : decide (80 < (l1.length : Int)) = false := decide_eq_false (by omega)
  have t6b : decide (80 < l1.length) = false := decide_eq_false (by omega)
  have HL := Aside0.mk (show l0.length ≤ 2000 ∧ l1.length ≤ 80 by omega)
  clear h5 h6
  have hz := zeroAct
  go_enter Try.func6, Try.ntmps6
  go_wp2_with fail
  refine (hopperlaw01_awake.calls true _ rfl).mono ?_
  rintro e w1 ⟨rfl, hb⟩
  have HB1 := Aside0.mk (below_step HB.out hb)
  clear HB hb
  go_wp2_with fail
  refine (Cur.make A0 c0 l0 _ (Kd.C_below HR0.out HB1.out) HC0.out (by have := HL.out; omega)).mono ?_
  rintro e w2 ⟨g, rfl, hc, hb⟩
  obtain ⟨lo, hlo⟩ : ∃ lo, Aside0 (lo = w1.heap.size ∧ w.heap.size ≤ lo) := ⟨_, ⟨rfl, below_size HB1.out⟩⟩
  have HB2 := Aside0.mk (below_step HB1.out hb)
  have HC2 : Aside0 (Cur lo w2 g l0 0 0) := ⟨by rw [hlo.out.1]; exact hc⟩
  clear HB1 hb hc
  go_wp2_with fail
  go_loopg [6, 7, 8] (l1.length : Nat) (fun kq v6 v7 v8 w' => ∃ (i a : Nat) (e : Int), v6 = .int .i64 (a : Int) ∧ v7 = .int .i64 e ∧ v8 = .int .i64 (i : Int) ∧ Aside0 (i + kq = l1.length) ∧ Aside0 (a ≤ l0.length ∧ 0 ≤ e ∧ e ≤ 8) ∧ Aside0 (Cur lo w' g l0 (a : Int) e) ∧ Aside0 (Below w.heap.size w w'))
  case atStart => exact ⟨0, 0, 0, rfl, rfl, rfl, ⟨by omega⟩, ⟨by omega⟩, HC2, HB2⟩
  case round =>
    clear HC2 HB2
    obtain ⟨i, a, e, rfl, rfl, rfl, HI, HE, HC, HB⟩ := hrel
    cases gk with
    | zero =>
      obtain rfl : i = l1.length := by have := HI.out; omega
      by_cases he : e = 0
      · subst he
        by_cases ha : a < l0.length
        · have ta : decide ((a : Int) < (l0.length : Int)) = true := decide_eq_true (by omega)
          have tb : decide (a < l0.length) = true := decide_eq_true (by omega)
          have HE2 := Aside0.mk (end_at l0 a (by have := HL.out; omega) (by omega))
          rw [if_pos ha] at HE2
          clear ha
          go_wp2_with fail
          refine (HC.out.end_ HE2.out).mono ?_
          rintro e w3 ⟨rfl, hc, hk, hb⟩
          have HB3 := Aside0.mk (Cur.wide2 HB.out hb hlo.out.2)
          clear hc hk hb
          go_wp2_with fail
          go_ret
          exact ⟨rfl, HB3.out⟩
        · have ta : decide ((a : Int) < (l0.length : Int)) = false := decide_eq_false (by omega)
          have tb : decide (a < l0.length) = false := decide_eq_false (by omega)
          have HE2 := Aside0.mk (end_at l0 a (by have := HL.out; omega) (by have := HE.out; omega))
          rw [if_neg ha] at HE2
          clear ha
          go_wp2_with fail
          refine (HC.out.end_ HE2.out).mono ?_
          rintro e w3 ⟨rfl, hc, hk, hb⟩
          have HB3 := Aside0.mk (Cur.wide2 HB.out hb hlo.out.2)
          clear hc hk hb
          go_wp2_with fail
          go_ret
          exact ⟨rfl, HB3.out⟩
      · have e1 : (e == 0) = false := by simpa using he
        have e3 : decide (e = 0) = false := decide_eq_false he
        have HE2 := Aside0.mk (end_bad l0 (a : Int) e he)
        clear he
        go_wp2_with fail
        refine (HC.out.end_ HE2.out).mono ?_
        rintro e' w3 ⟨rfl, hc, hk, hb⟩
        have HB3 := Aside0.mk (Cur.wide2 HB.out hb hlo.out.2)
        clear hc hk hb
        go_wp2_with fail
        go_ret
        exact ⟨rfl, HB3.out⟩
    | succ k1 =>
      have hi : i < l1.length := by have := HI.out; omega
      have ti : decide ((i : Int) < (l1.length : Int)) = true := decide_eq_true (by omega)
      have ti2 : decide (i < l1.length) = true := decide_eq_true hi
      have p3 : (0 : Int) ≤ (i : Int) := by omega
      have q3 : (i : Int) < (l1.length : Int) := by omega
      obtain ⟨ad, hA1, hx0, hx1⟩ := (HA.out.below HB.out) i hi
      have hN := HW.out l1[i] (List.getElem_mem hi)
      obtain ⟨d, hd⟩ : ∃ d, d = l1[i].1 := ⟨_, rfl⟩
      obtain ⟨N, hNe⟩ : ∃ N, N = l1[i].2 := ⟨_, rfl⟩
      rw [← hd] at hx0 hN
      rw [← hNe] at hx1 hN
      have HN := Aside0.mk hN
      have HX := Aside0.mk (pair_at i hx0 hx1)
      subst hA1
      clear hx0 hx1 hd hNe hN
      have HIL := Aside0.mk hi
      replace p3 := eq_true p3
      replace q3 := eq_true q3
      by_cases h : d < 0
      · as_aux_lemma =>
          have t1 : decide (d < 0) = true := decide_eq_true (by omega)
          have HG4 := Aside0.mk (blk_new wr (.cells #[.int .i64 d, .int .i64 N] 38))
          have HBa := Aside0.mk (below_alloc (Below.refl wr.heap.size wr) (.cells #[.int .i64 d, .int .i64 N] 38))
          have HB4 := Aside0.mk (below_step HB.out HBa.out)
          have HC4 := Aside0.mk (HC.out.below HBa.out)
          have hq0 := blk_cell HG4.out 0
          have hq1 := blk_cell HG4.out 1
          simp only [List.getElem?_toArray, List.getElem?_cons_zero, List.getElem?_cons_succ] at hq0 hq1
          clear HC HB HBa hi h
          go_wp2_with (first | ((with_reducible refine gate_dst (N := 40) rfl ?_); refine load_at rfl 38 _ rfl (ad.add (i * 2)) ?hx [.int .i64 d, .int .i64 N] HX.out _ Try.underlying38 rfl (by rw [infoAct]; rfl) ?_; (case hx => rfl)) | ((with_reducible refine gate_dst (N := 67) rfl ?_); refine wpList_load_row rfl 38 _ rfl wr.heap.size (by rfl) 38 #[.int .i64 d, .int .i64 N] (0, 0) _ HG4.out Try.underlying38 rfl (by rw [infoAct]; rfl) ?_))
          go_ret
          exact ⟨rfl, HB4.out⟩
      by_cases h2 : 5 < d
      · as_aux_lemma =>
          have t1 : decide (d < 0) = false := decide_eq_false (by omega)
          have t2 : decide (5 < d) = true := decide_eq_true (by omega)
          have HG4 := Aside0.mk (blk_new wr (.cells #[.int .i64 d, .int .i64 N] 38))
          have HBa := Aside0.mk (below_alloc (Below.refl wr.heap.size wr) (.cells #[.int .i64 d, .int .i64 N] 38))
          have HB4 := Aside0.mk (below_step HB.out HBa.out)
          have HC4 := Aside0.mk (HC.out.below HBa.out)
          have hq0 := blk_cell HG4.out 0
          have hq1 := blk_cell HG4.out 1
          simp only [List.getElem?_toArray, List.getElem?_cons_zero, List.getElem?_cons_succ] at hq0 hq1
          clear HC HB HBa hi h h2
          go_wp2_with (first | ((with_reducible refine gate_dst (N := 40) rfl ?_); refine load_at rfl 38 _ rfl (ad.add (i * 2)) ?hx [.int .i64 d, .int .i64 N] HX.out _ Try.underlying38 rfl (by rw [infoAct]; rfl) ?_; (case hx => rfl)) | ((with_reducible refine gate_dst (N := 67) rfl ?_); refine wpList_load_row rfl 38 _ rfl wr.heap.size (by rfl) 38 #[.int .i64 d, .int .i64 N] (0, 0) _ HG4.out Try.underlying38 rfl (by rw [infoAct]; rfl) ?_))
          go_ret
          exact ⟨rfl, HB4.out⟩
      by_cases hd0 : d = 0
      · subst hd0
        clear h h2
        by_cases he : e = 0
        · subst he
          as_aux_lemma =>
            have HG4 := Aside0.mk (blk_new wr (.cells #[.int .i64 0, .int .i64 N] 38))
            have HBa := Aside0.mk (below_alloc (Below.refl wr.heap.size wr) (.cells #[.int .i64 0, .int .i64 N] 38))
            have HB4 := Aside0.mk (below_step HB.out HBa.out)
            have HC4 := Aside0.mk (HC.out.below HBa.out)
            have hq0 := blk_cell HG4.out 0
            have hq1 := blk_cell HG4.out 1
            simp only [List.getElem?_toArray, List.getElem?_cons_zero, List.getElem?_cons_succ] at hq0 hq1
            have HLT := Aside0.mk HC.out.lt
            clear HC HB HBa hi
            go_wp2_with (first | ((with_reducible refine gate_dst (N := 40) rfl ?_); refine load_at rfl 38 _ rfl (ad.add (i * 2)) ?hx [.int .i64 0, .int .i64 N] HX.out _ Try.underlying38 rfl (by rw [infoAct]; rfl) ?_; (case hx => rfl)) | ((with_reducible refine gate_dst (N := 67) rfl ?_); refine wpList_load_row rfl 38 _ rfl wr.heap.size (by rfl) 38 #[.int .i64 0, .int .i64 N] (0, 0) _ HG4.out Try.underlying38 rfl (by rw [infoAct]; rfl) ?_))
            refine (step_0 A0 c0 l0 a N _ (Kd.C_below HR0.out HB4.out) HC0.out HY.out HL.out.1 HE.out.1 HN.out.2).mono ?_
            rintro e5 w5 ⟨n, bs, s, er, A5, c5, rfl, hR, hle, hcs, hb5⟩
            have HG5 := Aside0.mk ((hb5.block _ (blk_lt HG4.out)).trans HG4.out)
            have HB5 := Aside0.mk (below_step HB4.out hb5)
            have HC5 := Aside0.mk (HC4.out.below hb5)
            have HNE := Aside0.mk (show g < wr.heap.size from HLT.out)
            obtain ⟨x, hx⟩ : ∃ x : Nat, x = a + s := ⟨_, rfl⟩
            unfold StepR at hR
            rw [← hx] at hR
            have HX2 := Aside0.mk (show x ≤ l0.length ∧ 0 ≤ er ∧ er ≤ 8 from ⟨hR.1, hR.2.1⟩)
            have HXE := Aside0.mk hx
            have hs5 : (s : Int) = (x : Int) - (a : Int) := by omega
            have HF := Aside0.mk (hR.2.2.1 rfl)
            clear hR hle hcs hb5 hq0 hq1 hx HG4 HB4 HC4 hs5
            go_wp2_with fail
            have HQ : Aside0 (∀ W : World, W.heap[wr.heap.size]? = some (.cells #[.int .i64 0, .int .i64 N] 38 (0, 0)) → W.cell? ⟨wr.heap.size, 0, none⟩ = some (.int .i64 0) ∧ W.cell? ⟨wr.heap.size, 1, none⟩ = some (.int .i64 N)) := ⟨fun W hW => ⟨blk_cell hW 0, blk_cell hW 1⟩⟩
            have HGd : Aside0 (w5.drew.heap[wr.heap.size]? = some (.cells #[.int .i64 0, .int .i64 N] 38 (0, 0))) := ⟨HG5.out⟩
            have HBd := Aside0.mk (below_drew1 HB5.out)
            have HCd := Aside0.mk (HC5.out.below (below_drew1 (Below.refl _ w5)))
            clear HG5 HB5 HC5
            refine reg20_0z (A0 := none) (c0 := 0) (e := 0) (T := ⟨#[]⟩) (by kernel_rfl) (fun _ _ T _ _ h => by cases T <;> exact h) hlo HQ HGd HBd HCd HNE HF ?_
            intro x75 x76 x77 x78 x79 x80 x81 x82 x83 x84 x85 x86 x87 x88 x89 x90 x91 x92 x93 x94 x95 x96 x97 x98 x99 x100 x101 x102 x103 x104 x105 x106 x107 x108 x109 x110 x111 x112 x113 x114 x115 x116 x117 x118 x119 x120 x121 x122 x123 x124 x125 x126 x127 x128 x129 x130 x131 x132 w6 hg6 hb6 hc6
            have HG6 := Aside0.mk hg6
            have HB6 := Aside0.mk hb6
            have HC6 := Aside0.mk hc6
            clear hg6 hb6 hc6
            have hq0 := (HQ.out _ HG6.out).1
            have hq1 := (HQ.out _ HG6.out).2
            have hwa : wrap64 ((a : Int) + (s : Int)) = (x : Int) := by rw [show (a : Int) + (s : Int) = (x : Int) by have := HXE.out; omega]; exact wx x (by have := HX2.out; have := HL.out; omega)
            have HWA := Aside0.mk hwa
            clear hwa
            obtain ⟨y, hy⟩ : ∃ y : Nat, y = l0.length - x := ⟨_, rfl⟩
            have hwl : wrap64 ((l0.length : Int) - (x : Int)) = (y : Int) := by rw [show (l0.length : Int) - (x : Int) = (y : Int) by have := HX2.out; omega]; exact wx y (by have := HL.out; omega)
            have HLF := Aside0.mk (left_at l0 x er (by have := HL.out; omega) (by have := HX2.out; omega))
            rw [← hy] at HLF
            obtain ⟨q, hq⟩ : ∃ q, (er == 0) = q := ⟨_, rfl⟩
            have hq2 : decide (er = 0) = q := by rw [← hq]; rfl
            have HGF := Aside0.mk (good_at l0 (x : Int) er)
            rw [hq] at HGF
            have hwa := HWA.out
            clear hy
            go_wp2_with fail
            refine (HC6.out.left HLF.out).mono ?_
            rintro e7 w8 ⟨rfl, hc8, hk8, hb8⟩
            have HB8 := Aside0.mk (Cur.wide2 HB6.out hb8 hlo.out.2)
            have HC8 := Aside0.mk hc8
            clear hc8 hk8 hb8
            go_wp2_with fail
            refine (HC8.out.good HGF.out).mono ?_
            rintro e8 w9 ⟨rfl, hc9, hk9, hb9⟩
            have HB9 := Aside0.mk (Cur.wide2 HB8.out hb9 hlo.out.2)
            have HC9 := Aside0.mk hc9
            clear hc9 hk9 hb9
            go_wp2_with fail
            clear hwa hwl
            go_roundg k1
            case measure => omega
            case rel => exact ⟨i + 1, x, er, by first | rfl | (rw [HWA.out]) | (congr 1; exact HWA.out), rfl, by first | rfl | exact congrArg (Value.int .i64) (wr1 i (by have := HIL.out; have := HL.out; omega)), ⟨by have := HI.out; omega⟩, HX2, HC9, HB9⟩
        · as_aux_lemma =>
            have e1 : (e == 0) = false := by simpa using he
            have e2 : (e != 0) = true := by simpa using he
            have e3 : decide (e = 0) = false := decide_eq_false he
            have HNZ := Aside0.mk he
            have HG4 := Aside0.mk (blk_new wr (.cells #[.int .i64 0, .int .i64 N] 38))
            have HBa := Aside0.mk (below_alloc (Below.refl wr.heap.size wr) (.cells #[.int .i64 0, .int .i64 N] 38))
            have HB4 := Aside0.mk (below_step HB.out HBa.out)
            have HC4 := Aside0.mk (HC.out.below HBa.out)
            have hq0 := blk_cell HG4.out 0
            have hq1 := blk_cell HG4.out 1
            simp only [List.getElem?_toArray, List.getElem?_cons_zero, List.getElem?_cons_succ] at hq0 hq1
            have HLT := Aside0.mk HC.out.lt
            clear HC HB HBa hi he
            go_wp2_with (first | ((with_reducible refine gate_dst (N := 40) rfl ?_); refine load_at rfl 38 _ rfl (ad.add (i * 2)) ?hx [.int .i64 0, .int .i64 N] HX.out _ Try.underlying38 rfl (by rw [infoAct]; rfl) ?_; (case hx => rfl)) | ((with_reducible refine gate_dst (N := 67) rfl ?_); refine wpList_load_row rfl 38 _ rfl wr.heap.size (by rfl) 38 #[.int .i64 0, .int .i64 N] (0, 0) _ HG4.out Try.underlying38 rfl (by rw [infoAct]; rfl) ?_))
            refine (step_0 A0 c0 l0 a N _ (Kd.C_below HR0.out HB4.out) HC0.out HY.out HL.out.1 HE.out.1 HN.out.2).mono ?_
            rintro e5 w5 ⟨n, bs, s, er, A5, c5, rfl, hR, hle, hcs, hb5⟩
            have HG5 := Aside0.mk ((hb5.block _ (blk_lt HG4.out)).trans HG4.out)
            have HB5 := Aside0.mk (below_step HB4.out hb5)
            have HC5 := Aside0.mk (HC4.out.below hb5)
            have HNE := Aside0.mk (show g < wr.heap.size from HLT.out)
            obtain ⟨x, hx⟩ : ∃ x : Nat, x = a := ⟨_, rfl⟩
            have HX2 := Aside0.mk (show x ≤ l0.length ∧ 0 ≤ e ∧ e ≤ 8 by rw [hx]; exact HE.out)
            have HXE := Aside0.mk hx
            have HF := Aside0.mk (byte_bad l0 (a : Int) e HNZ.out)
            clear hR hle hcs hb5 hq0 hq1 hx HG4 HB4 HC4
            go_wp2_with fail
            have HQ : Aside0 (∀ W : World, W.heap[wr.heap.size]? = some (.cells #[.int .i64 0, .int .i64 N] 38 (0, 0)) → W.cell? ⟨wr.heap.size, 0, none⟩ = some (.int .i64 0) ∧ W.cell? ⟨wr.heap.size, 1, none⟩ = some (.int .i64 N)) := ⟨fun W hW => ⟨blk_cell hW 0, blk_cell hW 1⟩⟩
            have HGd : Aside0 (w5.drew.heap[wr.heap.size]? = some (.cells #[.int .i64 0, .int .i64 N] 38 (0, 0))) := ⟨HG5.out⟩
            have HBd := Aside0.mk (below_drew1 HB5.out)
            have HCd := Aside0.mk (HC5.out.below (below_drew1 (Below.refl _ w5)))
            clear HG5 HB5 HC5
            refine reg20_0n (A0 := none) (A5 := none) (c0 := 0) (c5 := 0) (bs := []) (x := 0) (n := 0) (er := 0) (T := ⟨#[]⟩) (by kernel_rfl) (fun _ _ T _ _ h => by cases T <;> exact h) hlo HQ HGd HBd HCd HNE HF HNZ ?_
            intro x75 x76 x77 x78 x79 x80 x81 x82 x83 x84 x85 x86 x87 x88 x89 x90 x91 x92 x93 x94 x95 x96 x97 x98 x99 x100 x101 x102 x103 x104 x105 x106 x107 x108 x109 x110 x111 x112 x113 x114 x115 x116 x117 x118 x119 x120 x121 x122 x123 x124 x125 x126 x127 x128 x129 x130 x131 x132 w6 hg6 hb6 hc6
            have HG6 := Aside0.mk hg6
            have HB6 := Aside0.mk hb6
            have HC6 := Aside0.mk hc6
            clear hg6 hb6 hc6
            have hq0 := (HQ.out _ HG6.out).1
            have hq1 := (HQ.out _ HG6.out).2
            have hwa : wrap64 (a : Int) = (x : Int) := by rw [show (a : Int) = (x : Int) by have := HXE.out; omega]; exact wx x (by have := HX2.out; have := HL.out; omega)
            have hxa : a = x := HXE.out.symm
            have HWA := Aside0.mk hwa
            clear hwa
            obtain ⟨y, hy⟩ : ∃ y : Nat, y = l0.length - x := ⟨_, rfl⟩
            have hwl : wrap64 ((l0.length : Int) - (x : Int)) = (y : Int) := by rw [show (l0.length : Int) - (x : Int) = (y : Int) by have := HX2.out; omega]; exact wx y (by have := HL.out; omega)
            have HLF := Aside0.mk (left_at l0 x e (by have := HL.out; omega) (by have := HX2.out; omega))
            rw [← hy] at HLF
            obtain ⟨q, hq⟩ : ∃ q, (e == 0) = q := ⟨_, rfl⟩
            have hq2 : decide (e = 0) = q := by rw [← hq]; rfl
            have HGF := Aside0.mk (good_at l0 (x : Int) e)
            rw [hq] at HGF
            have hwa := HWA.out
            clear hy
            rw [hxa] at HC6
            clear hxa
            rw [e1] at hq
            subst hq
            clear hq2
            go_wp2_with fail
            refine (HC6.out.left HLF.out).mono ?_
            rintro e7 w8 ⟨rfl, hc8, hk8, hb8⟩
            have HB8 := Aside0.mk (Cur.wide2 HB6.out hb8 hlo.out.2)
            have HC8 := Aside0.mk hc8
            clear hc8 hk8 hb8
            go_wp2_with fail
            refine (HC8.out.good HGF.out).mono ?_
            rintro e8 w9 ⟨rfl, hc9, hk9, hb9⟩
            have HB9 := Aside0.mk (Cur.wide2 HB8.out hb9 hlo.out.2)
            have HC9 := Aside0.mk hc9
            clear hc9 hk9 hb9
            go_wp2_with fail
            clear hwa hwl
            go_roundg k1
            case measure => omega
            case rel => exact ⟨i + 1, x, e, by first | rfl | (rw [HWA.out]) | (congr 1; exact HWA.out), rfl, by first | rfl | exact congrArg (Value.int .i64) (wr1 i (by have := HIL.out; have := HL.out; omega)), ⟨by have := HI.out; omega⟩, HX2, HC9, HB9⟩
      by_cases hd1 : d = 1
      · subst hd1
        clear h h2
        by_cases he : e = 0
        · subst he
          as_aux_lemma =>
            have HG4 := Aside0.mk (blk_new wr (.cells #[.int .i64 1, .int .i64 N] 38))
            have HBa := Aside0.mk (below_alloc (Below.refl wr.heap.size wr) (.cells #[.int .i64 1, .int .i64 N] 38))
            have HB4 := Aside0.mk (below_step HB.out HBa.out)
            have HC4 := Aside0.mk (HC.out.below HBa.out)
            have hq0 := blk_cell HG4.out 0
            have hq1 := blk_cell HG4.out 1
            simp only [List.getElem?_toArray, List.getElem?_cons_zero, List.getElem?_cons_succ] at hq0 hq1
            have HLT := Aside0.mk HC.out.lt
            clear HC HB HBa hi
            go_wp2_with (first | ((with_reducible refine gate_dst (N := 40) rfl ?_); refine load_at rfl 38 _ rfl (ad.add (i * 2)) ?hx [.int .i64 1, .int .i64 N] HX.out _ Try.underlying38 rfl (by rw [infoAct]; rfl) ?_; (case hx => rfl)) | ((with_reducible refine gate_dst (N := 67) rfl ?_); refine wpList_load_row rfl 38 _ rfl wr.heap.size (by rfl) 38 #[.int .i64 1, .int .i64 N] (0, 0) _ HG4.out Try.underlying38 rfl (by rw [infoAct]; rfl) ?_))
            refine (step_1 A0 c0 l0 a N _ (Kd.C_below HR0.out HB4.out) HC0.out HY.out HL.out.1 HE.out.1 HN.out.2).mono ?_
            rintro e5 w5 ⟨n, bs, s, er, A5, c5, rfl, hR, hle, hcs, hb5⟩
            have HG5 := Aside0.mk ((hb5.block _ (blk_lt HG4.out)).trans HG4.out)
            have HB5 := Aside0.mk (below_step HB4.out hb5)
            have HC5 := Aside0.mk (HC4.out.below hb5)
            have HNE := Aside0.mk (show g < wr.heap.size from HLT.out)
            obtain ⟨x, hx⟩ : ∃ x : Nat, x = a + s := ⟨_, rfl⟩
            unfold StepR at hR
            rw [← hx] at hR
            have HX2 := Aside0.mk (show x ≤ l0.length ∧ 0 ≤ er ∧ er ≤ 8 from ⟨hR.1, hR.2.1⟩)
            have HXE := Aside0.mk hx
            have hs5 : (s : Int) = (x : Int) - (a : Int) := by omega
            have HF := Aside0.mk (hR.2.2.2.1 rfl)
            have HLE := Aside0.mk hle
            have HCS := Aside0.mk hcs
            clear hR hle hcs hb5 hq0 hq1 hx HG4 HB4 HC4 hs5
            go_wp2_with fail
            have HQ : Aside0 (∀ W : World, W.heap[wr.heap.size]? = some (.cells #[.int .i64 1, .int .i64 N] 38 (0, 0)) → W.cell? ⟨wr.heap.size, 0, none⟩ = some (.int .i64 1) ∧ W.cell? ⟨wr.heap.size, 1, none⟩ = some (.int .i64 N)) := ⟨fun W hW => ⟨blk_cell hW 0, blk_cell hW 1⟩⟩
            have HGd : Aside0 (w5.drew.heap[wr.heap.size]? = some (.cells #[.int .i64 1, .int .i64 N] 38 (0, 0))) := ⟨HG5.out⟩
            have HBd := Aside0.mk (below_drew1 HB5.out)
            have HCd := Aside0.mk (HC5.out.below (below_drew1 (Below.refl _ w5)))
            clear HG5 HB5 HC5
            refine reg20_1z (c0 := 0) (e := 0) (T := ⟨#[]⟩) (by kernel_rfl) (fun _ _ T _ _ h => by cases T <;> exact h) hlo HQ HGd HBd HCd HNE HF HR0 HCS HLE ?_
            intro x75 x76 x77 x78 x79 x80 x81 x82 x83 x84 x85 x86 x87 x88 x89 x90 x91 x92 x93 x94 x95 x96 x97 x98 x99 x100 x101 x102 x103 x104 x105 x106 x107 x108 x109 x110 x111 x112 x113 x114 x115 x116 x117 x118 x119 x120 x121 x122 x123 x124 x125 x126 x127 x128 x129 x130 x131 x132 w6 hg6 hb6 hc6
            have HG6 := Aside0.mk hg6
            have HB6 := Aside0.mk hb6
            have HC6 := Aside0.mk hc6
            clear hg6 hb6 hc6
            have hq0 := (HQ.out _ HG6.out).1
            have hq1 := (HQ.out _ HG6.out).2
            have hwa : wrap64 ((a : Int) + (s : Int)) = (x : Int) := by rw [show (a : Int) + (s : Int) = (x : Int) by have := HXE.out; omega]; exact wx x (by have := HX2.out; have := HL.out; omega)
            have HWA := Aside0.mk hwa
            clear hwa
            obtain ⟨y, hy⟩ : ∃ y : Nat, y = l0.length - x := ⟨_, rfl⟩
            have hwl : wrap64 ((l0.length : Int) - (x : Int)) = (y : Int) := by rw [show (l0.length : Int) - (x : Int) = (y : Int) by have := HX2.out; omega]; exact wx y (by have := HL.out; omega)
            have HLF := Aside0.mk (left_at l0 x er (by have := HL.out; omega) (by have := HX2.out; omega))
            rw [← hy] at HLF
            obtain ⟨q, hq⟩ : ∃ q, (er == 0) = q := ⟨_, rfl⟩
            have hq2 : decide (er = 0) = q := by rw [← hq]; rfl
            have HGF := Aside0.mk (good_at l0 (x : Int) er)
            rw [hq] at HGF
            have hwa := HWA.out
            clear hy
            go_wp2_with fail
            refine (HC6.out.left HLF.out).mono ?_
            rintro e7 w8 ⟨rfl, hc8, hk8, hb8⟩
            have HB8 := Aside0.mk (Cur.wide2 HB6.out hb8 hlo.out.2)
            have HC8 := Aside0.mk hc8
            clear hc8 hk8 hb8
            go_wp2_with fail
            refine (HC8.out.good HGF.out).mono ?_
            rintro e8 w9 ⟨rfl, hc9, hk9, hb9⟩
            have HB9 := Aside0.mk (Cur.wide2 HB8.out hb9 hlo.out.2)
            have HC9 := Aside0.mk hc9
            clear hc9 hk9 hb9
            go_wp2_with fail
            clear hwa hwl
            go_roundg k1
            case measure => omega
            case rel => exact ⟨i + 1, x, er, by first | rfl | (rw [HWA.out]) | (congr 1; exact HWA.out), rfl, by first | rfl | exact congrArg (Value.int .i64) (wr1 i (by have := HIL.out; have := HL.out; omega)), ⟨by have := HI.out; omega⟩, HX2, HC9, HB9⟩
        · as_aux_lemma =>
            have e1 : (e == 0) = false := by simpa using he
            have e2 : (e != 0) = true := by simpa using he
            have e3 : decide (e = 0) = false := decide_eq_false he
            have HNZ := Aside0.mk he
            have HG4 := Aside0.mk (blk_new wr (.cells #[.int .i64 1, .int .i64 N] 38))
            have HBa := Aside0.mk (below_alloc (Below.refl wr.heap.size wr) (.cells #[.int .i64 1, .int .i64 N] 38))
            have HB4 := Aside0.mk (below_step HB.out HBa.out)
            have HC4 := Aside0.mk (HC.out.below HBa.out)
            have hq0 := blk_cell HG4.out 0
            have hq1 := blk_cell HG4.out 1
            simp only [List.getElem?_toArray, List.getElem?_cons_zero, List.getElem?_cons_succ] at hq0 hq1
            have HLT := Aside0.mk HC.out.lt
            clear HC HB HBa hi he
            go_wp2_with (first | ((with_reducible refine gate_dst (N := 40) rfl ?_); refine load_at rfl 38 _ rfl (ad.add (i * 2)) ?hx [.int .i64 1, .int .i64 N] HX.out _ Try.underlying38 rfl (by rw [infoAct]; rfl) ?_; (case hx => rfl)) | ((with_reducible refine gate_dst (N := 67) rfl ?_); refine wpList_load_row rfl 38 _ rfl wr.heap.size (by rfl) 38 #[.int .i64 1, .int .i64 N] (0, 0) _ HG4.out Try.underlying38 rfl (by rw [infoAct]; rfl) ?_))
            refine (step_1 A0 c0 l0 a N _ (Kd.C_below HR0.out HB4.out) HC0.out HY.out HL.out.1 HE.out.1 HN.out.2).mono ?_
            rintro e5 w5 ⟨n, bs, s, er, A5, c5, rfl, hR, hle, hcs, hb5⟩
            have HG5 := Aside0.mk ((hb5.block _ (blk_lt HG4.out)).trans HG4.out)
            have HB5 := Aside0.mk (below_step HB4.out hb5)
            have HC5 := Aside0.mk (HC4.out.below hb5)
            have HNE := Aside0.mk (show g < wr.heap.size from HLT.out)
            obtain ⟨x, hx⟩ : ∃ x : Nat, x = a := ⟨_, rfl⟩
            have HX2 := Aside0.mk (show x ≤ l0.length ∧ 0 ≤ e ∧ e ≤ 8 by rw [hx]; exact HE.out)
            have HXE := Aside0.mk hx
            have HF := Aside0.mk (bytes_bad l0 (a : Int) e N HNZ.out)
            clear hR hle hcs hb5 hq0 hq1 hx HG4 HB4 HC4
            go_wp2_with fail
            have HQ : Aside0 (∀ W : World, W.heap[wr.heap.size]? = some (.cells #[.int .i64 1, .int .i64 N] 38 (0, 0)) → W.cell? ⟨wr.heap.size, 0, none⟩ = some (.int .i64 1) ∧ W.cell? ⟨wr.heap.size, 1, none⟩ = some (.int .i64 N)) := ⟨fun W hW => ⟨blk_cell hW 0, blk_cell hW 1⟩⟩
            have HGd : Aside0 (w5.drew.heap[wr.heap.size]? = some (.cells #[.int .i64 1, .int .i64 N] 38 (0, 0))) := ⟨HG5.out⟩
            have HBd := Aside0.mk (below_drew1 HB5.out)
            have HCd := Aside0.mk (HC5.out.below (below_drew1 (Below.refl _ w5)))
            clear HG5 HB5 HC5
            refine reg20_1n (A0 := none) (A5 := none) (c0 := 0) (c5 := 0) (bs := []) (x := 0) (n := 0) (er := 0) (T := ⟨#[]⟩) (by kernel_rfl) (fun _ _ T _ _ h => by cases T <;> exact h) hlo HQ HGd HBd HCd HNE HF HNZ ?_
            intro x75 x76 x77 x78 x79 x80 x81 x82 x83 x84 x85 x86 x87 x88 x89 x90 x91 x92 x93 x94 x95 x96 x97 x98 x99 x100 x101 x102 x103 x104 x105 x106 x107 x108 x109 x110 x111 x112 x113 x114 x115 x116 x117 x118 x119 x120 x121 x122 x123 x124 x125 x126 x127 x128 x129 x130 x131 x132 w6 hg6 hb6 hc6
            have HG6 := Aside0.mk hg6
            have HB6 := Aside0.mk hb6
            have HC6 := Aside0.mk hc6
            clear hg6 hb6 hc6
            have hq0 := (HQ.out _ HG6.out).1
            have hq1 := (HQ.out _ HG6.out).2
            have hwa : wrap64 (a : Int) = (x : Int) := by rw [show (a : Int) = (x : Int) by have := HXE.out; omega]; exact wx x (by have := HX2.out; have := HL.out; omega)
            have hxa : a = x := HXE.out.symm
            have HWA := Aside0.mk hwa
            clear hwa
            obtain ⟨y, hy⟩ : ∃ y : Nat, y = l0.length - x := ⟨_, rfl⟩
            have hwl : wrap64 ((l0.length : Int) - (x : Int)) = (y : Int) := by rw [show (l0.length : Int) - (x : Int) = (y : Int) by have := HX2.out; omega]; exact wx y (by have := HL.out; omega)
            have HLF := Aside0.mk (left_at l0 x e (by have := HL.out; omega) (by have := HX2.out; omega))
            rw [← hy] at HLF
            obtain ⟨q, hq⟩ : ∃ q, (e == 0) = q := ⟨_, rfl⟩
            have hq2 : decide (e = 0) = q := by rw [← hq]; rfl
            have HGF := Aside0.mk (good_at l0 (x : Int) e)
            rw [hq] at HGF
            have hwa := HWA.out
            clear hy
            rw [hxa] at HC6
            clear hxa
            rw [e1] at hq
            subst hq
            clear hq2
            go_wp2_with fail
            refine (HC6.out.left HLF.out).mono ?_
            rintro e7 w8 ⟨rfl, hc8, hk8, hb8⟩
            have HB8 := Aside0.mk (Cur.wide2 HB6.out hb8 hlo.out.2)
            have HC8 := Aside0.mk hc8
            clear hc8 hk8 hb8
            go_wp2_with fail
            refine (HC8.out.good HGF.out).mono ?_
            rintro e8 w9 ⟨rfl, hc9, hk9, hb9⟩
            have HB9 := Aside0.mk (Cur.wide2 HB8.out hb9 hlo.out.2)
            have HC9 := Aside0.mk hc9
            clear hc9 hk9 hb9
            go_wp2_with fail
            clear hwa hwl
            go_roundg k1
            case measure => omega
            case rel => exact ⟨i + 1, x, e, by first | rfl | (rw [HWA.out]) | (congr 1; exact HWA.out), rfl, by first | rfl | exact congrArg (Value.int .i64) (wr1 i (by have := HIL.out; have := HL.out; omega)), ⟨by have := HI.out; omega⟩, HX2, HC9, HB9⟩
      by_cases hd2 : d = 2
      · subst hd2
        clear h h2
        by_cases he : e = 0
        · subst he
          as_aux_lemma =>
            have HG4 := Aside0.mk (blk_new wr (.cells #[.int .i64 2, .int .i64 N] 38))
            have HBa := Aside0.mk (below_alloc (Below.refl wr.heap.size wr) (.cells #[.int .i64 2, .int .i64 N] 38))
            have HB4 := Aside0.mk (below_step HB.out HBa.out)
            have HC4 := Aside0.mk (HC.out.below HBa.out)
            have hq0 := blk_cell HG4.out 0
            have hq1 := blk_cell HG4.out 1
            simp only [List.getElem?_toArray, List.getElem?_cons_zero, List.getElem?_cons_succ] at hq0 hq1
            have HLT := Aside0.mk HC.out.lt
            clear HC HB HBa hi
            go_wp2_with (first | ((with_reducible refine gate_dst (N := 40) rfl ?_); refine load_at rfl 38 _ rfl (ad.add (i * 2)) ?hx [.int .i64 2, .int .i64 N] HX.out _ Try.underlying38 rfl (by rw [infoAct]; rfl) ?_; (case hx => rfl)) | ((with_reducible refine gate_dst (N := 67) rfl ?_); refine wpList_load_row rfl 38 _ rfl wr.heap.size (by rfl) 38 #[.int .i64 2, .int .i64 N] (0, 0) _ HG4.out Try.underlying38 rfl (by rw [infoAct]; rfl) ?_))
            refine (step_2 A0 c0 l0 a N _ (Kd.C_below HR0.out HB4.out) HC0.out HY.out HL.out.1 HE.out.1 HN.out.2).mono ?_
            rintro e5 w5 ⟨n, bs, s, er, A5, c5, rfl, hR, hle, hcs, hb5⟩
            have HG5 := Aside0.mk ((hb5.block _ (blk_lt HG4.out)).trans HG4.out)
            have HB5 := Aside0.mk (below_step HB4.out hb5)
            have HC5 := Aside0.mk (HC4.out.below hb5)
            have HNE := Aside0.mk (show g < wr.heap.size from HLT.out)
            obtain ⟨x, hx⟩ : ∃ x : Nat, x = a + s := ⟨_, rfl⟩
            unfold StepR at hR
            rw [← hx] at hR
            have HX2 := Aside0.mk (show x ≤ l0.length ∧ 0 ≤ er ∧ er ≤ 8 from ⟨hR.1, hR.2.1⟩)
            have HXE := Aside0.mk hx
            have hs5 : (s : Int) = (x : Int) - (a : Int) := by omega
            have HF := Aside0.mk (hR.2.2.2.2.1 rfl)
            clear hR hle hcs hb5 hq0 hq1 hx HG4 HB4 HC4 hs5
            go_wp2_with fail
            have HQ : Aside0 (∀ W : World, W.heap[wr.heap.size]? = some (.cells #[.int .i64 2, .int .i64 N] 38 (0, 0)) → W.cell? ⟨wr.heap.size, 0, none⟩ = some (.int .i64 2) ∧ W.cell? ⟨wr.heap.size, 1, none⟩ = some (.int .i64 N)) := ⟨fun W hW => ⟨blk_cell hW 0, blk_cell hW 1⟩⟩
            have HGd : Aside0 (w5.drew.heap[wr.heap.size]? = some (.cells #[.int .i64 2, .int .i64 N] 38 (0, 0))) := ⟨HG5.out⟩
            have HBd := Aside0.mk (below_drew1 HB5.out)
            have HCd := Aside0.mk (HC5.out.below (below_drew1 (Below.refl _ w5)))
            clear HG5 HB5 HC5
            refine reg20_2z (A0 := none) (c0 := 0) (e := 0) (T := ⟨#[]⟩) (by kernel_rfl) (fun _ _ T _ _ h => by cases T <;> exact h) hlo HQ HGd HBd HCd HNE HF ?_
            intro x75 x76 x77 x78 x79 x80 x81 x82 x83 x84 x85 x86 x87 x88 x89 x90 x91 x92 x93 x94 x95 x96 x97 x98 x99 x100 x101 x102 x103 x104 x105 x106 x107 x108 x109 x110 x111 x112 x113 x114 x115 x116 x117 x118 x119 x120 x121 x122 x123 x124 x125 x126 x127 x128 x129 x130 x131 x132 w6 hg6 hb6 hc6
            have HG6 := Aside0.mk hg6
            have HB6 := Aside0.mk hb6
            have HC6 := Aside0.mk hc6
            clear hg6 hb6 hc6
            have hq0 := (HQ.out _ HG6.out).1
            have hq1 := (HQ.out _ HG6.out).2
            have hwa : wrap64 ((a : Int) + (s : Int)) = (x : Int) := by rw [show (a : Int) + (s : Int) = (x : Int) by have := HXE.out; omega]; exact wx x (by have := HX2.out; have := HL.out; omega)
            have HWA := Aside0.mk hwa
            clear hwa
            obtain ⟨y, hy⟩ : ∃ y : Nat, y = l0.length - x := ⟨_, rfl⟩
            have hwl : wrap64 ((l0.length : Int) - (x : Int)) = (y : Int) := by rw [show (l0.length : Int) - (x : Int) = (y : Int) by have := HX2.out; omega]; exact wx y (by have := HL.out; omega)
            have HLF := Aside0.mk (left_at l0 x er (by have := HL.out; omega) (by have := HX2.out; omega))
            rw [← hy] at HLF
            obtain ⟨q, hq⟩ : ∃ q, (er == 0) = q := ⟨_, rfl⟩
            have hq2 : decide (er = 0) = q := by rw [← hq]; rfl
            have HGF := Aside0.mk (good_at l0 (x : Int) er)
            rw [hq] at HGF
            have hwa := HWA.out
            clear hy
            go_wp2_with fail
            refine (HC6.out.left HLF.out).mono ?_
            rintro e7 w8 ⟨rfl, hc8, hk8, hb8⟩
            have HB8 := Aside0.mk (Cur.wide2 HB6.out hb8 hlo.out.2)
            have HC8 := Aside0.mk hc8
            clear hc8 hk8 hb8
            go_wp2_with fail
            refine (HC8.out.good HGF.out).mono ?_
            rintro e8 w9 ⟨rfl, hc9, hk9, hb9⟩
            have HB9 := Aside0.mk (Cur.wide2 HB8.out hb9 hlo.out.2)
            have HC9 := Aside0.mk hc9
            clear hc9 hk9 hb9
            go_wp2_with fail
            clear hwa hwl
            go_roundg k1
            case measure => omega
            case rel => exact ⟨i + 1, x, er, by first | rfl | (rw [HWA.out]) | (congr 1; exact HWA.out), rfl, by first | rfl | exact congrArg (Value.int .i64) (wr1 i (by have := HIL.out; have := HL.out; omega)), ⟨by have := HI.out; omega⟩, HX2, HC9, HB9⟩
        · as_aux_lemma =>
            have e1 : (e == 0) = false := by simpa using he
            have e2 : (e != 0) = true := by simpa using he
            have e3 : decide (e = 0) = false := decide_eq_false he
            have HNZ := Aside0.mk he
            have HG4 := Aside0.mk (blk_new wr (.cells #[.int .i64 2, .int .i64 N] 38))
            have HBa := Aside0.mk (below_alloc (Below.refl wr.heap.size wr) (.cells #[.int .i64 2, .int .i64 N] 38))
            have HB4 := Aside0.mk (below_step HB.out HBa.out)
            have HC4 := Aside0.mk (HC.out.below HBa.out)
            have hq0 := blk_cell HG4.out 0
            have hq1 := blk_cell HG4.out 1
            simp only [List.getElem?_toArray, List.getElem?_cons_zero, List.getElem?_cons_succ] at hq0 hq1
            have HLT := Aside0.mk HC.out.lt
            clear HC HB HBa hi he
            go_wp2_with (first | ((with_reducible refine gate_dst (N := 40) rfl ?_); refine load_at rfl 38 _ rfl (ad.add (i * 2)) ?hx [.int .i64 2, .int .i64 N] HX.out _ Try.underlying38 rfl (by rw [infoAct]; rfl) ?_; (case hx => rfl)) | ((with_reducible refine gate_dst (N := 67) rfl ?_); refine wpList_load_row rfl 38 _ rfl wr.heap.size (by rfl) 38 #[.int .i64 2, .int .i64 N] (0, 0) _ HG4.out Try.underlying38 rfl (by rw [infoAct]; rfl) ?_))
            refine (step_2 A0 c0 l0 a N _ (Kd.C_below HR0.out HB4.out) HC0.out HY.out HL.out.1 HE.out.1 HN.out.2).mono ?_
            rintro e5 w5 ⟨n, bs, s, er, A5, c5, rfl, hR, hle, hcs, hb5⟩
            have HG5 := Aside0.mk ((hb5.block _ (blk_lt HG4.out)).trans HG4.out)
            have HB5 := Aside0.mk (below_step HB4.out hb5)
            have HC5 := Aside0.mk (HC4.out.below hb5)
            have HNE := Aside0.mk (show g < wr.heap.size from HLT.out)
            obtain ⟨x, hx⟩ : ∃ x : Nat, x = a := ⟨_, rfl⟩
            have HX2 := Aside0.mk (show x ≤ l0.length ∧ 0 ≤ e ∧ e ≤ 8 by rw [hx]; exact HE.out)
            have HXE := Aside0.mk hx
            have HF := Aside0.mk (number_bad l0 (a : Int) e HNZ.out)
            clear hR hle hcs hb5 hq0 hq1 hx HG4 HB4 HC4
            go_wp2_with fail
            have HQ : Aside0 (∀ W : World, W.heap[wr.heap.size]? = some (.cells #[.int .i64 2, .int .i64 N] 38 (0, 0)) → W.cell? ⟨wr.heap.size, 0, none⟩ = some (.int .i64 2) ∧ W.cell? ⟨wr.heap.size, 1, none⟩ = some (.int .i64 N)) := ⟨fun W hW => ⟨blk_cell hW 0, blk_cell hW 1⟩⟩
            have HGd : Aside0 (w5.drew.heap[wr.heap.size]? = some (.cells #[.int .i64 2, .int .i64 N] 38 (0, 0))) := ⟨HG5.out⟩
            have HBd := Aside0.mk (below_drew1 HB5.out)
            have HCd := Aside0.mk (HC5.out.below (below_drew1 (Below.refl _ w5)))
            clear HG5 HB5 HC5
            refine reg20_2n (A0 := none) (A5 := none) (c0 := 0) (c5 := 0) (bs := []) (x := 0) (n := 0) (er := 0) (T := ⟨#[]⟩) (by kernel_rfl) (fun _ _ T _ _ h => by cases T <;> exact h) hlo HQ HGd HBd HCd HNE HF HNZ ?_
            intro x75 x76 x77 x78 x79 x80 x81 x82 x83 x84 x85 x86 x87 x88 x89 x90 x91 x92 x93 x94 x95 x96 x97 x98 x99 x100 x101 x102 x103 x104 x105 x106 x107 x108 x109 x110 x111 x112 x113 x114 x115 x116 x117 x118 x119 x120 x121 x122 x123 x124 x125 x126 x127 x128 x129 x130 x131 x132 w6 hg6 hb6 hc6
            have HG6 := Aside0.mk hg6
            have HB6 := Aside0.mk hb6
            have HC6 := Aside0.mk hc6
            clear hg6 hb6 hc6
            have hq0 := (HQ.out _ HG6.out).1
            have hq1 := (HQ.out _ HG6.out).2
            have hwa : wrap64 (a : Int) = (x : Int) := by rw [show (a : Int) = (x : Int) by have := HXE.out; omega]; exact wx x (by have := HX2.out; have := HL.out; omega)
            have hxa : a = x := HXE.out.symm
            have HWA := Aside0.mk hwa
            clear hwa
            obtain ⟨y, hy⟩ : ∃ y : Nat, y = l0.length - x := ⟨_, rfl⟩
            have hwl : wrap64 ((l0.length : Int) - (x : Int)) = (y : Int) := by rw [show (l0.length : Int) - (x : Int) = (y : Int) by have := HX2.out; omega]; exact wx y (by have := HL.out; omega)
            have HLF := Aside0.mk (left_at l0 x e (by have := HL.out; omega) (by have := HX2.out; omega))
            rw [← hy] at HLF
            obtain ⟨q, hq⟩ : ∃ q, (e == 0) = q := ⟨_, rfl⟩
            have hq2 : decide (e = 0) = q := by rw [← hq]; rfl
            have HGF := Aside0.mk (good_at l0 (x : Int) e)
            rw [hq] at HGF
            have hwa := HWA.out
            clear hy
            rw [hxa] at HC6
            clear hxa
            rw [e1] at hq
            subst hq
            clear hq2
            go_wp2_with fail
            refine (HC6.out.left HLF.out).mono ?_
            rintro e7 w8 ⟨rfl, hc8, hk8, hb8⟩
            have HB8 := Aside0.mk (Cur.wide2 HB6.out hb8 hlo.out.2)
            have HC8 := Aside0.mk hc8
            clear hc8 hk8 hb8
            go_wp2_with fail
            refine (HC8.out.good HGF.out).mono ?_
            rintro e8 w9 ⟨rfl, hc9, hk9, hb9⟩
            have HB9 := Aside0.mk (Cur.wide2 HB8.out hb9 hlo.out.2)
            have HC9 := Aside0.mk hc9
            clear hc9 hk9 hb9
            go_wp2_with fail
            clear hwa hwl
            go_roundg k1
            case measure => omega
            case rel => exact ⟨i + 1, x, e, by first | rfl | (rw [HWA.out]) | (congr 1; exact HWA.out), rfl, by first | rfl | exact congrArg (Value.int .i64) (wr1 i (by have := HIL.out; have := HL.out; omega)), ⟨by have := HI.out; omega⟩, HX2, HC9, HB9⟩
      by_cases hd3 : d = 3
      · subst hd3
        clear h h2
        by_cases he : e = 0
        · subst he
          as_aux_lemma =>
            have HG4 := Aside0.mk (blk_new wr (.cells #[.int .i64 3, .int .i64 N] 38))
            have HBa := Aside0.mk (below_alloc (Below.refl wr.heap.size wr) (.cells #[.int .i64 3, .int .i64 N] 38))
            have HB4 := Aside0.mk (below_step HB.out HBa.out)
            have HC4 := Aside0.mk (HC.out.below HBa.out)
            have hq0 := blk_cell HG4.out 0
            have hq1 := blk_cell HG4.out 1
            simp only [List.getElem?_toArray, List.getElem?_cons_zero, List.getElem?_cons_succ] at hq0 hq1
            have HLT := Aside0.mk HC.out.lt
            clear HC HB HBa hi
            go_wp2_with (first | ((with_reducible refine gate_dst (N := 40) rfl ?_); refine load_at rfl 38 _ rfl (ad.add (i * 2)) ?hx [.int .i64 3, .int .i64 N] HX.out _ Try.underlying38 rfl (by rw [infoAct]; rfl) ?_; (case hx => rfl)) | ((with_reducible refine gate_dst (N := 67) rfl ?_); refine wpList_load_row rfl 38 _ rfl wr.heap.size (by rfl) 38 #[.int .i64 3, .int .i64 N] (0, 0) _ HG4.out Try.underlying38 rfl (by rw [infoAct]; rfl) ?_))
            refine (step_3 A0 c0 l0 a N _ (Kd.C_below HR0.out HB4.out) HC0.out HY.out HL.out.1 HE.out.1 HN.out.2).mono ?_
            rintro e5 w5 ⟨n, bs, s, er, A5, c5, rfl, hR, hle, hcs, hb5⟩
            have HG5 := Aside0.mk ((hb5.block _ (blk_lt HG4.out)).trans HG4.out)
            have HB5 := Aside0.mk (below_step HB4.out hb5)
            have HC5 := Aside0.mk (HC4.out.below hb5)
            have HNE := Aside0.mk (show g < wr.heap.size from HLT.out)
            obtain ⟨x, hx⟩ : ∃ x : Nat, x = a + s := ⟨_, rfl⟩
            unfold StepR at hR
            rw [← hx] at hR
            have HX2 := Aside0.mk (show x ≤ l0.length ∧ 0 ≤ er ∧ er ≤ 8 from ⟨hR.1, hR.2.1⟩)
            have HXE := Aside0.mk hx
            have hs5 : (s : Int) = (x : Int) - (a : Int) := by omega
            have HF := Aside0.mk (hR.2.2.2.2.2.1 rfl)
            clear hR hle hcs hb5 hq0 hq1 hx HG4 HB4 HC4 hs5
            go_wp2_with fail
            have HQ : Aside0 (∀ W : World, W.heap[wr.heap.size]? = some (.cells #[.int .i64 3, .int .i64 N] 38 (0, 0)) → W.cell? ⟨wr.heap.size, 0, none⟩ = some (.int .i64 3) ∧ W.cell? ⟨wr.heap.size, 1, none⟩ = some (.int .i64 N)) := ⟨fun W hW => ⟨blk_cell hW 0, blk_cell hW 1⟩⟩
            have HGd : Aside0 (w5.drew.heap[wr.heap.size]? = some (.cells #[.int .i64 3, .int .i64 N] 38 (0, 0))) := ⟨HG5.out⟩
            have HBd := Aside0.mk (below_drew1 HB5.out)
            have HCd := Aside0.mk (HC5.out.below (below_drew1 (Below.refl _ w5)))
            clear HG5 HB5 HC5
            refine reg20_3z (A0 := none) (c0 := 0) (e := 0) (T := ⟨#[]⟩) (by kernel_rfl) (fun _ _ T _ _ h => by cases T <;> exact h) hlo HQ HGd HBd HCd HNE HF ?_
            intro x75 x76 x77 x78 x79 x80 x81 x82 x83 x84 x85 x86 x87 x88 x89 x90 x91 x92 x93 x94 x95 x96 x97 x98 x99 x100 x101 x102 x103 x104 x105 x106 x107 x108 x109 x110 x111 x112 x113 x114 x115 x116 x117 x118 x119 x120 x121 x122 x123 x124 x125 x126 x127 x128 x129 x130 x131 x132 w6 hg6 hb6 hc6
            have HG6 := Aside0.mk hg6
            have HB6 := Aside0.mk hb6
            have HC6 := Aside0.mk hc6
            clear hg6 hb6 hc6
            have hq0 := (HQ.out _ HG6.out).1
            have hq1 := (HQ.out _ HG6.out).2
            have hwa : wrap64 ((a : Int) + (s : Int)) = (x : Int) := by rw [show (a : Int) + (s : Int) = (x : Int) by have := HXE.out; omega]; exact wx x (by have := HX2.out; have := HL.out; omega)
            have HWA := Aside0.mk hwa
            clear hwa
            obtain ⟨y, hy⟩ : ∃ y : Nat, y = l0.length - x := ⟨_, rfl⟩
            have hwl : wrap64 ((l0.length : Int) - (x : Int)) = (y : Int) := by rw [show (l0.length : Int) - (x : Int) = (y : Int) by have := HX2.out; omega]; exact wx y (by have := HL.out; omega)
            have HLF := Aside0.mk (left_at l0 x er (by have := HL.out; omega) (by have := HX2.out; omega))
            rw [← hy] at HLF
            obtain ⟨q, hq⟩ : ∃ q, (er == 0) = q := ⟨_, rfl⟩
            have hq2 : decide (er = 0) = q := by rw [← hq]; rfl
            have HGF := Aside0.mk (good_at l0 (x : Int) er)
            rw [hq] at HGF
            have hwa := HWA.out
            clear hy
            go_wp2_with fail
            refine (HC6.out.left HLF.out).mono ?_
            rintro e7 w8 ⟨rfl, hc8, hk8, hb8⟩
            have HB8 := Aside0.mk (Cur.wide2 HB6.out hb8 hlo.out.2)
            have HC8 := Aside0.mk hc8
            clear hc8 hk8 hb8
            go_wp2_with fail
            refine (HC8.out.good HGF.out).mono ?_
            rintro e8 w9 ⟨rfl, hc9, hk9, hb9⟩
            have HB9 := Aside0.mk (Cur.wide2 HB8.out hb9 hlo.out.2)
            have HC9 := Aside0.mk hc9
            clear hc9 hk9 hb9
            go_wp2_with fail
            clear hwa hwl
            go_roundg k1
            case measure => omega
            case rel => exact ⟨i + 1, x, er, by first | rfl | (rw [HWA.out]) | (congr 1; exact HWA.out), rfl, by first | rfl | exact congrArg (Value.int .i64) (wr1 i (by have := HIL.out; have := HL.out; omega)), ⟨by have := HI.out; omega⟩, HX2, HC9, HB9⟩
        · as_aux_lemma =>
            have e1 : (e == 0) = false := by simpa using he
            have e2 : (e != 0) = true := by simpa using he
            have e3 : decide (e = 0) = false := decide_eq_false he
            have HNZ := Aside0.mk he
            have HG4 := Aside0.mk (blk_new wr (.cells #[.int .i64 3, .int .i64 N] 38))
            have HBa := Aside0.mk (below_alloc (Below.refl wr.heap.size wr) (.cells #[.int .i64 3, .int .i64 N] 38))
            have HB4 := Aside0.mk (below_step HB.out HBa.out)
            have HC4 := Aside0.mk (HC.out.below HBa.out)
            have hq0 := blk_cell HG4.out 0
            have hq1 := blk_cell HG4.out 1
            simp only [List.getElem?_toArray, List.getElem?_cons_zero, List.getElem?_cons_succ] at hq0 hq1
            have HLT := Aside0.mk HC.out.lt
            clear HC HB HBa hi he
            go_wp2_with (first | ((with_reducible refine gate_dst (N := 40) rfl ?_); refine load_at rfl 38 _ rfl (ad.add (i * 2)) ?hx [.int .i64 3, .int .i64 N] HX.out _ Try.underlying38 rfl (by rw [infoAct]; rfl) ?_; (case hx => rfl)) | ((with_reducible refine gate_dst (N := 67) rfl ?_); refine wpList_load_row rfl 38 _ rfl wr.heap.size (by rfl) 38 #[.int .i64 3, .int .i64 N] (0, 0) _ HG4.out Try.underlying38 rfl (by rw [infoAct]; rfl) ?_))
            refine (step_3 A0 c0 l0 a N _ (Kd.C_below HR0.out HB4.out) HC0.out HY.out HL.out.1 HE.out.1 HN.out.2).mono ?_
            rintro e5 w5 ⟨n, bs, s, er, A5, c5, rfl, hR, hle, hcs, hb5⟩
            have HG5 := Aside0.mk ((hb5.block _ (blk_lt HG4.out)).trans HG4.out)
            have HB5 := Aside0.mk (below_step HB4.out hb5)
            have HC5 := Aside0.mk (HC4.out.below hb5)
            have HNE := Aside0.mk (show g < wr.heap.size from HLT.out)
            obtain ⟨x, hx⟩ : ∃ x : Nat, x = a := ⟨_, rfl⟩
            have HX2 := Aside0.mk (show x ≤ l0.length ∧ 0 ≤ e ∧ e ≤ 8 by rw [hx]; exact HE.out)
            have HXE := Aside0.mk hx
            have HF := Aside0.mk (most_bad l0 (a : Int) e N HNZ.out)
            clear hR hle hcs hb5 hq0 hq1 hx HG4 HB4 HC4
            go_wp2_with fail
            have HQ : Aside0 (∀ W : World, W.heap[wr.heap.size]? = some (.cells #[.int .i64 3, .int .i64 N] 38 (0, 0)) → W.cell? ⟨wr.heap.size, 0, none⟩ = some (.int .i64 3) ∧ W.cell? ⟨wr.heap.size, 1, none⟩ = some (.int .i64 N)) := ⟨fun W hW => ⟨blk_cell hW 0, blk_cell hW 1⟩⟩
            have HGd : Aside0 (w5.drew.heap[wr.heap.size]? = some (.cells #[.int .i64 3, .int .i64 N] 38 (0, 0))) := ⟨HG5.out⟩
            have HBd := Aside0.mk (below_drew1 HB5.out)
            have HCd := Aside0.mk (HC5.out.below (below_drew1 (Below.refl _ w5)))
            clear HG5 HB5 HC5
            refine reg20_3n (A0 := none) (A5 := none) (c0 := 0) (c5 := 0) (bs := []) (x := 0) (n := 0) (er := 0) (T := ⟨#[]⟩) (by kernel_rfl) (fun _ _ T _ _ h => by cases T <;> exact h) hlo HQ HGd HBd HCd HNE HF HNZ ?_
            intro x75 x76 x77 x78 x79 x80 x81 x82 x83 x84 x85 x86 x87 x88 x89 x90 x91 x92 x93 x94 x95 x96 x97 x98 x99 x100 x101 x102 x103 x104 x105 x106 x107 x108 x109 x110 x111 x112 x113 x114 x115 x116 x117 x118 x119 x120 x121 x122 x123 x124 x125 x126 x127 x128 x129 x130 x131 x132 w6 hg6 hb6 hc6
            have HG6 := Aside0.mk hg6
            have HB6 := Aside0.mk hb6
            have HC6 := Aside0.mk hc6
            clear hg6 hb6 hc6
            have hq0 := (HQ.out _ HG6.out).1
            have hq1 := (HQ.out _ HG6.out).2
            have hwa : wrap64 (a : Int) = (x : Int) := by rw [show (a : Int) = (x : Int) by have := HXE.out; omega]; exact wx x (by have := HX2.out; have := HL.out; omega)
            have hxa : a = x := HXE.out.symm
            have HWA := Aside0.mk hwa
            clear hwa
            obtain ⟨y, hy⟩ : ∃ y : Nat, y = l0.length - x := ⟨_, rfl⟩
            have hwl : wrap64 ((l0.length : Int) - (x : Int)) = (y : Int) := by rw [show (l0.length : Int) - (x : Int) = (y : Int) by have := HX2.out; omega]; exact wx y (by have := HL.out; omega)
            have HLF := Aside0.mk (left_at l0 x e (by have := HL.out; omega) (by have := HX2.out; omega))
            rw [← hy] at HLF
            obtain ⟨q, hq⟩ : ∃ q, (e == 0) = q := ⟨_, rfl⟩
            have hq2 : decide (e = 0) = q := by rw [← hq]; rfl
            have HGF := Aside0.mk (good_at l0 (x : Int) e)
            rw [hq] at HGF
            have hwa := HWA.out
            clear hy
            rw [hxa] at HC6
            clear hxa
            rw [e1] at hq
            subst hq
            clear hq2
            go_wp2_with fail
            refine (HC6.out.left HLF.out).mono ?_
            rintro e7 w8 ⟨rfl, hc8, hk8, hb8⟩
            have HB8 := Aside0.mk (Cur.wide2 HB6.out hb8 hlo.out.2)
            have HC8 := Aside0.mk hc8
            clear hc8 hk8 hb8
            go_wp2_with fail
            refine (HC8.out.good HGF.out).mono ?_
            rintro e8 w9 ⟨rfl, hc9, hk9, hb9⟩
            have HB9 := Aside0.mk (Cur.wide2 HB8.out hb9 hlo.out.2)
            have HC9 := Aside0.mk hc9
            clear hc9 hk9 hb9
            go_wp2_with fail
            clear hwa hwl
            go_roundg k1
            case measure => omega
            case rel => exact ⟨i + 1, x, e, by first | rfl | (rw [HWA.out]) | (congr 1; exact HWA.out), rfl, by first | rfl | exact congrArg (Value.int .i64) (wr1 i (by have := HIL.out; have := HL.out; omega)), ⟨by have := HI.out; omega⟩, HX2, HC9, HB9⟩
      by_cases hd4 : d = 4
      · subst hd4
        clear h h2
        by_cases he : e = 0
        · subst he
          as_aux_lemma =>
            have HG4 := Aside0.mk (blk_new wr (.cells #[.int .i64 4, .int .i64 N] 38))
            have HBa := Aside0.mk (below_alloc (Below.refl wr.heap.size wr) (.cells #[.int .i64 4, .int .i64 N] 38))
            have HB4 := Aside0.mk (below_step HB.out HBa.out)
            have HC4 := Aside0.mk (HC.out.below HBa.out)
            have hq0 := blk_cell HG4.out 0
            have hq1 := blk_cell HG4.out 1
            simp only [List.getElem?_toArray, List.getElem?_cons_zero, List.getElem?_cons_succ] at hq0 hq1
            have HLT := Aside0.mk HC.out.lt
            clear HC HB HBa hi
            go_wp2_with (first | ((with_reducible refine gate_dst (N := 40) rfl ?_); refine load_at rfl 38 _ rfl (ad.add (i * 2)) ?hx [.int .i64 4, .int .i64 N] HX.out _ Try.underlying38 rfl (by rw [infoAct]; rfl) ?_; (case hx => rfl)) | ((with_reducible refine gate_dst (N := 67) rfl ?_); refine wpList_load_row rfl 38 _ rfl wr.heap.size (by rfl) 38 #[.int .i64 4, .int .i64 N] (0, 0) _ HG4.out Try.underlying38 rfl (by rw [infoAct]; rfl) ?_))
            refine (step_4 A0 c0 l0 a N _ (Kd.C_below HR0.out HB4.out) HC0.out HY.out HL.out.1 HE.out.1 HN.out.2).mono ?_
            rintro e5 w5 ⟨n, bs, s, er, A5, c5, rfl, hR, hle, hcs, hb5⟩
            have HG5 := Aside0.mk ((hb5.block _ (blk_lt HG4.out)).trans HG4.out)
            have HB5 := Aside0.mk (below_step HB4.out hb5)
            have HC5 := Aside0.mk (HC4.out.below hb5)
            have HNE := Aside0.mk (show g < wr.heap.size from HLT.out)
            obtain ⟨x, hx⟩ : ∃ x : Nat, x = a + s := ⟨_, rfl⟩
            unfold StepR at hR
            rw [← hx] at hR
            have HX2 := Aside0.mk (show x ≤ l0.length ∧ 0 ≤ er ∧ er ≤ 8 from ⟨hR.1, hR.2.1⟩)
            have HXE := Aside0.mk hx
            have hs5 : (s : Int) = (x : Int) - (a : Int) := by omega
            have HF := Aside0.mk (hR.2.2.2.2.2.2.1 rfl)
            obtain ⟨T, hT⟩ : ∃ T, T = strOfNums bs := ⟨_, rfl⟩
            rw [← hT] at HF
            have HCV : Aside0 (∀ W : World, Below w.heap.size w W → (convert 24 9 (.slice A5 bs.length c5)).run Try.prog W = .ok (.string T) W) := ⟨fun W hW => by rw [hT]; exact Kd.C_string (P := Try.prog) (c := c5) Try.underlying24 Try.underlying5 Try.underlying9 (hcs W (Kd.C_below HR0.out hW))⟩
            clear hT
            clear hR hle hcs hb5 hq0 hq1 hx HG4 HB4 HC4 hs5
            go_wp2_with fail
            have HQ : Aside0 (∀ W : World, W.heap[wr.heap.size]? = some (.cells #[.int .i64 4, .int .i64 N] 38 (0, 0)) → W.cell? ⟨wr.heap.size, 0, none⟩ = some (.int .i64 4) ∧ W.cell? ⟨wr.heap.size, 1, none⟩ = some (.int .i64 N)) := ⟨fun W hW => ⟨blk_cell hW 0, blk_cell hW 1⟩⟩
            have HGd : Aside0 (w5.drew.heap[wr.heap.size]? = some (.cells #[.int .i64 4, .int .i64 N] 38 (0, 0))) := ⟨HG5.out⟩
            have HBd := Aside0.mk (below_drew1 HB5.out)
            have HCd := Aside0.mk (HC5.out.below (below_drew1 (Below.refl _ w5)))
            clear HG5 HB5 HC5
            refine reg20_4z (A0 := none) (c0 := 0) (e := 0) (by kernel_rfl) (fun _ _ T _ _ h => by cases T <;> exact h) hlo HQ HGd HBd HCd HNE HF HCV ?_
            intro x75 x76 x77 x78 x79 x80 x81 x82 x83 x84 x85 x86 x87 x88 x89 x90 x91 x92 x93 x94 x95 x96 x97 x98 x99 x100 x101 x102 x103 x104 x105 x106 x107 x108 x109 x110 x111 x112 x113 x114 x115 x116 x117 x118 x119 x120 x121 x122 x123 x124 x125 x126 x127 x128 x129 x130 x131 x132 w6 hg6 hb6 hc6
            have HG6 := Aside0.mk hg6
            have HB6 := Aside0.mk hb6
            have HC6 := Aside0.mk hc6
            clear hg6 hb6 hc6
            have hq0 := (HQ.out _ HG6.out).1
            have hq1 := (HQ.out _ HG6.out).2
            have hwa : wrap64 ((a : Int) + (s : Int)) = (x : Int) := by rw [show (a : Int) + (s : Int) = (x : Int) by have := HXE.out; omega]; exact wx x (by have := HX2.out; have := HL.out; omega)
            have HWA := Aside0.mk hwa
            clear hwa
            obtain ⟨y, hy⟩ : ∃ y : Nat, y = l0.length - x := ⟨_, rfl⟩
            have hwl : wrap64 ((l0.length : Int) - (x : Int)) = (y : Int) := by rw [show (l0.length : Int) - (x : Int) = (y : Int) by have := HX2.out; omega]; exact wx y (by have := HL.out; omega)
            have HLF := Aside0.mk (left_at l0 x er (by have := HL.out; omega) (by have := HX2.out; omega))
            rw [← hy] at HLF
            obtain ⟨q, hq⟩ : ∃ q, (er == 0) = q := ⟨_, rfl⟩
            have hq2 : decide (er = 0) = q := by rw [← hq]; rfl
            have HGF := Aside0.mk (good_at l0 (x : Int) er)
            rw [hq] at HGF
            have hwa := HWA.out
            clear hy
            go_wp2_with fail
            refine (HC6.out.left HLF.out).mono ?_
            rintro e7 w8 ⟨rfl, hc8, hk8, hb8⟩
            have HB8 := Aside0.mk (Cur.wide2 HB6.out hb8 hlo.out.2)
            have HC8 := Aside0.mk hc8
            clear hc8 hk8 hb8
            go_wp2_with fail
            refine (HC8.out.good HGF.out).mono ?_
            rintro e8 w9 ⟨rfl, hc9, hk9, hb9⟩
            have HB9 := Aside0.mk (Cur.wide2 HB8.out hb9 hlo.out.2)
            have HC9 := Aside0.mk hc9
            clear hc9 hk9 hb9
            go_wp2_with fail
            clear hwa hwl
            go_roundg k1
            case measure => omega
            case rel => exact ⟨i + 1, x, er, by first | rfl | (rw [HWA.out]) | (congr 1; exact HWA.out), rfl, by first | rfl | exact congrArg (Value.int .i64) (wr1 i (by have := HIL.out; have := HL.out; omega)), ⟨by have := HI.out; omega⟩, HX2, HC9, HB9⟩
        · as_aux_lemma =>
            have e1 : (e == 0) = false := by simpa using he
            have e2 : (e != 0) = true := by simpa using he
            have e3 : decide (e = 0) = false := decide_eq_false he
            have HNZ := Aside0.mk he
            have HG4 := Aside0.mk (blk_new wr (.cells #[.int .i64 4, .int .i64 N] 38))
            have HBa := Aside0.mk (below_alloc (Below.refl wr.heap.size wr) (.cells #[.int .i64 4, .int .i64 N] 38))
            have HB4 := Aside0.mk (below_step HB.out HBa.out)
            have HC4 := Aside0.mk (HC.out.below HBa.out)
            have hq0 := blk_cell HG4.out 0
            have hq1 := blk_cell HG4.out 1
            simp only [List.getElem?_toArray, List.getElem?_cons_zero, List.getElem?_cons_succ] at hq0 hq1
            have HLT := Aside0.mk HC.out.lt
            clear HC HB HBa hi he
            go_wp2_with (first | ((with_reducible refine gate_dst (N := 40) rfl ?_); refine load_at rfl 38 _ rfl (ad.add (i * 2)) ?hx [.int .i64 4, .int .i64 N] HX.out _ Try.underlying38 rfl (by rw [infoAct]; rfl) ?_; (case hx => rfl)) | ((with_reducible refine gate_dst (N := 67) rfl ?_); refine wpList_load_row rfl 38 _ rfl wr.heap.size (by rfl) 38 #[.int .i64 4, .int .i64 N] (0, 0) _ HG4.out Try.underlying38 rfl (by rw [infoAct]; rfl) ?_))
            refine (step_4 A0 c0 l0 a N _ (Kd.C_below HR0.out HB4.out) HC0.out HY.out HL.out.1 HE.out.1 HN.out.2).mono ?_
            rintro e5 w5 ⟨n, bs, s, er, A5, c5, rfl, hR, hle, hcs, hb5⟩
            have HG5 := Aside0.mk ((hb5.block _ (blk_lt HG4.out)).trans HG4.out)
            have HB5 := Aside0.mk (below_step HB4.out hb5)
            have HC5 := Aside0.mk (HC4.out.below hb5)
            have HNE := Aside0.mk (show g < wr.heap.size from HLT.out)
            obtain ⟨x, hx⟩ : ∃ x : Nat, x = a := ⟨_, rfl⟩
            have HX2 := Aside0.mk (show x ≤ l0.length ∧ 0 ≤ e ∧ e ≤ 8 by rw [hx]; exact HE.out)
            have HXE := Aside0.mk hx
            have HF := Aside0.mk (text_bad l0 (a : Int) e HNZ.out)
            obtain ⟨T, hT⟩ : ∃ T, T = strOfNums [] := ⟨_, rfl⟩
            rw [← hT] at HF
            have HCV : Aside0 (∀ W : World, Below w.heap.size w W → (convert 24 9 (.slice none 0 0)).run Try.prog W = .ok (.string T) W) := ⟨fun W hW => by rw [hT]; exact Kd.C_string (P := Try.prog) (c := 0) Try.underlying24 Try.underlying5 Try.underlying9 (Kd.C_nil (Kd.int .u8) W)⟩
            clear hT
            clear hR hle hcs hb5 hq0 hq1 hx HG4 HB4 HC4
            go_wp2_with fail
            have HQ : Aside0 (∀ W : World, W.heap[wr.heap.size]? = some (.cells #[.int .i64 4, .int .i64 N] 38 (0, 0)) → W.cell? ⟨wr.heap.size, 0, none⟩ = some (.int .i64 4) ∧ W.cell? ⟨wr.heap.size, 1, none⟩ = some (.int .i64 N)) := ⟨fun W hW => ⟨blk_cell hW 0, blk_cell hW 1⟩⟩
            have HGd : Aside0 (w5.drew.heap[wr.heap.size]? = some (.cells #[.int .i64 4, .int .i64 N] 38 (0, 0))) := ⟨HG5.out⟩
            have HBd := Aside0.mk (below_drew1 HB5.out)
            have HCd := Aside0.mk (HC5.out.below (below_drew1 (Below.refl _ w5)))
            clear HG5 HB5 HC5
            refine reg20_4n (A0 := none) (A5 := none) (c0 := 0) (c5 := 0) (bs := []) (x := 0) (n := 0) (er := 0) (by kernel_rfl) (fun _ _ T _ _ h => by cases T <;> exact h) hlo HQ HGd HBd HCd HNE HF HCV HNZ ?_
            intro x75 x76 x77 x78 x79 x80 x81 x82 x83 x84 x85 x86 x87 x88 x89 x90 x91 x92 x93 x94 x95 x96 x97 x98 x99 x100 x101 x102 x103 x104 x105 x106 x107 x108 x109 x110 x111 x112 x113 x114 x115 x116 x117 x118 x119 x120 x121 x122 x123 x124 x125 x126 x127 x128 x129 x130 x131 x132 w6 hg6 hb6 hc6
            have HG6 := Aside0.mk hg6
            have HB6 := Aside0.mk hb6
            have HC6 := Aside0.mk hc6
            clear hg6 hb6 hc6
            have hq0 := (HQ.out _ HG6.out).1
            have hq1 := (HQ.out _ HG6.out).2
            have hwa : wrap64 (a : Int) = (x : Int) := by rw [show (a : Int) = (x : Int) by have := HXE.out; omega]; exact wx x (by have := HX2.out; have := HL.out; omega)
            have hxa : a = x := HXE.out.symm
            have HWA := Aside0.mk hwa
            clear hwa
            obtain ⟨y, hy⟩ : ∃ y : Nat, y = l0.length - x := ⟨_, rfl⟩
            have hwl : wrap64 ((l0.length : Int) - (x : Int)) = (y : Int) := by rw [show (l0.length : Int) - (x : Int) = (y : Int) by have := HX2.out; omega]; exact wx y (by have := HL.out; omega)
            have HLF := Aside0.mk (left_at l0 x e (by have := HL.out; omega) (by have := HX2.out; omega))
            rw [← hy] at HLF
            obtain ⟨q, hq⟩ : ∃ q, (e == 0) = q := ⟨_, rfl⟩
            have hq2 : decide (e = 0) = q := by rw [← hq]; rfl
            have HGF := Aside0.mk (good_at l0 (x : Int) e)
            rw [hq] at HGF
            have hwa := HWA.out
            clear hy
            rw [hxa] at HC6
            clear hxa
            rw [e1] at hq
            subst hq
            clear hq2
            go_wp2_with fail
            refine (HC6.out.left HLF.out).mono ?_
            rintro e7 w8 ⟨rfl, hc8, hk8, hb8⟩
            have HB8 := Aside0.mk (Cur.wide2 HB6.out hb8 hlo.out.2)
            have HC8 := Aside0.mk hc8
            clear hc8 hk8 hb8
            go_wp2_with fail
            refine (HC8.out.good HGF.out).mono ?_
            rintro e8 w9 ⟨rfl, hc9, hk9, hb9⟩
            have HB9 := Aside0.mk (Cur.wide2 HB8.out hb9 hlo.out.2)
            have HC9 := Aside0.mk hc9
            clear hc9 hk9 hb9
            go_wp2_with fail
            clear hwa hwl
            go_roundg k1
            case measure => omega
            case rel => exact ⟨i + 1, x, e, by first | rfl | (rw [HWA.out]) | (congr 1; exact HWA.out), rfl, by first | rfl | exact congrArg (Value.int .i64) (wr1 i (by have := HIL.out; have := HL.out; omega)), ⟨by have := HI.out; omega⟩, HX2, HC9, HB9⟩
      obtain rfl : d = 5 := by omega
      clear h h2 hd0 hd1 hd2 hd3 hd4
      by_cases h3 : N < 1
      · as_aux_lemma =>
          have t3 : decide (N < 1) = true := decide_eq_true (by omega)
          have HG4 := Aside0.mk (blk_new wr (.cells #[.int .i64 5, .int .i64 N] 38))
          have HBa := Aside0.mk (below_alloc (Below.refl wr.heap.size wr) (.cells #[.int .i64 5, .int .i64 N] 38))
          have HB4 := Aside0.mk (below_step HB.out HBa.out)
          have HC4 := Aside0.mk (HC.out.below HBa.out)
          have hq0 := blk_cell HG4.out 0
          have hq1 := blk_cell HG4.out 1
          simp only [List.getElem?_toArray, List.getElem?_cons_zero, List.getElem?_cons_succ] at hq0 hq1
          clear HC HB HBa hi h3
          go_wp2_with (first | ((with_reducible refine gate_dst (N := 40) rfl ?_); refine load_at rfl 38 _ rfl (ad.add (i * 2)) ?hx [.int .i64 5, .int .i64 N] HX.out _ Try.underlying38 rfl (by rw [infoAct]; rfl) ?_; (case hx => rfl)) | ((with_reducible refine gate_dst (N := 67) rfl ?_); refine wpList_load_row rfl 38 _ rfl wr.heap.size (by rfl) 38 #[.int .i64 5, .int .i64 N] (0, 0) _ HG4.out Try.underlying38 rfl (by rw [infoAct]; rfl) ?_))
          go_ret
          exact ⟨rfl, HB4.out⟩
      by_cases h4 : 8 < N
      · as_aux_lemma =>
          have t3 : decide (N < 1) = false := decide_eq_false (by omega)
          have t4 : decide (8 < N) = true := decide_eq_true (by omega)
          have HG4 := Aside0.mk (blk_new wr (.cells #[.int .i64 5, .int .i64 N] 38))
          have HBa := Aside0.mk (below_alloc (Below.refl wr.heap.size wr) (.cells #[.int .i64 5, .int .i64 N] 38))
          have HB4 := Aside0.mk (below_step HB.out HBa.out)
          have HC4 := Aside0.mk (HC.out.below HBa.out)
          have hq0 := blk_cell HG4.out 0
          have hq1 := blk_cell HG4.out 1
          simp only [List.getElem?_toArray, List.getElem?_cons_zero, List.getElem?_cons_succ] at hq0 hq1
          clear HC HB HBa hi h3 h4
          go_wp2_with (first | ((with_reducible refine gate_dst (N := 40) rfl ?_); refine load_at rfl 38 _ rfl (ad.add (i * 2)) ?hx [.int .i64 5, .int .i64 N] HX.out _ Try.underlying38 rfl (by rw [infoAct]; rfl) ?_; (case hx => rfl)) | ((with_reducible refine gate_dst (N := 67) rfl ?_); refine wpList_load_row rfl 38 _ rfl wr.heap.size (by rfl) 38 #[.int .i64 5, .int .i64 N] (0, 0) _ HG4.out Try.underlying38 rfl (by rw [infoAct]; rfl) ?_))
          go_ret
          exact ⟨rfl, HB4.out⟩
      have h5 : 1 ≤ N ∧ N ≤ 8 := by omega
      clear h3 h4
      by_cases he : e = 0
      · subst he
        as_aux_lemma =>
          have HN5 := Aside0.mk h5
          have t3 : decide (N < 1) = false := decide_eq_false (by omega)
          have t4 : decide (8 < N) = false := decide_eq_false (by omega)
          have HG4 := Aside0.mk (blk_new wr (.cells #[.int .i64 5, .int .i64 N] 38))
          have HBa := Aside0.mk (below_alloc (Below.refl wr.heap.size wr) (.cells #[.int .i64 5, .int .i64 N] 38))
          have HB4 := Aside0.mk (below_step HB.out HBa.out)
          have HC4 := Aside0.mk (HC.out.below HBa.out)
          have hq0 := blk_cell HG4.out 0
          have hq1 := blk_cell HG4.out 1
          simp only [List.getElem?_toArray, List.getElem?_cons_zero, List.getElem?_cons_succ] at hq0 hq1
          have HLT := Aside0.mk HC.out.lt
          clear HC HB HBa hi h5
          go_wp2_with (first | ((with_reducible refine gate_dst (N := 40) rfl ?_); refine load_at rfl 38 _ rfl (ad.add (i * 2)) ?hx [.int .i64 5, .int .i64 N] HX.out _ Try.underlying38 rfl (by rw [infoAct]; rfl) ?_; (case hx => rfl)) | ((with_reducible refine gate_dst (N := 67) rfl ?_); refine wpList_load_row rfl 38 _ rfl wr.heap.size (by rfl) 38 #[.int .i64 5, .int .i64 N] (0, 0) _ HG4.out Try.underlying38 rfl (by rw [infoAct]; rfl) ?_))
          refine (step_5 A0 c0 l0 a N _ (Kd.C_below HR0.out HB4.out) HC0.out HY.out HL.out.1 HE.out.1 HN.out.2 (by exact HN5.out)).mono ?_
          rintro e5 w5 ⟨n, bs, s, er, A5, c5, rfl, hR, hle, hcs, hb5⟩
          have HG5 := Aside0.mk ((hb5.block _ (blk_lt HG4.out)).trans HG4.out)
          have HB5 := Aside0.mk (below_step HB4.out hb5)
          have HC5 := Aside0.mk (HC4.out.below hb5)
          have HNE := Aside0.mk (show g < wr.heap.size from HLT.out)
          obtain ⟨x, hx⟩ : ∃ x : Nat, x = a + s := ⟨_, rfl⟩
          unfold StepR at hR
          rw [← hx] at hR
          have HX2 := Aside0.mk (show x ≤ l0.length ∧ 0 ≤ er ∧ er ≤ 8 from ⟨hR.1, hR.2.1⟩)
          have HXE := Aside0.mk hx
          have hs5 : (s : Int) = (x : Int) - (a : Int) := by omega
          obtain ⟨hs0, hEN⟩ := hR.2.2.2.2.2.2.2 rfl
          have hEN2 := hEN.symm
          subst hEN2
          clear hs5 hEN hR hle hcs hb5 hq0 hq1 hx HG4 HB4 HC4
          go_wp2_with fail
          have HQ : Aside0 (∀ W : World, W.heap[wr.heap.size]? = some (.cells #[.int .i64 5, .int .i64 N] 38 (0, 0)) → W.cell? ⟨wr.heap.size, 0, none⟩ = some (.int .i64 5) ∧ W.cell? ⟨wr.heap.size, 1, none⟩ = some (.int .i64 N)) := ⟨fun W hW => ⟨blk_cell hW 0, blk_cell hW 1⟩⟩
          have HGd : Aside0 (w5.drew.heap[wr.heap.size]? = some (.cells #[.int .i64 5, .int .i64 N] 38 (0, 0))) := ⟨HG5.out⟩
          have HBd := Aside0.mk (below_drew1 HB5.out)
          have HCd := Aside0.mk (HC5.out.below (below_drew1 (Below.refl _ w5)))
          clear HG5 HB5 HC5
          refine reg20_5z (A0 := none) (c0 := 0) (x := 0) (er := 0) (e := 0) (T := ⟨#[]⟩) (by kernel_rfl) (fun _ _ T _ _ h => by cases T <;> exact h) hlo HQ HGd HBd HCd HNE ?_
          intro x75 x76 x77 x78 x79 x80 x81 x82 x83 x84 x85 x86 x87 x88 x89 x90 x91 x92 x93 x94 x95 x96 x97 x98 x99 x100 x101 x102 x103 x104 x105 x106 x107 x108 x109 x110 x111 x112 x113 x114 x115 x116 x117 x118 x119 x120 x121 x122 x123 x124 x125 x126 x127 x128 x129 x130 x131 x132 w6 hg6 hb6 hc6
          have HG5b := Aside0.mk hg6
          have HB5b := Aside0.mk hb6
          have HC5b := Aside0.mk hc6
          clear hg6 hb6 hc6
          clear HGd HBd HCd
          have HGd := HG5b
          have HBd := HB5b
          have HCd := HC5b
          clear HG5b HB5b HC5b
          have hq0 := (HQ.out _ HGd.out).1
          have hq1 := (HQ.out _ HGd.out).2
          go_wp2_with fail
          refine (HCd.out.fail (fail_ok l0 (a : Int) N)).mono ?_
          rintro e6 w6 ⟨rfl, hc6, hk6, hb6⟩
          have HB6 := Aside0.mk (Cur.wide2 HBd.out hb6 hlo.out.2)
          have HC6 := Aside0.mk hc6
          clear hc6 hk6 hb6 hq0 hq1
          obtain rfl := hs0
          have hwa : wrap64 (a : Int) = (x : Int) := by rw [show (a : Int) = (x : Int) by have := HXE.out; omega]; exact wx x (by have := HX2.out; have := HL.out; omega)
          have hxa : a = x := by have := HXE.out; omega
          have HWA := Aside0.mk hwa
          clear hwa
          obtain ⟨y, hy⟩ : ∃ y : Nat, y = l0.length - x := ⟨_, rfl⟩
          have hwl : wrap64 ((l0.length : Int) - (x : Int)) = (y : Int) := by rw [show (l0.length : Int) - (x : Int) = (y : Int) by have := HX2.out; omega]; exact wx y (by have := HL.out; omega)
          have HLF := Aside0.mk (left_at l0 x N (by have := HL.out; omega) (by have := HX2.out; omega))
          rw [← hy] at HLF
          obtain ⟨q, hq⟩ : ∃ q, (N == 0) = q := ⟨_, rfl⟩
          have hq2 : decide (N = 0) = q := by rw [← hq]; rfl
          have HGF := Aside0.mk (good_at l0 (x : Int) N)
          rw [hq] at HGF
          have hwa := HWA.out
          clear hy
          rw [hxa] at HC6
          clear hxa
          go_wp2_with fail
          refine (HC6.out.left HLF.out).mono ?_
          rintro e7 w8 ⟨rfl, hc8, hk8, hb8⟩
          have HB8 := Aside0.mk (Cur.wide2 HB6.out hb8 hlo.out.2)
          have HC8 := Aside0.mk hc8
          clear hc8 hk8 hb8
          go_wp2_with fail
          refine (HC8.out.good HGF.out).mono ?_
          rintro e8 w9 ⟨rfl, hc9, hk9, hb9⟩
          have HB9 := Aside0.mk (Cur.wide2 HB8.out hb9 hlo.out.2)
          have HC9 := Aside0.mk hc9
          clear hc9 hk9 hb9
          go_wp2_with fail
          clear hwa hwl
          go_roundg k1
          case measure => omega
          case rel => exact ⟨i + 1, x, N, by first | rfl | (rw [HWA.out]) | (congr 1; exact HWA.out), rfl, by first | rfl | exact congrArg (Value.int .i64) (wr1 i (by have := HIL.out; have := HL.out; omega)), ⟨by have := HI.out; omega⟩, HX2, HC9, HB9⟩
      · as_aux_lemma =>
          have HN5 := Aside0.mk h5
          have t3 : decide (N < 1) = false := decide_eq_false (by omega)
          have t4 : decide (8 < N) = false := decide_eq_false (by omega)
          have e1 : (e == 0) = false := by simpa using he
          have e2 : (e != 0) = true := by simpa using he
          have e3 : decide (e = 0) = false := decide_eq_false he
          have HNZ := Aside0.mk he
          have HG4 := Aside0.mk (blk_new wr (.cells #[.int .i64 5, .int .i64 N] 38))
          have HBa := Aside0.mk (below_alloc (Below.refl wr.heap.size wr) (.cells #[.int .i64 5, .int .i64 N] 38))
          have HB4 := Aside0.mk (below_step HB.out HBa.out)
          have HC4 := Aside0.mk (HC.out.below HBa.out)
          have hq0 := blk_cell HG4.out 0
          have hq1 := blk_cell HG4.out 1
          simp only [List.getElem?_toArray, List.getElem?_cons_zero, List.getElem?_cons_succ] at hq0 hq1
          have HLT := Aside0.mk HC.out.lt
          clear HC HB HBa hi he h5
          go_wp2_with (first | ((with_reducible refine gate_dst (N := 40) rfl ?_); refine load_at rfl 38 _ rfl (ad.add (i * 2)) ?hx [.int .i64 5, .int .i64 N] HX.out _ Try.underlying38 rfl (by rw [infoAct]; rfl) ?_; (case hx => rfl)) | ((with_reducible refine gate_dst (N := 67) rfl ?_); refine wpList_load_row rfl 38 _ rfl wr.heap.size (by rfl) 38 #[.int .i64 5, .int .i64 N] (0, 0) _ HG4.out Try.underlying38 rfl (by rw [infoAct]; rfl) ?_))
          refine (step_5 A0 c0 l0 a N _ (Kd.C_below HR0.out HB4.out) HC0.out HY.out HL.out.1 HE.out.1 HN.out.2 (by exact HN5.out)).mono ?_
          rintro e5 w5 ⟨n, bs, s, er, A5, c5, rfl, hR, hle, hcs, hb5⟩
          have HG5 := Aside0.mk ((hb5.block _ (blk_lt HG4.out)).trans HG4.out)
          have HB5 := Aside0.mk (below_step HB4.out hb5)
          have HC5 := Aside0.mk (HC4.out.below hb5)
          have HNE := Aside0.mk (show g < wr.heap.size from HLT.out)
          obtain ⟨x, hx⟩ : ∃ x : Nat, x = a := ⟨_, rfl⟩
          have HX2 := Aside0.mk (show x ≤ l0.length ∧ 0 ≤ e ∧ e ≤ 8 by rw [hx]; exact HE.out)
          have HXE := Aside0.mk hx
          clear hR hle hcs hb5 hq0 hq1 hx HG4 HB4 HC4
          go_wp2_with fail
          have HQ : Aside0 (∀ W : World, W.heap[wr.heap.size]? = some (.cells #[.int .i64 5, .int .i64 N] 38 (0, 0)) → W.cell? ⟨wr.heap.size, 0, none⟩ = some (.int .i64 5) ∧ W.cell? ⟨wr.heap.size, 1, none⟩ = some (.int .i64 N)) := ⟨fun W hW => ⟨blk_cell hW 0, blk_cell hW 1⟩⟩
          have HGd : Aside0 (w5.drew.heap[wr.heap.size]? = some (.cells #[.int .i64 5, .int .i64 N] 38 (0, 0))) := ⟨HG5.out⟩
          have HBd := Aside0.mk (below_drew1 HB5.out)
          have HCd := Aside0.mk (HC5.out.below (below_drew1 (Below.refl _ w5)))
          clear HG5 HB5 HC5
          refine reg20_5n (A0 := none) (A5 := none) (c0 := 0) (c5 := 0) (bs := []) (x := 0) (n := 0) (er := 0) (T := ⟨#[]⟩) (by kernel_rfl) (fun _ _ T _ _ h => by cases T <;> exact h) hlo HQ HGd HBd HCd HNE HNZ ?_
          intro x75 x76 x77 x78 x79 x80 x81 x82 x83 x84 x85 x86 x87 x88 x89 x90 x91 x92 x93 x94 x95 x96 x97 x98 x99 x100 x101 x102 x103 x104 x105 x106 x107 x108 x109 x110 x111 x112 x113 x114 x115 x116 x117 x118 x119 x120 x121 x122 x123 x124 x125 x126 x127 x128 x129 x130 x131 x132 w6 hg6 hb6 hc6
          have HG5b := Aside0.mk hg6
          have HB5b := Aside0.mk hb6
          have HC5b := Aside0.mk hc6
          clear hg6 hb6 hc6
          clear HGd HBd HCd
          have HGd := HG5b
          have HBd := HB5b
          have HCd := HC5b
          clear HG5b HB5b HC5b
          have hq0 := (HQ.out _ HGd.out).1
          have hq1 := (HQ.out _ HGd.out).2
          go_wp2_with fail
          refine (HCd.out.fail (fail_bad l0 (a : Int) e N HNZ.out)).mono ?_
          rintro e6 w6 ⟨rfl, hc6, hk6, hb6⟩
          have HB6 := Aside0.mk (Cur.wide2 HBd.out hb6 hlo.out.2)
          have HC6 := Aside0.mk hc6
          clear hc6 hk6 hb6 hq0 hq1
          have hwa : wrap64 (a : Int) = (x : Int) := by rw [show (a : Int) = (x : Int) by have := HXE.out; omega]; exact wx x (by have := HX2.out; have := HL.out; omega)
          have hxa : a = x := HXE.out.symm
          have HWA := Aside0.mk hwa
          clear hwa
          obtain ⟨y, hy⟩ : ∃ y : Nat, y = l0.length - x := ⟨_, rfl⟩
          have hwl : wrap64 ((l0.length : Int) - (x : Int)) = (y : Int) := by rw [show (l0.length : Int) - (x : Int) = (y : Int) by have := HX2.out; omega]; exact wx y (by have := HL.out; omega)
          have HLF := Aside0.mk (left_at l0 x e (by have := HL.out; omega) (by have := HX2.out; omega))
          rw [← hy] at HLF
          obtain ⟨q, hq⟩ : ∃ q, (e == 0) = q := ⟨_, rfl⟩
          have hq2 : decide (e = 0) = q := by rw [← hq]; rfl
          have HGF := Aside0.mk (good_at l0 (x : Int) e)
          rw [hq] at HGF
          have hwa := HWA.out
          clear hy
          rw [hxa] at HC6
          clear hxa
          rw [e1] at hq
          subst hq
          clear hq2
          go_wp2_with fail
          refine (HC6.out.left HLF.out).mono ?_
          rintro e7 w8 ⟨rfl, hc8, hk8, hb8⟩
          have HB8 := Aside0.mk (Cur.wide2 HB6.out hb8 hlo.out.2)
          have HC8 := Aside0.mk hc8
          clear hc8 hk8 hb8
          go_wp2_with fail
          refine (HC8.out.good HGF.out).mono ?_
          rintro e8 w9 ⟨rfl, hc9, hk9, hb9⟩
          have HB9 := Aside0.mk (Cur.wide2 HB8.out hb9 hlo.out.2)
          have HC9 := Aside0.mk hc9
          clear hc9 hk9 hb9
          go_wp2_with fail
          clear hwa hwl
          go_roundg k1
          case measure => omega
          case rel => exact ⟨i + 1, x, e, by first | rfl | (rw [HWA.out]) | (congr 1; exact HWA.out), rfl, by first | rfl | exact congrArg (Value.int .i64) (wr1 i (by have := HIL.out; have := HL.out; omega)), ⟨by have := HI.out; omega⟩, HX2, HC9, HB9⟩
end Go.Proofs.Ytkdncanoajbdgaa.HW
