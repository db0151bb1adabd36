/- HeapOrder: the law, walked. -/
import Derived.Test.YtpbplflocdhahaaHeapE
import Derived.Test.YtpbplflocdhahaaPx2
import Derived.Great.BuildSlice
import Derived.Deep.Slices
set_option linter.unusedVariables false
set_option linter.unusedSimpArgs false
namespace Go.Proofs.Ytpbplflocdhahaa.HW
open Go.RowKit Go.Proofs.Ytpbplflocdhahaa.P Go.Proofs.Ytpbplflocdhahaa.HP Go.Proofs.YtpbplflocdhahaaW.PrintWords Go.Proofs.YtpbplflocdhahaaW.PrintLast Go.Proofs.YtpbplflocdhahaaW.PrintMore
attribute [local go_sem] max2_int min2_int max_two min_two max_three min_three max_four min_four
theorem str_eq (a b : ByteArray) : (a.toList == b.toList) = decide (a = b) := by
  by_cases h : a = b
  · subst h; simp
  · rw [decide_eq_false h]
    refine beq_eq_false_iff_ne.2 (fun e => h ?_)
    rw [ByteArray.toList_eq, ByteArray.toList_eq] at e
    obtain ⟨⟨x⟩⟩ := a
    obtain ⟨⟨y⟩⟩ := b
    simp only at e
    rw [e]
/-- Add of a string for which there is room. -/
theorem Hp.add {lo g : Nat} {B : Option (List Int)} {m : Int} (s : ByteArray) (w : World) (h : Hp lo w g B m) (hlo : lo ≤ w.heap.size) (hs2 : s.size ≤ 4096) (hm : 0 ≤ m ∧ m ≤ 1000000) (hn : (B.getD []).length + s.size ≤ 65536) (hfit : ((B.getD []).length : Int) + (s.size : Int) ≤ m) :
    Calls Try.prog 11 #[.pointer (some ⟨g, 0, none⟩), .string s] w fun e w' => ∃ (a : List Int) (B' : Option (List Int)), e = .returned (.tuple #[.agg (cel a), .int .i64 0]) ∧ Hp lo w' g B' m ∧ Below lo w w' ∧ KT w w' ∧ Holds B' a s ∧ (B'.getD []).length ≤ (B.getD []).length + s.size ∧ ∀ (a' : List Int) (t : ByteArray), Holds B a' t → Holds B' a' t := by
  by_cases hs : s.size ≤ 12
  · refine (add_short g s w hs).mono ?_
    rintro e w1 ⟨rfl, hb⟩
    exact ⟨mkS s, B, rfl, h.below hb, hb.mono hlo, KT.of_below hb, holds_S B s hs, by omega, fun _ _ h => h⟩
  · refine (h.add_long s w hlo (by omega) hs2 hm hn (by omega)).mono ?_
    rintro e w1 ⟨rfl, hh, hb, hk⟩
    have hl := bytes_len s
    refine ⟨_, _, rfl, hh, hb, hk, ⟨vw_B s _ (by omega) hs2 (by omega), hs2, .inr ⟨by omega, _, (B.getD []).length, rfl, rfl, by rw [List.length_append]; omega, by omega, by rw [List.length_append]; omega, ?_⟩⟩, by simp only [Option.getD_some, List.length_append]; omega, fun a' t ht => ht.grow rfl _ (by omega)⟩
    rw [List.drop_left, ← hl, List.take_length]
theorem fill16 (C base : Array Value) (hC : C.size = 16) (hb : base.size = 16) : Instr.fill (fun i => some (i * 16, 16)) base [(0, .agg C)] = some C := by
  obtain ⟨l⟩ := C
  obtain ⟨m⟩ := base
  match l, hC, m, hb with
  | [a0, a1, a2, a3, a4, a5, a6, a7, a8, a9, a10, a11, a12, a13, a14, a15], _, [b0, b1, b2, b3, b4, b5, b6, b7, b8, b9, b10, b11, b12, b13, b14, b15], _ => simp [Instr.fill, Value.cells]
theorem loadVar_at {P : Program} {w : World} (ty : TypeId) (ad : Addr) (cs : List Value) (hc : ∀ j v, cs[j]? = some v → w.cell? (ad.add j) = some v) (d : TypeDesc)
    (hu : P.underlying ty = some d) (hd : (match d with | .struct _ | .array _ _ => true | _ => false) = true) (hi : (P.info? ty).map (·.size) = some cs.length) : (loadVar ty ad).run P w = .ok (.agg cs.toArray) w := by
  have hl : (loadCells ad cs.length).run P w = .ok cs.toArray w := run_loadCells_list (P := P) w ad cs hc
  cases hq : P.info? ty with
  | none => simp [hq] at hi
  | some i =>
    have hs : i.size = cs.length := by simpa [hq] using hi
    have hagg : (isAgg ty).run P w = .ok true w := by
      unfold isAgg
      rw [Sem.run_bind, run_underlying hu w]
      cases d <;> simp_all
    simp [loadVar, Sem.run_bind, hagg, sizeOf, typeInfo, hq, hs, hl]
theorem Hp.keep {lo : Nat} {W W' : World} {g : Nat} {B : Option (List Int)} {m : Int} (h : Hp lo W g B m) (hk : ∀ (k : Nat) (cs : Array Value) (t : TypeId), t ≠ 28 → W.heap[k]? = some (.cells cs t (0, 0)) → W'.heap[k]? = some (.cells cs t (0, 0))) : Hp lo W' g B m := by
  cases B with
  | none => exact ⟨h.1, hk _ _ _ (by decide) h.2⟩
  | some b =>
    obtain ⟨h0, gb, cb, x, hg, h1, h2⟩ := h
    refine ⟨h0, gb, cb, x, hk _ _ _ (by decide) hg, ?_, ?_⟩
    · obtain ⟨inner, ho⟩ := Kd.R_own h1
      refine Kd.R_mono (Kd.R_step (Kd.R_tight rfl h1) (fun j hj _ => ?_)) (fun k hk => h1.1 k hk.symm)
      obtain ⟨cells, hc⟩ := own_typed ho j hj.symm
      rw [hc]
      exact hk j cells _ (by decide) hc
    · obtain ⟨inner, ho⟩ := Kd.R_own h2
      refine Kd.R_mono (Kd.R_step (Kd.R_tight rfl h2) (fun j hj _ => ?_)) (fun k hk => h2.1 k hk.symm)
      obtain ⟨cells, hc⟩ := own_typed ho j hj.symm
      rw [hc]
      exact hk j cells _ (by decide) hc
def vb (x : List Int) : List Value := x.map (Value.int .u8)
theorem cel_vb (x : List Int) : cel x = (vb x).toArray := rfl
theorem info16z : (Try.prog.info? 28).map (fun i => (i.zero, i.size, i.bytes)) = some (some (.agg (cel z16)), 16, 16) := by kernel_rfl
/-- A row of views stays where blocks of its type stay. -/
theorem raw_keep {lo : Nat} {W W' : World} {v : Value} {rows : List (List Value)} (h : (Kd.raw 16).R 28 W lo (fun _ => True) v rows) (k : KT W W') : (Kd.raw 16).R 28 W' lo (fun _ => True) v rows := by
  obtain ⟨inner, ho⟩ := Kd.R_own h
  refine Kd.raw_any (Kd.R_step (Kd.raw_tight h) (fun j hj _ => ?_))
  obtain ⟨cells, hc⟩ := own_typed ho j hj.symm
  rw [hc]
  exact k j cells _ hc (by decide) (by decide) (by decide)
theorem str4 (a b c : ByteArray) (i : Nat) (s : ByteArray) (h : [a, b, c, a][i]? = some s) : (#[.string a, .string b, .string c, .string a] : Array Value)[i]? = some (.string s) := by
  match i, h with
  | 0, h => simp at h; subst h; rfl
  | 1, h => simp at h; subst h; rfl
  | 2, h => simp at h; subst h; rfl
  | 3, h => simp at h; subst h; rfl
  | i + 4, h => simp at h
set_option maxHeartbeats 8000000 in
set_option maxRecDepth 100000 in
theorem HeapOrder (a0 : ByteArray) (a1 : ByteArray) (a2 : ByteArray) (w : World) (w0 : a0.size ≤ 140737488351232) (w1 : a1.size ≤ 140737488351232) (w2 : a2.size ≤ 140737488351232) :
    Calls Try.prog 4 #[.string a0, .string a1, .string a2] w fun e w' => e = .returned (.bool true) ∧ Below w.heap.size w w' := by
  have HB := Aside0.mk (Below.refl w.heap.size w)
  clear w0 w1 w2
  by_cases h0 : 4096 < a0.size
  · have t0a : decide (4096 < (a0.size : Int)) = true := decide_eq_true (by omega)
    have t0b : decide (4096 < a0.size) = true := decide_eq_true (by omega)
    clear h0
    go_enter Try.func4, Try.ntmps4
    go_wp2_with fail
    refine (law7_awake _).mono ?_
    rintro e w1 ⟨rfl, hb⟩
    have HB1 := Aside0.mk (below_step HB.out hb)
    clear HB hb
    go_wp2_with fail
    refine (law7_awake _).mono ?_
    rintro e w2 ⟨rfl, hb⟩
    have HB2 := Aside0.mk (below_step HB1.out hb)
    clear HB1 hb
    go_wp2_with fail
    go_ret
    exact ⟨rfl, HB2.out⟩
  have t0a : decide (4096 < (a0.size : Int)) = false := decide_eq_false (by omega)
  have t0b : decide (4096 < a0.size) = false := decide_eq_false (by omega)
  by_cases h1 : 4096 < a1.size
  · have t1a : decide (4096 < (a1.size : Int)) = true := decide_eq_true (by omega)
    have t1b : decide (4096 < a1.size) = true := decide_eq_true (by omega)
    clear h0 h1
    go_enter Try.func4, Try.ntmps4
    go_wp2_with fail
    refine (law7_awake _).mono ?_
    rintro e w1 ⟨rfl, hb⟩
    have HB1 := Aside0.mk (below_step HB.out hb)
    clear HB hb
    go_wp2_with fail
    refine (law7_awake _).mono ?_
    rintro e w2 ⟨rfl, hb⟩
    have HB2 := Aside0.mk (below_step HB1.out hb)
    clear HB1 hb
    go_wp2_with fail
    go_ret
    exact ⟨rfl, HB2.out⟩
  have t1a : decide (4096 < (a1.size : Int)) = false := decide_eq_false (by omega)
  have t1b : decide (4096 < a1.size) = false := decide_eq_false (by omega)
  by_cases h2 : 4096 < a2.size
  · have t2a : decide (4096 < (a2.size : Int)) = true := decide_eq_true (by omega)
    have t2b : decide (4096 < a2.size) = true := decide_eq_true (by omega)
    clear h0 h1 h2
    go_enter Try.func4, Try.ntmps4
    go_wp2_with fail
    refine (law7_awake _).mono ?_
    rintro e w1 ⟨rfl, hb⟩
    have HB1 := Aside0.mk (below_step HB.out hb)
    clear HB hb
    go_wp2_with fail
    refine (law7_awake _).mono ?_
    rintro e w2 ⟨rfl, hb⟩
    have HB2 := Aside0.mk (below_step HB1.out hb)
    clear HB1 hb
    go_wp2_with fail
    go_ret
    exact ⟨rfl, HB2.out⟩
  have t2a : decide (4096 < (a2.size : Int)) = false := decide_eq_false (by omega)
  have t2b : decide (4096 < a2.size) = false := decide_eq_false (by omega)
  have HL4 : Aside0 (∀ (j : Nat) (s : ByteArray), [a0, a1, a2, a0][j]? = some s → s.size ≤ 4096) := ⟨fun j s h => by
    match j, h with
    | 0, h => simp at h; subst h; omega
    | 1, h => simp at h; subst h; omega
    | 2, h => simp at h; subst h; omega
    | 3, h => simp at h; subst h; omega
    | j + 4, h => simp at h⟩
  clear h0 h1 h2
  have hz := zero16
  obtain ⟨Z, hZ⟩ : ∃ Z, Z = cel z16 := ⟨_, rfl⟩
  rw [← hZ] at hz
  have HSZ : Aside0 (Z.size = 16) := ⟨by rw [hZ]; rfl⟩
  clear hZ
  obtain ⟨I16, hi16, hzz⟩ := Option.map_eq_some_iff.1 info16z
  have HI16 := Aside0.mk (show Try.prog.info? 28 = some I16 ∧ I16.zero = some (.agg (cel z16)) ∧ I16.size = 16 by simp only [Prod.mk.injEq] at hzz; exact ⟨hi16, hzz.1, hzz.2.1⟩)
  clear hi16 hzz
  go_enter Try.func4, Try.ntmps4
  go_wp2_with fail
  refine (law7_awake _).mono ?_
  rintro e w1 ⟨rfl, hb⟩
  have HB1 := Aside0.mk (below_step HB.out hb)
  clear HB hb
  go_wp2_with fail
  refine (Hp.new 100000 _ (by omega)).mono ?_
  rintro e w2 ⟨g, rfl, hh, hb⟩
  obtain ⟨lo, hlo⟩ : ∃ lo, Aside0 (lo = w1.heap.size ∧ w.heap.size ≤ lo) := ⟨_, ⟨rfl, below_size HB1.out⟩⟩
  rw [← hlo.out.1] at hh
  have HB2 := Aside0.mk (below_step HB1.out hb)
  have hls : lo ≤ w2.heap.size := by rw [hlo.out.1]; exact hb.size
  have HS2 := Aside0.mk (blk_new w2 (.cells #[.string a0, .string a1, .string a2, .string a0] 9))
  have hba := below_alloc (Below.refl w2.heap.size w2) (.cells #[.string a0, .string a1, .string a2, .string a0] 9)
  have HB3 := Aside0.mk (below_step HB2.out hba)
  have HH3 := Aside0.mk (hh.below hba)
  have HLO := Aside0.mk (show lo ≤ w2.heap.size from hls)
  clear HB1 hb hh hba hls
  go_wp2_with fail
  go_loopg [9, 10] (4 : Nat) (fun kq v9 v10 w' => ∃ (i : Nat) (vs : List (List Int)) (B : Option (List Int)), v10 = .int .i64 (i : Int) ∧ Aside0 (i + kq = 4) ∧ Aside0 (vs.length = i) ∧ Aside0 (∀ (j : Nat) (x : List Int) (s : ByteArray), vs[j]? = some x → [a0, a1, a2, a0][j]? = some s → Holds B x s) ∧ Aside0 (Hp lo w' g B 100000) ∧ Aside0 ((B.getD []).length ≤ 4096 * i) ∧ Aside0 ((Kd.raw 16).R 28 w' w.heap.size (fun _ => True) v9 (vs.map vb)) ∧ Aside0 (w'.heap[w2.heap.size]? = some (.cells #[.string a0, .string a1, .string a2, .string a0] 9 (0, 0))) ∧ Aside0 (Below w.heap.size w w') ∧ Aside0 (w2.heap.size ≤ w'.heap.size))
  case atStart => exact ⟨0, [], none, rfl, ⟨rfl⟩, ⟨rfl⟩, ⟨fun j x s h => by simp at h⟩, HH3, ⟨by simp⟩, ⟨Kd.R_nil _ _ _ _ _⟩, HS2, HB3, ⟨by simp⟩⟩
  case round =>
    clear HH3 HS2 HB3 HB2
    obtain ⟨i, vs, B, rfl, HI, HVN, HHO, HH, HBN, HV, HST, HB, HSW⟩ := hrel
    cases gk with
    | zero =>
      obtain rfl : i = 4 := by have := HI.out; omega
      obtain ⟨gv, cv, hv9, _, _, _⟩ := Kd.R_form HV.out (by rw [List.length_map, HVN.out]; decide)
      rw [List.length_map, HVN.out] at hv9
      obtain ⟨ad, had⟩ : ∃ ad : Addr, ad = ⟨gv, 0, none⟩ := ⟨_, rfl⟩
      rw [← had] at hv9
      subst hv9
      obtain ⟨wl, hwl⟩ : ∃ W, W = wr := ⟨_, rfl⟩
      rw [← hwl] at HV HST HB HH
      have hcr := (Kd.R_reads' HV.out).2.2
      have HLV : Aside0 (∀ W : World, Below wl.heap.size wl W → ∀ (j : Nat) (x : List Int), vs[j]? = some x → (loadVar 28 (ad.add (j * 16))).run Try.prog W = .ok (.agg (cel x)) W) := ⟨fun W hW j x hx => by
        obtain ⟨ad', e, hcell⟩ := (Kd.C_below hcr hW).2.2 (by rw [List.length_map, HVN.out]; decide)
        injection e with e
        subst e
        obtain ⟨c, hl, hk, hcc⟩ := hcell j (vb x) (by rw [List.getElem?_map, hx]; rfl)
        obtain ⟨rfl, _⟩ := hk
        rw [cel_vb]
        refine loadVar_at 28 (ad.add (j * 16)) (vb x) (fun q v hq => ?_) _ Try.underlying28 rfl (by rw [info16, hl]; rfl)
        have e : (ad.add (j * 16)).add q = ad.add (j * 16 + q) := Go.Deep.add_add ad (j * 16) q
        rw [e]
        exact hcc q v hq⟩
      have HSV : Aside0 (∀ W : World, Below wl.heap.size wl W → ∀ (j : Nat) (s : ByteArray), [a0, a1, a2, a0][j]? = some s → W.cell? ⟨w2.heap.size, j, none⟩ = some (.string s)) := ⟨fun W hW j s hs => by rw [blk_cell ((hW.block _ (blk_lt HST.out)).trans HST.out) j]; exact str4 a0 a1 a2 j s hs⟩
      have HHW := Aside0.mk (show ∀ W : World, Below wl.heap.size wl W → Hp lo W g B 100000 from fun W hW => HH.out.below hW)
      have HBW := Aside0.mk (show ∀ W : World, Below wl.heap.size wl W → Below w.heap.size w W from fun W hW => HB.out.trans (hW.mono (below_size HB.out)))
      have HB0 : Aside0 (Below wl.heap.size wl wr) := ⟨by rw [hwl]; exact Below.refl _ _⟩
      clear had hwl hcr HV HST HB HH HI HBN HSW
      go_wp2_with fail
      go_loopg [13] (4 : Nat) (fun kq v13 w' => ∃ i : Nat, v13 = .int .i64 (i : Int) ∧ Aside0 (i + kq = 4) ∧ Aside0 (Below wl.heap.size wl w'))
      case atStart => exact ⟨0, rfl, ⟨rfl⟩, HB0⟩
      case round =>
        obtain ⟨i, rfl, HI2, HB2⟩ := hrel
        cases gk with
        | zero =>
          obtain rfl : i = 4 := by have := HI2.out; omega
          go_wp2_with fail
          go_ret
          exact ⟨rfl, HBW.out _ HB2.out⟩
        | succ k1 =>
          have p3 : (0 : Int) ≤ (i : Int) := by omega
          have q3 : (i : Int) < 4 := by have := HI2.out; omega
          have q3n : i < 4 := by omega
          have t3 : decide ((i : Int) < 4) = true := decide_eq_true q3
          have t3b : decide (i < 4) = true := decide_eq_true q3n
          have hw3 : wrap64 ((i : Int) + 1) = ((i + 1 : Nat) : Int) := wr1 i (by omega)
          have HW3 := Aside0.mk hw3
          obtain ⟨x3, hx3⟩ : ∃ x, vs[i]? = some x := ⟨_, List.getElem?_eq_getElem (by rw [HVN.out]; exact q3n)⟩
          obtain ⟨s3, hs3⟩ : ∃ s, [a0, a1, a2, a0][i]? = some s := ⟨_, List.getElem?_eq_getElem (by simpa using q3n)⟩
          have HX3 := Aside0.mk hx3
          have HS3 := Aside0.mk hs3
          clear hx3 hs3 hw3
          replace p3 := eq_true p3
          replace q3 := eq_true q3
          go_wp2_with fail
          go_loopg [14] (4 : Nat) (fun kq v14 w' => ∃ k : Nat, v14 = .int .i64 (k : Int) ∧ Aside0 (k + kq = 4) ∧ Aside0 (Below wl.heap.size wl w'))
          case atStart => exact ⟨0, rfl, ⟨rfl⟩, HB2⟩
          case round =>
            obtain ⟨k, rfl, HI3, HB3⟩ := hrel
            cases gk with
            | zero =>
              obtain rfl : k = 4 := by have := HI3.out; omega
              go_wp2_with fail
              go_roundg k1
              case measure => omega
              case rel => exact ⟨i + 1, by first | rfl | (rw [HW3.out]), ⟨by have := HI2.out; omega⟩, HB3⟩
            | succ k2 =>
              have p5 : (0 : Int) ≤ (k : Int) := by omega
              have q5 : (k : Int) < 4 := by have := HI3.out; omega
              have q5n : k < 4 := by omega
              have t5 : decide ((k : Int) < 4) = true := decide_eq_true q5
              have t5b : decide (k < 4) = true := decide_eq_true q5n
              have hw5 : wrap64 ((k : Int) + 1) = ((k + 1 : Nat) : Int) := wr1 k (by omega)
              have HW5 := Aside0.mk hw5
              obtain ⟨x5, hx5⟩ : ∃ x, vs[k]? = some x := ⟨_, List.getElem?_eq_getElem (by rw [HVN.out]; exact q5n)⟩
              obtain ⟨s5, hs5⟩ : ∃ s, [a0, a1, a2, a0][k]? = some s := ⟨_, List.getElem?_eq_getElem (by simpa using q5n)⟩
              have HX5 := Aside0.mk hx5
              have HS5 := Aside0.mk hs5
              clear hx5 hs5 hw5
              have hh3 := HHO.out i x3 s3 HX3.out HS3.out
              have hh5 := HHO.out k x5 s5 HX5.out HS5.out
              have HCM := Aside0.mk (fun W (hW : Hp lo W g B 100000) => Hp.compare x3 x5 s3 s5 W hW hh3 hh5)
              have HEQ := Aside0.mk (fun W (hW : Hp lo W g B 100000) => Hp.equal x3 x5 s3 s5 W hW hh3 hh5)
              obtain ⟨kc, hkc⟩ := (rc_f s3 s5 (by have := hh3.2.1; omega) (by have := hh5.2.1; omega)).rounds
              have hst := str_eq s3 s5
              obtain ⟨q, hq⟩ : ∃ q, q = cs s3 s5 := ⟨_, rfl⟩
              obtain ⟨r, hr⟩ : ∃ r, decide (s3 = s5) = r := ⟨_, rfl⟩
              rw [← hq] at HCM hkc
              rw [hr] at HEQ hst
              have HKC := Aside0.mk hkc
              have HBd := Aside0.mk (below_drew1 HB3.out)
              replace p5 := eq_true p5
              replace q5 := eq_true q5
              clear hh3 hh5 hkc hq hr
              go_wp2_with fail
              refine start_ (n := 42) (S := fun w' => (loadVar 28 (ad.add (i * 16))).run Try.prog w' = .ok (.agg (cel x3)) w' ∧ (loadVar 28 (ad.add (k * 16))).run Try.prog w' = .ok (.agg (cel x5)) w' ∧ w'.cell? ⟨w2.heap.size, i, none⟩ = some (.string s3) ∧ w'.cell? ⟨w2.heap.size, k, none⟩ = some (.string s5)) (ds := []) #[false, false, false, false, false, false, false, false, false, false, false, false, false, false, false, false, false, false, false, false, false, false, false, false, false, false, false, false, false, false, false, false, false, false, false, false, false, false, false, false, false, false] (by kernel_rfl) rfl rfl ⟨(HLV.out _ HBd.out i x3 HX3.out), (HLV.out _ HBd.out k x5 HX5.out), (HSV.out _ HBd.out i s3 HS3.out), (HSV.out _ HBd.out k s5 HS5.out)⟩ (fun hHeld => ?_)
              refine pure_ (i := 0) (N := some 74) (v := ?_) (a' := ?_) #[true, false, false, false, false, false, false, false, false, false, false, false, false, false, false, false, false, false, false, false, false, false, false, false, false, false, false, false, false, false, false, false, false, false, false, false, false, false, false, false, false, false] rfl rfl (by kernel_rfl) (fun _ _ _ h => h) (Or.inl ⟨by rfl, ?_⟩) ?_ ?_
              rotate_left
              · intro w'
                go_simp
                with_reducible rfl
              rotate_left
              · simp only [Act.put, List.setIfInBounds_toArray, List.set_cons_zero, List.set_cons_succ, i64_w, i32_w]
                rfl
              refine pure_ (i := 1) (N := some 75) (v := ?_) (a' := ?_) #[true, true, false, false, false, false, false, false, false, false, false, false, false, false, false, false, false, false, false, false, false, false, false, false, false, false, false, false, false, false, false, false, false, false, false, false, false, false, false, false, false, false] rfl rfl (by kernel_rfl) (fun _ _ _ h => h) (Or.inl ⟨by rfl, ?_⟩) ?_ ?_
              rotate_left
              · intro w'
                go_simp
                with_reducible rfl
              rotate_left
              · simp only [Act.put, List.setIfInBounds_toArray, List.set_cons_zero, List.set_cons_succ, i64_w, i32_w]
                rfl
              refine pure_ (i := 2) (N := some 76) (v := ?_) (a' := ?_) #[true, true, true, false, false, false, false, false, false, false, false, false, false, false, false, false, false, false, false, false, false, false, false, false, false, false, false, false, false, false, false, false, false, false, false, false, false, false, false, false, false, false] rfl rfl (by kernel_rfl) (fun _ _ _ h => h) (Or.inl ⟨by rfl, ?_⟩) ?_ ?_
              rotate_left
              · intro w'
                go_simp
                with_reducible rfl
              rotate_left
              · simp only [Act.put, List.setIfInBounds_toArray, List.set_cons_zero, List.set_cons_succ, i64_w, i32_w]
                rfl
              refine pure_ (i := 3) (N := some 77) (v := ?_) (a' := ?_) #[true, true, true, true, false, false, false, false, false, false, false, false, false, false, false, false, false, false, false, false, false, false, false, false, false, false, false, false, false, false, false, false, false, false, false, false, false, false, false, false, false, false] rfl rfl (by kernel_rfl) (fun _ _ _ h => h) (Or.inl ⟨by rfl, ?_⟩) ?_ ?_
              rotate_left
              · intro w'
                go_simp
                with_reducible rfl
              rotate_left
              · simp only [Act.put, List.setIfInBounds_toArray, List.set_cons_zero, List.set_cons_succ, i64_w, i32_w]
                rfl
              refine pure_ (i := 5) (N := some 79) (v := ?_) (a' := ?_) #[true, true, true, true, false, true, false, false, false, false, false, false, false, false, false, false, false, false, false, false, false, false, false, false, false, false, false, false, false, false, false, false, false, false, false, false, false, false, false, false, false, false] rfl rfl (by kernel_rfl) (fun _ _ _ h => h) (Or.inl ⟨by rfl, ?_⟩) ?_ ?_
              rotate_left
              · intro w'
                go_simp
                with_reducible rfl
              rotate_left
              · simp only [Act.put, List.setIfInBounds_toArray, List.set_cons_zero, List.set_cons_succ, i64_w, i32_w]
                rfl
              refine pure_ (i := 6) (N := some 80) (v := ?_) (a' := ?_) #[true, true, true, true, false, true, true, false, false, false, false, false, false, false, false, false, false, false, false, false, false, false, false, false, false, false, false, false, false, false, false, false, false, false, false, false, false, false, false, false, false, false] rfl rfl (by kernel_rfl) (fun _ _ _ h => h) (Or.inl ⟨by rfl, ?_⟩) ?_ ?_
              rotate_left
              · intro w'
                go_simp
                with_reducible rfl
              rotate_left
              · simp only [Act.put, List.setIfInBounds_toArray, List.set_cons_zero, List.set_cons_succ, i64_w, i32_w]
                rfl
              refine pure_ (i := 7) (N := some 81) (v := ?_) (a' := ?_) #[true, true, true, true, false, true, true, true, false, false, false, false, false, false, false, false, false, false, false, false, false, false, false, false, false, false, false, false, false, false, false, false, false, false, false, false, false, false, false, false, false, false] rfl rfl (by kernel_rfl) (fun _ _ _ h => h) (Or.inl ⟨by rfl, ?_⟩) ?_ ?_
              rotate_left
              · intro w'
                go_simp
                with_reducible rfl
              rotate_left
              · simp only [Act.put, List.setIfInBounds_toArray, List.set_cons_zero, List.set_cons_succ, i64_w, i32_w]
                rfl
              refine pure_ (i := 10) (N := some 84) (v := ?_) (a' := ?_) #[true, true, true, true, false, true, true, true, false, false, true, false, false, false, false, false, false, false, false, false, false, false, false, false, false, false, false, false, false, false, false, false, false, false, false, false, false, false, false, false, false, false] rfl rfl (by kernel_rfl) (fun _ _ _ h => h) (Or.inl ⟨by rfl, ?_⟩) ?_ ?_
              rotate_left
              · intro w'
                go_simp
                with_reducible rfl
              rotate_left
              · simp only [Act.put, List.setIfInBounds_toArray, List.set_cons_zero, List.set_cons_succ, i64_w, i32_w]
                rfl
              refine pure_ (i := 11) (N := some 85) (v := ?_) (a' := ?_) #[true, true, true, true, false, true, true, true, false, false, true, true, false, false, false, false, false, false, false, false, false, false, false, false, false, false, false, false, false, false, false, false, false, false, false, false, false, false, false, false, false, false] rfl rfl (by kernel_rfl) (fun _ _ _ h => h) (Or.inl ⟨by rfl, ?_⟩) ?_ ?_
              rotate_left
              · intro w'
                go_simp
                with_reducible rfl
              rotate_left
              · simp only [Act.put, List.setIfInBounds_toArray, List.set_cons_zero, List.set_cons_succ, i64_w, i32_w]
                rfl
              refine pure_ (i := 12) (N := some 86) (v := ?_) (a' := ?_) #[true, true, true, true, false, true, true, true, false, false, true, true, true, false, false, false, false, false, false, false, false, false, false, false, false, false, false, false, false, false, false, false, false, false, false, false, false, false, false, false, false, false] rfl rfl (by kernel_rfl) (fun _ _ _ h => h) (Or.inl ⟨by rfl, ?_⟩) ?_ ?_
              rotate_left
              · intro w'
                go_simp
                with_reducible rfl
              rotate_left
              · simp only [Act.put, List.setIfInBounds_toArray, List.set_cons_zero, List.set_cons_succ, i64_w, i32_w]
                rfl
              refine pure_ (i := 14) (N := some 88) (v := ?_) (a' := ?_) #[true, true, true, true, false, true, true, true, false, false, true, true, true, false, true, false, false, false, false, false, false, false, false, false, false, false, false, false, false, false, false, false, false, false, false, false, false, false, false, false, false, false] rfl rfl (by kernel_rfl) (fun _ _ _ h => h) (Or.inl ⟨by rfl, ?_⟩) ?_ ?_
              rotate_left
              · intro w'
                go_simp
                with_reducible rfl
              rotate_left
              · simp only [Act.put, List.setIfInBounds_toArray, List.set_cons_zero, List.set_cons_succ, i64_w, i32_w]
                rfl
              refine pure_ (i := 15) (N := some 89) (v := ?_) (a' := ?_) #[true, true, true, true, false, true, true, true, false, false, true, true, true, false, true, true, false, false, false, false, false, false, false, false, false, false, false, false, false, false, false, false, false, false, false, false, false, false, false, false, false, false] rfl rfl (by kernel_rfl) (fun _ _ _ h => h) (Or.inl ⟨by rfl, ?_⟩) ?_ ?_
              rotate_left
              · intro w'
                go_simp
                with_reducible rfl
              rotate_left
              · simp only [Act.put, List.setIfInBounds_toArray, List.set_cons_zero, List.set_cons_succ, i64_w, i32_w]
                rfl
              refine pure_ (i := 16) (N := some 90) (v := ?_) (a' := ?_) #[true, true, true, true, false, true, true, true, false, false, true, true, true, false, true, true, true, false, false, false, false, false, false, false, false, false, false, false, false, false, false, false, false, false, false, false, false, false, false, false, false, false] rfl rfl (by kernel_rfl) (fun _ _ _ h => h) (Or.inl ⟨by rfl, ?_⟩) ?_ ?_
              rotate_left
              · intro w'
                go_simp
                with_reducible rfl
              rotate_left
              · simp only [Act.put, List.setIfInBounds_toArray, List.set_cons_zero, List.set_cons_succ, i64_w, i32_w]
                rfl
              refine take_ (i := 4) (N := some 78) (v := ?_) (a' := ?_) #[true, true, true, true, true, true, true, true, false, false, true, true, true, false, true, true, true, false, false, false, false, false, false, false, false, false, false, false, false, false, false, false, false, false, false, false, false, false, false, false, false, false] rfl rfl (by kernel_rfl) (fun _ _ _ h => h) (Or.inl ⟨by rfl, ?_⟩) hHeld ?_ ?_
              rotate_left
              · rintro w' ⟨s0, s1, s2, s3⟩
                refine Eq.trans (load_exec (by rfl) (by rfl) s0) ?_
                with_reducible rfl
              rotate_left
              · simp only [Act.put, List.setIfInBounds_toArray, List.set_cons_zero, List.set_cons_succ, i64_w, i32_w]
                rfl
              refine take_ (i := 8) (N := some 82) (v := ?_) (a' := ?_) #[true, true, true, true, true, true, true, true, true, false, true, true, true, false, true, true, true, false, false, false, false, false, false, false, false, false, false, false, false, false, false, false, false, false, false, false, false, false, false, false, false, false] rfl rfl (by kernel_rfl) (fun _ _ _ h => h) (Or.inl ⟨by rfl, ?_⟩) hHeld ?_ ?_
              rotate_left
              · rintro w' ⟨s0, s1, s2, s3⟩
                refine Eq.trans (load_exec (by rfl) (by rfl) s1) ?_
                with_reducible rfl
              rotate_left
              · simp only [Act.put, List.setIfInBounds_toArray, List.set_cons_zero, List.set_cons_succ, i64_w, i32_w]
                rfl
              refine take_ (i := 13) (N := some 87) (v := ?_) (a' := ?_) #[true, true, true, true, true, true, true, true, true, false, true, true, true, true, true, true, true, false, false, false, false, false, false, false, false, false, false, false, false, false, false, false, false, false, false, false, false, false, false, false, false, false] rfl rfl (by kernel_rfl) (fun _ _ _ h => h) (Or.inl ⟨by rfl, ?_⟩) hHeld ?_ ?_
              rotate_left
              · rintro w' ⟨s0, s1, s2, s3⟩
                go_simp
                with_reducible rfl
              rotate_left
              · simp only [Act.put, List.setIfInBounds_toArray, List.set_cons_zero, List.set_cons_succ, i64_w, i32_w]
                rfl
              refine take_ (i := 17) (N := some 91) (v := ?_) (a' := ?_) #[true, true, true, true, true, true, true, true, true, false, true, true, true, true, true, true, true, true, false, false, false, false, false, false, false, false, false, false, false, false, false, false, false, false, false, false, false, false, false, false, false, false] rfl rfl (by kernel_rfl) (fun _ _ _ h => h) (Or.inl ⟨by rfl, ?_⟩) hHeld ?_ ?_
              rotate_left
              · rintro w' ⟨s0, s1, s2, s3⟩
                go_simp
                with_reducible rfl
              rotate_left
              · simp only [Act.put, List.setIfInBounds_toArray, List.set_cons_zero, List.set_cons_succ, i64_w, i32_w]
                rfl
              refine one_ (i := 9) (N := some 83) #[true, true, true, true, true, true, true, true, true, true, true, true, true, true, true, true, true, true, false, false, false, false, false, false, false, false, false, false, false, false, false, false, false, false, false, false, false, false, false, false, false, false] rfl rfl (by kernel_rfl) (by decide) (fun K hK => ?_)
              refine goes_ Try.func16 (by kernel_rfl) rfl #[.pointer (some ⟨g, 0, none⟩), .agg (cel x3), .agg (cel x5)] (by rfl) rfl rfl (by simp only [List.map_toArray, List.map_cons, List.map_nil]; rfl) ?_
              with_reducible refine (HCM.out _ (HHW.out _ HBd.out)).mono ?_
              rintro e6 w6 ⟨rfl, hb⟩
              refine ⟨_, rfl, ?_⟩
              have HB6 := Aside0.mk (below_step HBd.out hb)
              clear hb
              refine hK.out _ _ ⟨(HLV.out _ HB6.out i x3 HX3.out), (HLV.out _ HB6.out k x5 HX5.out), (HSV.out _ HB6.out i s3 HS3.out), (HSV.out _ HB6.out k s5 HS5.out)⟩ (fun hHeld => ?_)
              clear hK K
              refine norm_ (a' := ?_) ?_ ?_
              rotate_left
              · show Act.put _ (some 83) _ = _
                simp only [Act.put, List.setIfInBounds_toArray, List.set_cons_zero, List.set_cons_succ, i64_w, i32_w]
                rfl
              refine one_ (i := 18) (N := some 92) #[true, true, true, true, true, true, true, true, true, true, true, true, true, true, true, true, true, true, true, false, false, false, false, false, false, false, false, false, false, false, false, false, false, false, false, false, false, false, false, false, false, false] rfl rfl (by kernel_rfl) (by decide) (fun K hK => ?_)
              refine goes_ Try.func17 (by kernel_rfl) rfl #[.string s3, .string s5] (by rfl) rfl rfl (by simp only [List.map_toArray, List.map_cons, List.map_nil]; rfl) ?_
              with_reducible refine (hopperref07_Compare.calls kc s3 s5 q _ HKC.out).mono ?_
              rintro e7 w7 ⟨rfl, n7, rfl⟩
              refine ⟨_, rfl, ?_⟩
              have HB7 := Aside0.mk (pw_below_drewN HB6.out n7)
              refine hK.out _ _ ⟨(HLV.out _ HB7.out i x3 HX3.out), (HLV.out _ HB7.out k x5 HX5.out), (HSV.out _ HB7.out i s3 HS3.out), (HSV.out _ HB7.out k s5 HS5.out)⟩ (fun hHeld => ?_)
              clear hK K
              refine norm_ (a' := ?_) ?_ ?_
              rotate_left
              · show Act.put _ (some 92) _ = _
                simp only [Act.put, List.setIfInBounds_toArray, List.set_cons_zero, List.set_cons_succ, i64_w, i32_w]
                rfl
              refine pure_ (i := 19) (N := some 93) (v := ?_) (a' := ?_) #[true, true, true, true, true, true, true, true, true, true, true, true, true, true, true, true, true, true, true, true, false, false, false, false, false, false, false, false, false, false, false, false, false, false, false, false, false, false, false, false, false, false] rfl rfl (by kernel_rfl) (fun _ _ _ h => h) (Or.inl ⟨by rfl, ?_⟩) ?_ ?_
              rotate_left
              · intro w'
                go_simp
                with_reducible rfl
              rotate_left
              · simp only [Act.put, List.setIfInBounds_toArray, List.set_cons_zero, List.set_cons_succ, i64_w, i32_w]
                rfl
              refine pure_ (i := 20) (N := some 94) (v := ?_) (a' := ?_) #[true, true, true, true, true, true, true, true, true, true, true, true, true, true, true, true, true, true, true, true, true, false, false, false, false, false, false, false, false, false, false, false, false, false, false, false, false, false, false, false, false, false] rfl rfl (by kernel_rfl) (fun _ _ _ h => h) (Or.inl ⟨by rfl, ?_⟩) ?_ ?_
              rotate_left
              · intro w'
                go_simp
                with_reducible rfl
              rotate_left
              · simp only [Act.put, List.setIfInBounds_toArray, List.set_cons_zero, List.set_cons_succ, i64_w, i32_w]
                rfl
              refine pure_ (i := 21) (N := some 95) (v := ?_) (a' := ?_) #[true, true, true, true, true, true, true, true, true, true, true, true, true, true, true, true, true, true, true, true, true, true, false, false, false, false, false, false, false, false, false, false, false, false, false, false, false, false, false, false, false, false] rfl rfl (by kernel_rfl) (fun _ _ _ h => h) (Or.inl ⟨by rfl, ?_⟩) ?_ ?_
              rotate_left
              · intro w'
                go_simp
                with_reducible rfl
              rotate_left
              · simp only [Act.put, List.setIfInBounds_toArray, List.set_cons_zero, List.set_cons_succ, i64_w, i32_w]
                rfl
              refine pure_ (i := 22) (N := some 96) (v := ?_) (a' := ?_) #[true, true, true, true, true, true, true, true, true, true, true, true, true, true, true, true, true, true, true, true, true, true, true, false, false, false, false, false, false, false, false, false, false, false, false, false, false, false, false, false, false, false] rfl rfl (by kernel_rfl) (fun _ _ _ h => h) (Or.inl ⟨by rfl, ?_⟩) ?_ ?_
              rotate_left
              · intro w'
                go_simp
                with_reducible rfl
              rotate_left
              · simp only [Act.put, List.setIfInBounds_toArray, List.set_cons_zero, List.set_cons_succ, i64_w, i32_w]
                rfl
              refine pure_ (i := 23) (N := some 97) (v := ?_) (a' := ?_) #[true, true, true, true, true, true, true, true, true, true, true, true, true, true, true, true, true, true, true, true, true, true, true, true, false, false, false, false, false, false, false, false, false, false, false, false, false, false, false, false, false, false] rfl rfl (by kernel_rfl) (fun _ _ _ h => h) (Or.inl ⟨by rfl, ?_⟩) ?_ ?_
              rotate_left
              · intro w'
                go_simp
                with_reducible rfl
              rotate_left
              · simp only [Act.put, List.setIfInBounds_toArray, List.set_cons_zero, List.set_cons_succ, i64_w, i32_w]
                rfl
              refine pure_ (i := 24) (N := some 98) (v := ?_) (a' := ?_) #[true, true, true, true, true, true, true, true, true, true, true, true, true, true, true, true, true, true, true, true, true, true, true, true, true, false, false, false, false, false, false, false, false, false, false, false, false, false, false, false, false, false] rfl rfl (by kernel_rfl) (fun _ _ _ h => h) (Or.inl ⟨by rfl, ?_⟩) ?_ ?_
              rotate_left
              · intro w'
                go_simp
                with_reducible rfl
              rotate_left
              · simp only [Act.put, List.setIfInBounds_toArray, List.set_cons_zero, List.set_cons_succ, i64_w, i32_w]
                rfl
              refine pure_ (i := 26) (N := some 100) (v := ?_) (a' := ?_) #[true, true, true, true, true, true, true, true, true, true, true, true, true, true, true, true, true, true, true, true, true, true, true, true, true, false, true, false, false, false, false, false, false, false, false, false, false, false, false, false, false, false] rfl rfl (by kernel_rfl) (fun _ _ _ h => h) (Or.inl ⟨by rfl, ?_⟩) ?_ ?_
              rotate_left
              · intro w'
                go_simp
                with_reducible rfl
              rotate_left
              · simp only [Act.put, List.setIfInBounds_toArray, List.set_cons_zero, List.set_cons_succ, i64_w, i32_w]
                rfl
              refine pure_ (i := 27) (N := some 101) (v := ?_) (a' := ?_) #[true, true, true, true, true, true, true, true, true, true, true, true, true, true, true, true, true, true, true, true, true, true, true, true, true, false, true, true, false, false, false, false, false, false, false, false, false, false, false, false, false, false] rfl rfl (by kernel_rfl) (fun _ _ _ h => h) (Or.inl ⟨by rfl, ?_⟩) ?_ ?_
              rotate_left
              · intro w'
                go_simp
                with_reducible rfl
              rotate_left
              · simp only [Act.put, List.setIfInBounds_toArray, List.set_cons_zero, List.set_cons_succ, i64_w, i32_w]
                rfl
              refine pure_ (i := 28) (N := some 102) (v := ?_) (a' := ?_) #[true, true, true, true, true, true, true, true, true, true, true, true, true, true, true, true, true, true, true, true, true, true, true, true, true, false, true, true, true, false, false, false, false, false, false, false, false, false, false, false, false, false] rfl rfl (by kernel_rfl) (fun _ _ _ h => h) (Or.inl ⟨by rfl, ?_⟩) ?_ ?_
              rotate_left
              · intro w'
                go_simp
                with_reducible rfl
              rotate_left
              · simp only [Act.put, List.setIfInBounds_toArray, List.set_cons_zero, List.set_cons_succ, i64_w, i32_w]
                rfl
              refine pure_ (i := 31) (N := some 105) (v := ?_) (a' := ?_) #[true, true, true, true, true, true, true, true, true, true, true, true, true, true, true, true, true, true, true, true, true, true, true, true, true, false, true, true, true, false, false, true, false, false, false, false, false, false, false, false, false, false] rfl rfl (by kernel_rfl) (fun _ _ _ h => h) (Or.inl ⟨by rfl, ?_⟩) ?_ ?_
              rotate_left
              · intro w'
                go_simp
                with_reducible rfl
              rotate_left
              · simp only [Act.put, List.setIfInBounds_toArray, List.set_cons_zero, List.set_cons_succ, i64_w, i32_w]
                rfl
              refine pure_ (i := 32) (N := some 106) (v := ?_) (a' := ?_) #[true, true, true, true, true, true, true, true, true, true, true, true, true, true, true, true, true, true, true, true, true, true, true, true, true, false, true, true, true, false, false, true, true, false, false, false, false, false, false, false, false, false] rfl rfl (by kernel_rfl) (fun _ _ _ h => h) (Or.inl ⟨by rfl, ?_⟩) ?_ ?_
              rotate_left
              · intro w'
                go_simp
                with_reducible rfl
              rotate_left
              · simp only [Act.put, List.setIfInBounds_toArray, List.set_cons_zero, List.set_cons_succ, i64_w, i32_w]
                rfl
              refine pure_ (i := 33) (N := some 107) (v := ?_) (a' := ?_) #[true, true, true, true, true, true, true, true, true, true, true, true, true, true, true, true, true, true, true, true, true, true, true, true, true, false, true, true, true, false, false, true, true, true, false, false, false, false, false, false, false, false] rfl rfl (by kernel_rfl) (fun _ _ _ h => h) (Or.inl ⟨by rfl, ?_⟩) ?_ ?_
              rotate_left
              · intro w'
                go_simp
                with_reducible rfl
              rotate_left
              · simp only [Act.put, List.setIfInBounds_toArray, List.set_cons_zero, List.set_cons_succ, i64_w, i32_w]
                rfl
              refine pure_ (i := 35) (N := some 109) (v := ?_) (a' := ?_) #[true, true, true, true, true, true, true, true, true, true, true, true, true, true, true, true, true, true, true, true, true, true, true, true, true, false, true, true, true, false, false, true, true, true, false, true, false, false, false, false, false, false] rfl rfl (by kernel_rfl) (fun _ _ _ h => h) (Or.inl ⟨by rfl, ?_⟩) ?_ ?_
              rotate_left
              · intro w'
                go_simp
                with_reducible rfl
              rotate_left
              · simp only [Act.put, List.setIfInBounds_toArray, List.set_cons_zero, List.set_cons_succ, i64_w, i32_w]
                rfl
              refine pure_ (i := 36) (N := some 110) (v := ?_) (a' := ?_) #[true, true, true, true, true, true, true, true, true, true, true, true, true, true, true, true, true, true, true, true, true, true, true, true, true, false, true, true, true, false, false, true, true, true, false, true, true, false, false, false, false, false] rfl rfl (by kernel_rfl) (fun _ _ _ h => h) (Or.inl ⟨by rfl, ?_⟩) ?_ ?_
              rotate_left
              · intro w'
                go_simp
                with_reducible rfl
              rotate_left
              · simp only [Act.put, List.setIfInBounds_toArray, List.set_cons_zero, List.set_cons_succ, i64_w, i32_w]
                rfl
              refine pure_ (i := 37) (N := some 111) (v := ?_) (a' := ?_) #[true, true, true, true, true, true, true, true, true, true, true, true, true, true, true, true, true, true, true, true, true, true, true, true, true, false, true, true, true, false, false, true, true, true, false, true, true, true, false, false, false, false] rfl rfl (by kernel_rfl) (fun _ _ _ h => h) (Or.inl ⟨by rfl, ?_⟩) ?_ ?_
              rotate_left
              · intro w'
                go_simp
                with_reducible rfl
              rotate_left
              · simp only [Act.put, List.setIfInBounds_toArray, List.set_cons_zero, List.set_cons_succ, i64_w, i32_w]
                rfl
              refine take_ (i := 25) (N := some 99) (v := ?_) (a' := ?_) #[true, true, true, true, true, true, true, true, true, true, true, true, true, true, true, true, true, true, true, true, true, true, true, true, true, true, true, true, true, false, false, true, true, true, false, true, true, true, false, false, false, false] rfl rfl (by kernel_rfl) (fun _ _ _ h => h) (Or.inl ⟨by rfl, ?_⟩) hHeld ?_ ?_
              rotate_left
              · rintro w' ⟨s0, s1, s2, s3⟩
                refine Eq.trans (load_exec (by rfl) (by rfl) s0) ?_
                with_reducible rfl
              rotate_left
              · simp only [Act.put, List.setIfInBounds_toArray, List.set_cons_zero, List.set_cons_succ, i64_w, i32_w]
                rfl
              refine take_ (i := 29) (N := some 103) (v := ?_) (a' := ?_) #[true, true, true, true, true, true, true, true, true, true, true, true, true, true, true, true, true, true, true, true, true, true, true, true, true, true, true, true, true, true, false, true, true, true, false, true, true, true, false, false, false, false] rfl rfl (by kernel_rfl) (fun _ _ _ h => h) (Or.inl ⟨by rfl, ?_⟩) hHeld ?_ ?_
              rotate_left
              · rintro w' ⟨s0, s1, s2, s3⟩
                refine Eq.trans (load_exec (by rfl) (by rfl) s1) ?_
                with_reducible rfl
              rotate_left
              · simp only [Act.put, List.setIfInBounds_toArray, List.set_cons_zero, List.set_cons_succ, i64_w, i32_w]
                rfl
              refine take_ (i := 34) (N := some 108) (v := ?_) (a' := ?_) #[true, true, true, true, true, true, true, true, true, true, true, true, true, true, true, true, true, true, true, true, true, true, true, true, true, true, true, true, true, true, false, true, true, true, true, true, true, true, false, false, false, false] rfl rfl (by kernel_rfl) (fun _ _ _ h => h) (Or.inl ⟨by rfl, ?_⟩) hHeld ?_ ?_
              rotate_left
              · rintro w' ⟨s0, s1, s2, s3⟩
                go_simp
                with_reducible rfl
              rotate_left
              · simp only [Act.put, List.setIfInBounds_toArray, List.set_cons_zero, List.set_cons_succ, i64_w, i32_w]
                rfl
              refine take_ (i := 38) (N := some 112) (v := ?_) (a' := ?_) #[true, true, true, true, true, true, true, true, true, true, true, true, true, true, true, true, true, true, true, true, true, true, true, true, true, true, true, true, true, true, false, true, true, true, true, true, true, true, true, false, false, false] rfl rfl (by kernel_rfl) (fun _ _ _ h => h) (Or.inl ⟨by rfl, ?_⟩) hHeld ?_ ?_
              rotate_left
              · rintro w' ⟨s0, s1, s2, s3⟩
                go_simp
                with_reducible rfl
              rotate_left
              · simp only [Act.put, List.setIfInBounds_toArray, List.set_cons_zero, List.set_cons_succ, i64_w, i32_w]
                rfl
              refine pure_ (i := 39) (N := some 113) (v := ?_) (a' := ?_) #[true, true, true, true, true, true, true, true, true, true, true, true, true, true, true, true, true, true, true, true, true, true, true, true, true, true, true, true, true, true, false, true, true, true, true, true, true, true, true, true, false, false] rfl rfl (by kernel_rfl) (fun _ _ _ h => h) (Or.inl ⟨by rfl, ?_⟩) ?_ ?_
              rotate_left
              · intro w'
                go_simp
                with_reducible rfl
              rotate_left
              · simp only [Act.put, List.setIfInBounds_toArray, List.set_cons_zero, List.set_cons_succ, i64_w, i32_w]
                rfl
              refine one_ (i := 30) (N := some 104) #[true, true, true, true, true, true, true, true, true, true, true, true, true, true, true, true, true, true, true, true, true, true, true, true, true, true, true, true, true, true, true, true, true, true, true, true, true, true, true, true, false, false] rfl rfl (by kernel_rfl) (by decide) (fun K hK => ?_)
              refine goes_ Try.func18 (by kernel_rfl) rfl #[.pointer (some ⟨g, 0, none⟩), .agg (cel x3), .agg (cel x5)] (by rfl) rfl rfl (by simp only [List.map_toArray, List.map_cons, List.map_nil]; rfl) ?_
              with_reducible refine (HEQ.out _ (HHW.out _ HB7.out)).mono ?_
              rintro e8 w8 ⟨rfl, hb⟩
              refine ⟨_, rfl, ?_⟩
              have HB8 := Aside0.mk (below_step HB7.out hb)
              clear hb
              refine hK.out _ _ ⟨(HLV.out _ HB8.out i x3 HX3.out), (HLV.out _ HB8.out k x5 HX5.out), (HSV.out _ HB8.out i s3 HS3.out), (HSV.out _ HB8.out k s5 HS5.out)⟩ (fun hHeld => ?_)
              clear hK K
              refine norm_ (a' := ?_) ?_ ?_
              rotate_left
              · show Act.put _ (some 104) _ = _
                simp only [Act.put, List.setIfInBounds_toArray, List.set_cons_zero, List.set_cons_succ, i64_w, i32_w]
                rfl
              refine pure_ (i := 40) (N := some 114) (v := ?_) (a' := ?_) #[true, true, true, true, true, true, true, true, true, true, true, true, true, true, true, true, true, true, true, true, true, true, true, true, true, true, true, true, true, true, true, true, true, true, true, true, true, true, true, true, true, false] rfl rfl (by kernel_rfl) (fun _ _ _ h => h) (Or.inl ⟨by rfl, ?_⟩) ?_ ?_
              rotate_left
              · intro w'
                go_simp
                with_reducible rfl
              rotate_left
              · simp only [Act.put, List.setIfInBounds_toArray, List.set_cons_zero, List.set_cons_succ, i64_w, i32_w]
                rfl
              refine pure_ (i := 41) (N := some 115) (v := ?_) (a' := ?_) #[true, true, true, true, true, true, true, true, true, true, true, true, true, true, true, true, true, true, true, true, true, true, true, true, true, true, true, true, true, true, true, true, true, true, true, true, true, true, true, true, true, true] rfl rfl (by kernel_rfl) (fun _ _ _ h => h) (Or.inl ⟨by rfl, ?_⟩) ?_ ?_
              rotate_left
              · intro w'
                go_simp
                with_reducible rfl
              rotate_left
              · simp only [Act.put, List.setIfInBounds_toArray, List.set_cons_zero, List.set_cons_succ, i64_w, i32_w]
                rfl
              refine done_ (by kernel_rfl) ?_
              go_wp2_with fail
              go_roundg k2
              case measure => omega
              case rel => exact ⟨k + 1, by first | rfl | (rw [HW5.out]), ⟨by have := HI3.out; omega⟩, HB8⟩
    | succ k1 =>
      have hi : i < 4 := by have := HI.out; omega
      obtain ⟨s, hs⟩ : ∃ s, [a0, a1, a2, a0][i]? = some s := ⟨_, List.getElem?_eq_getElem (by simpa using hi)⟩
      have HSI := Aside0.mk hs
      have p3 : (0 : Int) ≤ (i : Int) := by omega
      have q3 : (i : Int) < 4 := by omega
      have q3n : i < 4 := hi
      have ti : decide ((i : Int) < 4) = true := decide_eq_true q3
      have ti2 : decide (i < 4) = true := decide_eq_true q3n
      have hx := blk_cell HST.out i
      rw [str4 a0 a1 a2 i s hs] at hx
      have hx2 : wr.cell? ((⟨w2.heap.size, 0, none⟩ : Addr).add i) = some (.string s) := by rw [add_plain]; exact hx
      have hwi : wrap64 ((i : Int) + 1) = ((i + 1 : Nat) : Int) := wr1 i (by omega)
      have HWI := Aside0.mk hwi
      clear hwi hi hs
      go_wp2_with fail
      refine (Hp.add s _ HH.out (Nat.le_trans HLO.out HSW.out) (HL4.out i s HSI.out) (by omega) (by have := HBN.out; have := HL4.out i s HSI.out; have := HI.out; omega) (by have := HBN.out; have := HL4.out i s HSI.out; have := HI.out; omega)).mono ?_
      rintro e w3 ⟨x, B', rfl, hh, hb, hkt, hho, hbl, hgr⟩
      obtain ⟨C, hC⟩ : ∃ C, C = cel x := ⟨_, rfl⟩
      have HSC : Aside0 (C.size = 16) := ⟨by rw [hC, cel_size, hho.1.ha]⟩
      have H1C : Aside0 (C.all (·.oneCell') = true) := ⟨by rw [hC]; exact cel_one _⟩
      have HCX : Aside0 (C.toList = vb x) := ⟨by rw [hC, cel_vb]⟩
      have HVL : Aside0 (C.toList.length = 16) := ⟨by rw [HCX.out]; unfold vb; rw [List.length_map, hho.1.ha]⟩
      have HV1 : Aside0 (∀ u ∈ C.toList, u.oneCell' = true) := ⟨by intro u hu; rw [HCX.out] at hu; unfold vb at hu; rw [List.mem_map] at hu; obtain ⟨_, _, rfl⟩ := hu; rfl⟩
      have HM3 := Aside0.mk (blk_new w3 (.cells Z 28))
      have HC4 := Aside0.mk (setRow_heap _ _ _ C _ _ HM3.out)
      have hbw := below_row (below_alloc (Below.refl w3.heap.size w3) (.cells Z 28)) (Nat.le_refl _) C
      have HB4 := Aside0.mk (below_step (HB.out.trans (hb.mono hlo.out.2)) hbw)
      have HH4 := Aside0.mk (hh.below hbw)
      have HV4 := Aside0.mk (Kd.R_below (raw_keep HV.out hkt) hbw)
      have HST4 := Aside0.mk ((hbw.block _ (blk_lt (hkt _ _ _ HST.out (by decide) (by decide) (by decide)))).trans (hkt _ _ _ HST.out (by decide) (by decide) (by decide)))
      have HSW4 := Aside0.mk (Nat.le_trans HSW.out (Nat.le_trans hb.size hbw.size))
      have HHO4 := Aside0.mk (show ∀ (j : Nat) (y : List Int) (t : ByteArray), (vs ++ [x])[j]? = some y → [a0, a1, a2, a0][j]? = some t → Holds B' y t from fun j y t hy ht => by
        rcases Nat.lt_or_ge j vs.length with hj | hj
        · rw [List.getElem?_append_left hj] at hy
          exact hgr _ _ (HHO.out j y t hy ht)
        · rw [List.getElem?_append_right hj] at hy
          have hj0 : j = i := by
            rcases Nat.eq_zero_or_pos (j - vs.length) with h | h
            · have := HVN.out; omega
            · rw [List.getElem?_eq_none (by simp; omega)] at hy; cases hy
          subst hj0
          rw [show j - vs.length = 0 by have := HVN.out; omega] at hy
          simp at hy
          subst hy
          rw [HSI.out] at ht
          injection ht with ht
          subst ht
          exact hho)
      have HBN4 := Aside0.mk (show (B'.getD []).length ≤ 4096 * (i + 1) by have := HBN.out; have := HL4.out i s HSI.out; omega)
      rw [← hC]
      clear hh hb hkt hho hbl hgr hbw hx hx2 hC HH HB HV HST
      go_wp2_with (first | ((with_reducible refine gate_store (t := 28) (p := 11) rfl ?_); refine wpList_store_row rfl 28 _ _ rfl w3.heap.size C (by rfl) (by rfl) 28 Z HM3.out (by rw [info16, HSC.out]) (HSZ.out.trans HSC.out.symm) H1C.out ?_) | ((with_reducible refine gate_dst (N := 59) rfl ?_); refine wpList_load_row rfl 28 _ rfl w3.heap.size (by rfl) 28 C (0, 0) _ HC4.out Try.underlying28 rfl (by rw [info16, HSC.out]) ?_) | ((with_reducible refine gate_dst (N := 60) rfl ?_); refine wpList_buildSlice rfl 27 28 1 _ rfl C I16 (.agg (cel z16)) Try.underlying27 HI16.out.1 HI16.out.2.1 (by rw [HI16.out.2.2]; decide) (by rw [HI16.out.2.2]; decide) ?bf ?_; (case bf => rw [HI16.out.2.2]; simp only [List.map_toArray, List.map_cons, List.map_nil]; exact fill16 C _ HSC.out (by simp))) | ((with_reducible refine gate_builtin (b := .append) (xs := #[.tmp 58, .tmp 60]) rfl ?_); at_builtin; refine Kd.R_append (Kd.raw 16) (w0 := w) w.heap.size rfl (.tmp 58) (.tmp 60) 27 28 (.agg (cel z16)) 16 rfl Try.underlying27 info16z rfl (by decide) (by omega) _ (vs.map vb) C.toList C.toList (fun _ => True) (fun _ => False) rfl rfl ?aP (fun _ hk => hk.elim) ?aF ?aO ?aB ?aS ?aL ?_; (case aP => exact ⟨rfl, HVL.out, HV1.out⟩); (case aB => exact HB4.out); (case aF => exact (fun _ _ => trivial)); (case aO => exact HV4.out); (case aS => exact below_size HB4.out); (case aL => have := HVN.out; have := HI.out; simp; omega); intro v61 w5 ho hb hg hat; have HO5 := Aside0.mk ho; have HB5 := Aside0.mk hb; have HK5 := Aside0.mk (show ∀ (k : Nat) (cs : Array Value) (t : TypeId), t ≠ 28 → ((w3.alloc (.cells Z 28)).setRow w3.heap.size C).heap[k]? = some (.cells cs t (0, 0)) → w5.heap[k]? = some (.cells cs t (0, 0)) from fun k cs t ht hk => blk_grown hk hg (Kd.R_ne HV4.out hk (Ne.symm ht))); clear ho hb hg hat))
      have HH5 := Aside0.mk (HH4.out.keep HK5.out)
      have HST5 := Aside0.mk (HK5.out _ _ _ (by decide) HST4.out)
      have HSW5 := Aside0.mk (show w2.heap.size ≤ w5.heap.size from Nat.le_of_lt (blk_lt HST5.out))
      have HV5 := Aside0.mk (show (Kd.raw 16).R 28 w5 w.heap.size (fun _ => True) v61 ((vs ++ [x]).map vb) from by have h9 := HO5.out; rw [HCX.out] at h9; rw [List.map_append]; exact h9)
      go_roundg k1
      case measure => omega
      case rel => exact ⟨i + 1, vs ++ [x], B', by first | rfl | (rw [HWI.out]), ⟨by have := HI.out; omega⟩, ⟨by rw [List.length_append, HVN.out]; rfl⟩, HHO4, HH5, HBN4, HV5, HST5, HB5, HSW5⟩
end Go.Proofs.Ytpbplflocdhahaa.HW
