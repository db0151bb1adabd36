import Derived.Test.YtcbjkejboegmlaaZJnE
/- hopperlaw23.awake. -/
set_option linter.unusedVariables false
set_option linter.unusedSimpArgs false
namespace Go.Proofs.Ytcbjkejboegmlaa.HW
open Go.RowKit Go.Proofs.Ytcbjkejboegmlaa.P Go.Proofs.Ytcbjkejboegmlaa.HP Go.Proofs.YtcbjkejboegmlaaW.PrintWords Go.Proofs.YtcbjkejboegmlaaW.PrintLast Go.Proofs.YtcbjkejboegmlaaW.PrintMore
attribute [local go_sem] max2_int min2_int max_two min_two max_three min_three max_four min_four
def va : S43 := ⟨false, ⟨#[97]⟩⟩
def vb : S43 := ⟨false, ⟨#[98]⟩⟩
def vc : S43 := ⟨false, ⟨#[99]⟩⟩
def awA : List Key := [[va], [vb]]
def awB : List Key := [[vb], [vc]]
theorem aw1 : rowsL 1 awA awB [0] [0] 1 = [[vb, vb]] := by decide +kernel
theorem aw2 : rowsL 2 awA awB [0] [0] 1 = [[va, nullV], [vb, vb]] := by decide +kernel
theorem aw3 : (matchL (keysOf awA [0]) (keysOf awB [0])).length = 2 := by decide +kernel
theorem awR : rightB 1 [0] [0] 1 1 = true := by decide +kernel
theorem lit_val (w : World) (x : S43) : Kd.C k43 (w.alloc (.cells #[.bool x.f0, .string x.f1] 43)) (some ⟨w.heap.size, 0, none⟩) [x].length [x] := by
  refine ⟨rfl, by simp, fun _ => ⟨_, rfl, fun j p hj => ?_⟩⟩
  match j, hj with
  | 0, hj =>
    simp only [List.getElem?_cons_zero, Option.some.injEq] at hj
    subst hj
    refine ⟨[.bool x.f0, .string x.f1], rfl, k43_mk _ x, fun i u hu => ?_⟩
    match i, hu with
    | 0, hu =>
      simp only [List.getElem?_cons_zero, Option.some.injEq] at hu
      subst hu
      exact blk_cell (blk_new w _) 0
    | 1, hu =>
      simp only [List.getElem?_cons_zero, List.getElem?_cons_succ, Option.some.injEq] at hu
      subst hu
      exact blk_cell (blk_new w _) 1
theorem lit_int (w : World) (x : Int) : Kd.C (Kd.int .i64) (w.alloc (.cells #[.int .i64 x] 3)) (some ⟨w.heap.size, 0, none⟩) [x].length [x] := by
  refine ⟨rfl, by simp, fun _ => ⟨_, rfl, fun j p hj => ?_⟩⟩
  match j, hj with
  | 0, hj =>
    simp only [List.getElem?_cons_zero, Option.some.injEq] at hj
    subst hj
    refine ⟨[.int .i64 x], rfl, rfl, fun i u hu => ?_⟩
    match i, hu with
    | 0, hu =>
      simp only [List.getElem?_cons_zero, Option.some.injEq] at hu
      subst hu
      exact blk_cell (blk_new w _) 0
def aw1w (w : World) : World := w.alloc (.cells #[.bool va.f0, .string va.f1] 43)
def aw2w (w : World) : World := (aw1w w).alloc (.cells #[.bool vb.f0, .string vb.f1] 43)
def aw3w (w : World) : World := (aw2w w).alloc (.cells #[.slice (some ⟨w.heap.size, 0, none⟩) 1 1, .slice (some ⟨w.heap.size + 1, 0, none⟩) 1 1] 38)
def aw4w (w : World) : World := (aw3w w).alloc (.cells #[.bool vb.f0, .string vb.f1] 43)
def aw5w (w : World) : World := (aw4w w).alloc (.cells #[.bool vc.f0, .string vc.f1] 43)
def aw6w (w : World) : World := (aw5w w).alloc (.cells #[.slice (some ⟨w.heap.size + 1 + 1 + 1, 0, none⟩) 1 1, .slice (some ⟨w.heap.size + 1 + 1 + 1 + 1, 0, none⟩) 1 1] 38)
def aw7w (w : World) : World := (aw6w w).alloc (.cells #[.int .i64 0] 3)
theorem al_size (w : World) (o : Obj) : (w.alloc o).heap.size = w.heap.size + 1 := by simp
theorem below_al (w : World) (o : Obj) : Below w.heap.size w (w.alloc o) := below_alloc (Below.refl _ _) o
theorem aw_mem (w : World) : Kd.C (Kd.slice 43 k43) (aw7w w) (some ⟨w.heap.size + 1 + 1, 0, none⟩) awA.length awA ∧ Kd.C (Kd.slice 43 k43) (aw7w w) (some ⟨w.heap.size + 1 + 1 + 1 + 1 + 1, 0, none⟩) awB.length awB ∧ Kd.C (Kd.int .i64) (aw7w w) (some ⟨w.heap.size + 1 + 1 + 1 + 1 + 1 + 1, 0, none⟩) ([0] : List Int).length [0] ∧ Below w.heap.size w (aw7w w) := by
  have s1 : (aw1w w).heap.size = w.heap.size + 1 := al_size _ _
  have s2 : (aw2w w).heap.size = w.heap.size + 1 + 1 := (al_size _ _).trans (by rw [s1])
  have s3 : (aw3w w).heap.size = w.heap.size + 1 + 1 + 1 := (al_size _ _).trans (by rw [s2])
  have s4 : (aw4w w).heap.size = w.heap.size + 1 + 1 + 1 + 1 := (al_size _ _).trans (by rw [s3])
  have s5 : (aw5w w).heap.size = w.heap.size + 1 + 1 + 1 + 1 + 1 := (al_size _ _).trans (by rw [s4])
  have s6 : (aw6w w).heap.size = w.heap.size + 1 + 1 + 1 + 1 + 1 + 1 := (al_size _ _).trans (by rw [s5])
  have b1 : Below w.heap.size w (aw1w w) := below_al _ _
  have b2 : Below (aw1w w).heap.size (aw1w w) (aw2w w) := below_al _ _
  have b3 : Below (aw2w w).heap.size (aw2w w) (aw3w w) := below_al _ _
  have b4 : Below (aw3w w).heap.size (aw3w w) (aw4w w) := below_al _ _
  have b5 : Below (aw4w w).heap.size (aw4w w) (aw5w w) := below_al _ _
  have b6 : Below (aw5w w).heap.size (aw5w w) (aw6w w) := below_al _ _
  have b7 : Below (aw6w w).heap.size (aw6w w) (aw7w w) := below_al _ _
  have h1 : Kd.C k43 (aw1w w) (some ⟨w.heap.size, 0, none⟩) [va].length [va] := lit_val w va
  have h2 : Kd.C k43 (aw2w w) (some ⟨w.heap.size + 1, 0, none⟩) [vb].length [vb] := by rw [← s1]; exact lit_val (aw1w w) vb
  have h3 : Kd.C (Kd.slice 43 k43) (aw3w w) (some ⟨w.heap.size + 1 + 1, 0, none⟩) awA.length awA := by rw [← s2]; exact lit_two (aw2w w) [va] [vb] _ _ 1 1 (Nat.le_refl _) (Nat.le_refl _) (Kd.C_below h1 b2) h2
  have h4 : Kd.C k43 (aw4w w) (some ⟨w.heap.size + 1 + 1 + 1, 0, none⟩) [vb].length [vb] := by rw [← s3]; exact lit_val (aw3w w) vb
  have h5 : Kd.C k43 (aw5w w) (some ⟨w.heap.size + 1 + 1 + 1 + 1, 0, none⟩) [vc].length [vc] := by rw [← s4]; exact lit_val (aw4w w) vc
  have h6 : Kd.C (Kd.slice 43 k43) (aw6w w) (some ⟨w.heap.size + 1 + 1 + 1 + 1 + 1, 0, none⟩) awB.length awB := by rw [← s5]; exact lit_two (aw5w w) [vb] [vc] _ _ 1 1 (Nat.le_refl _) (Nat.le_refl _) (Kd.C_below h4 b5) h5
  have h7 : Kd.C (Kd.int .i64) (aw7w w) (some ⟨w.heap.size + 1 + 1 + 1 + 1 + 1 + 1, 0, none⟩) ([0] : List Int).length [0] := by rw [← s6]; exact lit_int (aw6w w) 0
  have c3 : Below w.heap.size w (aw3w w) := (b1.trans (b2.mono (by omega))).trans (b3.mono (by omega))
  have c6 : Below (aw3w w).heap.size (aw3w w) (aw6w w) := (b4.trans (b5.mono (by omega))).trans (b6.mono (by omega))
  exact ⟨Kd.C_below h3 (c6.trans (b7.mono (by omega))), Kd.C_below h6 b7, h7, (c3.trans (c6.mono (by omega))).trans (b7.mono (by omega))⟩
theorem awcols : ∀ row ∈ awA, ∀ c ∈ ([0] : List Int), 0 ≤ c ∧ c < (row.length : Int) := by decide
theorem bwcols : ∀ row ∈ awB, ∀ c ∈ ([0] : List Int), 0 ≤ c ∧ c < (row.length : Int) := by decide
theorem awsz : ∀ row ∈ awA, ∀ x ∈ row, x.f1.size ≤ 1000000 := by decide
theorem bwsz : ∀ row ∈ awB, ∀ x ∈ row, x.f1.size ≤ 1000000 := by decide
theorem awln : ∀ row ∈ awA, row.length ≤ 1000 := by decide
theorem bwln : ∀ row ∈ awB, row.length ≤ 1000 := by decide
theorem awcounts : awA.length ≤ 400 ∧ awB.length ≤ 400 ∧ ([0] : List Int).length = ([0] : List Int).length ∧ ([0] : List Int).length ≤ 100 := by decide
theorem ov1 : ((rowsL 1 awA awB [0] [0] 1).length : Int) ≤ 5 := by rw [aw1]; decide
theorem ov2 : ((rowsL 2 awA awB [0] [0] 1).length : Int) ≤ 5 := by rw [aw2]; decide
theorem ov3 : (1 : Int) < ((rowsL 2 awA awB [0] [0] 1).length : Int) := by rw [aw2]; decide
theorem lit_one (w : World) (x1 : Key) (A1 : Option Addr) (c1 : Nat) (h1 : x1.length ≤ c1) (hC1 : Kd.C k43 w A1 x1.length x1) :
    Kd.C (Kd.slice 43 k43) (w.alloc (.cells #[.slice A1 x1.length c1] 38)) (some ⟨w.heap.size, 0, none⟩) [x1].length [x1] := by
  have hb := below_alloc (Below.refl w.heap.size w) (.cells #[.slice A1 x1.length c1] 38)
  refine ⟨rfl, by simp, fun _ => ⟨_, rfl, fun j p hj => ?_⟩⟩
  match j, hj with
  | 0, hj =>
    simp only [List.getElem?_cons_zero, Option.some.injEq] at hj
    subst hj
    refine ⟨[.slice A1 x1.length c1], rfl, ⟨A1, c1, rfl, h1, Kd.C_below hC1 hb⟩, fun i u hu => ?_⟩
    match i, hu with
    | 0, hu =>
      simp only [List.getElem?_cons_zero, Option.some.injEq] at hu
      subst hu
      exact blk_cell (blk_new w _) 0
theorem lit_val2 (w : World) (x y : S43) : Kd.C k43 (w.alloc (.cells #[.bool x.f0, .string x.f1, .bool y.f0, .string y.f1] 43)) (some ⟨w.heap.size, 0, none⟩) [x, y].length [x, y] := by
  refine ⟨rfl, by simp, fun _ => ⟨_, rfl, fun j p hj => ?_⟩⟩
  match j, hj with
  | 0, hj =>
    simp only [List.getElem?_cons_zero, Option.some.injEq] at hj
    subst hj
    refine ⟨[.bool x.f0, .string x.f1], rfl, k43_mk _ x, fun i u hu => ?_⟩
    match i, hu with
    | 0, hu =>
      simp only [List.getElem?_cons_zero, Option.some.injEq] at hu
      subst hu
      exact blk_cell (blk_new w _) 0
    | 1, hu =>
      simp only [List.getElem?_cons_zero, List.getElem?_cons_succ, Option.some.injEq] at hu
      subst hu
      exact blk_cell (blk_new w _) 1
  | 1, hj =>
    simp only [List.getElem?_cons_zero, List.getElem?_cons_succ, Option.some.injEq] at hj
    subst hj
    refine ⟨[.bool y.f0, .string y.f1], rfl, k43_mk _ y, fun i u hu => ?_⟩
    match i, hu with
    | 0, hu =>
      simp only [List.getElem?_cons_zero, Option.some.injEq] at hu
      subst hu
      exact blk_cell (blk_new w _) 2
    | 1, hu =>
      simp only [List.getElem?_cons_zero, List.getElem?_cons_succ, Option.some.injEq] at hu
      subst hu
      exact blk_cell (blk_new w _) 3
def aw8w (w : World) : World := w.alloc (.cells #[.bool vb.f0, .string vb.f1, .bool vb.f0, .string vb.f1] 43)
def aw9w (w : World) : World := (aw8w w).alloc (.cells #[.slice (some ⟨w.heap.size, 0, none⟩) 2 2] 38)
theorem aw_mem2 (w : World) : Kd.C (Kd.slice 43 k43) (aw9w w) (some ⟨w.heap.size + 1, 0, none⟩) ([[vb, vb]] : List Key).length [[vb, vb]] ∧ Below w.heap.size w (aw9w w) := by
  have s1 : (aw8w w).heap.size = w.heap.size + 1 := al_size _ _
  have h1 : Kd.C k43 (aw8w w) (some ⟨w.heap.size, 0, none⟩) [vb, vb].length [vb, vb] := lit_val2 w vb vb
  refine ⟨?_, (below_al w _).trans ((below_al (aw8w w) _).mono (by omega))⟩
  rw [← s1]
  exact lit_one (aw8w w) [vb, vb] _ 2 (Nat.le_refl _) h1
theorem same_vb : Ev (fun k => hopperref18_Same.f k ([[vb, vb]] : List Key) [[vb, vb]]) true := by
  have h9 := same18 ([[vb, vb]] : List Key) [[vb, vb]] (by decide) (by decide)
  rwa [decide_eq_true rfl] at h9
theorem add0 (a : Addr) : a.add 0 = a := by simp [Addr.add]
set_option maxHeartbeats 8000000 in
set_option maxRecDepth 100000 in
theorem law23_awake (w : World) : Calls Try.prog 8 #[] w fun e w' => e = .returned (.bool true) ∧ Below w.heap.size w w' := by
  have HB := Aside0.mk (Below.refl w.heap.size w)
  have hu43 := Try.underlying43
  go_enter Try.func8, Try.ntmps8
  go_wp2_with fail
  obtain ⟨hA, hBb, hK, hbw⟩ := aw_mem w
  obtain ⟨W, hW⟩ : ∃ W, W = aw7w w := ⟨_, rfl⟩
  obtain ⟨AA, hAA⟩ : ∃ A : Option Addr, A = some ⟨w.heap.size + 1 + 1, 0, none⟩ := ⟨_, rfl⟩
  obtain ⟨AB, hAB⟩ : ∃ A : Option Addr, A = some ⟨w.heap.size + 1 + 1 + 1 + 1 + 1, 0, none⟩ := ⟨_, rfl⟩
  obtain ⟨AK, hAK⟩ : ∃ A : Option Addr, A = some ⟨w.heap.size + 1 + 1 + 1 + 1 + 1 + 1, 0, none⟩ := ⟨_, rfl⟩
  rw [← hW, ← hAA] at hA
  rw [← hW, ← hAB] at hBb
  rw [← hW, ← hAK] at hK
  rw [← hW] at hbw
  have hRA := fun (kind lim mx : Int) (V : World) (h : Below W.heap.size W V) (hk : 1 ≤ kind ∧ kind ≤ 4) (hmx : (if lim < 0 then (0 : Int) else lim) = mx) => Rows_ok kind AA 2 awA AB 2 awB AK 1 [0] AK 1 [0] 1 lim mx V (Kd.C_below hA h) (Nat.le_refl _) (Kd.C_below hBb h) (Nat.le_refl _) (Kd.C_below hK h) (Nat.le_refl _) (Kd.C_below hK h) (Nat.le_refl _) awcounts awcols bwcols awsz bwsz awln bwln hk (by omega) hmx
  have hRO := fun (kind lim mx : Int) (V : World) (h : Below W.heap.size W V) (hk : 1 ≤ kind ∧ kind ≤ 4) (hmx : (if lim < 0 then (0 : Int) else lim) = mx) => Rows_over kind AA 2 awA AB 2 awB AK 1 [0] AK 1 [0] 1 lim mx V (Kd.C_below hA h) (Nat.le_refl _) (Kd.C_below hBb h) (Nat.le_refl _) (Kd.C_below hK h) (Nat.le_refl _) (Kd.C_below hK h) (Nat.le_refl _) awcounts awcols bwcols awsz bwsz awln bwln hk (by omega) hmx
  have HRA := Aside0.mk hRA
  have HRO := Aside0.mk hRO
  have HM := Aside0.mk (fun (V : World) (h : Below W.heap.size W V) => Matches_ AA 2 awA AB 2 awB AK 1 [0] AK 1 [0] V (Kd.C_below hA h) (Nat.le_refl _) (Kd.C_below hBb h) (Nat.le_refl _) (Kd.C_below hK h) (Nat.le_refl _) (Kd.C_below hK h) (Nat.le_refl _) awcounts awcols bwcols awsz bwsz)
  have HRI := Aside0.mk (fun (V : World) (h : Below W.heap.size W V) => Right_all 1 AK 1 [0] AK 1 [0] 1 1 V (Kd.C_below hK h) (Kd.C_below hK h))
  have HBW := Aside0.mk hbw
  have HX0 := Aside0.mk (Below.refl W.heap.size W)
  have HWW := Aside0.mk hW
  have HAA := Aside0.mk (And.intro hAA (And.intro hAB hAK))
  clear hA hBb hK hbw hRA hRO hW hAA hAB hAK HB
  have hcall := HRA.out 1 5 5 W HX0.out (by omega) (by decide) ov1
  rw [HWW.out, HAA.out.1, HAA.out.2.1, HAA.out.2.2] at hcall
  refine hcall.mono ?_
  clear hcall
  rintro e w1 ⟨v1, rfl, ho1, hb1⟩
  rw [← HWW.out] at ho1 hb1
  rw [← HAA.out.1, ← HAA.out.2.1, ← HAA.out.2.2]
  obtain ⟨A1, c1, e1, hl1, hC1⟩ := Kd.R_reads ho1
  rw [aw1] at e1 hl1 hC1
  subst e1
  have HC1 := Aside0.mk hC1
  have HL1 := Aside0.mk hl1
  have HX1 := Aside0.mk hb1
  clear ho1 hb1 hl1 hC1 HX0
  go_wp2_with fail
  refine (HRA.out 2 5 5 _ HX1.out (by omega) (by decide) ov2).mono ?_
  rintro e w2 ⟨v2, rfl, ho2, hb2⟩
  obtain ⟨A2, c2, e2, hl2, hC2⟩ := Kd.R_reads ho2
  rw [aw2] at e2 hl2 hC2
  subst e2
  have HC2 := Aside0.mk hC2
  have HC1 := Aside0.mk (Kd.C_below HC1.out hb2)
  have HX2 := Aside0.mk (HX1.out.trans (hb2.mono (below_size HX1.out)))
  clear ho2 hb2 hl2 hC2 HX1
  go_wp2_with fail
  refine (HRO.out 2 1 1 _ HX2.out (by omega) (by decide) ov3).mono ?_
  rintro e w3 ⟨rfl, hb3⟩
  have HC2 := Aside0.mk (Kd.C_below HC2.out hb3)
  have HC1 := Aside0.mk (Kd.C_below HC1.out hb3)
  have HX3 := Aside0.mk (HX2.out.trans (hb3.mono (below_size HX2.out)))
  clear hb3 HX2
  go_wp2_with fail
  obtain ⟨hS, hb4⟩ := aw_mem2 w3
  obtain ⟨ks, hks⟩ := same_vb.rounds
  have hC24 := Kd.C_below HC2.out hb4
  have HC24 := Aside0.mk hC24
  have HX4 := Aside0.mk (HX3.out.trans (hb4.mono (below_size HX3.out)))
  obtain ⟨w4, hw4⟩ : ∃ V, V = aw9w w3 := ⟨_, rfl⟩
  have HW4 := Aside0.mk hw4
  have hcall := hopperref18_Same.calls ks A1 c1 [[vb, vb]] (some ⟨w3.heap.size + 1, 0, none⟩) 1 [[vb, vb]] true _ (Kd.C_below HC1.out hb4) HL1.out hS (Nat.le_refl _) hks
  refine hcall.mono ?_
  clear hcall hS hks hb4 hC24
  rw [← hw4] at HC24 HX4
  clear hw4
  rintro e w5 ⟨rfl, n5, h5⟩
  rw [← HW4.out] at h5
  subst h5
  have HX5 := Aside0.mk (pw_below_drewN HX4.out n5)
  have hC5 := Kd.C_below HC24.out (pw_below_drewN (Below.refl w4.heap.size w4) n5)
  obtain ⟨w5, hw5⟩ : ∃ V, V = w4.drewN n5 := ⟨_, rfl⟩
  rw [← hw5] at HX5 hC5 ⊢
  obtain ⟨ad, Ay, cy, eA, hy, hcy, hCy⟩ := at_L3 hC5 0 (by omega) (by decide)
  subst eA
  obtain ⟨ady, eB, hn0, hn1⟩ := at_T43 hCy 1 (by omega) (by decide)
  subst eB
  rw [show ((0 : Int)).toNat = 0 from rfl, add0] at hy
  have hy2 : w5.cell? ad = some (.slice (some ady) 2 cy) := hy
  have hn2 : w5.cell? (ady.add 2) = some (.bool true) := hn0
  have hn3 : w5.cell? ⟨ady.block, ady.off + 2, none⟩ = some (.bool true) := by have h9 := hn2; simpa [Addr.add] using h9
  clear hw5 hy hn0 hn1 hCy hC5 HC24 HC2 HC1 HX3 HX4
  go_wp2_with fail
  refine (HRI.out _ HX5.out).mono ?_
  rintro e w6 ⟨rfl, hb6⟩
  rw [awR]
  have HX6 := Aside0.mk (HX5.out.trans (hb6.mono (below_size HX5.out)))
  clear hb6 HX5 hy2 hn2 hn3
  go_wp2_with fail
  refine (HM.out _ HX6.out).mono ?_
  rintro e w7 ⟨v7, rfl, ho7, hb7⟩
  obtain ⟨A7, c7, e7⟩ := Kd.R_slice ho7
  rw [aw3] at e7
  subst e7
  have HX7 := Aside0.mk (HX6.out.trans (hb7.mono (below_size HX6.out)))
  clear ho7 hb7 HX6
  go_wp2_with fail
  go_ret
  exact ⟨rfl, HBW.out.trans (HX7.out.mono (below_size HBW.out))⟩
end Go.Proofs.Ytcbjkejboegmlaa.HW
