import Derived.Test.YtcbjkejboegmlaaZJ2
/- JoinParts: the law, walked. -/
set_option linter.unusedVariables false
set_option linter.unusedSimpArgs false
namespace Go.Proofs.Ytcbjkejboegmlaa.HW
open Go.RowKit Go.Proofs.Ytcbjkejboegmlaa.P Go.Proofs.Ytcbjkejboegmlaa.HP Go.Proofs.YtcbjkejboegmlaaW.PrintWords Go.Proofs.YtcbjkejboegmlaaW.PrintLast Go.Proofs.YtcbjkejboegmlaaW.PrintMore
attribute [local go_sem] max2_int min2_int max_two min_two max_three min_three max_four min_four
set_option maxHeartbeats 8000000 in
set_option maxRecDepth 100000 in
theorem boxes (w : World) (x0 x1 x2 y0 y1 y2 : Value) (V : World) (h : Below ((w.alloc (.cells #[x0, x1, x2] 25)).alloc (.cells #[y0, y1, y2] 25)).heap.size ((w.alloc (.cells #[x0, x1, x2] 25)).alloc (.cells #[y0, y1, y2] 25)) V) :
    V.cell? ⟨w.heap.size, 0, none⟩ = some x0 ∧ V.cell? ⟨w.heap.size, 1, none⟩ = some x1 ∧ V.cell? ⟨w.heap.size, 2, none⟩ = some x2 ∧ V.cell? ⟨w.heap.size + 1, 0, none⟩ = some y0 ∧ V.cell? ⟨w.heap.size + 1, 1, none⟩ = some y1 ∧ V.cell? ⟨w.heap.size + 1, 2, none⟩ = some y2 := by
  have h0 : ((w.alloc (.cells #[x0, x1, x2] 25)).alloc (.cells #[y0, y1, y2] 25)).heap[w.heap.size]? = some (.cells #[x0, x1, x2] 25 (0, 0)) := by
    rw [heap_alloc_old _ _ (by simp)]
    exact blk_new w _
  have h1 : ((w.alloc (.cells #[x0, x1, x2] 25)).alloc (.cells #[y0, y1, y2] 25)).heap[w.heap.size + 1]? = some (.cells #[y0, y1, y2] 25 (0, 0)) := by
    have := blk_new (w.alloc (.cells #[x0, x1, x2] 25)) (.cells #[y0, y1, y2] 25)
    rw [al_size] at this
    exact this
  have g0 := (h.block _ (blk_lt h0)).trans h0
  have g1 := (h.block _ (blk_lt h1)).trans h1
  exact ⟨blk_cell g0 0, blk_cell g0 1, blk_cell g0 2, blk_cell g1 0, blk_cell g1 1, blk_cell g1 2⟩
theorem below2 (w : World) (o o' : Obj) : Below w.heap.size w ((w.alloc o).alloc o') := (below_al w o).trans ((below_al (w.alloc o) o').mono (by rw [al_size]; omega))
set_option maxHeartbeats 8000000 in
set_option maxRecDepth 100000 in
theorem parts_no (A0 : Option Addr) (c0 : Nat) (l : List Key) (m : Int) (A2 : Option Addr) (c2 : Nat) (lk : List Int) (A1 : Option Addr) (c1 : Nat) (r : List Key) (m1 : Int) (A3 : Option Addr) (c3 : Nat) (rk : List Int) (w : World)
    (hl : Kd.C (Kd.slice 43 k43) w A0 l.length l) (hcl : l.length ≤ c0) (hr : Kd.C (Kd.slice 43 k43) w A1 r.length r) (hcr : r.length ≤ c1) (hlk : Kd.C (Kd.int .i64) w A2 lk.length lk) (hclk : lk.length ≤ c2) (hrk : Kd.C (Kd.int .i64) w A3 rk.length rk) (hcrk : rk.length ≤ c3)
    (b : Bool) (hF : ∀ V, Below w.heap.size w V → Calls Try.prog 9 #[.int .i64 1, .slice A0 l.length c0, .slice A1 r.length c1, .slice A2 lk.length c2, .slice A3 rk.length c3, .int .i64 m, .int .i64 m1] V fun e w' => e = .returned (.bool b) ∧ Below V.heap.size V w') (hb : b = false) :
    Calls Try.prog 6 #[sideV A0 l c0 m A2 lk c2, sideV A1 r c1 m1 A3 rk c3] w fun e w' => e = .returned (.bool true) ∧ Below w.heap.size w w' := by
  have HBX := Aside0.mk (boxes w (.slice A0 l.length c0) (.int .i64 m) (.slice A2 lk.length c2) (.slice A1 r.length c1) (.int .i64 m1) (.slice A3 rk.length c3))
  have HB0 := Aside0.mk (below2 w (.cells #[.slice A0 l.length c0, .int .i64 m, .slice A2 lk.length c2] 25) (.cells #[.slice A1 r.length c1, .int .i64 m1, .slice A3 rk.length c3] 25))
  obtain ⟨w0, hw0⟩ : ∃ W, W = ((w.alloc (.cells #[.slice A0 l.length c0, .int .i64 m, .slice A2 lk.length c2] 25)).alloc (.cells #[.slice A1 r.length c1, .int .i64 m1, .slice A3 rk.length c3] 25)) := ⟨_, rfl⟩
  have HW0 := Aside0.mk hw0
  rw [← hw0] at HBX HB0
  have HX := Aside0.mk (Below.refl w0.heap.size w0)
  have HF := Aside0.mk hF
  subst hb
  clear hl hcl hr hcr hlk hclk hrk hcrk hF
  unfold sideV
  go_enter Try.func6, Try.ntmps6
  go_wp2_with fail
  rw [← hw0]
  refine (law23_awake _).mono ?_
  rintro e w1 ⟨rfl, hb⟩
  have HX1 := Aside0.mk (below_step HX.out hb)
  clear hb HX hw0
  obtain ⟨x0, x1, x2, y0, y1, y2⟩ := HBX.out w1 HX1.out
  go_wp2_with fail
  refine (HF.out _ (HB0.out.trans (HX1.out.mono (below_size HB0.out)))).mono ?_
  rintro e w2 ⟨rfl, hb⟩
  have HX2 := Aside0.mk (below_step HX1.out hb)
  clear hb HX1 x0 x1 x2 y0 y1 y2
  go_wp2_with fail
  refine (law23_awake _).mono ?_
  rintro e w3 ⟨rfl, hb⟩
  have HX3 := Aside0.mk (below_step HX2.out hb)
  clear hb HX2
  go_wp2_with fail
  go_ret
  exact ⟨rfl, HB0.out.trans (HX3.out.mono (below_size HB0.out))⟩
theorem fine_cols {l r : List Key} {lk rk : List Int} {m m1 : Int} (h : Fine 1 l r lk rk m m1) : (l.length ≤ 400 ∧ r.length ≤ 400 ∧ lk.length = rk.length ∧ lk.length ≤ 100) ∧ (∀ row ∈ l, ∀ c ∈ lk, 0 ≤ c ∧ c < (row.length : Int)) ∧ (∀ row ∈ r, ∀ c ∈ rk, 0 ≤ c ∧ c < (row.length : Int)) ∧ (∀ row ∈ l, ∀ x ∈ row, x.f1.size ≤ 1000000) ∧ (∀ row ∈ r, ∀ x ∈ row, x.f1.size ≤ 1000000) ∧ (∀ row ∈ l, row.length ≤ 1000) ∧ (∀ row ∈ r, row.length ≤ 1000) := by
  obtain ⟨⟨a1, a2, a3, a4⟩, ⟨b1, b2, b3, b4⟩, h1, h2, h3⟩ := h
  unfold rightB at h3
  simp only [Bool.and_eq_true, decide_eq_true_eq, Bool.not_eq_true', List.any_eq_false] at h3
  obtain ⟨_, _, e1, _, e2, e3, e4⟩ := h3
  refine ⟨⟨by omega, by omega, e1, by omega⟩, fun row hr c hc => ?_, fun row hr c hc => ?_, fun row hr x hx => ?_, fun row hr x hx => ?_, fun row hr => ?_, fun row hr => ?_⟩
  · have h9 := e3 c hc
    unfold pC at h9
    simp only [Bool.or_eq_true, decide_eq_true_eq, not_or] at h9
    have := (a4 row hr).1
    omega
  · have h9 := e4 c hc
    unfold pC at h9
    simp only [Bool.or_eq_true, decide_eq_true_eq, not_or] at h9
    have := (b4 row hr).1
    omega
  · have := ((a4 row hr).2 x hx).1
    omega
  · have := ((b4 row hr).2 x hx).1
    omega
  · have := (a4 row hr).1
    omega
  · have := (b4 row hr).1
    omega
/-- The array of the kinds' rows, as far as it is filled. -/
def Arr (X : Int → List Key) (g i : Nat) (W : World) : Prop := ∃ vs : Array Value, vs.size = 5 ∧ W.heap[g]? = some (.cells vs 41 (0, 0)) ∧ ∀ j : Nat, 1 ≤ j → j ≤ i → ∃ A c, vs[j]? = some (.slice A (X (j : Int)).length c) ∧ (X (j : Int)).length ≤ c ∧ ∀ W', Kept W W' (fun k => k = g) → Kd.C (Kd.slice 43 k43) W' A (X (j : Int)).length (X (j : Int))
theorem Arr.start (X : Int → List Key) (W : World) : Arr X W.heap.size 0 (W.alloc (.cells #[.slice none 0 0, .slice none 0 0, .slice none 0 0, .slice none 0 0, .slice none 0 0] 41)) := ⟨_, rfl, blk_new W _, fun j h1 h2 => absurd h2 (by omega)⟩
theorem Arr.below {X : Int → List Key} {g i : Nat} {W W2 : World} (h : Arr X g i W) (hb : Below W.heap.size W W2) : Arr X g i W2 := by
  obtain ⟨vs, h1, h2, h3⟩ := h
  refine ⟨vs, h1, (hb.block _ (blk_lt h2)).trans h2, fun j a b => ?_⟩
  obtain ⟨A, c, e, hc, hC⟩ := h3 j a b
  exact ⟨A, c, e, hc, Kd.C_kept_step hC (Kept.of_below hb _)⟩
theorem Arr.put {X : Int → List Key} {g i : Nat} {W V : World} {A : Option Addr} {c : Nat} (h : Arr X g i W) (hi : i < 4) (hV : Arr X g i V) (hg : g < V.heap.size) (ho : Kd.R (Kd.slice 43 k43) 38 W V.heap.size (fun _ => True) (.slice A (X ((i : Int) + 1)).length c) (X ((i : Int) + 1))) :
    Arr X g (i + 1) (W.setCell ⟨g, i + 1, none⟩ (.slice A (X ((i : Int) + 1)).length c)) := by
  have he : ((i + 1 : Nat) : Int) = (i : Int) + 1 := by omega
  obtain ⟨vs, h1, h2, h3⟩ := h
  refine ⟨vs.setIfInBounds (i + 1) _, by simp [h1], blk_putj h2 (i + 1) _, fun j a b => ?_⟩
  have hK : Kept W (W.setCell ⟨g, i + 1, none⟩ (.slice A (X ((i : Int) + 1)).length c)) (fun k => k = g) := Kept.setCell (S := fun k => k = g) (Kept.refl _ _) (.inl rfl) _
  by_cases hj : j = i + 1
  · subst hj
    rw [he]
    refine ⟨A, c, by rw [Array.getElem?_setIfInBounds_self_of_lt (by omega)], (Kd.R_reads' ho).2.1, ?_⟩
    exact Kd.C_kept_step (Kd.C_kept_own (Kd.R_bound ho) (fun k hk e => by have e : k = g := e; have := hk.2.1; omega)) hK
  · obtain ⟨A', c', e, hc, hC⟩ := h3 j a (by omega)
    refine ⟨A', c', ?_, hc, Kd.C_kept_step hC hK⟩
    rw [Array.getElem?_setIfInBounds_ne (by omega)]
    exact e
theorem Arr.slot {X : Int → List Key} {g i : Nat} {W : World} (h : Arr X g i W) (j : Nat) (hj : j < 5) : (∃ v, W.cell? ⟨g, j, none⟩ = some v) ∧ W.frozen? ⟨g, j, none⟩ = false := by
  obtain ⟨vs, h1, hb, h3⟩ := h
  refine ⟨⟨vs[j]'(by omega), (blk_cell hb j).trans (by simp [show j < vs.size by omega])⟩, blk_frozen hb _⟩
theorem Arr.get {X : Int → List Key} {g i : Nat} {W : World} (h : Arr X g i W) (j : Nat) (h1 : 1 ≤ j) (h2 : j ≤ i) : ∃ A c, W.cell? ⟨g, j, none⟩ = some (.slice A (X (j : Int)).length c) ∧ (X (j : Int)).length ≤ c ∧ Kd.C (Kd.slice 43 k43) W A (X (j : Int)).length (X (j : Int)) := by
  obtain ⟨vs, _, hb, h3⟩ := h
  obtain ⟨A, c, e, hc, hC⟩ := h3 j h1 h2
  exact ⟨A, c, (blk_cell hb j).trans e, hc, hC _ (Kept.refl _ _)⟩
theorem Arr.lt {X : Int → List Key} {g i : Nat} {W : World} (h : Arr X g i W) : g < W.heap.size := by
  obtain ⟨vs, _, hb, _⟩ := h
  exact blk_lt hb
/-- One row of the rows, by itself. -/
theorem cut_one (A : Option Addr) (c : Nat) (l : List Key) (hc : l.length ≤ c) (i : Nat) (h : i < l.length) : ∃ (A' : Option Addr) (c' : Nat), 1 ≤ c' ∧
    (∀ W : World, (Instr.slice 22 (.slice A l.length c) (some (.int .i64 (i : Int))) (some (.int .i64 ((i : Int) + 1))) none).run Try.prog W = .ok (.slice A' 1 c') W) ∧
    ∀ W : World, Kd.C (Kd.slice 43 k43) W A l.length l → Kd.C (Kd.slice 43 k43) W A' [l.getD i []].length [l.getD i []] := by
  obtain ⟨i0, hi0, _, hsz, _⟩ := info_parts infoL
  have hcut := cut_mid (P := Try.prog) 22 38 .i64 .i64 Try.underlying22 hi0 1 hsz A l.length c (i : Int) ((i : Int) + 1) (by omega) (by omega) (by omega) hc
  have hlen : ((i : Int) + 1).toNat - (i : Int).toNat = 1 := by omega
  refine ⟨if c = i then A else A.map (·.add (i * 1)), c - i, by omega, fun W => ?_, fun W hC => ?_⟩
  · rw [hcut W, hlen, Int.toNat_natCast]
  · have h9 := Kd.C_mid (c := c) (lo := i) (hi := i + 1) hC (by omega) (by omega) hc
    have e : (l.take (i + 1)).drop i = [l.getD i []] := by
      rw [List.take_succ_eq_append_getElem h, List.drop_append_of_le_length (by simp; omega), List.drop_eq_nil_of_le (by simp; omega)]
      simp [List.getD_eq_getElem?_getD, h]
    rw [e] at h9
    exact h9
theorem cell_later {w V : World} {a : Addr} {v : Value} (hx : w.cell? a = some v) (hV : Below w.heap.size w V) : V.cell? a = some v := by
  have hl := World.block_lt_of_cell? _ _ hx
  rw [← hx]
  unfold World.cell?
  rw [hV.block _ hl]
theorem same_one (x y : Key) (hx : x.length ≤ 1000) : ∃ k, hopperref18_Same.f k [x] [y] = some (decide (x = y)) := by
  obtain ⟨k, hk⟩ := (same18 [x] [y] (by simp) (fun row h => by have h := List.mem_singleton.1 h; subst h; omega)).rounds
  refine ⟨k, hk.trans ?_⟩
  simp
set_option maxHeartbeats 8000000 in
set_option maxRecDepth 100000 in
theorem parts_yes (A0 : Option Addr) (c0 : Nat) (l : List Key) (m : Int) (A2 : Option Addr) (c2 : Nat) (lk : List Int) (A1 : Option Addr) (c1 : Nat) (r : List Key) (n : Nat) (A3 : Option Addr) (c3 : Nat) (rk : List Int) (w : World)
    (hl : Kd.C (Kd.slice 43 k43) w A0 l.length l) (hcl : l.length ≤ c0) (hr : Kd.C (Kd.slice 43 k43) w A1 r.length r) (hcr : r.length ≤ c1) (hlk : Kd.C (Kd.int .i64) w A2 lk.length lk) (hclk : lk.length ≤ c2) (hrk : Kd.C (Kd.int .i64) w A3 rk.length rk) (hcrk : rk.length ≤ c3)
    (hF : ∀ V, Below w.heap.size w V → Calls Try.prog 9 #[.int .i64 1, .slice A0 l.length c0, .slice A1 r.length c1, .slice A2 lk.length c2, .slice A3 rk.length c3, .int .i64 m, .int .i64 (n : Int)] V fun e w' => e = .returned (.bool true) ∧ Below V.heap.size V w') (hb : Fine 1 l r lk rk m (n : Int)) :
    Calls Try.prog 6 #[sideV A0 l c0 m A2 lk c2, sideV A1 r c1 (n : Int) A3 rk c3] w fun e w' => e = .returned (.bool true) ∧ Below w.heap.size w w' := by
  have HBX := Aside0.mk (boxes w (.slice A0 l.length c0) (.int .i64 m) (.slice A2 lk.length c2) (.slice A1 r.length c1) (.int .i64 (n : Int)) (.slice A3 rk.length c3))
  have HB0 := Aside0.mk (below2 w (.cells #[.slice A0 l.length c0, .int .i64 m, .slice A2 lk.length c2] 25) (.cells #[.slice A1 r.length c1, .int .i64 (n : Int), .slice A3 rk.length c3] 25))
  obtain ⟨w0, hw0⟩ : ∃ W, W = ((w.alloc (.cells #[.slice A0 l.length c0, .int .i64 m, .slice A2 lk.length c2] 25)).alloc (.cells #[.slice A1 r.length c1, .int .i64 (n : Int), .slice A3 rk.length c3] 25)) := ⟨_, rfl⟩
  have HW0 := Aside0.mk hw0
  rw [← hw0] at HBX HB0
  have HX := Aside0.mk (Below.refl w0.heap.size w0)
  have HF := Aside0.mk hF
  obtain ⟨g1, g2, g3, g4, g5, g6, g7⟩ := fine_cols hb
  have hn : n ≤ 1000 := by have := hb.2.1.2.1; omega
  have hsm : ∀ k, (rowsL k l r lk rk n).length ≤ 1640 := fun k => by
    have h1 := rowsL_small k l r lk rk n
    have h2 : (r.length + 1) * l.length ≤ 41 * 40 := Nat.mul_le_mul (by have := hb.2.2.2.1; omega) (by have := hb.2.2.1; omega)
    omega
  have hRW := fun (k : Int) (V : World) (h : Below w.heap.size w V) (hk : 1 ≤ k ∧ k ≤ 4) => Rows_ok k A0 c0 l A1 c1 r A2 c2 lk A3 c3 rk n 10000 10000 V (Kd.C_below hl h) hcl (Kd.C_below hr h) hcr (Kd.C_below hlk h) hclk (Kd.C_below hrk h) hcrk g1 g2 g3 g4 g5 g6 g7 hk hn (by decide) (by have := hsm k; omega)
  have HRW := Aside0.mk hRW
  have HSM := Aside0.mk hsm
  have HL := Aside0.mk hl
  have HCL := Aside0.mk hcl
  have HFI := Aside0.mk hb
  clear hl hcl hr hcr hlk hclk hrk hcrk hF g1 g2 g3 g4 g5 g6 g7 hn hsm hRW hb
  unfold sideV
  go_enter Try.func6, Try.ntmps6
  go_wp2_with fail
  rw [← hw0]
  refine (law23_awake _).mono ?_
  rintro e w1 ⟨rfl, hb⟩
  have HX1 := Aside0.mk (below_step HX.out hb)
  clear hb HX hw0
  obtain ⟨x0, x1, x2, y0, y1, y2⟩ := HBX.out w1 HX1.out
  go_wp2_with fail
  refine (HF.out _ (HB0.out.trans (HX1.out.mono (below_size HB0.out)))).mono ?_
  rintro e w2 ⟨rfl, hb⟩
  have HX2 := Aside0.mk (below_step HX1.out hb)
  clear hb HX1 x0 x1 x2 y0 y1 y2 HF
  go_wp2_with fail
  obtain ⟨X, hX⟩ : ∃ X : Int → List Key, X = fun k => rowsL k l r lk rk n := ⟨_, rfl⟩
  have HXX := Aside0.mk hX
  have HRX : Aside0 (∀ (k : Int) (V : World), Below w.heap.size w V → 1 ≤ k ∧ k ≤ 4 → Calls Try.prog 10 #[.int .i64 k, .slice A0 l.length c0, .slice A1 r.length c1, .slice A2 lk.length c2, .slice A3 rk.length c3, .int .i64 (n : Int), .int .i64 10000] V fun e w' => ∃ v, e = .returned (.tuple #[v, .int .i64 0]) ∧ Kd.R (Kd.slice 43 k43) 38 w' V.heap.size (fun _ => True) v (X k) ∧ Below V.heap.size V w') := ⟨by rw [hX]; exact HRW.out⟩
  have HSX : Aside0 (∀ k, (X k).length ≤ 1640) := ⟨by rw [hX]; exact HSM.out⟩
  have HG0 := Aside0.mk (And.intro (Arr.start X w2) (And.intro HX2.out (below_size HX2.out)))
  have HBA := Aside0.mk (below_alloc HX2.out (.cells #[.slice none 0 0, .slice none 0 0, .slice none 0 0, .slice none 0 0, .slice none 0 0] 41))
  obtain ⟨g, hg⟩ : ∃ g, g = w2.heap.size := ⟨_, rfl⟩
  have HGS : Aside0 (w0.heap.size ≤ g) := ⟨by rw [hg]; exact HG0.out.2.2⟩
  have HAR := Aside0.mk HG0.out.1
  rw [← hg] at HAR ⊢
  clear hX HRW HSM HG0 hg HX2
  go_loopg [6] (4 : Nat) (fun kq v6 w' => ∃ i : Nat, v6 = .int .i64 ((i : Int) + 1) ∧ Aside0 (i + kq = 4) ∧ Aside0 (Arr X g i w') ∧ Aside0 (Below w0.heap.size w0 w'))
  case atStart => exact ⟨0, rfl, ⟨by omega⟩, ⟨HAR.out⟩, ⟨HBA.out⟩⟩
  case round =>
    clear HAR HBA
    obtain ⟨i, rfl, HI, HA, HBW⟩ := hrel
    have HBB := Aside0.mk (HB0.out.trans (HBW.out.mono (below_size HB0.out)))
    cases gk with
    | zero =>
      have hi : i = 4 := by have := HI.out; omega
      subst hi
      obtain ⟨w9, hw9⟩ : ∃ V, V = wr := ⟨_, rfl⟩
      rw [← hw9] at HA HBW HBB ⊢
      clear hw9
      obtain ⟨B1, b1, z1, d1, D1⟩ := HA.out.get 1 (by omega) (by omega)
      obtain ⟨B2, b2, z2, d2, D2⟩ := HA.out.get 2 (by omega) (by omega)
      obtain ⟨B3, b3, z3, d3, D3⟩ := HA.out.get 3 (by omega) (by omega)
      obtain ⟨B4, b4, z4, d4, D4⟩ := HA.out.get 4 (by omega) (by omega)
      have hs3 : X ((3 : Nat) : Int) = l.filter (hitB r lk rk) := by rw [HXX.out]; exact rowsL_semi l r lk rk n
      have hs4 : X ((4 : Nat) : Int) = l.filter (fun row => !hitB r lk rk row) := by rw [HXX.out]; exact rowsL_anti l r lk rk n
      have hsum : (X ((2 : Nat) : Int)).length = (X ((1 : Nat) : Int)).length + (X ((4 : Nat) : Int)).length := by rw [HXX.out]; exact rowsL_sum l r lk rk n
      have hs1 := HSX.out ((1 : Nat) : Int)
      have hs4x := HSX.out ((4 : Nat) : Int)
      obtain ⟨L1, hL1⟩ : ∃ L, L = X ((1 : Nat) : Int) := ⟨_, rfl⟩
      obtain ⟨L2, hL2⟩ : ∃ L, L = X ((2 : Nat) : Int) := ⟨_, rfl⟩
      obtain ⟨L3, hL3⟩ : ∃ L, L = X ((3 : Nat) : Int) := ⟨_, rfl⟩
      obtain ⟨L4, hL4⟩ : ∃ L, L = X ((4 : Nat) : Int) := ⟨_, rfl⟩
      rw [← hL1] at z1 hs1 hsum
      rw [← hL2] at z2 hsum
      rw [← hL3] at z3 d3 D3 hs3
      rw [← hL4] at z4 d4 D4 hs4 hs4x hsum
      obtain ⟨f, hf⟩ : ∃ f, f = hitB r lk rk := ⟨_, rfl⟩
      rw [← hf] at hs3 hs4
      have HS3 := Aside0.mk hs3
      have HS4 := Aside0.mk hs4
      have HSUM := Aside0.mk (And.intro hsum (And.intro hs1 hs4x))
      have HD := Aside0.mk (And.intro D3 (And.intro D4 (And.intro d3 d4)))
      have HLX : Aside0 (Kd.C (Kd.slice 43 k43) w9 A0 l.length l) := ⟨Kd.C_below HL.out HBB.out⟩
      have HW9 := Aside0.mk HBW.out
      have HCE : Aside0 (∀ V, Below w9.heap.size w9 V → V.cell? ⟨g, 1, none⟩ = some (.slice B1 L1.length b1) ∧ V.cell? ⟨g, 2, none⟩ = some (.slice B2 L2.length b2) ∧ V.cell? ⟨g, 3, none⟩ = some (.slice B3 L3.length b3) ∧ V.cell? ⟨g, 4, none⟩ = some (.slice B4 L4.length b4)) := ⟨fun V hV => ⟨cell_later z1 hV, cell_later z2 hV, cell_later z3 hV, cell_later z4 hV⟩⟩
      have HB9 := Aside0.mk (Below.refl w9.heap.size w9)
      have HLW : Aside0 (∀ row ∈ l, row.length ≤ 1000) := ⟨(fine_cols HFI.out).2.2.2.2.2.1⟩
      have HLL : Aside0 (l.length ≤ 40) := ⟨HFI.out.2.2.1⟩
      clear z1 z2 z3 z4 d1 d2 d3 d4 D1 D2 D3 D4 hs3 hs4 hsum hs1 hs4x hL1 hL2 hL3 hL4 hf HXX HRX HSX HA HBW HBB HI HL HFI
      go_wp2_with fail
      go_loopg [9, 10, 11] (l.length : Nat) (fun kq v9 v10 v11 w' => ∃ i S a : Nat, v11 = .int .i64 (i : Int) ∧ v9 = .int .i64 (S : Int) ∧ v10 = .int .i64 (a : Int) ∧ Aside0 (i + kq = l.length) ∧ Aside0 (S = cntF f l i) ∧ Aside0 (a = cntF (fun row => !f row) l i) ∧ Aside0 (Below w9.heap.size w9 w'))
      case atStart => exact ⟨0, 0, 0, rfl, rfl, rfl, ⟨by omega⟩, ⟨by simp [cntF]⟩, ⟨by simp [cntF]⟩, ⟨HB9.out⟩⟩
      case round =>
        clear HB9
        obtain ⟨i, S, a, rfl, rfl, rfl, HI, HS, HAA, HBW⟩ := hrel
        have HBX0 := Aside0.mk (HW9.out.trans (HBW.out.mono (below_size HW9.out)))
        obtain ⟨x0, _, _, _, _, _⟩ := HBX.out wr HBX0.out
        obtain ⟨z1, z2, z3, z4⟩ := HCE.out wr HBW.out
        cases gk with
        | zero =>
          have hi : i = l.length := by have := HI.out; omega
          have cb : decide ((i : Int) < (l.length : Int)) = false := decide_eq_false (by omega)
          have cb2 : decide (i < l.length) = false := decide_eq_false (by omega)
          have hS : S = L3.length := by rw [HS.out, hi, cntF_all, HS3.out]
          have ha : a = L4.length := by rw [HAA.out, hi, cntF_all, HS4.out]
          have e1 : wrap64 ((L1.length : Int) + (L4.length : Int)) = (L2.length : Int) := by have := HSUM.out; unfold wrap64; omega
          subst hS ha
          clear hi
          go_wp2_with fail
          go_ret
          exact ⟨by first | rfl | simp, HB0.out.trans (HBX0.out.mono (below_size HB0.out))⟩
        | succ k1 =>
          have ci : i < l.length := by have := HI.out; omega
          have cb : decide ((i : Int) < (l.length : Int)) = true := decide_eq_true (by omega)
          have cb2 : decide (i < l.length) = true := decide_eq_true ci
          have wi : wrap64 ((i : Int) + 1) = (i : Int) + 1 := by unfold wrap64; have := HLL.out; omega
          obtain ⟨E, e, hE, hcut, hCE⟩ := cut_one A0 c0 l HCL.out i ci
          have hCl := hCE wr (Kd.C_below HLX.out HBW.out)
          have hle1 := cntF_le f l i
          have hle2 := cntF_le (fun row => !f row) l i
          have wS : wrap64 ((S : Int) + 1) = (S : Int) + 1 := by unfold wrap64; have := HLL.out; have := HS.out; omega
          have wa : wrap64 ((a : Int) + 1) = (a : Int) + 1 := by unfold wrap64; have := HLL.out; have := HAA.out; omega
          have hrow : (l.getD i []).length ≤ 1000 := HLW.out _ (getD_lt_mem l i ci)
          have hget : l.getD i [] = l[i] := by simp [List.getD_eq_getElem?_getD, ci]
          obtain ⟨row, hr0⟩ : ∃ row, row = l.getD i [] := ⟨_, rfl⟩
          rw [← hr0] at hCl hrow hget
          clear hle1 hle2 hCE
          by_cases hfr : f l[i] = true
          · have h3 := cntF_at f l i ci hfr
            have h4 := cntF_no (fun row => !f row) l i ci (by simp [hfr])
            rw [← HS.out, ← HS3.out, ← hget] at h3
            obtain ⟨h31, h32, h33⟩ := h3
            have t3 : decide ((S : Int) < (L3.length : Int)) = true := decide_eq_true (by omega)
            have t3n : decide (S < L3.length) = true := decide_eq_true h31
            obtain ⟨G3, q3, hG3, hcut3, hCE3⟩ := cut_one B3 b3 L3 HD.out.2.2.1 S h31
            have hC3 := hCE3 wr (Kd.C_below HD.out.1 HBW.out)
            rw [h32] at hC3
            obtain ⟨ks, hks⟩ := same_one row row hrow
            rw [decide_eq_true (rfl : row = row)] at hks
            have HCALL := Aside0.mk (hopperref18_Same.calls ks E e [row] G3 q3 [row] true wr hCl hE hC3 hG3 hks)
            have HI1 : Aside0 ((i : Int) + 1 = ((i + 1 : Nat) : Int) ∧ (S : Int) + 1 = ((S + 1 : Nat) : Int)) := ⟨by omega, by omega⟩
            have HS1 : Aside0 (S + 1 = cntF f l (i + 1)) := ⟨h33.symm⟩
            have HA1 : Aside0 (a = cntF (fun row => !f row) l (i + 1)) := ⟨by rw [h4]; exact HAA.out⟩
            clear h31 h32 h33 h4 hfr hget hr0 hrow hks hC3 hCl hCE3 hG3 hE ci
            go_wp2_with fail
            refine HCALL.out.mono ?_
            clear HCALL
            rintro e w5 ⟨rfl, n5, rfl⟩
            have HBN := Aside0.mk (pw_below_drewN HBW.out n5)
            go_wp2_with fail
            go_roundg k1
            case measure => omega
            case rel => exact ⟨i + 1, S + 1, a, by rw [wi, HI1.out.1], by rw [wS, HI1.out.2], rfl, ⟨by have := HI.out; omega⟩, HS1, HA1, HBN⟩
          · have hff : f l[i] = false := by simpa using hfr
            have h3 := cntF_at (fun row => !f row) l i ci (by simp [hff])
            have h4 := cntF_no f l i ci hff
            rw [← HAA.out, ← HS4.out, ← hget] at h3
            obtain ⟨h31, h32, h33⟩ := h3
            have t4 : decide ((a : Int) < (L4.length : Int)) = true := decide_eq_true (by omega)
            have t4n : decide (a < L4.length) = true := decide_eq_true h31
            obtain ⟨G4, q4, hG4, hcut4, hCE4⟩ := cut_one B4 b4 L4 HD.out.2.2.2 a h31
            have hC4 := hCE4 wr (Kd.C_below HD.out.2.1 HBW.out)
            rw [h32] at hC4
            obtain ⟨ks, hks⟩ := same_one row row hrow
            rw [decide_eq_true (rfl : row = row)] at hks
            have HCALL := Aside0.mk (fun V (hV : Below wr.heap.size wr V) => hopperref18_Same.calls ks E e [row] G4 q4 [row] true V (Kd.C_below hCl hV) hE (Kd.C_below hC4 hV) hG4 hks)
            have HI1 : Aside0 ((i : Int) + 1 = ((i + 1 : Nat) : Int) ∧ (a : Int) + 1 = ((a + 1 : Nat) : Int)) := ⟨by omega, by omega⟩
            have HA1 : Aside0 (a + 1 = cntF (fun row => !f row) l (i + 1)) := ⟨h33.symm⟩
            have HS1 : Aside0 (S = cntF f l (i + 1)) := ⟨by rw [h4]; exact HS.out⟩
            have HRR := Aside0.mk (Below.refl wr.heap.size wr)
            by_cases hS : S < L3.length
            · have t3 : decide ((S : Int) < (L3.length : Int)) = true := decide_eq_true (by omega)
              have t3n : decide (S < L3.length) = true := decide_eq_true hS
              obtain ⟨G3, q3, hG3, hcut3, hCE3⟩ := cut_one B3 b3 L3 HD.out.2.2.1 S hS
              have hC3 := hCE3 wr (Kd.C_below HD.out.1 HBW.out)
              have hm := filt_mem f l S (by rw [← HS3.out]; exact hS)
              rw [← HS3.out] at hm
              have hne : row ≠ L3.getD S [] := fun h => by
                rw [← h, hget, hff] at hm
                exact absurd hm (by decide)
              obtain ⟨other, ho⟩ : ∃ o, o = L3.getD S [] := ⟨_, rfl⟩
              rw [← ho] at hC3 hne
              obtain ⟨kt, hkt⟩ := same_one row other hrow
              rw [decide_eq_false hne] at hkt
              have HCALL2 := Aside0.mk (hopperref18_Same.calls kt E e [row] G3 q3 [other] false wr hCl hE hC3 hG3 hkt)
              clear h31 h32 h33 h4 hfr hff hget hr0 hrow hks hkt hC3 hC4 hCl hCE3 hCE4 hG3 hG4 hE ci hm hne ho hS
              go_wp2_with fail
              refine HCALL2.out.mono ?_
              clear HCALL2
              rintro e w5 ⟨rfl, n5, rfl⟩
              have HBN := Aside0.mk (pw_below_drewN HBW.out n5)
              have HRN := Aside0.mk (pw_below_drewN HRR.out n5)
              obtain ⟨z1, z2, z3, z4⟩ := HCE.out _ HBN.out
              go_wp2_with fail
              refine (HCALL.out _ HRN.out).mono ?_
              clear HCALL z1 z2 z3 z4
              rintro e w6 ⟨rfl, n6, rfl⟩
              have HBM := Aside0.mk (pw_below_drewN HBN.out n6)
              go_wp2_with fail
              go_roundg k1
              case measure => omega
              case rel => exact ⟨i + 1, S, a + 1, by rw [wi, HI1.out.1], rfl, by rw [wa, HI1.out.2], ⟨by have := HI.out; omega⟩, HS1, HA1, ⟨by first | exact HBM.out | exact pw_below_drewN HBW.out _⟩⟩
            · have t3 : decide ((S : Int) < (L3.length : Int)) = false := decide_eq_false (by omega)
              have t3n : decide (S < L3.length) = false := decide_eq_false hS
              clear h31 h32 h33 h4 hfr hff hget hr0 hrow hks hC4 hCl hCE4 hG4 hE ci hS
              go_wp2_with fail
              refine (HCALL.out _ HRR.out).mono ?_
              clear HCALL
              rintro e w6 ⟨rfl, n6, rfl⟩
              have HBM := Aside0.mk (pw_below_drewN HBW.out n6)
              go_wp2_with fail
              go_roundg k1
              case measure => omega
              case rel => exact ⟨i + 1, S, a + 1, by rw [wi, HI1.out.1], rfl, by rw [wa, HI1.out.2], ⟨by have := HI.out; omega⟩, HS1, HA1, ⟨by first | exact HBM.out | exact pw_below_drewN HBW.out _⟩⟩
    | succ k1 =>
      obtain ⟨x0, x1, x2, y0, y1, y2⟩ := HBX.out wr HBW.out
      have p1 : ((0 : Int) ≤ (i : Int) + 1) = True := eq_true (by omega)
      have q1 : ((i : Int) + 1 < 5) = True := eq_true (by have := HI.out; omega)
      have cb : decide (((i : Int) + 1) ≤ 4) = true := decide_eq_true (by have := HI.out; omega)
      have HI1 : Aside0 (wrap64 ((i : Int) + 1 + 1) = (((i + 1 : Nat) : Int) + 1)) := ⟨by unfold wrap64; have := HI.out; omega⟩
      go_wp2_with fail
      refine (HRX.out _ _ HBB.out ⟨by omega, by have := HI.out; omega⟩).mono ?_
      rintro e w8 ⟨v, rfl, ho, hb⟩
      obtain ⟨Ax, cx, ev⟩ := Kd.R_slice ho
      subst ev
      have HO := Aside0.mk ho
      have HA8 := Aside0.mk (HA.out.below hb)
      have HBW8 := Aside0.mk (HBW.out.trans (hb.mono (below_size HBW.out)))
      have hlt := HA.out.lt
      obtain ⟨⟨v9, s9⟩, f9⟩ := HA8.out.slot (i + 1) (by have := HI.out; omega)
      have HLT := Aside0.mk hlt
      clear ho hb x0 x1 x2 y0 y1 y2 hlt
      go_wp2_with fail
      have HAN := Aside0.mk (HA8.out.put (i := i) (V := wr) (by have := HI.out; omega) HA.out HLT.out HO.out)
      have HBN : Aside0 (Below w0.heap.size w0 (w8.setCell ⟨g, i + 1, none⟩ (.slice Ax (X ((i : Int) + 1)).length cx))) := ⟨HBW8.out.setCell HGS.out _⟩
      go_roundg k1
      case measure => omega
      case rel => exact ⟨i + 1, by first | rfl | (rw [HI1.out]), ⟨by have := HI.out; omega⟩, HAN, HBN⟩
theorem JoinParts (A0 : Option Addr) (c0 : Nat) (l : List Key) (m : Int) (A2 : Option Addr) (c2 : Nat) (lk : List Int) (A1 : Option Addr) (c1 : Nat) (r : List Key) (m1 : Int) (A3 : Option Addr) (c3 : Nat) (rk : List Int) (w : World)
    (hl : Kd.C (Kd.slice 43 k43) w A0 l.length l) (hcl : l.length ≤ c0) (hr : Kd.C (Kd.slice 43 k43) w A1 r.length r) (hcr : r.length ≤ c1) (hlk : Kd.C (Kd.int .i64) w A2 lk.length lk) (hclk : lk.length ≤ c2) (hrk : Kd.C (Kd.int .i64) w A3 rk.length rk) (hcrk : rk.length ≤ c3) :
    Calls Try.prog 6 #[sideV A0 l c0 m A2 lk c2, sideV A1 r c1 m1 A3 rk c3] w fun e w' => e = .returned (.bool true) ∧ Below w.heap.size w w' := by
  by_cases hm : ∃ n : Nat, m1 = (n : Int)
  · obtain ⟨n, rfl⟩ := hm
    obtain ⟨k, b, h, hp⟩ := fine_f 1 l r lk rk m (n : Int)
    have hF : ∀ V, Below w.heap.size w V → Calls Try.prog 9 #[.int .i64 1, .slice A0 l.length c0, .slice A1 r.length c1, .slice A2 lk.length c2, .slice A3 rk.length c3, .int .i64 m, .int .i64 (n : Int)] V fun e w' => e = .returned (.bool b) ∧ Below V.heap.size V w' := fun V hV => (hopperlaw23_fine.calls k 1 A0 c0 l A1 c1 r A2 c2 lk A3 c3 rk m (n : Int) b V (Kd.C_below hl hV) hcl (Kd.C_below hr hV) hcr (Kd.C_below hlk hV) hclk (Kd.C_below hrk hV) hcrk h).mono (fun e w' h => ⟨h.1, h.2.below⟩)
    cases b with
    | false => exact parts_no A0 c0 l m A2 c2 lk A1 c1 r (n : Int) A3 c3 rk w hl hcl hr hcr hlk hclk hrk hcrk false hF rfl
    | true => exact parts_yes A0 c0 l m A2 c2 lk A1 c1 r n A3 c3 rk w hl hcl hr hcr hlk hclk hrk hcrk hF (hp rfl)
  · obtain ⟨k, b, h, hp⟩ := fine_f 1 l r lk rk m m1
    have hF : ∀ V, Below w.heap.size w V → Calls Try.prog 9 #[.int .i64 1, .slice A0 l.length c0, .slice A1 r.length c1, .slice A2 lk.length c2, .slice A3 rk.length c3, .int .i64 m, .int .i64 m1] V fun e w' => e = .returned (.bool b) ∧ Below V.heap.size V w' := fun V hV => (hopperlaw23_fine.calls k 1 A0 c0 l A1 c1 r A2 c2 lk A3 c3 rk m m1 b V (Kd.C_below hl hV) hcl (Kd.C_below hr hV) hcr (Kd.C_below hlk hV) hclk (Kd.C_below hrk hV) hcrk h).mono (fun e w' h => ⟨h.1, h.2.below⟩)
    cases b with
    | false => exact parts_no A0 c0 l m A2 c2 lk A1 c1 r m1 A3 c3 rk w hl hcl hr hcr hlk hclk hrk hcrk false hF rfl
    | true =>
      have := (hp rfl).2.1.1
      exact absurd ⟨m1.toNat, by omega⟩ hm
end Go.Proofs.Ytcbjkejboegmlaa.HW
