/- heap.Of. -/
import Derived.Test.YtpbplflocdhahaaChunkU
import Derived.Test.YtpbplflocdhahaaPx3
set_option linter.unusedVariables false
set_option linter.unusedSimpArgs false
namespace Go.Proofs.Ytpbplflocdhahaa.HW
open Go.RowKit Go.Shelf Go.Proofs.Ytpbplflocdhahaa.P Go.Proofs.Ytpbplflocdhahaa.HP Go.Proofs.YtpbplflocdhahaaW.PrintWords Go.Proofs.YtpbplflocdhahaaW.PrintLast Go.Proofs.YtpbplflocdhahaaW.PrintMore
attribute [local go_sem] max2_int min2_int max_two min_two max_three min_three max_four min_four
attribute [local go_sem] Oper.semAt_some
theorem own_lower {w : World} {b0 b1 : Nat} {e : TypeId} {size n : Nat} {v : Value} {xs : List Value} (h : w.ownsRow b1 e size v n xs) (hb : b0 ≤ b1) : w.ownsRow b0 e size v n xs := by
  refine ⟨h.1, ?_⟩
  rcases h.2 with h2 | ⟨g, cap, cur, e1, h3, h4⟩
  · exact .inl h2
  · exact .inr ⟨g, cap, cur, e1, Nat.le_trans hb h3, h4⟩
theorem R_lower {α : Type} {enc : α → Value} {h1 : ∀ x, (enc x).oneCell' = true} {e b0 b1 : Nat} {w : World} {v : Value} {xs : List α} (h : (Kd.scalar enc h1).R e w b1 (fun _ => True) v xs) (hb : b0 ≤ b1) : (Kd.scalar enc h1).R e w b0 (fun _ => True) v xs :=
  Kd.R_of_own (own_lower (Kd.own_of_R h) hb) (fun _ _ => trivial)
/-- The rows of a heap at block g lie from lo on (the heap's own block need not). -/
def HG (lo : Nat) (w : World) (g : Nat) (Bs : List (List Int)) (size m : Int) : Prop := ∃ (vB : Value) (xs : List (Option Addr × Nat × Nat)), w.heap[g]? = some (.cells #[vB, .int .i64 size, .int .i64 m] 53 (0, 0)) ∧ KS.R 36 w lo (fun _ => True) vB xs ∧ xs.length = Bs.length ∧
  (∀ (j : Nat) (x : Option Addr × Nat × Nat) (b : List Int), xs[j]? = some x → Bs[j]? = some b → Kd.R (Kd.int .u8) 5 w lo (fun _ => True) (encSl x) b) ∧
  (∀ (i j k : Nat) (x y : Option Addr × Nat × Nat), i ≠ j → xs[i]? = some x → xs[j]? = some y → (encSl x).ownBlock = some k → (encSl y).ownBlock ≠ some k)
theorem HG.keep {lo : Nat} {w W : World} {g : Nat} {Bs : List (List Int)} {size m : Int} (h : HG lo w g Bs size m) (k : KO w W) : HG lo W g Bs size m := by
  obtain ⟨vB, xs, hg, h1, hl, h2, h3⟩ := h
  exact ⟨vB, xs, k _ _ _ (.inl rfl) hg, R_ko h1 (.inr (.inl rfl)) k, hl, fun j x b hx hb => R_ko (h2 j x b hx hb) (.inr (.inr rfl)) k, h3⟩
theorem HG.heap {lo lo2 : Nat} {w : World} {g : Nat} {Bs : List (List Int)} {size m : Int} (h : HG lo2 w g Bs size m) (h0 : lo ≤ g) (hb : lo ≤ lo2) : HM lo w g Bs size m := by
  obtain ⟨vB, xs, hg, h1, hl, h2, h3⟩ := h
  exact ⟨h0, vB, xs, hg, R_lower h1 hb, hl, fun j x b hx hb2 => R_lower (h2 j x b hx hb2) hb, h3⟩
theorem KO.of_grown {w W : World} {row : Option Nat} (hg : w.grownBy W row) (hr : ∀ r, row = some r → ∃ o : Obj, w.heap[r]? = some o ∧ o.isCells = false) : KO w W := fun k cs t _ h => by
  refine (hg.block k (blk_lt h) (fun e => ?_)).trans h
  obtain ⟨o, h1, h2⟩ := hr k e.symm
  rw [h] at h1
  injection h1 with h1
  subst h1
  cases h2
theorem hg_own (lo2 g B : Nat) {β : Type} (f : β → List (List Int)) (size m : Int) : OwnFrom B (fun (p : β) W => HG lo2 W g (f p) size m) := fun s A C row hs hg hr => hs.keep (KO.of_grown hg (fun r e => (hr r e).2))
/-- A new buffer, appended. -/
theorem HG.push {lo g gb cb : Nat} {w w3 : World} {Bs : List (List Int)} {b : List Int} {xs : List (Option Addr × Nat × Nat)} {x0 : Option Addr × Nat × Nat} {vB : Value} {size m : Int} (hg : w.heap[g]? = some (.cells #[vB, .int .i64 size, .int .i64 m] 53 (0, 0))) (h1 : KS.R 36 w lo (fun _ => True) vB xs) (hl : xs.length = Bs.length)
    (h2 : ∀ (j : Nat) (x : Option Addr × Nat × Nat) (b : List Int), xs[j]? = some x → Bs[j]? = some b → Kd.R (Kd.int .u8) 5 w lo (fun _ => True) (encSl x) b)
    (h3 : ∀ (i j k : Nat) (x y : Option Addr × Nat × Nat), i ≠ j → xs[i]? = some x → xs[j]? = some y → (encSl x).ownBlock = some k → (encSl y).ownBlock ≠ some k)
    (hx0 : Kd.R (Kd.int .u8) 5 w lo (fun _ => True) (encSl x0) b) (hd : ∀ (j k : Nat) (y : Option Addr × Nat × Nat), xs[j]? = some y → (encSl y).ownBlock = some k → (encSl x0).ownBlock ≠ some k)
    (hgr : w.grownBy w3 vB.ownBlock) (ho : KS.R 36 w3 lo (fun _ => True) (.slice (some ⟨gb, 0, none⟩) (xs ++ [x0]).length cb) (xs ++ [x0])) : HG lo (w3.setCell ⟨g, 0, none⟩ (.slice (some ⟨gb, 0, none⟩) (xs ++ [x0]).length cb)) g (Bs ++ [b]) size m := by
  have hg3 := blk_grown hg hgr (Kd.R_ne h1 hg (by decide))
  have at1 : ∀ {α : Type} {l : List α} {a : α} {j n : Nat} {y : α}, l.length = n → n ≤ j → (l ++ [a])[j]? = some y → j = n ∧ y = a := fun {α l a j n y} hn hj hy => by
    rw [List.getElem?_append_right (by omega)] at hy
    have hj0 : j - l.length = 0 := by
      rcases Nat.eq_zero_or_pos (j - l.length) with h | h
      · exact h
      · rw [List.getElem?_eq_none (by simp; omega)] at hy; cases hy
    rw [hj0] at hy
    simp at hy
    exact ⟨by omega, hy.symm⟩
  refine ⟨_, xs ++ [x0], blk_put hg3 0 _ rfl, R_setblk ho hg3 (by decide), by rw [List.length_append, List.length_append, hl]; rfl, fun j x b' hx hb => ?_, fun i j k x y hij hx hy hk => ?_⟩
  · rcases Nat.lt_or_ge j xs.length with hj | hj
    · rw [List.getElem?_append_left hj] at hx
      rw [List.getElem?_append_left (by omega)] at hb
      exact R_setblk (R_apart (h2 j x b' hx hb) h1 (by decide) hgr) hg3 (by decide)
    · obtain ⟨_, rfl⟩ := at1 rfl hj hx
      obtain ⟨_, rfl⟩ := at1 hl.symm hj hb
      exact R_setblk (R_apart hx0 h1 (by decide) hgr) hg3 (by decide)
  · rcases Nat.lt_or_ge i xs.length with hi | hi
    · rw [List.getElem?_append_left hi] at hx
      rcases Nat.lt_or_ge j xs.length with hj | hj
      · rw [List.getElem?_append_left hj] at hy
        exact h3 i j k x y hij hx hy hk
      · obtain ⟨_, rfl⟩ := at1 rfl hj hy
        exact hd i k x hx hk
    · obtain ⟨e1, rfl⟩ := at1 rfl hi hx
      rcases Nat.lt_or_ge j xs.length with hj | hj
      · rw [List.getElem?_append_left hj] at hy
        exact fun e => hd j k y hy e hk
      · obtain ⟨e2, _⟩ := at1 rfl hj hy
        omega
theorem HM.setsize {lo : Nat} {w : World} {g : Nat} {size m : Int} (h : HM lo w g [] size m) (y : Int) : HM lo (w.setCell ⟨g, 1, none⟩ (.int .i64 y)) g [] y m ∧ w.frozen? ⟨g, 1, none⟩ = false := by
  obtain ⟨h0, vB, xs, hg, h1, hl, h2, h3⟩ := h
  have hx : xs = [] := List.eq_nil_of_length_eq_zero hl
  subst hx
  exact ⟨⟨h0, vB, [], blk_put hg 1 _ rfl, R_setblk h1 hg (by decide), rfl, fun j x b hx => by simp at hx, fun i j k x y _ hx => by simp at hx⟩, blk_frozen hg 1⟩
theorem HM.empty {lo lo2 : Nat} {w : World} {g : Nat} {size m : Int} (h : HM lo w g [] size m) (hn : ∃ s m, w.heap[g]? = some (.cells #[.slice none 0 0, s, m] 53 (0, 0))) : HG lo2 w g [] size m := by
  obtain ⟨h0, vB, xs, hg, h1, hl, h2, h3⟩ := h
  obtain ⟨s', m', hn⟩ := hn
  rw [hg] at hn
  injection hn with hn
  injection hn with hn _ _
  have : vB = .slice none 0 0 := by
    have := congrArg (·[0]?) hn
    simpa using this
  subst this
  exact ⟨_, [], hg, Kd.R_nil _ _ _ _ _, rfl, fun j x b hx => by simp at hx, fun i j k x y _ hx => by simp at hx⟩
theorem HM.new2 (m : Int) (w : World) : Calls Try.prog 10 #[.int .i64 m] w fun e w' => ∃ g : Nat, e = .returned (.pointer (some ⟨g, 0, none⟩)) ∧ w.heap.size ≤ g ∧ w'.heap[g]? = some (.cells #[.slice none 0 0, .int .i64 0, .int .i64 (if m < 0 then 0 else m)] 53 (0, 0)) ∧ Below w.heap.size w w' := by
  by_cases hm : m < 0
  · rw [if_pos hm]
    have t1 : decide (m < 0) = true := decide_eq_true hm
    have t2 : (m < 0) = True := eq_true hm
    clear hm
    go_enter Try.func10, Try.ntmps10
    go_wp2_with fail
    go_ret
    exact ⟨_, rfl, Nat.le_refl _, blk_new _ _, below_alloc (Below.refl _ _) _⟩
  · rw [if_neg hm]
    refine (Hp.new m w (by omega)).mono ?_
    rintro e w1 ⟨g, rfl, hh, hb⟩
    exact ⟨g, rfl, hh.1, hh.2, hb⟩
theorem box_new (w : World) (v : Value) (t : TypeId) : (w.alloc (.cells #[v] t)).cell? ⟨w.heap.size, 0, none⟩ = some v := blk_cell (blk_new w _) 0
def KO1 (w W : World) : Prop := ∀ (k : Nat) (cs : Array Value) (t : TypeId), w.heap[k]? = some (.cells cs t (0, 0)) → W.heap[k]? = some (.cells cs t (0, 0))
theorem KO1.of_grown {w W : World} {row : Option Nat} (hg : w.grownBy W row) (hr : ∀ r, row = some r → ∃ o : Obj, w.heap[r]? = some o ∧ o.isCells = false) : KO1 w W := fun k cs t h => by
  refine (hg.block k (blk_lt h) (fun e => ?_)).trans h
  obtain ⟨o, h1, h2⟩ := hr k e.symm
  rw [h] at h1
  injection h1 with h1
  subst h1
  cases h2
theorem keeps_R {w w8 : World} {t : TypeId} {lo : Nat} {v : Value} {xs : List (Option Addr × Nat × Nat)} (h : KS.R t w lo (fun _ => True) v xs) (hg : w.grownBy w8 v.ownBlock) : KeepsOthers w w8 := KeepsOthers.of_grownBy hg (fun j o ej hj => by
  rcases (Kd.own_of_R h).2 with ⟨rfl, _⟩ | ⟨g, cap, cur, rfl, _, hgb, _⟩
  · simp [Value.ownBlock] at ej
  · obtain rfl : g = j := by simpa [Value.ownBlock] using ej
    rw [hgb] at hj; cases hj; rfl)
theorem own_lt {α : Type} {enc : α → Value} {h1 : ∀ x, (enc x).oneCell' = true} {e b0 : Nat} {w : World} {v : Value} {xs : List α} (h : (Kd.scalar enc h1).R e w b0 (fun _ => True) v xs) (k : Nat) (hk : v.ownBlock = some k) : k < w.heap.size := by
  rcases (Kd.own_of_R h).2 with ⟨rfl, _⟩ | ⟨g, cap, cur, rfl, _, hgb, _⟩
  · simp [Value.ownBlock] at hk
  · obtain rfl : g = k := by simpa [Value.ownBlock] using hk
    exact blk_lt hgb
theorem keeps_below {W W' : World} (hb : Below W.heap.size W W') : KeepsOthers W W' := ⟨hb.size, fun k o hk _ => (hb.block k (Array.getElem?_eq_some_iff.1 hk).1).trans hk⟩
set_option maxHeartbeats 8000000 in
set_option maxRecDepth 100000 in
theorem Of_in (A : Option Addr) (c k : Nat) (L : List Int) (n : Int) (w : World) (hc : L.length ≤ c) (hC : Kd.C (Kd.int .u8) w A L.length L) (hLL : L.length ≤ 100000) (hn : n = (k : Int)) (hk1 : 1 ≤ k) (hk2 : k ≤ 65536) : Calls Try.prog 19 #[.slice A L.length c, .int .i64 n] w fun e w' => ∃ g : Nat, e = .returned (.pointer (some ⟨g, 0, none⟩)) ∧ HM w.heap.size w' g (chunks k L) (L.length : Int) (L.length : Int) ∧ Below w.heap.size w w' := by
  subst hn
  have t1 : decide ((k : Int) < 1) = false := decide_eq_false (by omega)
  have t2 : decide ((65536 : Int) < (k : Int)) = false := decide_eq_false (by omega)
  have HC := Aside0.mk hC
  have HCC := Aside0.mk hc
  have HLL := Aside0.mk hLL
  have HK1 := Aside0.mk hk1
  have HK2 := Aside0.mk hk2
  clear hC hc hLL hk1 hk2
  refine (callsIn_wide (n := 4)).1 ?_
  refine callsIn_of_wp_marks Try.func19 rfl trivial ?_
  simp only [Try.ntmps19, List.size_toArray, List.length_cons, List.length_nil, Nat.reduceAdd, Nat.reduceSub, Array.replicate_succ, Array.replicate_zero, List.push_toArray, List.append_toArray, List.nil_append, List.cons_append]
  gi_wp2
  refine ⟨trivial, (callsIn_wide.2 (HM.new2 (L.length : Int) _)).mono ?_⟩
  rintro e w1 ⟨g, rfl, hgl, hg, hb⟩
  rw [if_neg (by omega)] at hg
  have HGL := Aside0.mk hgl
  have HG1 := Aside0.mk hg
  have HB1 := Aside0.mk hb
  have HG2 : Aside0 ((w1.alloc (.cells #[.pointer (some ⟨g, 0, none⟩)] 25)).heap[g]? = _) := ⟨(Below.heap_alloc _ _ _ (blk_lt hg)).trans hg⟩
  have hc1 := blk_cell HG2.out 1
  have hf1 := blk_frozen HG2.out 1
  simp only [List.getElem?_toArray, List.getElem?_cons_zero, List.getElem?_cons_succ] at hc1
  clear hgl hg hb
  gi_wp2
  have hbg : g ≠ w1.heap.size := by have := blk_lt HG1.out; omega
  obtain ⟨X, hX⟩ : ∃ X, X = (w1.alloc (.cells #[.pointer (some ⟨g, 0, none⟩)] 25)).setCell ⟨g, 1, none⟩ (.int .i64 (L.length : Int)) := ⟨_, rfl⟩
  have hxg : X.heap[g]? = some (.cells #[.slice none 0 0, .int .i64 (L.length : Int), .int .i64 (L.length : Int)] 53 (0, 0)) := by rw [hX]; exact blk_put HG2.out 1 _ rfl
  have hxb : X.heap[w1.heap.size]? = some (.cells #[.pointer (some ⟨g, 0, none⟩)] 25 (0, 0)) := by rw [hX]; exact (Below.heap_setCell _ _ _ _ (fun e => hbg e.symm)).trans (blk_new w1 _)
  have hxw : Below w.heap.size w X := by rw [hX]; exact Below.setCell (below_alloc HB1.out _) HGL.out _
  rw [← hX]
  obtain ⟨hb, hhb⟩ : ∃ hb, hb = w1.heap.size := ⟨_, rfl⟩
  rw [← hhb] at hxb hbg ⊢
  clear hX hhb hc1 hf1 HG2 HB1 HG1
  refine ⟨trivial, (chunk_in 3 k c A L.length X HK1.out).mono ?_⟩
  rintro e w4 ⟨rfl, rfl⟩
  obtain ⟨Bs, hBs⟩ : ∃ Bs, Bs = X.heap.size := ⟨_, rfl⟩
  obtain ⟨W5, hW5⟩ : ∃ W5, W5 = (X.alloc (.cells #[.slice A L.length c] 36)).alloc (.cells #[.int .i64 (k : Int)] 3) := ⟨_, rfl⟩
  have hx5 : Below X.heap.size X W5 := by rw [hW5]; exact below_alloc (below_alloc (Below.refl _ X) _) _
  have HG5 := Aside0.mk ((hx5.block _ (blk_lt hxg)).trans hxg)
  have HX5 := Aside0.mk ((hx5.block _ (blk_lt hxb)).trans hxb)
  have HW5 := Aside0.mk (below_step hxw hx5)
  have HS5 : Aside0 (W5.heap.size = Bs + 2) := ⟨by rw [hW5, hBs]; simp⟩
  have HBs : Aside0 (W5.heap[Bs]? = some (.cells #[.slice A L.length c] 36 (0, 0))) := ⟨by rw [hW5, hBs]; exact (Below.heap_alloc _ _ _ (by simp)).trans (blk_new X _)⟩
  have HBn : Aside0 (W5.heap[Bs + 1]? = some (.cells #[.int .i64 (k : Int)] 3 (0, 0))) := ⟨by rw [hW5, hBs]; have h9 := blk_new (X.alloc (.cells #[.slice A L.length c] 36)) (.cells #[.int .i64 (k : Int)] 3); rwa [World.size_alloc] at h9⟩
  have HGB : Aside0 (g < Bs ∧ hb < Bs) := ⟨by rw [hBs]; exact ⟨blk_lt hxg, blk_lt hxb⟩⟩
  have HBG := Aside0.mk hbg
  have HWB : Aside0 (w.heap.size ≤ Bs) := ⟨by rw [hBs]; exact hxw.size⟩
  rw [← hW5, ← hBs]
  clear hW5 hBs hx5 hxg hxb hxw hbg
  have hceil : (L.length + k - 1) / k ≤ 100000 := by
    have h1 := HK1.out
    have h2 := HLL.out
    have h3 : L.length ≤ k * L.length := Nat.le_mul_of_pos_left _ h1
    have h4 : (L.length + k - 1) / k < L.length + 1 := Nat.div_lt_of_lt_mul (by rw [Nat.mul_add]; omega)
    omega
  have HCE := Aside0.mk hceil
  clear hceil
  gi_wp2
  refine wpIn_rangeFunc_ownF (F := Fence.wide) rfl (by omega) (gf := 39) (lb := #[.pointer (some ⟨Bs, 0, none⟩), .pointer (some ⟨Bs + 1, 0, none⟩)]) rfl trivial (enters_of Try.func39 (by kernel_rfl) rfl)
    (chunk_stops (w0 := w) 3 (by omega) Bs (Bs + 1) k c A L HK1.out HK2.out (by have := HLL.out; omega) HCC.out HC.out 100000 HCE.out W5 (by have := HS5.out; omega) (by have := HS5.out; omega) (blk_cell HBs.out 0) (blk_cell HBn.out 0)) KC.t (KC.b (by have := HS5.out; omega) (by have := HS5.out; omega)) (Below.refl _ _) (fun _ => rfl)
    (fun pre W => HG W5.heap.size W g (pre.map (fun x => x.1.2)) (L.length : Int) (L.length : Int) ∧ (W.heap[hb]? = some (.cells #[.pointer (some ⟨g, 0, none⟩)] 25 (0, 0)) ∧ (Below w.heap.size w W ∧ W5.heap.size ≤ W.heap.size)))
    (fun _ _ _ => False)
    (OwnFrom.and (hg_own _ _ _ _ _ _) (OwnFrom.and (fun s A C row hs hg hr => (KO1.of_grown hg (fun r e => (hr r e).2)) _ _ _ hs) (OwnFrom.and (ownFrom_below (Nat.le_refl _) (by have := HS5.out; have := HWB.out; omega)) (fun s A C row hs hg hr => Nat.le_trans hs hg.size))))
    (fun _ _ _ _ _ hs _ _ => hs)
    ⟨⟨_, [], HG5.out, Kd.R_nil _ _ _ _ _, rfl, fun j x b hx => by simp at hx, fun i j k x y _ hx => by simp at hx⟩, HX5.out, HW5.out, Nat.le_refl _⟩
    (fun x => { tmps := #[.slice A L.length c, .int .i64 (k : Int), undef, undef, .pointer none, .pointer (some ⟨hb, 0, none⟩), .slice x.1.1 x.1.2.length x.1.2.length, .int .i64 (k : Int), .bool false, .bool false, .int .i64 (k : Int), .bool false, .bool false, .slice A L.length c, .int .i64 (L.length : Int), .pointer (some ⟨g, 0, none⟩), .pointer (some ⟨g, 0, none⟩), .slice A L.length c, .int .i64 (L.length : Int), .pointer (some ⟨g, 0, none⟩), .pointer (some ⟨g, 1, none⟩), .slice A L.length c, .int .i64 (k : Int), .func (.func 39) #[] #[.pointer (some ⟨Bs, 0, none⟩), .pointer (some ⟨Bs + 1, 0, none⟩)], .slice x.1.1 x.1.2.length x.1.2.length, undef, undef, undef, undef, undef, undef, undef, undef, undef, undef, undef, undef], defers := [] }) ?assign ?body ?done ?stop
  case assign =>
    intro l x W K hK
    unfold encP
    gi_wp2
    exact hK
  case body =>
    rintro l pre x W ⟨⟨vB, xs, hgB, h1, hl, h2, h3⟩, hbx, hbl, hsz⟩ hlen
    obtain ⟨B2, hB2⟩ : ∃ B2, B2 = W5.heap.size := ⟨_, rfl⟩
    rw [← hB2] at h1 h2 hsz ⊢
    have HB2 := Aside0.mk hB2
    have HPd : Aside0 (W.drew.heap[hb]? = some (.cells #[.pointer (some ⟨g, 0, none⟩)] 25 (0, 0)) ∧ W.drew.heap[g]? = some (.cells #[vB, .int .i64 (L.length : Int), .int .i64 (L.length : Int)] 53 (0, 0))) := ⟨hbx, hgB⟩
    have hb0 : W.drew.cell? ⟨hb, 0, none⟩ = some (.pointer (some ⟨g, 0, none⟩)) := blk_cell HPd.out.1 0
    have hg0 : W.drew.cell? ⟨g, 0, none⟩ = some vB := blk_cell HPd.out.2 0
    have hf0 : W.drew.frozen? ⟨g, 0, none⟩ = false := blk_frozen HPd.out.2 0
    have HBd : Aside0 (Below w.heap.size w W.drew) := ⟨below_drew1 hbl⟩
    have HKd : Aside0 (KS.R 36 W.drew B2 (fun _ => True) vB xs) := ⟨Kd.R_below h1 (below_drew1 (Below.refl _ W))⟩
    have H2d : Aside0 (∀ (j : Nat) (x : Option Addr × Nat × Nat) (b : List Int), xs[j]? = some x → (pre.map (fun x => x.1.2))[j]? = some b → Kd.R (Kd.int .u8) 5 W.drew B2 (fun _ => True) (encSl x) b) := ⟨fun j x b hx hb => Kd.R_below (h2 j x b hx hb) (below_drew1 (Below.refl _ W))⟩
    have H3 := Aside0.mk h3
    have HL := Aside0.mk hl
    have HSd : Aside0 (B2 ≤ W.drew.heap.size) := ⟨hsz⟩
    have HXL : Aside0 (x.1.2.length < 140737488355328) := ⟨by have := x.2.2; omega⟩
    have HXN : Aside0 (xs.length ≤ 100000) := ⟨by rw [hl, List.length_map]; omega⟩
    have HNE1 : Aside0 (some hb ≠ vB.ownBlock) := ⟨fun e => by have h9 := own_base (Kd.own_of_R h1) hb e.symm; have := HGB.out.2; have := HS5.out; omega⟩
    have HNE2 : Aside0 (some g ≠ vB.ownBlock) := ⟨Kd.R_ne h1 hgB (by decide)⟩
    have HVB : Aside0 (∀ k, vB.ownBlock = some k → B2 ≤ k) := ⟨fun k hk => own_base (Kd.own_of_R h1) k hk⟩
    clear hgB h1 hl h2 h3 hbx hbl hsz hlen hB2
    gi_wp2
    refine startIn_ (n := 12) (S := fun w' => w'.cell? ⟨hb, 0, none⟩ = some (.pointer (some ⟨g, 0, none⟩)) ∧ w'.cell? ⟨g, 0, none⟩ = some vB) (ds := [11]) #[false, false, false, false, false, false, false, false, false, false, false, false] (by kernel_rfl) (fun _ _ h => h) (by kernel_rfl) rfl rfl ⟨hb0, hg0⟩ (fun hHeld => ?_)
    refine pure_ (i := 5) (N := some 30) (v := ?_) (a' := ?_) #[false, false, false, false, false, true, false, false, false, false, false, false] rfl rfl (by kernel_rfl) (fun _ _ _ h => h) (Or.inl ⟨by rfl, ?_⟩) ?_ ?_
    rotate_left
    · intro w'
      go_simp
      with_reducible rfl
    rotate_left
    · simp only [Act.put, List.setIfInBounds_toArray, List.set_cons_zero, List.set_cons_succ, i64_w, i32_w]
      rfl
    refine take_ (i := 0) (N := some 25) (v := ?_) (a' := ?_) #[true, false, false, false, false, true, false, false, false, false, false, false] rfl rfl (by kernel_rfl) (fun _ _ _ h => h) (Or.inl ⟨by rfl, ?_⟩) hHeld ?_ ?_
    rotate_left
    · rintro w' ⟨s0, s1⟩
      go_simp
      with_reducible rfl
    rotate_left
    · simp only [Act.put, List.setIfInBounds_toArray, List.set_cons_zero, List.set_cons_succ, i64_w, i32_w]
      rfl
    refine take_ (i := 1) (N := some 26) (v := ?_) (a' := ?_) #[true, true, false, false, false, true, false, false, false, false, false, false] rfl rfl (by kernel_rfl) (fun _ _ _ h => h) (Or.inl ⟨by rfl, ?_⟩) hHeld ?_ ?_
    rotate_left
    · rintro w' ⟨s0, s1⟩
      go_simp
      with_reducible rfl
    rotate_left
    · simp only [Act.put, List.setIfInBounds_toArray, List.set_cons_zero, List.set_cons_succ, i64_w, i32_w]
      rfl
    refine pure_ (i := 2) (N := some 27) (v := ?_) (a' := ?_) #[true, true, true, false, false, true, false, false, false, false, false, false] rfl rfl (by kernel_rfl) (fun _ _ _ h => h) (Or.inl ⟨by rfl, ?_⟩) ?_ ?_
    rotate_left
    · intro w'
      go_simp
      with_reducible rfl
    rotate_left
    · simp only [Act.put, List.setIfInBounds_toArray, List.set_cons_zero, List.set_cons_succ, i64_w, i32_w]
      rfl
    refine pure_ (i := 3) (N := some 28) (v := ?_) (a' := ?_) #[true, true, true, true, false, true, false, false, false, false, false, false] rfl rfl (by kernel_rfl) (fun _ _ _ h => h) (Or.inl ⟨by rfl, ?_⟩) ?_ ?_
    rotate_left
    · intro w'
      go_simp
      with_reducible rfl
    rotate_left
    · simp only [Act.put, List.setIfInBounds_toArray, List.set_cons_zero, List.set_cons_succ, i64_w, i32_w]
      rfl
    refine take_ (i := 4) (N := some 29) (v := ?_) (a' := ?_) #[true, true, true, true, true, true, false, false, false, false, false, false] rfl rfl (by kernel_rfl) (fun _ _ _ h => h) (Or.inl ⟨by rfl, ?_⟩) hHeld ?_ ?_
    rotate_left
    · rintro w' ⟨s0, s1⟩
      go_simp
      with_reducible rfl
    rotate_left
    · simp only [Act.put, List.setIfInBounds_toArray, List.set_cons_zero, List.set_cons_succ, i64_w, i32_w]
      rfl
    refine one_ (i := 6) (N := some 31) #[true, true, true, true, true, true, true, false, false, false, false, false] rfl rfl (by kernel_rfl) (by decide) (fun K hK => ?_)
    refine goes_ Try.func33 (by kernel_rfl) rfl #[.slice x.1.1 x.1.2.length x.1.2.length] (by rfl) rfl rfl (by simp only [List.map_toArray, List.map_cons, List.map_nil]; rfl) ?_
    with_reducible refine (slices_Clone_byte_byte.calls x.1.1 x.1.2.length x.1.2 x.1.2 _ (Kd.C_below x.2.1 HBd.out) (Nat.le_refl _) (by unfold slices_Clone_byte_byte.f; exact if_pos HXL.out)).mono ?_
    rintro e w4 ⟨v4, rfl, hr4, hb4⟩
    refine ⟨_, rfl, ?_⟩
    obtain ⟨A4, c4, rfl, hl4, hc4⟩ := Kd.R_reads hr4
    have HX4 := Aside0.mk hr4
    have HB4 := Aside0.mk hb4
    have HP4 := Aside0.mk (And.intro ((hb4.block _ (blk_lt HPd.out.1)).trans HPd.out.1) ((hb4.block _ (blk_lt HPd.out.2)).trans HPd.out.2))
    clear hr4 hb4 hl4 hc4
    refine hK.out _ _ ⟨(blk_cell HP4.out.1 0), (blk_cell HP4.out.2 0)⟩ (fun hHeld => ?_)
    clear hK K
    refine norm_ (a' := ?_) ?_ ?_
    rotate_left
    · show Act.put _ (some 31) _ = _
      simp only [Act.put, List.setIfInBounds_toArray, List.set_cons_zero, List.set_cons_succ, i64_w, i32_w]
      rfl
    refine one_ (i := 7) (N := some 32) #[true, true, true, true, true, true, true, true, false, false, false, false] rfl rfl (by kernel_rfl) (by decide) (fun K hK => ?_)
    refine value_ (w1 := ?_) (v := ?_) (by rfl) rfl ?_ ?_
    rotate_left 2
    · go_simp
      constructor
      · rfl
      · rfl
    refine hK.out _ _ ⟨(blk_cell ((Below.heap_alloc _ _ _ (blk_lt HP4.out.1)).trans HP4.out.1) 0), (blk_cell ((Below.heap_alloc _ _ _ (blk_lt HP4.out.2)).trans HP4.out.2) 0)⟩ (fun hHeld => ?_)
    clear hK K
    refine norm_ (a' := ?_) ?_ ?_
    rotate_left
    · show Act.put _ (some 32) _ = _
      simp only [Act.put, List.setIfInBounds_toArray, List.set_cons_zero, List.set_cons_succ, i64_w, i32_w]
      rfl
    refine one_ (i := 8) (N := some 33) #[true, true, true, true, true, true, true, true, true, false, false, false] rfl rfl (by kernel_rfl) (by decide) (fun K hK => ?_)
    refine Kd.R_append_step KS (w0 := w4) B2 (by rfl) (.tmp 29) (.tmp 32) 51 36 (.slice none 0 0) 24 (by rfl) Try.underlying51 infoSl rfl (by decide) (by omega) vB xs (A4, x.1.2.length, c4) [encSl (A4, x.1.2.length, c4)] (fun _ => True) (fun _ => False) rfl ?aX ?aP (fun _ hk => hk.elim) (fun _ _ => trivial) ?aO (Below.refl _ _) ?aS ?aL ?_
    case aX => rfl
    case aP => exact rfl
    case aO => exact Kd.R_below HKd.out HB4.out
    case aS => exact (Nat.le_trans HSd.out HB4.out.size)
    case aL => have := HXN.out; omega
    intro v8 w8 ho8 hb8 hg8 hat8
    obtain ⟨g8, c8, rfl, hgb8, hgl8, _⟩ := Kd.R_form ho8 (by simp)
    have HO8 := Aside0.mk ho8
    have HG8 := Aside0.mk hg8
    have HB8 := Aside0.mk hb8
    have HP8 := Aside0.mk (And.intro (blk_grown HP4.out.1 hg8 HNE1.out) (blk_grown HP4.out.2 hg8 HNE2.out))
    have hf8 : w8.frozen? ⟨g, 0, none⟩ = false := blk_frozen HP8.out.2 0
    clear ho8 hg8 hb8 hat8 hgb8 hgl8
    refine hK.out _ _ ⟨(blk_cell HP8.out.1 0), (blk_cell HP8.out.2 0)⟩ (fun hHeld => ?_)
    clear hK K
    refine norm_ (a' := ?_) ?_ ?_
    rotate_left
    · show Act.put _ (some 33) _ = _
      simp only [Act.put, List.setIfInBounds_toArray, List.set_cons_zero, List.set_cons_succ, i64_w, i32_w]
      rfl
    refine pure_ (i := 9) (N := some 34) (v := ?_) (a' := ?_) #[true, true, true, true, true, true, true, true, true, true, false, false] rfl rfl (by kernel_rfl) (fun _ _ _ h => h) (Or.inl ⟨by rfl, ?_⟩) ?_ ?_
    rotate_left
    · intro w'
      go_simp
      with_reducible rfl
    rotate_left
    · simp only [Act.put, List.setIfInBounds_toArray, List.set_cons_zero, List.set_cons_succ, i64_w, i32_w]
      rfl
    refine pure_ (i := 10) (N := some 35) (v := ?_) (a' := ?_) #[true, true, true, true, true, true, true, true, true, true, true, false] rfl rfl (by kernel_rfl) (fun _ _ _ h => h) (Or.inl ⟨by rfl, ?_⟩) ?_ ?_
    rotate_left
    · intro w'
      go_simp
      with_reducible rfl
    rotate_left
    · simp only [Act.put, List.setIfInBounds_toArray, List.set_cons_zero, List.set_cons_succ, i64_w, i32_w]
      rfl
    refine last_ (i := 11) (N := none) #[true, true, true, true, true, true, true, true, true, true, true, true] rfl rfl (by kernel_rfl) (by decide) (fun K hK => ?_)
    refine skip_ (w1 := ?_) (by rfl) rfl ?_ ?_
    rotate_left
    · go_simp
      rfl
    refine hK.out _ _ ?_
    clear hK K
    refine done_ (by kernel_rfl) ?_
    gi_wp2
    have hch : Below B2 W.drew w8 := (HB4.out.mono HSd.out).trans HB8.out
    have hgB : g < B2 := by have := HGB.out.1; have := HS5.out; have := HB2.out; omega
    have hhB : hb < B2 := by have := HGB.out.2; have := HS5.out; have := HB2.out; omega
    have hbB : Bs + 1 < B2 := by have := HS5.out; have := HB2.out; omega
    have hR4 : KS.R 36 w4 B2 (fun _ => True) vB xs := Kd.R_below HKd.out HB4.out
    have hG8 : w4.grownBy w8 vB.ownBlock := HG8.out
    have hset : ∀ i : Nat, i ≠ g → i < B2 → (w8.setCell ⟨g, 0, none⟩ (Value.slice (some ⟨g8, 0, none⟩) (xs.length + 1) c8)).heap[i]? = W.heap[i]? := fun i hi hi2 => (Below.heap_setCell _ _ _ _ hi).trans (hch.block i hi2)
    have hlen1 : (xs ++ [(A4, x.1.2.length, c4)]).length = xs.length + 1 := by simp
    refine ⟨?k1, ?k2, ?k3, ?k4, ?k5, ?k6⟩
    case k1 => exact (KeepsOthers.drew W).trans ((keeps_below HB4.out).trans ((keeps_R hR4 hG8).trans (KeepsOthers.setCell _ _ _)))
    case k2 => exact ⟨hset _ (by have := HGB.out.1; omega) (by omega), hset _ (by have := HGB.out.1; omega) hbB⟩
    case k3 =>
      have hp := HG.push HP4.out.2 hR4 HL.out (fun j y b hy hb => Kd.R_below (H2d.out j y b hy hb) HB4.out) H3.out (R_lower HX4.out HSd.out) (x0 := (A4, x.1.2.length, c4))
        (fun j k y hy hk e => by
          have h8 : ∃ b, (pre.map (fun x => x.1.2))[j]? = some b := by
            have hj : j < xs.length := (List.getElem?_eq_some_iff.1 hy).1
            exact ⟨_, List.getElem?_eq_getElem (by rw [← HL.out]; exact hj)⟩
          obtain ⟨b, hb⟩ := h8
          have h9 := own_lt (H2d.out j y b hy hb) k hk
          have h10 := own_base (Kd.own_of_R HX4.out) k e
          omega) hG8 HO8.out
      rw [hlen1] at hp
      rw [List.map_append]
      exact hp
    case k4 => exact (Below.heap_setCell _ _ _ _ (fun e => HBG.out e.symm)).trans HP8.out.1
    case k5 => exact Below.setCell (HBd.out.trans (hch.mono (by have := HB2.out; have := HW5.out.size; omega))) HGL.out _
    case k6 => exact Nat.le_trans HSd.out (Nat.le_trans hch.size (by simp))
  case done =>
    rename_i K0 hK0
    rintro D ys W hD hS ⟨hg, hbx, hbl, hsz⟩ hK
    have hbx2 : W.cell? ⟨hb, 0, none⟩ = some (.pointer (some ⟨g, 0, none⟩)) := blk_cell hbx 0
    have HHG := Aside0.mk hg
    have HHB := Aside0.mk hbl
    clear hg hbx hbl hsz
    refine hK0 _ _ ?_
    gi_wp2
    refine ⟨by simp, .inl ⟨_, _, rfl, run_takeDeferred hK, ?_⟩⟩
    have hgr := grownBy_putObj' W D (.deferred none)
    have hwD : w.heap.size ≤ D := Nat.le_trans HW5.out.size hD
    have hko : KO W (W.putObj D (.deferred none)) := KO.of_grown hgr (fun r e => by
      injection e with e
      subst e
      exact ⟨_, hK, rfl⟩)
    have hm := (HHG.out.keep hko).heap HGL.out HW5.out.size
    rw [hS] at hm
    exact ⟨_, results_tmp rfl _ _ _, g, rfl, hm, HHB.out.grown hgr HHB.out.size (fun k e => by cases e; exact hwD)⟩
  case stop =>
    rintro D c pre W hD _ h _
    exact h.elim
set_option maxHeartbeats 8000000 in
set_option maxRecDepth 100000 in
theorem Of_low (A : Option Addr) (c k : Nat) (L : List Int) (n : Int) (w : World) (hc : L.length ≤ c) (hC : Kd.C (Kd.int .u8) w A L.length L) (hLL : L.length ≤ 100000) (hn : n < 1) (hk : (65536 : Int) = (k : Int)) : Calls Try.prog 19 #[.slice A L.length c, .int .i64 n] w fun e w' => ∃ g : Nat, e = .returned (.pointer (some ⟨g, 0, none⟩)) ∧ HM w.heap.size w' g (chunks k L) (L.length : Int) (L.length : Int) ∧ Below w.heap.size w w' := by
  have hk1 : 1 ≤ k := by omega
  have hk2 : k ≤ 65536 := by omega
  have t1 : decide (n < 1) = true := decide_eq_true hn
  have HC := Aside0.mk hC
  have HCC := Aside0.mk hc
  have HLL := Aside0.mk hLL
  have HK1 := Aside0.mk hk1
  have HK2 := Aside0.mk hk2
  clear hC hc hLL hk1 hk2
  refine (callsIn_wide (n := 4)).1 ?_
  refine callsIn_of_wp_marks Try.func19 rfl trivial ?_
  simp only [Try.ntmps19, List.size_toArray, List.length_cons, List.length_nil, Nat.reduceAdd, Nat.reduceSub, Array.replicate_succ, Array.replicate_zero, List.push_toArray, List.append_toArray, List.nil_append, List.cons_append]
  gi_wp2
  rw [hk]
  refine ⟨trivial, (callsIn_wide.2 (HM.new2 (L.length : Int) _)).mono ?_⟩
  rintro e w1 ⟨g, rfl, hgl, hg, hb⟩
  rw [if_neg (by omega)] at hg
  have HGL := Aside0.mk hgl
  have HG1 := Aside0.mk hg
  have HB1 := Aside0.mk hb
  have HG2 : Aside0 ((w1.alloc (.cells #[.pointer (some ⟨g, 0, none⟩)] 25)).heap[g]? = _) := ⟨(Below.heap_alloc _ _ _ (blk_lt hg)).trans hg⟩
  have hc1 := blk_cell HG2.out 1
  have hf1 := blk_frozen HG2.out 1
  simp only [List.getElem?_toArray, List.getElem?_cons_zero, List.getElem?_cons_succ] at hc1
  clear hgl hg hb
  gi_wp2
  have hbg : g ≠ w1.heap.size := by have := blk_lt HG1.out; omega
  obtain ⟨X, hX⟩ : ∃ X, X = (w1.alloc (.cells #[.pointer (some ⟨g, 0, none⟩)] 25)).setCell ⟨g, 1, none⟩ (.int .i64 (L.length : Int)) := ⟨_, rfl⟩
  have hxg : X.heap[g]? = some (.cells #[.slice none 0 0, .int .i64 (L.length : Int), .int .i64 (L.length : Int)] 53 (0, 0)) := by rw [hX]; exact blk_put HG2.out 1 _ rfl
  have hxb : X.heap[w1.heap.size]? = some (.cells #[.pointer (some ⟨g, 0, none⟩)] 25 (0, 0)) := by rw [hX]; exact (Below.heap_setCell _ _ _ _ (fun e => hbg e.symm)).trans (blk_new w1 _)
  have hxw : Below w.heap.size w X := by rw [hX]; exact Below.setCell (below_alloc HB1.out _) HGL.out _
  rw [← hX]
  obtain ⟨hb, hhb⟩ : ∃ hb, hb = w1.heap.size := ⟨_, rfl⟩
  rw [← hhb] at hxb hbg ⊢
  clear hX hhb hc1 hf1 HG2 HB1 HG1
  refine ⟨trivial, (chunk_in 3 k c A L.length X HK1.out).mono ?_⟩
  rintro e w4 ⟨rfl, rfl⟩
  obtain ⟨Bs, hBs⟩ : ∃ Bs, Bs = X.heap.size := ⟨_, rfl⟩
  obtain ⟨W5, hW5⟩ : ∃ W5, W5 = (X.alloc (.cells #[.slice A L.length c] 36)).alloc (.cells #[.int .i64 (k : Int)] 3) := ⟨_, rfl⟩
  have hx5 : Below X.heap.size X W5 := by rw [hW5]; exact below_alloc (below_alloc (Below.refl _ X) _) _
  have HG5 := Aside0.mk ((hx5.block _ (blk_lt hxg)).trans hxg)
  have HX5 := Aside0.mk ((hx5.block _ (blk_lt hxb)).trans hxb)
  have HW5 := Aside0.mk (below_step hxw hx5)
  have HS5 : Aside0 (W5.heap.size = Bs + 2) := ⟨by rw [hW5, hBs]; simp⟩
  have HBs : Aside0 (W5.heap[Bs]? = some (.cells #[.slice A L.length c] 36 (0, 0))) := ⟨by rw [hW5, hBs]; exact (Below.heap_alloc _ _ _ (by simp)).trans (blk_new X _)⟩
  have HBn : Aside0 (W5.heap[Bs + 1]? = some (.cells #[.int .i64 (k : Int)] 3 (0, 0))) := ⟨by rw [hW5, hBs]; have h9 := blk_new (X.alloc (.cells #[.slice A L.length c] 36)) (.cells #[.int .i64 (k : Int)] 3); rwa [World.size_alloc] at h9⟩
  have HGB : Aside0 (g < Bs ∧ hb < Bs) := ⟨by rw [hBs]; exact ⟨blk_lt hxg, blk_lt hxb⟩⟩
  have HBG := Aside0.mk hbg
  have HWB : Aside0 (w.heap.size ≤ Bs) := ⟨by rw [hBs]; exact hxw.size⟩
  rw [← hW5, ← hBs]
  clear hW5 hBs hx5 hxg hxb hxw hbg
  have hceil : (L.length + k - 1) / k ≤ 100000 := by
    have h1 := HK1.out
    have h2 := HLL.out
    have h3 : L.length ≤ k * L.length := Nat.le_mul_of_pos_left _ h1
    have h4 : (L.length + k - 1) / k < L.length + 1 := Nat.div_lt_of_lt_mul (by rw [Nat.mul_add]; omega)
    omega
  have HCE := Aside0.mk hceil
  clear hceil
  gi_wp2
  refine wpIn_rangeFunc_ownF (F := Fence.wide) rfl (by omega) (gf := 39) (lb := #[.pointer (some ⟨Bs, 0, none⟩), .pointer (some ⟨Bs + 1, 0, none⟩)]) rfl trivial (enters_of Try.func39 (by kernel_rfl) rfl)
    (chunk_stops (w0 := w) 3 (by omega) Bs (Bs + 1) k c A L HK1.out HK2.out (by have := HLL.out; omega) HCC.out HC.out 100000 HCE.out W5 (by have := HS5.out; omega) (by have := HS5.out; omega) (blk_cell HBs.out 0) (blk_cell HBn.out 0)) KC.t (KC.b (by have := HS5.out; omega) (by have := HS5.out; omega)) (Below.refl _ _) (fun _ => rfl)
    (fun pre W => HG W5.heap.size W g (pre.map (fun x => x.1.2)) (L.length : Int) (L.length : Int) ∧ (W.heap[hb]? = some (.cells #[.pointer (some ⟨g, 0, none⟩)] 25 (0, 0)) ∧ (Below w.heap.size w W ∧ W5.heap.size ≤ W.heap.size)))
    (fun _ _ _ => False)
    (OwnFrom.and (hg_own _ _ _ _ _ _) (OwnFrom.and (fun s A C row hs hg hr => (KO1.of_grown hg (fun r e => (hr r e).2)) _ _ _ hs) (OwnFrom.and (ownFrom_below (Nat.le_refl _) (by have := HS5.out; have := HWB.out; omega)) (fun s A C row hs hg hr => Nat.le_trans hs hg.size))))
    (fun _ _ _ _ _ hs _ _ => hs)
    ⟨⟨_, [], HG5.out, Kd.R_nil _ _ _ _ _, rfl, fun j x b hx => by simp at hx, fun i j k x y _ hx => by simp at hx⟩, HX5.out, HW5.out, Nat.le_refl _⟩
    (fun x => { tmps := #[.slice A L.length c, .int .i64 (k : Int), undef, undef, .pointer none, .pointer (some ⟨hb, 0, none⟩), .slice x.1.1 x.1.2.length x.1.2.length, .int .i64 n, .bool true, .bool true, undef, undef, .bool true, .slice A L.length c, .int .i64 (L.length : Int), .pointer (some ⟨g, 0, none⟩), .pointer (some ⟨g, 0, none⟩), .slice A L.length c, .int .i64 (L.length : Int), .pointer (some ⟨g, 0, none⟩), .pointer (some ⟨g, 1, none⟩), .slice A L.length c, .int .i64 (k : Int), .func (.func 39) #[] #[.pointer (some ⟨Bs, 0, none⟩), .pointer (some ⟨Bs + 1, 0, none⟩)], .slice x.1.1 x.1.2.length x.1.2.length, undef, undef, undef, undef, undef, undef, undef, undef, undef, undef, undef, undef], defers := [] }) ?assign ?body ?done ?stop
  case assign =>
    intro l x W K hK
    unfold encP
    gi_wp2
    exact hK
  case body =>
    rintro l pre x W ⟨⟨vB, xs, hgB, h1, hl, h2, h3⟩, hbx, hbl, hsz⟩ hlen
    obtain ⟨B2, hB2⟩ : ∃ B2, B2 = W5.heap.size := ⟨_, rfl⟩
    rw [← hB2] at h1 h2 hsz ⊢
    have HB2 := Aside0.mk hB2
    have HPd : Aside0 (W.drew.heap[hb]? = some (.cells #[.pointer (some ⟨g, 0, none⟩)] 25 (0, 0)) ∧ W.drew.heap[g]? = some (.cells #[vB, .int .i64 (L.length : Int), .int .i64 (L.length : Int)] 53 (0, 0))) := ⟨hbx, hgB⟩
    have hb0 : W.drew.cell? ⟨hb, 0, none⟩ = some (.pointer (some ⟨g, 0, none⟩)) := blk_cell HPd.out.1 0
    have hg0 : W.drew.cell? ⟨g, 0, none⟩ = some vB := blk_cell HPd.out.2 0
    have hf0 : W.drew.frozen? ⟨g, 0, none⟩ = false := blk_frozen HPd.out.2 0
    have HBd : Aside0 (Below w.heap.size w W.drew) := ⟨below_drew1 hbl⟩
    have HKd : Aside0 (KS.R 36 W.drew B2 (fun _ => True) vB xs) := ⟨Kd.R_below h1 (below_drew1 (Below.refl _ W))⟩
    have H2d : Aside0 (∀ (j : Nat) (x : Option Addr × Nat × Nat) (b : List Int), xs[j]? = some x → (pre.map (fun x => x.1.2))[j]? = some b → Kd.R (Kd.int .u8) 5 W.drew B2 (fun _ => True) (encSl x) b) := ⟨fun j x b hx hb => Kd.R_below (h2 j x b hx hb) (below_drew1 (Below.refl _ W))⟩
    have H3 := Aside0.mk h3
    have HL := Aside0.mk hl
    have HSd : Aside0 (B2 ≤ W.drew.heap.size) := ⟨hsz⟩
    have HXL : Aside0 (x.1.2.length < 140737488355328) := ⟨by have := x.2.2; omega⟩
    have HXN : Aside0 (xs.length ≤ 100000) := ⟨by rw [hl, List.length_map]; omega⟩
    have HNE1 : Aside0 (some hb ≠ vB.ownBlock) := ⟨fun e => by have h9 := own_base (Kd.own_of_R h1) hb e.symm; have := HGB.out.2; have := HS5.out; omega⟩
    have HNE2 : Aside0 (some g ≠ vB.ownBlock) := ⟨Kd.R_ne h1 hgB (by decide)⟩
    have HVB : Aside0 (∀ k, vB.ownBlock = some k → B2 ≤ k) := ⟨fun k hk => own_base (Kd.own_of_R h1) k hk⟩
    clear hgB h1 hl h2 h3 hbx hbl hsz hlen hB2
    gi_wp2
    refine startIn_ (n := 12) (S := fun w' => w'.cell? ⟨hb, 0, none⟩ = some (.pointer (some ⟨g, 0, none⟩)) ∧ w'.cell? ⟨g, 0, none⟩ = some vB) (ds := [11]) #[false, false, false, false, false, false, false, false, false, false, false, false] (by kernel_rfl) (fun _ _ h => h) (by kernel_rfl) rfl rfl ⟨hb0, hg0⟩ (fun hHeld => ?_)
    refine pure_ (i := 5) (N := some 30) (v := ?_) (a' := ?_) #[false, false, false, false, false, true, false, false, false, false, false, false] rfl rfl (by kernel_rfl) (fun _ _ _ h => h) (Or.inl ⟨by rfl, ?_⟩) ?_ ?_
    rotate_left
    · intro w'
      go_simp
      with_reducible rfl
    rotate_left
    · simp only [Act.put, List.setIfInBounds_toArray, List.set_cons_zero, List.set_cons_succ, i64_w, i32_w]
      rfl
    refine take_ (i := 0) (N := some 25) (v := ?_) (a' := ?_) #[true, false, false, false, false, true, false, false, false, false, false, false] rfl rfl (by kernel_rfl) (fun _ _ _ h => h) (Or.inl ⟨by rfl, ?_⟩) hHeld ?_ ?_
    rotate_left
    · rintro w' ⟨s0, s1⟩
      go_simp
      with_reducible rfl
    rotate_left
    · simp only [Act.put, List.setIfInBounds_toArray, List.set_cons_zero, List.set_cons_succ, i64_w, i32_w]
      rfl
    refine take_ (i := 1) (N := some 26) (v := ?_) (a' := ?_) #[true, true, false, false, false, true, false, false, false, false, false, false] rfl rfl (by kernel_rfl) (fun _ _ _ h => h) (Or.inl ⟨by rfl, ?_⟩) hHeld ?_ ?_
    rotate_left
    · rintro w' ⟨s0, s1⟩
      go_simp
      with_reducible rfl
    rotate_left
    · simp only [Act.put, List.setIfInBounds_toArray, List.set_cons_zero, List.set_cons_succ, i64_w, i32_w]
      rfl
    refine pure_ (i := 2) (N := some 27) (v := ?_) (a' := ?_) #[true, true, true, false, false, true, false, false, false, false, false, false] rfl rfl (by kernel_rfl) (fun _ _ _ h => h) (Or.inl ⟨by rfl, ?_⟩) ?_ ?_
    rotate_left
    · intro w'
      go_simp
      with_reducible rfl
    rotate_left
    · simp only [Act.put, List.setIfInBounds_toArray, List.set_cons_zero, List.set_cons_succ, i64_w, i32_w]
      rfl
    refine pure_ (i := 3) (N := some 28) (v := ?_) (a' := ?_) #[true, true, true, true, false, true, false, false, false, false, false, false] rfl rfl (by kernel_rfl) (fun _ _ _ h => h) (Or.inl ⟨by rfl, ?_⟩) ?_ ?_
    rotate_left
    · intro w'
      go_simp
      with_reducible rfl
    rotate_left
    · simp only [Act.put, List.setIfInBounds_toArray, List.set_cons_zero, List.set_cons_succ, i64_w, i32_w]
      rfl
    refine take_ (i := 4) (N := some 29) (v := ?_) (a' := ?_) #[true, true, true, true, true, true, false, false, false, false, false, false] rfl rfl (by kernel_rfl) (fun _ _ _ h => h) (Or.inl ⟨by rfl, ?_⟩) hHeld ?_ ?_
    rotate_left
    · rintro w' ⟨s0, s1⟩
      go_simp
      with_reducible rfl
    rotate_left
    · simp only [Act.put, List.setIfInBounds_toArray, List.set_cons_zero, List.set_cons_succ, i64_w, i32_w]
      rfl
    refine one_ (i := 6) (N := some 31) #[true, true, true, true, true, true, true, false, false, false, false, false] rfl rfl (by kernel_rfl) (by decide) (fun K hK => ?_)
    refine goes_ Try.func33 (by kernel_rfl) rfl #[.slice x.1.1 x.1.2.length x.1.2.length] (by rfl) rfl rfl (by simp only [List.map_toArray, List.map_cons, List.map_nil]; rfl) ?_
    with_reducible refine (slices_Clone_byte_byte.calls x.1.1 x.1.2.length x.1.2 x.1.2 _ (Kd.C_below x.2.1 HBd.out) (Nat.le_refl _) (by unfold slices_Clone_byte_byte.f; exact if_pos HXL.out)).mono ?_
    rintro e w4 ⟨v4, rfl, hr4, hb4⟩
    refine ⟨_, rfl, ?_⟩
    obtain ⟨A4, c4, rfl, hl4, hc4⟩ := Kd.R_reads hr4
    have HX4 := Aside0.mk hr4
    have HB4 := Aside0.mk hb4
    have HP4 := Aside0.mk (And.intro ((hb4.block _ (blk_lt HPd.out.1)).trans HPd.out.1) ((hb4.block _ (blk_lt HPd.out.2)).trans HPd.out.2))
    clear hr4 hb4 hl4 hc4
    refine hK.out _ _ ⟨(blk_cell HP4.out.1 0), (blk_cell HP4.out.2 0)⟩ (fun hHeld => ?_)
    clear hK K
    refine norm_ (a' := ?_) ?_ ?_
    rotate_left
    · show Act.put _ (some 31) _ = _
      simp only [Act.put, List.setIfInBounds_toArray, List.set_cons_zero, List.set_cons_succ, i64_w, i32_w]
      rfl
    refine one_ (i := 7) (N := some 32) #[true, true, true, true, true, true, true, true, false, false, false, false] rfl rfl (by kernel_rfl) (by decide) (fun K hK => ?_)
    refine value_ (w1 := ?_) (v := ?_) (by rfl) rfl ?_ ?_
    rotate_left 2
    · go_simp
      constructor
      · rfl
      · rfl
    refine hK.out _ _ ⟨(blk_cell ((Below.heap_alloc _ _ _ (blk_lt HP4.out.1)).trans HP4.out.1) 0), (blk_cell ((Below.heap_alloc _ _ _ (blk_lt HP4.out.2)).trans HP4.out.2) 0)⟩ (fun hHeld => ?_)
    clear hK K
    refine norm_ (a' := ?_) ?_ ?_
    rotate_left
    · show Act.put _ (some 32) _ = _
      simp only [Act.put, List.setIfInBounds_toArray, List.set_cons_zero, List.set_cons_succ, i64_w, i32_w]
      rfl
    refine one_ (i := 8) (N := some 33) #[true, true, true, true, true, true, true, true, true, false, false, false] rfl rfl (by kernel_rfl) (by decide) (fun K hK => ?_)
    refine Kd.R_append_step KS (w0 := w4) B2 (by rfl) (.tmp 29) (.tmp 32) 51 36 (.slice none 0 0) 24 (by rfl) Try.underlying51 infoSl rfl (by decide) (by omega) vB xs (A4, x.1.2.length, c4) [encSl (A4, x.1.2.length, c4)] (fun _ => True) (fun _ => False) rfl ?aX ?aP (fun _ hk => hk.elim) (fun _ _ => trivial) ?aO (Below.refl _ _) ?aS ?aL ?_
    case aX => rfl
    case aP => exact rfl
    case aO => exact Kd.R_below HKd.out HB4.out
    case aS => exact (Nat.le_trans HSd.out HB4.out.size)
    case aL => have := HXN.out; omega
    intro v8 w8 ho8 hb8 hg8 hat8
    obtain ⟨g8, c8, rfl, hgb8, hgl8, _⟩ := Kd.R_form ho8 (by simp)
    have HO8 := Aside0.mk ho8
    have HG8 := Aside0.mk hg8
    have HB8 := Aside0.mk hb8
    have HP8 := Aside0.mk (And.intro (blk_grown HP4.out.1 hg8 HNE1.out) (blk_grown HP4.out.2 hg8 HNE2.out))
    have hf8 : w8.frozen? ⟨g, 0, none⟩ = false := blk_frozen HP8.out.2 0
    clear ho8 hg8 hb8 hat8 hgb8 hgl8
    refine hK.out _ _ ⟨(blk_cell HP8.out.1 0), (blk_cell HP8.out.2 0)⟩ (fun hHeld => ?_)
    clear hK K
    refine norm_ (a' := ?_) ?_ ?_
    rotate_left
    · show Act.put _ (some 33) _ = _
      simp only [Act.put, List.setIfInBounds_toArray, List.set_cons_zero, List.set_cons_succ, i64_w, i32_w]
      rfl
    refine pure_ (i := 9) (N := some 34) (v := ?_) (a' := ?_) #[true, true, true, true, true, true, true, true, true, true, false, false] rfl rfl (by kernel_rfl) (fun _ _ _ h => h) (Or.inl ⟨by rfl, ?_⟩) ?_ ?_
    rotate_left
    · intro w'
      go_simp
      with_reducible rfl
    rotate_left
    · simp only [Act.put, List.setIfInBounds_toArray, List.set_cons_zero, List.set_cons_succ, i64_w, i32_w]
      rfl
    refine pure_ (i := 10) (N := some 35) (v := ?_) (a' := ?_) #[true, true, true, true, true, true, true, true, true, true, true, false] rfl rfl (by kernel_rfl) (fun _ _ _ h => h) (Or.inl ⟨by rfl, ?_⟩) ?_ ?_
    rotate_left
    · intro w'
      go_simp
      with_reducible rfl
    rotate_left
    · simp only [Act.put, List.setIfInBounds_toArray, List.set_cons_zero, List.set_cons_succ, i64_w, i32_w]
      rfl
    refine last_ (i := 11) (N := none) #[true, true, true, true, true, true, true, true, true, true, true, true] rfl rfl (by kernel_rfl) (by decide) (fun K hK => ?_)
    refine skip_ (w1 := ?_) (by rfl) rfl ?_ ?_
    rotate_left
    · go_simp
      rfl
    refine hK.out _ _ ?_
    clear hK K
    refine done_ (by kernel_rfl) ?_
    gi_wp2
    have hch : Below B2 W.drew w8 := (HB4.out.mono HSd.out).trans HB8.out
    have hgB : g < B2 := by have := HGB.out.1; have := HS5.out; have := HB2.out; omega
    have hhB : hb < B2 := by have := HGB.out.2; have := HS5.out; have := HB2.out; omega
    have hbB : Bs + 1 < B2 := by have := HS5.out; have := HB2.out; omega
    have hR4 : KS.R 36 w4 B2 (fun _ => True) vB xs := Kd.R_below HKd.out HB4.out
    have hG8 : w4.grownBy w8 vB.ownBlock := HG8.out
    have hset : ∀ i : Nat, i ≠ g → i < B2 → (w8.setCell ⟨g, 0, none⟩ (Value.slice (some ⟨g8, 0, none⟩) (xs.length + 1) c8)).heap[i]? = W.heap[i]? := fun i hi hi2 => (Below.heap_setCell _ _ _ _ hi).trans (hch.block i hi2)
    have hlen1 : (xs ++ [(A4, x.1.2.length, c4)]).length = xs.length + 1 := by simp
    refine ⟨?k1, ?k2, ?k3, ?k4, ?k5, ?k6⟩
    case k1 => exact (KeepsOthers.drew W).trans ((keeps_below HB4.out).trans ((keeps_R hR4 hG8).trans (KeepsOthers.setCell _ _ _)))
    case k2 => exact ⟨hset _ (by have := HGB.out.1; omega) (by omega), hset _ (by have := HGB.out.1; omega) hbB⟩
    case k3 =>
      have hp := HG.push HP4.out.2 hR4 HL.out (fun j y b hy hb => Kd.R_below (H2d.out j y b hy hb) HB4.out) H3.out (R_lower HX4.out HSd.out) (x0 := (A4, x.1.2.length, c4))
        (fun j k y hy hk e => by
          have h8 : ∃ b, (pre.map (fun x => x.1.2))[j]? = some b := by
            have hj : j < xs.length := (List.getElem?_eq_some_iff.1 hy).1
            exact ⟨_, List.getElem?_eq_getElem (by rw [← HL.out]; exact hj)⟩
          obtain ⟨b, hb⟩ := h8
          have h9 := own_lt (H2d.out j y b hy hb) k hk
          have h10 := own_base (Kd.own_of_R HX4.out) k e
          omega) hG8 HO8.out
      rw [hlen1] at hp
      rw [List.map_append]
      exact hp
    case k4 => exact (Below.heap_setCell _ _ _ _ (fun e => HBG.out e.symm)).trans HP8.out.1
    case k5 => exact Below.setCell (HBd.out.trans (hch.mono (by have := HB2.out; have := HW5.out.size; omega))) HGL.out _
    case k6 => exact Nat.le_trans HSd.out (Nat.le_trans hch.size (by simp))
  case done =>
    rename_i K0 hK0
    rintro D ys W hD hS ⟨hg, hbx, hbl, hsz⟩ hK
    have hbx2 : W.cell? ⟨hb, 0, none⟩ = some (.pointer (some ⟨g, 0, none⟩)) := blk_cell hbx 0
    have HHG := Aside0.mk hg
    have HHB := Aside0.mk hbl
    clear hg hbx hbl hsz
    refine hK0 _ _ ?_
    gi_wp2
    refine ⟨by simp, .inl ⟨_, _, rfl, run_takeDeferred hK, ?_⟩⟩
    have hgr := grownBy_putObj' W D (.deferred none)
    have hwD : w.heap.size ≤ D := Nat.le_trans HW5.out.size hD
    have hko : KO W (W.putObj D (.deferred none)) := KO.of_grown hgr (fun r e => by
      injection e with e
      subst e
      exact ⟨_, hK, rfl⟩)
    have hm := (HHG.out.keep hko).heap HGL.out HW5.out.size
    rw [hS] at hm
    exact ⟨_, results_tmp rfl _ _ _, g, rfl, hm, HHB.out.grown hgr HHB.out.size (fun k e => by cases e; exact hwD)⟩
  case stop =>
    rintro D c pre W hD _ h _
    exact h.elim
set_option maxHeartbeats 8000000 in
set_option maxRecDepth 100000 in
theorem Of_high (A : Option Addr) (c k : Nat) (L : List Int) (n : Int) (w : World) (hc : L.length ≤ c) (hC : Kd.C (Kd.int .u8) w A L.length L) (hLL : L.length ≤ 100000) (hn : 65536 < n) (hk : (65536 : Int) = (k : Int)) : Calls Try.prog 19 #[.slice A L.length c, .int .i64 n] w fun e w' => ∃ g : Nat, e = .returned (.pointer (some ⟨g, 0, none⟩)) ∧ HM w.heap.size w' g (chunks k L) (L.length : Int) (L.length : Int) ∧ Below w.heap.size w w' := by
  have hk1 : 1 ≤ k := by omega
  have hk2 : k ≤ 65536 := by omega
  have t1 : decide (n < 1) = false := decide_eq_false (by omega)
  have t2 : decide ((65536 : Int) < n) = true := decide_eq_true hn
  have HC := Aside0.mk hC
  have HCC := Aside0.mk hc
  have HLL := Aside0.mk hLL
  have HK1 := Aside0.mk hk1
  have HK2 := Aside0.mk hk2
  clear hC hc hLL hk1 hk2
  refine (callsIn_wide (n := 4)).1 ?_
  refine callsIn_of_wp_marks Try.func19 rfl trivial ?_
  simp only [Try.ntmps19, List.size_toArray, List.length_cons, List.length_nil, Nat.reduceAdd, Nat.reduceSub, Array.replicate_succ, Array.replicate_zero, List.push_toArray, List.append_toArray, List.nil_append, List.cons_append]
  gi_wp2
  rw [hk]
  refine ⟨trivial, (callsIn_wide.2 (HM.new2 (L.length : Int) _)).mono ?_⟩
  rintro e w1 ⟨g, rfl, hgl, hg, hb⟩
  rw [if_neg (by omega)] at hg
  have HGL := Aside0.mk hgl
  have HG1 := Aside0.mk hg
  have HB1 := Aside0.mk hb
  have HG2 : Aside0 ((w1.alloc (.cells #[.pointer (some ⟨g, 0, none⟩)] 25)).heap[g]? = _) := ⟨(Below.heap_alloc _ _ _ (blk_lt hg)).trans hg⟩
  have hc1 := blk_cell HG2.out 1
  have hf1 := blk_frozen HG2.out 1
  simp only [List.getElem?_toArray, List.getElem?_cons_zero, List.getElem?_cons_succ] at hc1
  clear hgl hg hb
  gi_wp2
  have hbg : g ≠ w1.heap.size := by have := blk_lt HG1.out; omega
  obtain ⟨X, hX⟩ : ∃ X, X = (w1.alloc (.cells #[.pointer (some ⟨g, 0, none⟩)] 25)).setCell ⟨g, 1, none⟩ (.int .i64 (L.length : Int)) := ⟨_, rfl⟩
  have hxg : X.heap[g]? = some (.cells #[.slice none 0 0, .int .i64 (L.length : Int), .int .i64 (L.length : Int)] 53 (0, 0)) := by rw [hX]; exact blk_put HG2.out 1 _ rfl
  have hxb : X.heap[w1.heap.size]? = some (.cells #[.pointer (some ⟨g, 0, none⟩)] 25 (0, 0)) := by rw [hX]; exact (Below.heap_setCell _ _ _ _ (fun e => hbg e.symm)).trans (blk_new w1 _)
  have hxw : Below w.heap.size w X := by rw [hX]; exact Below.setCell (below_alloc HB1.out _) HGL.out _
  rw [← hX]
  obtain ⟨hb, hhb⟩ : ∃ hb, hb = w1.heap.size := ⟨_, rfl⟩
  rw [← hhb] at hxb hbg ⊢
  clear hX hhb hc1 hf1 HG2 HB1 HG1
  refine ⟨trivial, (chunk_in 3 k c A L.length X HK1.out).mono ?_⟩
  rintro e w4 ⟨rfl, rfl⟩
  obtain ⟨Bs, hBs⟩ : ∃ Bs, Bs = X.heap.size := ⟨_, rfl⟩
  obtain ⟨W5, hW5⟩ : ∃ W5, W5 = (X.alloc (.cells #[.slice A L.length c] 36)).alloc (.cells #[.int .i64 (k : Int)] 3) := ⟨_, rfl⟩
  have hx5 : Below X.heap.size X W5 := by rw [hW5]; exact below_alloc (below_alloc (Below.refl _ X) _) _
  have HG5 := Aside0.mk ((hx5.block _ (blk_lt hxg)).trans hxg)
  have HX5 := Aside0.mk ((hx5.block _ (blk_lt hxb)).trans hxb)
  have HW5 := Aside0.mk (below_step hxw hx5)
  have HS5 : Aside0 (W5.heap.size = Bs + 2) := ⟨by rw [hW5, hBs]; simp⟩
  have HBs : Aside0 (W5.heap[Bs]? = some (.cells #[.slice A L.length c] 36 (0, 0))) := ⟨by rw [hW5, hBs]; exact (Below.heap_alloc _ _ _ (by simp)).trans (blk_new X _)⟩
  have HBn : Aside0 (W5.heap[Bs + 1]? = some (.cells #[.int .i64 (k : Int)] 3 (0, 0))) := ⟨by rw [hW5, hBs]; have h9 := blk_new (X.alloc (.cells #[.slice A L.length c] 36)) (.cells #[.int .i64 (k : Int)] 3); rwa [World.size_alloc] at h9⟩
  have HGB : Aside0 (g < Bs ∧ hb < Bs) := ⟨by rw [hBs]; exact ⟨blk_lt hxg, blk_lt hxb⟩⟩
  have HBG := Aside0.mk hbg
  have HWB : Aside0 (w.heap.size ≤ Bs) := ⟨by rw [hBs]; exact hxw.size⟩
  rw [← hW5, ← hBs]
  clear hW5 hBs hx5 hxg hxb hxw hbg
  have hceil : (L.length + k - 1) / k ≤ 100000 := by
    have h1 := HK1.out
    have h2 := HLL.out
    have h3 : L.length ≤ k * L.length := Nat.le_mul_of_pos_left _ h1
    have h4 : (L.length + k - 1) / k < L.length + 1 := Nat.div_lt_of_lt_mul (by rw [Nat.mul_add]; omega)
    omega
  have HCE := Aside0.mk hceil
  clear hceil
  gi_wp2
  refine wpIn_rangeFunc_ownF (F := Fence.wide) rfl (by omega) (gf := 39) (lb := #[.pointer (some ⟨Bs, 0, none⟩), .pointer (some ⟨Bs + 1, 0, none⟩)]) rfl trivial (enters_of Try.func39 (by kernel_rfl) rfl)
    (chunk_stops (w0 := w) 3 (by omega) Bs (Bs + 1) k c A L HK1.out HK2.out (by have := HLL.out; omega) HCC.out HC.out 100000 HCE.out W5 (by have := HS5.out; omega) (by have := HS5.out; omega) (blk_cell HBs.out 0) (blk_cell HBn.out 0)) KC.t (KC.b (by have := HS5.out; omega) (by have := HS5.out; omega)) (Below.refl _ _) (fun _ => rfl)
    (fun pre W => HG W5.heap.size W g (pre.map (fun x => x.1.2)) (L.length : Int) (L.length : Int) ∧ (W.heap[hb]? = some (.cells #[.pointer (some ⟨g, 0, none⟩)] 25 (0, 0)) ∧ (Below w.heap.size w W ∧ W5.heap.size ≤ W.heap.size)))
    (fun _ _ _ => False)
    (OwnFrom.and (hg_own _ _ _ _ _ _) (OwnFrom.and (fun s A C row hs hg hr => (KO1.of_grown hg (fun r e => (hr r e).2)) _ _ _ hs) (OwnFrom.and (ownFrom_below (Nat.le_refl _) (by have := HS5.out; have := HWB.out; omega)) (fun s A C row hs hg hr => Nat.le_trans hs hg.size))))
    (fun _ _ _ _ _ hs _ _ => hs)
    ⟨⟨_, [], HG5.out, Kd.R_nil _ _ _ _ _, rfl, fun j x b hx => by simp at hx, fun i j k x y _ hx => by simp at hx⟩, HX5.out, HW5.out, Nat.le_refl _⟩
    (fun x => { tmps := #[.slice A L.length c, .int .i64 (k : Int), undef, undef, .pointer none, .pointer (some ⟨hb, 0, none⟩), .slice x.1.1 x.1.2.length x.1.2.length, .int .i64 n, .bool false, .bool false, .int .i64 n, .bool true, .bool true, .slice A L.length c, .int .i64 (L.length : Int), .pointer (some ⟨g, 0, none⟩), .pointer (some ⟨g, 0, none⟩), .slice A L.length c, .int .i64 (L.length : Int), .pointer (some ⟨g, 0, none⟩), .pointer (some ⟨g, 1, none⟩), .slice A L.length c, .int .i64 (k : Int), .func (.func 39) #[] #[.pointer (some ⟨Bs, 0, none⟩), .pointer (some ⟨Bs + 1, 0, none⟩)], .slice x.1.1 x.1.2.length x.1.2.length, undef, undef, undef, undef, undef, undef, undef, undef, undef, undef, undef, undef], defers := [] }) ?assign ?body ?done ?stop
  case assign =>
    intro l x W K hK
    unfold encP
    gi_wp2
    exact hK
  case body =>
    rintro l pre x W ⟨⟨vB, xs, hgB, h1, hl, h2, h3⟩, hbx, hbl, hsz⟩ hlen
    obtain ⟨B2, hB2⟩ : ∃ B2, B2 = W5.heap.size := ⟨_, rfl⟩
    rw [← hB2] at h1 h2 hsz ⊢
    have HB2 := Aside0.mk hB2
    have HPd : Aside0 (W.drew.heap[hb]? = some (.cells #[.pointer (some ⟨g, 0, none⟩)] 25 (0, 0)) ∧ W.drew.heap[g]? = some (.cells #[vB, .int .i64 (L.length : Int), .int .i64 (L.length : Int)] 53 (0, 0))) := ⟨hbx, hgB⟩
    have hb0 : W.drew.cell? ⟨hb, 0, none⟩ = some (.pointer (some ⟨g, 0, none⟩)) := blk_cell HPd.out.1 0
    have hg0 : W.drew.cell? ⟨g, 0, none⟩ = some vB := blk_cell HPd.out.2 0
    have hf0 : W.drew.frozen? ⟨g, 0, none⟩ = false := blk_frozen HPd.out.2 0
    have HBd : Aside0 (Below w.heap.size w W.drew) := ⟨below_drew1 hbl⟩
    have HKd : Aside0 (KS.R 36 W.drew B2 (fun _ => True) vB xs) := ⟨Kd.R_below h1 (below_drew1 (Below.refl _ W))⟩
    have H2d : Aside0 (∀ (j : Nat) (x : Option Addr × Nat × Nat) (b : List Int), xs[j]? = some x → (pre.map (fun x => x.1.2))[j]? = some b → Kd.R (Kd.int .u8) 5 W.drew B2 (fun _ => True) (encSl x) b) := ⟨fun j x b hx hb => Kd.R_below (h2 j x b hx hb) (below_drew1 (Below.refl _ W))⟩
    have H3 := Aside0.mk h3
    have HL := Aside0.mk hl
    have HSd : Aside0 (B2 ≤ W.drew.heap.size) := ⟨hsz⟩
    have HXL : Aside0 (x.1.2.length < 140737488355328) := ⟨by have := x.2.2; omega⟩
    have HXN : Aside0 (xs.length ≤ 100000) := ⟨by rw [hl, List.length_map]; omega⟩
    have HNE1 : Aside0 (some hb ≠ vB.ownBlock) := ⟨fun e => by have h9 := own_base (Kd.own_of_R h1) hb e.symm; have := HGB.out.2; have := HS5.out; omega⟩
    have HNE2 : Aside0 (some g ≠ vB.ownBlock) := ⟨Kd.R_ne h1 hgB (by decide)⟩
    have HVB : Aside0 (∀ k, vB.ownBlock = some k → B2 ≤ k) := ⟨fun k hk => own_base (Kd.own_of_R h1) k hk⟩
    clear hgB h1 hl h2 h3 hbx hbl hsz hlen hB2
    gi_wp2
    refine startIn_ (n := 12) (S := fun w' => w'.cell? ⟨hb, 0, none⟩ = some (.pointer (some ⟨g, 0, none⟩)) ∧ w'.cell? ⟨g, 0, none⟩ = some vB) (ds := [11]) #[false, false, false, false, false, false, false, false, false, false, false, false] (by kernel_rfl) (fun _ _ h => h) (by kernel_rfl) rfl rfl ⟨hb0, hg0⟩ (fun hHeld => ?_)
    refine pure_ (i := 5) (N := some 30) (v := ?_) (a' := ?_) #[false, false, false, false, false, true, false, false, false, false, false, false] rfl rfl (by kernel_rfl) (fun _ _ _ h => h) (Or.inl ⟨by rfl, ?_⟩) ?_ ?_
    rotate_left
    · intro w'
      go_simp
      with_reducible rfl
    rotate_left
    · simp only [Act.put, List.setIfInBounds_toArray, List.set_cons_zero, List.set_cons_succ, i64_w, i32_w]
      rfl
    refine take_ (i := 0) (N := some 25) (v := ?_) (a' := ?_) #[true, false, false, false, false, true, false, false, false, false, false, false] rfl rfl (by kernel_rfl) (fun _ _ _ h => h) (Or.inl ⟨by rfl, ?_⟩) hHeld ?_ ?_
    rotate_left
    · rintro w' ⟨s0, s1⟩
      go_simp
      with_reducible rfl
    rotate_left
    · simp only [Act.put, List.setIfInBounds_toArray, List.set_cons_zero, List.set_cons_succ, i64_w, i32_w]
      rfl
    refine take_ (i := 1) (N := some 26) (v := ?_) (a' := ?_) #[true, true, false, false, false, true, false, false, false, false, false, false] rfl rfl (by kernel_rfl) (fun _ _ _ h => h) (Or.inl ⟨by rfl, ?_⟩) hHeld ?_ ?_
    rotate_left
    · rintro w' ⟨s0, s1⟩
      go_simp
      with_reducible rfl
    rotate_left
    · simp only [Act.put, List.setIfInBounds_toArray, List.set_cons_zero, List.set_cons_succ, i64_w, i32_w]
      rfl
    refine pure_ (i := 2) (N := some 27) (v := ?_) (a' := ?_) #[true, true, true, false, false, true, false, false, false, false, false, false] rfl rfl (by kernel_rfl) (fun _ _ _ h => h) (Or.inl ⟨by rfl, ?_⟩) ?_ ?_
    rotate_left
    · intro w'
      go_simp
      with_reducible rfl
    rotate_left
    · simp only [Act.put, List.setIfInBounds_toArray, List.set_cons_zero, List.set_cons_succ, i64_w, i32_w]
      rfl
    refine pure_ (i := 3) (N := some 28) (v := ?_) (a' := ?_) #[true, true, true, true, false, true, false, false, false, false, false, false] rfl rfl (by kernel_rfl) (fun _ _ _ h => h) (Or.inl ⟨by rfl, ?_⟩) ?_ ?_
    rotate_left
    · intro w'
      go_simp
      with_reducible rfl
    rotate_left
    · simp only [Act.put, List.setIfInBounds_toArray, List.set_cons_zero, List.set_cons_succ, i64_w, i32_w]
      rfl
    refine take_ (i := 4) (N := some 29) (v := ?_) (a' := ?_) #[true, true, true, true, true, true, false, false, false, false, false, false] rfl rfl (by kernel_rfl) (fun _ _ _ h => h) (Or.inl ⟨by rfl, ?_⟩) hHeld ?_ ?_
    rotate_left
    · rintro w' ⟨s0, s1⟩
      go_simp
      with_reducible rfl
    rotate_left
    · simp only [Act.put, List.setIfInBounds_toArray, List.set_cons_zero, List.set_cons_succ, i64_w, i32_w]
      rfl
    refine one_ (i := 6) (N := some 31) #[true, true, true, true, true, true, true, false, false, false, false, false] rfl rfl (by kernel_rfl) (by decide) (fun K hK => ?_)
    refine goes_ Try.func33 (by kernel_rfl) rfl #[.slice x.1.1 x.1.2.length x.1.2.length] (by rfl) rfl rfl (by simp only [List.map_toArray, List.map_cons, List.map_nil]; rfl) ?_
    with_reducible refine (slices_Clone_byte_byte.calls x.1.1 x.1.2.length x.1.2 x.1.2 _ (Kd.C_below x.2.1 HBd.out) (Nat.le_refl _) (by unfold slices_Clone_byte_byte.f; exact if_pos HXL.out)).mono ?_
    rintro e w4 ⟨v4, rfl, hr4, hb4⟩
    refine ⟨_, rfl, ?_⟩
    obtain ⟨A4, c4, rfl, hl4, hc4⟩ := Kd.R_reads hr4
    have HX4 := Aside0.mk hr4
    have HB4 := Aside0.mk hb4
    have HP4 := Aside0.mk (And.intro ((hb4.block _ (blk_lt HPd.out.1)).trans HPd.out.1) ((hb4.block _ (blk_lt HPd.out.2)).trans HPd.out.2))
    clear hr4 hb4 hl4 hc4
    refine hK.out _ _ ⟨(blk_cell HP4.out.1 0), (blk_cell HP4.out.2 0)⟩ (fun hHeld => ?_)
    clear hK K
    refine norm_ (a' := ?_) ?_ ?_
    rotate_left
    · show Act.put _ (some 31) _ = _
      simp only [Act.put, List.setIfInBounds_toArray, List.set_cons_zero, List.set_cons_succ, i64_w, i32_w]
      rfl
    refine one_ (i := 7) (N := some 32) #[true, true, true, true, true, true, true, true, false, false, false, false] rfl rfl (by kernel_rfl) (by decide) (fun K hK => ?_)
    refine value_ (w1 := ?_) (v := ?_) (by rfl) rfl ?_ ?_
    rotate_left 2
    · go_simp
      constructor
      · rfl
      · rfl
    refine hK.out _ _ ⟨(blk_cell ((Below.heap_alloc _ _ _ (blk_lt HP4.out.1)).trans HP4.out.1) 0), (blk_cell ((Below.heap_alloc _ _ _ (blk_lt HP4.out.2)).trans HP4.out.2) 0)⟩ (fun hHeld => ?_)
    clear hK K
    refine norm_ (a' := ?_) ?_ ?_
    rotate_left
    · show Act.put _ (some 32) _ = _
      simp only [Act.put, List.setIfInBounds_toArray, List.set_cons_zero, List.set_cons_succ, i64_w, i32_w]
      rfl
    refine one_ (i := 8) (N := some 33) #[true, true, true, true, true, true, true, true, true, false, false, false] rfl rfl (by kernel_rfl) (by decide) (fun K hK => ?_)
    refine Kd.R_append_step KS (w0 := w4) B2 (by rfl) (.tmp 29) (.tmp 32) 51 36 (.slice none 0 0) 24 (by rfl) Try.underlying51 infoSl rfl (by decide) (by omega) vB xs (A4, x.1.2.length, c4) [encSl (A4, x.1.2.length, c4)] (fun _ => True) (fun _ => False) rfl ?aX ?aP (fun _ hk => hk.elim) (fun _ _ => trivial) ?aO (Below.refl _ _) ?aS ?aL ?_
    case aX => rfl
    case aP => exact rfl
    case aO => exact Kd.R_below HKd.out HB4.out
    case aS => exact (Nat.le_trans HSd.out HB4.out.size)
    case aL => have := HXN.out; omega
    intro v8 w8 ho8 hb8 hg8 hat8
    obtain ⟨g8, c8, rfl, hgb8, hgl8, _⟩ := Kd.R_form ho8 (by simp)
    have HO8 := Aside0.mk ho8
    have HG8 := Aside0.mk hg8
    have HB8 := Aside0.mk hb8
    have HP8 := Aside0.mk (And.intro (blk_grown HP4.out.1 hg8 HNE1.out) (blk_grown HP4.out.2 hg8 HNE2.out))
    have hf8 : w8.frozen? ⟨g, 0, none⟩ = false := blk_frozen HP8.out.2 0
    clear ho8 hg8 hb8 hat8 hgb8 hgl8
    refine hK.out _ _ ⟨(blk_cell HP8.out.1 0), (blk_cell HP8.out.2 0)⟩ (fun hHeld => ?_)
    clear hK K
    refine norm_ (a' := ?_) ?_ ?_
    rotate_left
    · show Act.put _ (some 33) _ = _
      simp only [Act.put, List.setIfInBounds_toArray, List.set_cons_zero, List.set_cons_succ, i64_w, i32_w]
      rfl
    refine pure_ (i := 9) (N := some 34) (v := ?_) (a' := ?_) #[true, true, true, true, true, true, true, true, true, true, false, false] rfl rfl (by kernel_rfl) (fun _ _ _ h => h) (Or.inl ⟨by rfl, ?_⟩) ?_ ?_
    rotate_left
    · intro w'
      go_simp
      with_reducible rfl
    rotate_left
    · simp only [Act.put, List.setIfInBounds_toArray, List.set_cons_zero, List.set_cons_succ, i64_w, i32_w]
      rfl
    refine pure_ (i := 10) (N := some 35) (v := ?_) (a' := ?_) #[true, true, true, true, true, true, true, true, true, true, true, false] rfl rfl (by kernel_rfl) (fun _ _ _ h => h) (Or.inl ⟨by rfl, ?_⟩) ?_ ?_
    rotate_left
    · intro w'
      go_simp
      with_reducible rfl
    rotate_left
    · simp only [Act.put, List.setIfInBounds_toArray, List.set_cons_zero, List.set_cons_succ, i64_w, i32_w]
      rfl
    refine last_ (i := 11) (N := none) #[true, true, true, true, true, true, true, true, true, true, true, true] rfl rfl (by kernel_rfl) (by decide) (fun K hK => ?_)
    refine skip_ (w1 := ?_) (by rfl) rfl ?_ ?_
    rotate_left
    · go_simp
      rfl
    refine hK.out _ _ ?_
    clear hK K
    refine done_ (by kernel_rfl) ?_
    gi_wp2
    have hch : Below B2 W.drew w8 := (HB4.out.mono HSd.out).trans HB8.out
    have hgB : g < B2 := by have := HGB.out.1; have := HS5.out; have := HB2.out; omega
    have hhB : hb < B2 := by have := HGB.out.2; have := HS5.out; have := HB2.out; omega
    have hbB : Bs + 1 < B2 := by have := HS5.out; have := HB2.out; omega
    have hR4 : KS.R 36 w4 B2 (fun _ => True) vB xs := Kd.R_below HKd.out HB4.out
    have hG8 : w4.grownBy w8 vB.ownBlock := HG8.out
    have hset : ∀ i : Nat, i ≠ g → i < B2 → (w8.setCell ⟨g, 0, none⟩ (Value.slice (some ⟨g8, 0, none⟩) (xs.length + 1) c8)).heap[i]? = W.heap[i]? := fun i hi hi2 => (Below.heap_setCell _ _ _ _ hi).trans (hch.block i hi2)
    have hlen1 : (xs ++ [(A4, x.1.2.length, c4)]).length = xs.length + 1 := by simp
    refine ⟨?k1, ?k2, ?k3, ?k4, ?k5, ?k6⟩
    case k1 => exact (KeepsOthers.drew W).trans ((keeps_below HB4.out).trans ((keeps_R hR4 hG8).trans (KeepsOthers.setCell _ _ _)))
    case k2 => exact ⟨hset _ (by have := HGB.out.1; omega) (by omega), hset _ (by have := HGB.out.1; omega) hbB⟩
    case k3 =>
      have hp := HG.push HP4.out.2 hR4 HL.out (fun j y b hy hb => Kd.R_below (H2d.out j y b hy hb) HB4.out) H3.out (R_lower HX4.out HSd.out) (x0 := (A4, x.1.2.length, c4))
        (fun j k y hy hk e => by
          have h8 : ∃ b, (pre.map (fun x => x.1.2))[j]? = some b := by
            have hj : j < xs.length := (List.getElem?_eq_some_iff.1 hy).1
            exact ⟨_, List.getElem?_eq_getElem (by rw [← HL.out]; exact hj)⟩
          obtain ⟨b, hb⟩ := h8
          have h9 := own_lt (H2d.out j y b hy hb) k hk
          have h10 := own_base (Kd.own_of_R HX4.out) k e
          omega) hG8 HO8.out
      rw [hlen1] at hp
      rw [List.map_append]
      exact hp
    case k4 => exact (Below.heap_setCell _ _ _ _ (fun e => HBG.out e.symm)).trans HP8.out.1
    case k5 => exact Below.setCell (HBd.out.trans (hch.mono (by have := HB2.out; have := HW5.out.size; omega))) HGL.out _
    case k6 => exact Nat.le_trans HSd.out (Nat.le_trans hch.size (by simp))
  case done =>
    rename_i K0 hK0
    rintro D ys W hD hS ⟨hg, hbx, hbl, hsz⟩ hK
    have hbx2 : W.cell? ⟨hb, 0, none⟩ = some (.pointer (some ⟨g, 0, none⟩)) := blk_cell hbx 0
    have HHG := Aside0.mk hg
    have HHB := Aside0.mk hbl
    clear hg hbx hbl hsz
    refine hK0 _ _ ?_
    gi_wp2
    refine ⟨by simp, .inl ⟨_, _, rfl, run_takeDeferred hK, ?_⟩⟩
    have hgr := grownBy_putObj' W D (.deferred none)
    have hwD : w.heap.size ≤ D := Nat.le_trans HW5.out.size hD
    have hko : KO W (W.putObj D (.deferred none)) := KO.of_grown hgr (fun r e => by
      injection e with e
      subst e
      exact ⟨_, hK, rfl⟩)
    have hm := (HHG.out.keep hko).heap HGL.out HW5.out.size
    rw [hS] at hm
    exact ⟨_, results_tmp rfl _ _ _, g, rfl, hm, HHB.out.grown hgr HHB.out.size (fun k e => by cases e; exact hwD)⟩
  case stop =>
    rintro D c pre W hD _ h _
    exact h.elim
theorem Of_ (A : Option Addr) (c : Nat) (L : List Int) (n : Int) (w : World) (hc : L.length ≤ c) (hC : Kd.C (Kd.int .u8) w A L.length L) (hLL : L.length ≤ 100000) (k : Nat) (hk : (k : Int) = if n < 1 ∨ 65536 < n then 65536 else n) : Calls Try.prog 19 #[.slice A L.length c, .int .i64 n] w fun e w' => ∃ g : Nat, e = .returned (.pointer (some ⟨g, 0, none⟩)) ∧ HM w.heap.size w' g (chunks k L) (L.length : Int) (L.length : Int) ∧ Below w.heap.size w w' := by
  by_cases h1 : n < 1
  · rw [if_pos (.inl h1)] at hk
    exact Of_low A c k L n w hc hC hLL h1 hk.symm
  · by_cases h2 : 65536 < n
    · rw [if_pos (.inr h2)] at hk
      exact Of_high A c k L n w hc hC hLL h2 hk.symm
    · rw [if_neg (by omega)] at hk
      exact Of_in A c k L n w hc hC hLL hk.symm (by omega) (by omega)
end Go.Proofs.Ytpbplflocdhahaa.HW
