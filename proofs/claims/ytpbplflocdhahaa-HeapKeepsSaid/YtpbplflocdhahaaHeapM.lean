/- The heap of any number of buffers: New, room. -/
import Derived.Test.YtpbplflocdhahaaHeapD
set_option linter.unusedVariables false
set_option linter.unusedSimpArgs false
namespace Go.Proofs.Ytpbplflocdhahaa.HW
open Go.RowKit Go.Proofs.Ytpbplflocdhahaa.P Go.Proofs.Ytpbplflocdhahaa.HP Go.Proofs.YtpbplflocdhahaaW.PrintWords Go.Proofs.YtpbplflocdhahaaW.PrintLast Go.Proofs.YtpbplflocdhahaaW.PrintMore
attribute [local go_sem] max2_int min2_int max_two min_two max_three min_three max_four min_four
theorem wsm (x : Nat) (h : x ≤ 2000000) : wrap64 (x : Int) = (x : Int) := by unfold wrap64; omega
theorem wsum (a b : Nat) (h : a + b ≤ 2000000) : wrap64 ((a : Int) + (b : Int)) = (a : Int) + (b : Int) := by unfold wrap64; omega
/-- A heap at block g with these buffers: each in a block of its own. -/
def HM (lo : Nat) (w : World) (g : Nat) (Bs : List (List Int)) (size m : Int) : Prop := lo ≤ g ∧ ∃ (vB : Value) (xs : List (Option Addr × Nat × Nat)), w.heap[g]? = some (.cells #[vB, .int .i64 size, .int .i64 m] 53 (0, 0)) ∧ KS.R 36 w lo (fun _ => True) vB xs ∧ xs.length = Bs.length ∧
  (∀ (j : Nat) (x : Option Addr × Nat × Nat) (b : List Int), xs[j]? = some x → Bs[j]? = some b → Kd.R (Kd.int .u8) 5 w lo (fun _ => True) (encSl x) b) ∧
  (∀ (i j k : Nat) (x y : Option Addr × Nat × Nat), i ≠ j → xs[i]? = some x → xs[j]? = some y → (encSl x).ownBlock = some k → (encSl y).ownBlock ≠ some k)
theorem HM.below {lo : Nat} {w w' : World} {g : Nat} {Bs : List (List Int)} {size m : Int} (h : HM lo w g Bs size m) (hb : Below w.heap.size w w') : HM lo w' g Bs size m := by
  obtain ⟨h0, vB, xs, hg, h1, hl, h2, h3⟩ := h
  exact ⟨h0, vB, xs, (hb.block _ (blk_lt hg)).trans hg, Kd.R_below h1 hb, hl, fun j x b hx hb2 => Kd.R_below (h2 j x b hx hb2) hb, h3⟩
theorem HM.lt {lo : Nat} {w : World} {g : Nat} {Bs : List (List Int)} {size m : Int} (h : HM lo w g Bs size m) : g < w.heap.size := by obtain ⟨_, _, _, hg, _⟩ := h; exact blk_lt hg
theorem HM.new (m : Int) (w : World) : Calls Try.prog 10 #[.int .i64 m] w fun e w' => ∃ g : Nat, e = .returned (.pointer (some ⟨g, 0, none⟩)) ∧ HM w.heap.size w' g [] 0 (if m < 0 then 0 else m) ∧ Below w.heap.size w w' := by
  by_cases hm : m < 0
  · rw [if_pos hm]
    have t1 : decide (m < 0) = true := decide_eq_true hm
    have t2 : (m < 0) = True := eq_true hm
    clear hm
    go_enter Try.func10, Try.ntmps10
    go_wp2_with fail
    go_ret
    exact ⟨_, rfl, ⟨Nat.le_refl _, .slice none 0 0, [], blk_new _ _, Kd.R_nil _ _ _ _ _, rfl, fun j x b hx => by simp at hx, fun i j k x y _ hx => by simp at hx⟩, below_alloc (Below.refl _ _) _⟩
  · rw [if_neg hm]
    refine (Hp.new m w (by omega)).mono ?_
    rintro e w1 ⟨g, rfl, hh, hb⟩
    exact ⟨g, rfl, ⟨hh.1, .slice none 0 0, [], hh.2, Kd.R_nil _ _ _ _ _, rfl, fun j x b hx => by simp at hx, fun i j k x y _ hx => by simp at hx⟩, hb⟩
theorem own_apart {e e2 : TypeId} {W : World} {b1 b2 n1 n2 : Nat} {v u : Value} {x1 x2 : List Value} (h : W.ownsRow b1 e 1 v n1 x1) (h2 : W.ownsRow b2 e2 1 u n2 x2) (ht : e ≠ e2) (k : Nat) (hk : v.ownBlock = some k) : some k ≠ u.ownBlock := by
  intro hu
  obtain ⟨c1, h1⟩ := own_typed h k hk
  obtain ⟨c2, h3⟩ := own_typed h2 k hu.symm
  rw [h1] at h3
  injection h3 with h3
  injection h3 with _ h3 _
  exact ht h3
theorem R_apart {α β : Type} {enc : α → Value} {h1 : ∀ x, (enc x).oneCell' = true} {enc2 : β → Value} {h12 : ∀ x, (enc2 x).oneCell' = true} {e e2 b1 b2 : Nat} {ok ok2 : Nat → Prop} {W W' : World} {v u : Value} {xs : List α} {ys : List β}
    (h : (Kd.scalar enc h1).R e W b1 ok v xs) (h2 : (Kd.scalar enc2 h12).R e2 W b2 ok2 u ys) (ht : e ≠ e2) (hg : W.grownBy W' u.ownBlock) : (Kd.scalar enc h1).R e W' b1 ok v xs :=
  Kd.R_mono (Kd.R_step (Kd.R_tight rfl h) (fun k hk hlt => hg.block k hlt (own_apart (Kd.own_of_R h) (Kd.own_of_R h2) ht k hk.symm))) (fun k hk => h.1 k hk.symm)
theorem R_setblk {α : Type} {enc : α → Value} {h1 : ∀ x, (enc x).oneCell' = true} {e b1 g j t : Nat} {ok : Nat → Prop} {W : World} {v u : Value} {xs : List α} {cells : Array Value}
    (h : (Kd.scalar enc h1).R e W b1 ok v xs) (hb : W.heap[g]? = some (.cells cells t (0, 0))) (ht : e ≠ t) : (Kd.scalar enc h1).R e (W.setCell ⟨g, j, none⟩ u) b1 ok v xs :=
  Kd.R_mono (Kd.R_step (ok_add h hb ht) (fun k hk _ => Below.heap_setCell _ _ _ _ hk.2)) (fun k hk => hk.1)
/-- The state behind an append of an empty buffer. -/
theorem HM.grow {lo g gb cb : Nat} {w w3 : World} {Bs : List (List Int)} {xs : List (Option Addr × Nat × Nat)} {vB : Value} {size m : Int} (h0 : lo ≤ g) (hg : w.heap[g]? = some (.cells #[vB, .int .i64 size, .int .i64 m] 53 (0, 0))) (h1 : KS.R 36 w lo (fun _ => True) vB xs) (hl : xs.length = Bs.length)
    (h2 : ∀ (j : Nat) (x : Option Addr × Nat × Nat) (b : List Int), xs[j]? = some x → Bs[j]? = some b → Kd.R (Kd.int .u8) 5 w lo (fun _ => True) (encSl x) b)
    (h3 : ∀ (i j k : Nat) (x y : Option Addr × Nat × Nat), i ≠ j → xs[i]? = some x → xs[j]? = some y → (encSl x).ownBlock = some k → (encSl y).ownBlock ≠ some k)
    (hgr : w.grownBy w3 vB.ownBlock) (ho : KS.R 36 w3 lo (fun _ => True) (.slice (some ⟨gb, 0, none⟩) (xs ++ [(none, 0, 0)]).length cb) (xs ++ [(none, 0, 0)])) : HM lo (w3.setCell ⟨g, 0, none⟩ (.slice (some ⟨gb, 0, none⟩) (xs ++ [(none, 0, 0)]).length cb)) g (Bs ++ [[]]) size m := by
  have hg3 := blk_grown hg hgr (Kd.R_ne h1 hg (by decide))
  refine ⟨h0, _, xs ++ [(none, 0, 0)], blk_put hg3 0 _ rfl, R_setblk ho hg3 (by decide), by rw [List.length_append, List.length_append, hl]; rfl, fun j x b hx hb => ?_, fun i j k x y hij hx hy hk => ?_⟩
  · rcases Nat.lt_or_ge j xs.length with hj | hj
    · rw [List.getElem?_append_left hj] at hx
      rw [List.getElem?_append_left (by omega)] at hb
      exact R_setblk (R_apart (h2 j x b hx hb) h1 (by decide) hgr) hg3 (by decide)
    · rw [List.getElem?_append_right hj] at hx
      rw [List.getElem?_append_right (by omega)] at hb
      have hj0 : j - xs.length = 0 := by
        rcases Nat.eq_zero_or_pos (j - xs.length) with h | h
        · exact h
        · rw [List.getElem?_eq_none (by simp; omega)] at hx; cases hx
      rw [hj0] at hx
      rw [← hl, hj0] at hb
      simp at hx hb
      subst hx hb
      exact Kd.R_nil _ _ _ _ _
  · rcases Nat.lt_or_ge i xs.length with hi | hi
    · rw [List.getElem?_append_left hi] at hx
      rcases Nat.lt_or_ge j xs.length with hj | hj
      · rw [List.getElem?_append_left hj] at hy
        exact h3 i j k x y hij hx hy hk
      · rw [List.getElem?_append_right hj] at hy
        have hj0 : j - xs.length = 0 := by
          rcases Nat.eq_zero_or_pos (j - xs.length) with h | h
          · exact h
          · rw [List.getElem?_eq_none (by simp; omega)] at hy; cases hy
        rw [hj0] at hy
        simp at hy
        subst hy
        simp [encSl, Value.ownBlock]
    · rw [List.getElem?_append_right hi] at hx
      have hi0 : i - xs.length = 0 := by
        rcases Nat.eq_zero_or_pos (i - xs.length) with h | h
        · exact h
        · rw [List.getElem?_eq_none (by simp; omega)] at hx; cases hx
      rw [hi0] at hx
      simp at hx
      subst hx
      simp [encSl, Value.ownBlock] at hk
/-- Blocks of other types than the heap's stay. -/
def KR (w W : World) : Prop := ∀ (k : Nat) (cs : Array Value) (t : TypeId), w.heap[k]? = some (.cells cs t (0, 0)) → t ≠ 53 → t ≠ 36 → W.heap[k]? = some (.cells cs t (0, 0))
theorem KR.of_but {w w' : World} {g lo n b1 : Nat} {v : Value} {inner : List Value} {cs : Array Value} (hg : w.heap[g]? = some (.cells cs 53 (0, 0))) (ho : w.ownsRow lo 36 b1 v n inner) (hk : KeepBut w w' g v.ownBlock) : KR w w' := fun k cs t h a b => by
  refine (hk.2 k (blk_lt h) (blk_ne h hg a) ?_).trans h
  intro e
  obtain ⟨c1, h1⟩ := own_typed ho k e.symm
  rw [h] at h1
  injection h1 with h1
  injection h1 with _ h1 _
  exact b h1
theorem KR.of_below {w W : World} (hb : Below w.heap.size w W) : KR w W := fun k cs t h _ _ => (hb.block _ (blk_lt h)).trans h
theorem HM.cells_ {lo g : Nat} {Bs : List (List Int)} {size m : Int} {w : World} (h : HM lo w g Bs size m) : ∃ v, w.heap[g]? = some (.cells #[v, .int .i64 size, .int .i64 m] 53 (0, 0)) := by
  obtain ⟨_, v, _, hg, _⟩ := h
  exact ⟨v, hg⟩
/-- One buffer's slice and its bytes. -/
structure HQ (lo : Nat) (w : World) (g : Nat) (Bs : List (List Int)) (size m : Int) (q : Nat) (b : List Int) (gb cb c : Nat) (A : Option Addr) (xs : List (Option Addr × Nat × Nat)) : Prop where
  h0 : lo ≤ g
  hg : w.heap[g]? = some (.cells #[.slice (some ⟨gb, 0, none⟩) xs.length cb, .int .i64 size, .int .i64 m] 53 (0, 0))
  h1 : KS.R 36 w lo (fun _ => True) (.slice (some ⟨gb, 0, none⟩) xs.length cb) xs
  hl : xs.length = Bs.length
  h2 : ∀ (j : Nat) (x : Option Addr × Nat × Nat) (b : List Int), xs[j]? = some x → Bs[j]? = some b → Kd.R (Kd.int .u8) 5 w lo (fun _ => True) (encSl x) b
  h3 : ∀ (i j k : Nat) (x y : Option Addr × Nat × Nat), i ≠ j → xs[i]? = some x → xs[j]? = some y → (encSl x).ownBlock = some k → (encSl y).ownBlock ≠ some k
  hq : xs[q]? = some (A, b.length, c)
  hc : b.length ≤ c
  hr : Kd.C (Kd.int .u8) w A b.length b
  cell : w.cell? ⟨gb, q, none⟩ = some (.slice A b.length c)
  frozen : w.frozen? ⟨gb, q, none⟩ = false
theorem HM.parts {lo : Nat} {w : World} {g : Nat} {Bs : List (List Int)} {size m : Int} (h : HM lo w g Bs size m) (q : Nat) (b : List Int) (hb : Bs[q]? = some b) : ∃ (gb cb c : Nat) (A : Option Addr) (xs : List (Option Addr × Nat × Nat)), HQ lo w g Bs size m q b gb cb c A xs := by
  obtain ⟨h0, vB, xs, hg, h1, hl, h2, h3⟩ := h
  have hqb : q < Bs.length := (List.getElem?_eq_some_iff.1 hb).1
  have hqx : q < xs.length := by omega
  obtain ⟨⟨A, n, c⟩, hx⟩ : ∃ x, xs[q]? = some x := ⟨_, List.getElem?_eq_getElem hqx⟩
  obtain ⟨rfl, hc, hr⟩ := Kd.R_reads' (show Kd.R (Kd.int .u8) 5 w lo (fun _ => True) (.slice A n c) b from h2 q _ b hx hb)
  obtain ⟨gb, cb, rfl, _, _, _⟩ := Kd.R_form h1 (by omega)
  have hcell := Kd.R_cell (enc := encSl) (h1 := fun _ => rfl) (none, 0, 0) h1 (q : Int) (by omega) (by omega)
  have hrq : rdOf ((none, 0, 0) : Option Addr × Nat × Nat) xs (q : Int) = (A, b.length, c) := by simp [rdOf, List.getD_eq_getElem?_getD, hx]
  rw [hrq, Int.toNat_natCast] at hcell
  exact ⟨gb, cb, c, A, xs, h0, hg, h1, hl, h2, h3, hx, hc, hr, hcell.1, hcell.2⟩
end Go.Proofs.Ytpbplflocdhahaa.HW
