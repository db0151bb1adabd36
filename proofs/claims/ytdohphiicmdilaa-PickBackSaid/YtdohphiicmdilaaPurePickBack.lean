/- PickBack, the plain law: a bitmap's places are a pick, and their bitmap is the bitmap. -/
import Derived.Test.YtdohphiicmdilaaHPick
import Derived.Test.YtdohphiicmdilaaPx6
set_option linter.unusedVariables false
set_option linter.unusedSimpArgs false
namespace Go.Proofs.Ytdohphiicmdilaa.Pure
open Go.RowKit Go.Proofs.Ytdohphiicmdilaa.P Go.Proofs.Ytdohphiicmdilaa.HP Go.Proofs.YtdohphiicmdilaaW.PrintWords Go.Proofs.YtdohphiicmdilaaW.PrintLast Go.Proofs.YtdohphiicmdilaaW.PrintMore

/-- The first i places are told, the others not yet. -/
def part (b : List Bool) (n : Nat) : List Bool := b.take n ++ List.replicate (b.length - n) false
theorem bits_l (b : List Bool) (hb : b.length ≤ 100000) (p : List Int) (hp : p.length ≤ 100000) : ∀ (t : List Bool) (o : Nat) (i : Nat) (c : List Bool), b.drop o = t → p.drop i = plf o t → c.length = b.length → c.take o = b.take o → (∀ j, o ≤ j → j < b.length → c.getD j false = false) →
    Ev (fun k => pick_Bits.l0 k c p (p.length : Int) (i : Int)) b := by
  intro t
  induction t with
  | nil =>
    intro o i c ho hi hl ht hf
    have h1 := drop_nil ho
    have h2 := drop_nil (l := p) (i := i) (by simpa [plf] using hi)
    refine Ev.step (fun k => by rw [pick_Bits.l0]) ?_
    simp only [if_neg (show ¬ (i : Int) < (p.length : Int) by omega)]
    rw [List.take_of_length_le (by omega), List.take_of_length_le h1] at ht
    rw [ht]
    exact Ev.now _
  | cons x t ih =>
    intro o i c ho hi hl ht hf
    have hlt := drop_lt ho
    have hx : b[o] = x := by
      have : b[o]? = some x := by rw [← List.head?_drop, ho]; rfl
      rw [List.getElem?_eq_getElem hlt] at this
      exact Option.some.inj this
    cases x with
    | false =>
      refine ih (o + 1) i c (drop_tl ho) (by rw [hi]; simp [plf]) hl ?_ (fun j h1 h2 => hf j (by omega) h2)
      rw [List.take_succ_eq_append_getElem (by omega), List.take_succ_eq_append_getElem hlt, ht, hx]
      have := hf o (Nat.le_refl _) hlt
      rw [List.getD_eq_getElem?_getD, List.getElem?_eq_getElem (by omega)] at this
      simpa using this
    | true =>
      have hi2 : p.drop i = (o : Int) :: plf (o + 1) t := by rw [hi]; simp [plf]
      have hil := drop_lt hi2
      refine Ev.step (fun k => by rw [pick_Bits.l0]) ?_
      simp only [if_pos (show (i : Int) < (p.length : Int) by omega), if_pos (show 0 ≤ (i : Int) by omega), drop_rd hi2, if_pos (show 0 ≤ (o : Int) by omega), if_pos (show (o : Int) < (c.length : Int) by omega), wr1 i (by omega), Int.toNat_natCast]
      refine ih (o + 1) (i + 1) (c.set o true) (drop_tl ho) (drop_tl hi2) (by simpa using hl) ?_ ?_
      · rw [List.take_succ_eq_append_getElem (by simp; omega), List.take_succ_eq_append_getElem hlt, hx]
        rw [List.take_set_of_le (Nat.le_refl _), ht]
        simp
      · intro j h1 h2
        rw [List.getD_eq_getElem?_getD, List.getElem?_set_ne (by omega), ← List.getD_eq_getElem?_getD]
        exact hf j (by omega) h2
theorem bits_f (b : List Bool) (hb : b.length ≤ 100000) : Ev (fun k => pick_Bits.f k (pl b) (b.length : Int)) b := by
  have h := bits_l b hb (pl b) (by have := plf_len b 0; show (plf 0 b).length ≤ _; omega) b 0 0 (List.replicate b.length false) rfl rfl (by simp) (by simp) (fun j _ h2 => by simp [List.getD_eq_getElem?_getD, List.getElem?_replicate, h2])
  unfold pick_Bits.f
  simp only [if_pos (show 0 ≤ (b.length : Int) by omega), Int.toNat_natCast, if_pos (show b.length ≤ 281474976710656 by omega)]
  exact h
theorem PickBack (l0 : List Bool) (_ : l0.length ≤ 140737488351232) : ∃ k, hopperlaw05_PickBack.f k l0 = some true := by
  apply Ev.rounds
  unfold hopperlaw05_PickBack.f
  refine awake5.bind ?_
  simp only [if_true]
  by_cases h5 : (l0.length : Int) > 1000
  · simp only [decide_eq_true h5]
    refine Ev.step (fun k => by rw [hopperlaw05_PickBack.j0]) ?_
    simp only [if_true]
    exact awake5.bind (Ev.now _)
  simp only [decide_eq_false h5]
  refine Ev.step (fun k => by rw [hopperlaw05_PickBack.j0]) ?_
  simp only [Bool.false_eq_true, if_false]
  have lx : (pl l0).length ≤ l0.length := plf_len l0 0
  refine (of_f l0 (by omega)).bind ?_
  refine (places_f l0 (by omega)).bind ?_
  refine (ints_f (pl l0) (by omega)).bind ?_
  simp only [if_true]
  refine (right_f (l0.length : Int) (pl l0) (by omega) (fun a ha => by have := plf_mem l0 0 a ha; simp at this; omega) (plf_inc l0 0)).bind ?_
  simp only [if_true]
  refine (bits_f l0 (by omega)).bind ?_
  exact (same4_f l0 (by omega)).bind (Ev.now _)
end Go.Proofs.Ytdohphiicmdilaa.Pure
