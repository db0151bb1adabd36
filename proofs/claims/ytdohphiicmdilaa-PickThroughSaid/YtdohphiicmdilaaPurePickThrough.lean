/- PickThrough, the plain law: picks go through one another as lists of places do. -/
import Derived.Test.YtdohphiicmdilaaHPick
import Derived.Test.YtdohphiicmdilaaPx4
set_option linter.unusedVariables false
set_option linter.unusedSimpArgs false
namespace Go.Proofs.Ytdohphiicmdilaa.Pure
open Go.RowKit Go.Proofs.Ytdohphiicmdilaa.P Go.Proofs.Ytdohphiicmdilaa.HP Go.Proofs.YtdohphiicmdilaaW.PrintWords Go.Proofs.YtdohphiicmdilaaW.PrintLast Go.Proofs.YtdohphiicmdilaaW.PrintMore

theorem pt_end (x y z l : List Int) (hx : x.length ≤ 500) (hy : y.length ≤ 500) (hz : z.length ≤ 500) (hyb : ∀ a ∈ y, 0 ≤ a ∧ a < x.length) (hzb : ∀ a ∈ z, 0 ≤ a ∧ a < y.length) (hl : l = y.map (rd x)) : ∀ (t : List Int) (i : Nat), y.drop i = t →
    Ev (fun k => hopperlaw05_PickThrough.l0 k x y z l (i : Int)) true := by
  intro t
  induction t with
  | nil =>
    intro i h
    have := drop_nil h
    refine Ev.step (fun k => by rw [hopperlaw05_PickThrough.l0]) ?_
    simp only [if_neg (show ¬ (i : Int) < (y.length : Int) by omega)]
    have hll : l.length = y.length := by rw [hl]; simp
    refine (through_f l z (by omega) (by rw [hll]; exact hzb)).bind ?_
    refine (through_f y z (by omega) hzb).bind ?_
    have hr : ∀ a ∈ z, rd y a ∈ y := by
      intro a ha
      have hb := hzb a ha
      obtain ⟨n, rfl⟩ : ∃ n : Nat, a = n := ⟨a.toNat, by omega⟩
      rw [rd_nat y n (by omega)]
      exact List.getElem_mem _
    refine (through_f x (z.map (rd y)) (by simp; omega) ?_).bind ?_
    · intro a ha
      obtain ⟨b, hb, rfl⟩ := List.mem_map.1 ha
      exact hyb _ (hr b hb)
    have e : z.map (rd l) = (z.map (rd y)).map (rd x) := by
      rw [List.map_map]
      refine List.map_congr_left fun a ha => ?_
      have hb := hzb a ha
      obtain ⟨n, rfl⟩ : ∃ n : Nat, a = n := ⟨a.toNat, by omega⟩
      rw [Function.comp, rd_nat y n (by omega), rd_nat l n (by omega)]
      simp [hl]
    rw [e]
    exact (ints_f _ (by simp; omega)).bind (Ev.now _)
  | cons a t ih =>
    intro i h
    have hlt := drop_lt h
    have hll : l.length = y.length := by rw [hl]; simp
    have ha : a ∈ y := by rw [← List.take_append_drop i y, h]; simp
    have hb := hyb a ha
    refine Ev.step (fun k => by rw [hopperlaw05_PickThrough.l0]) ?_
    have hla : rd l (i : Int) = rd x a := by
      rw [rd_nat l i (by omega)]
      simp only [hl, List.getElem_map]
      rw [← rd_nat y i hlt, drop_rd h]
    simp only [if_pos (show (i : Int) < (y.length : Int) by omega), if_pos (show 0 ≤ (i : Int) by omega), if_pos (show (i : Int) < (l.length : Int) by omega), drop_rd h, if_pos hb.1, if_pos hb.2, hla, if_true, wr1 i (by omega)]
    exact ih (i + 1) (drop_tl h)

theorem PickThrough (l0 : List Bool) (l1 : List Bool) (l2 : List Bool) (_ : l0.length ≤ 140737488351232) (_ : l1.length ≤ 140737488351232) (_ : l2.length ≤ 140737488351232) : ∃ k, hopperlaw05_PickThrough.f k l0 l1 l2 = some true := by
  apply Ev.rounds
  unfold hopperlaw05_PickThrough.f
  refine awake5.bind ?_
  simp only [if_true]
  by_cases h5 : (l0.length : Int) > 500
  · simp only [decide_eq_true h5]
    refine Ev.step (fun k => by rw [hopperlaw05_PickThrough.j0]) ?_
    simp only [if_true]
    exact awake5.bind (Ev.now _)
  simp only [decide_eq_false h5]
  refine Ev.step (fun k => by rw [hopperlaw05_PickThrough.j0]) ?_
  simp only [Bool.false_eq_true, if_false]
  refine (places_f l0 (by omega)).bind ?_
  have lx : (pl l0).length ≤ l0.length := plf_len l0 0
  by_cases h1 : (l1.length : Int) = ((pl l0).length : Int)
  case neg => simp only [if_neg h1]; exact Ev.now _
  simp only [if_pos h1]
  refine (places_f l1 (by omega)).bind ?_
  have ly : (pl l1).length ≤ l1.length := plf_len l1 0
  by_cases h2 : (l2.length : Int) = ((pl l1).length : Int)
  case neg => simp only [if_neg h2]; exact Ev.now _
  simp only [if_pos h2]
  refine (places_f l2 (by omega)).bind ?_
  have lz : (pl l2).length ≤ l2.length := plf_len l2 0
  have bx : ∀ a ∈ pl l0, (0 : Int) ≤ a ∧ a < l0.length := fun a ha => by have := plf_mem l0 0 a ha; simp at this; omega
  have by_ : ∀ a ∈ pl l1, (0 : Int) ≤ a ∧ a < (pl l0).length := fun a ha => by have := plf_mem l1 0 a ha; simp at this; omega
  have bz : ∀ a ∈ pl l2, (0 : Int) ≤ a ∧ a < (pl l1).length := fun a ha => by have := plf_mem l2 0 a ha; simp at this; omega
  refine (not_nil_f (pl l0).length (by omega)).bind ?_
  refine (through_f (pl l0) (pl l1) (by omega) by_).bind ?_
  refine (through_f (pl l0) (iota (pl l0).length) (by rw [iota_len]; omega) (fun a ha => iota_mem ha)).bind ?_
  rw [iota_map]
  refine (ints_f (pl l0) (by omega)).bind ?_
  simp only [if_true]
  refine (through_f (pl l0) [] (by simp) (by simp)).bind ?_
  simp only [List.map_nil, List.length_nil]
  refine (right_f (l0.length : Int) ((pl l1).map (rd (pl l0))) (by simp; omega) ?_ ?_).bind ?_
  · intro a ha
    obtain ⟨b, hb, rfl⟩ := List.mem_map.1 ha
    have := by_ b hb
    obtain ⟨n, rfl⟩ : ∃ n : Nat, b = n := ⟨b.toNat, by omega⟩
    rw [rd_nat _ n (by omega)]
    have := bx _ (List.getElem_mem (l := pl l0) (n := n) (by omega))
    omega
  · rw [List.pairwise_map]
    refine List.Pairwise.imp_of_mem (R := (· < ·)) (fun {a b} ha hb hab => ?_) (plf_inc l1 0)
    have h3 := by_ a ha
    have h4 := by_ b hb
    obtain ⟨n, rfl⟩ : ∃ n : Nat, a = n := ⟨a.toNat, by omega⟩
    obtain ⟨m, rfl⟩ : ∃ m : Nat, b = m := ⟨b.toNat, by omega⟩
    rw [rd_nat _ n (by omega), rd_nat _ m (by omega)]
    exact List.pairwise_iff_getElem.1 (plf_inc l0 0) n m (by show n < (pl l0).length; omega) (by show m < (pl l0).length; omega) (by omega)
  have e0 : ((0 : Nat) : Int) = 0 := rfl
  simp only [e0, if_true, List.length_map, bne_self_eq_false]
  refine Ev.step (fun k => by rw [hopperlaw05_PickThrough.j1]) ?_
  simp only [Bool.false_eq_true, if_false]
  exact pt_end (pl l0) (pl l1) (pl l2) _ (by omega) (by omega) (by omega) by_ bz rfl (pl l1) 0 rfl
end Go.Proofs.Ytdohphiicmdilaa.Pure
