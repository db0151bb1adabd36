/- BitmapCounts, the plain law. -/
import Derived.Test.YtdohphiicmdilaaHBitmap
import Derived.Test.YtdohphiicmdilaaPx14
set_option linter.unusedVariables false
set_option linter.unusedSimpArgs false
namespace Go.Proofs.Ytdohphiicmdilaa.Pure
open Go.RowKit Go.Proofs.Ytdohphiicmdilaa.P Go.Proofs.Ytdohphiicmdilaa.HP Go.Proofs.YtdohphiicmdilaaW.PrintWords Go.Proofs.YtdohphiicmdilaaW.PrintLast Go.Proofs.YtdohphiicmdilaaW.PrintMore
theorem rrank_l (l : List Bool) (x : Int) (hl : l.length ≤ 300) : ∀ (t : List Bool) (i : Nat) (n : Int), l.drop i = t → 0 ≤ n → n ≤ i → Ev (fun k => hopperref04_Rank.l0 k l x n (i : Int)) (n + cnt (t.take (x.toNat - i))) := by
  intro t
  induction t with
  | nil =>
    intro i n h h0 h1
    have := drop_nil h
    refine Ev.step (fun k => by rw [hopperref04_Rank.l0]) ?_
    simp only [if_neg (show ¬ (i : Int) < (l.length : Int) by omega)]
    refine Ev.step (fun k => by rw [hopperref04_Rank.j1]) ?_
    simp only [Bool.false_eq_true, if_false, List.take_nil, cnt_nil, Int.add_zero]
    exact Ev.now _
  | cons b t ih =>
    intro i n h h0 h1
    have hlt := drop_lt h
    refine Ev.step (fun k => by rw [hopperref04_Rank.l0]) ?_
    simp only [if_pos (show (i : Int) < (l.length : Int) by omega)]
    by_cases hx : (i : Int) < x
    · simp only [decide_eq_true hx]
      refine Ev.step (fun k => by rw [hopperref04_Rank.j1]) ?_
      simp only [if_true, if_pos (show 0 ≤ (i : Int) by omega), if_pos (show (i : Int) < (l.length : Int) by omega), drop_rdOf false h, wr1 i (by omega)]
      have e : x.toNat - i = (x.toNat - (i + 1)) + 1 := by omega
      rw [e, List.take_succ_cons, cnt_cons]
      have w : wrap64 (n + 1) = n + 1 := by unfold wrap64; omega
      cases b with
      | true =>
        simp only [if_true, w]
        have := ih (i + 1) (n + 1) (drop_tl h) (by omega) (by omega)
        rw [← Int.add_assoc]
        exact this
      | false =>
        simp only [Bool.false_eq_true, if_false, Int.zero_add]
        exact ih (i + 1) n (drop_tl h) h0 (by omega)
    · simp only [decide_eq_false hx]
      refine Ev.step (fun k => by rw [hopperref04_Rank.j1]) ?_
      simp only [Bool.false_eq_true, if_false]
      rw [show x.toNat - i = 0 by omega]
      simp only [List.take_zero, cnt_nil, Int.add_zero]
      exact Ev.now _
theorem counts_l (l : List Bool) (x : Int) (hl : l.length ≤ 300) : ∀ (t : List Bool) (i : Nat), l.drop i = t → i ≤ l.length → Ev (fun k => hopperlaw04_BitmapCounts.l0 k l x (cnt (l.take i)) (i : Int)) true := by
  intro t
  induction t with
  | nil =>
    intro i h hi
    have := drop_nil h
    refine Ev.step (fun k => by rw [hopperlaw04_BitmapCounts.l0]) ?_
    simp only [if_neg (show ¬ (i : Int) < (l.length : Int) by omega)]
    rw [List.take_of_length_le this]
    refine Ev.bind (g := fun _ => bitmap_Count.f l) (ev_some (count_f l)) ?_
    simp only [if_true]
    refine Ev.bind (g := fun _ => bitmap_Rank.f l (l.length : Int)) (ev_some (by rw [rank_nat, List.take_length])) ?_
    simp only [if_true]
    refine Ev.bind (g := fun _ => bitmap_Rank.f l x) (ev_some (rank_f l x)) ?_
    have hr := rrank_l l x hl l 0 0 rfl (by omega) (by omega)
    simp only [Int.zero_add, Nat.sub_zero] at hr
    refine Ev.bind (g := fun k => hopperref04_Rank.f k l x) hr ?_
    simp only [if_true]
    refine Ev.bind (g := fun _ => bitmap_Not.f l) (ev_some (not_f l (by omega))) ?_
    refine Ev.bind (g := fun _ => bitmap_Count.f (l.map (fun b => !b))) (ev_some (count_f _)) ?_
    have hb := cnt_bd l
    rw [cnt_not, show wrap64 ((l.length : Int) - cnt l) = l.length - cnt l by unfold wrap64; omega]
    simp only [beq_self_eq_true]
    exact Ev.now _
  | cons b t ih =>
    intro i h hi
    have hlt := drop_lt h
    refine Ev.step (fun k => by rw [hopperlaw04_BitmapCounts.l0]) ?_
    simp only [if_pos (show (i : Int) < (l.length : Int) by omega)]
    refine Ev.bind (g := fun _ => bitmap_Rank.f l (i : Int)) (ev_some (rank_nat l i)) ?_
    have hs := bitmap_Rank.n_succ l i hlt
    rw [drop_rdOf false h] at hs
    have hb := cnt_bd (l.take i)
    have hb2 := List.length_take_le i l
    have w : wrap64 (cnt (l.take i) + 1) = cnt (l.take i) + 1 := by unfold wrap64; omega
    simp only [if_true, if_pos (show 0 ≤ (i : Int) by omega), drop_rdOf false h, wr1 i (by omega), w]
    have hg := ih (i + 1) (drop_tl h) (by omega)
    cases b with
    | true =>
      simp only [if_true] at hs ⊢
      rw [show cnt (l.take i) + 1 = cnt (l.take (i + 1)) from hs.symm]
      exact hg
    | false =>
      simp only [Bool.false_eq_true, if_false, Int.add_zero] at hs ⊢
      rw [show cnt (l.take i) = cnt (l.take (i + 1)) from hs.symm]
      exact hg
theorem BitmapCounts (l0 : List Bool) (a1 : Int) (_ : l0.length ≤ 140737488351232) (_ : (Lit.int .i64 a1).wf = true) : ∃ k, hopperlaw04_BitmapCounts.f k l0 a1 = some true := by
  apply Ev.rounds
  unfold hopperlaw04_BitmapCounts.f
  refine awake4.bind ?_
  simp only [if_true]
  by_cases h5 : (l0.length : Int) > 300
  · simp only [decide_eq_true h5]
    refine Ev.step (fun k => by rw [hopperlaw04_BitmapCounts.j0]) ?_
    simp only [if_true]
    exact awake4.bind (Ev.now _)
  simp only [decide_eq_false h5]
  refine Ev.step (fun k => by rw [hopperlaw04_BitmapCounts.j0]) ?_
  simp only [Bool.false_eq_true, if_false]
  exact counts_l l0 a1 (by omega) l0 0 rfl (by omega)
end Go.Proofs.Ytdohphiicmdilaa.Pure
