/- BitmapRules, the plain law. -/
import Derived.Test.YtdohphiicmdilaaHBitmap
import Derived.Test.YtdohphiicmdilaaPx16
set_option linter.unusedVariables false
set_option linter.unusedSimpArgs false
namespace Go.Proofs.Ytdohphiicmdilaa.Pure
open Go.RowKit Go.Proofs.Ytdohphiicmdilaa.P Go.Proofs.Ytdohphiicmdilaa.HP Go.Proofs.YtdohphiicmdilaaW.PrintWords Go.Proofs.YtdohphiicmdilaaW.PrintLast Go.Proofs.YtdohphiicmdilaaW.PrintMore
theorem rules_end (a b x y : List Bool) (ha : a.length ≤ 300) (hab : a.length = b.length) (hx : x = List.zipWith (fun a b => a && b) a b) (hy : y = List.zipWith (fun a b => a || b) a b) : ∀ (ta tb : List Bool) (i : Nat), a.drop i = ta → b.drop i = tb → Ev (fun k => hopperlaw04_BitmapRules.l0 k a b x y (i : Int)) true := by
  have lx : x.length = a.length := by rw [hx]; simp; omega
  have ly : y.length = a.length := by rw [hy]; simp; omega
  intro ta
  induction ta with
  | nil =>
    intro tb i h1 h2
    have := drop_nil h1
    refine Ev.step (fun k => by rw [hopperlaw04_BitmapRules.l0]) ?_
    simp only [if_neg (show ¬ (i : Int) < (a.length : Int) by omega)]
    refine Ev.bind (g := fun _ => bitmap_Not.f x) (ev_some (not_f x (by omega))) ?_
    refine Ev.bind (g := fun _ => bitmap_Not.f a) (ev_some (not_f a (by omega))) ?_
    refine Ev.bind (g := fun _ => bitmap_Not.f b) (ev_some (not_f b (by omega))) ?_
    refine Ev.bind (g := fun _ => bitmap_Or.f _ _) (ev_some (or_f _ _ (by simp; omega))) ?_
    rw [if_pos (by simpa using hab), ← not_and a b, ← hx]
    refine (same4 _ (by simp; omega)).bind ?_
    simp only [if_true]
    refine Ev.bind (g := fun _ => bitmap_Not.f a) (ev_some (not_f a (by omega))) ?_
    refine Ev.bind (g := fun _ => bitmap_Not.f _) (ev_some (not_f _ (by simp; omega))) ?_
    rw [not_not_l]
    refine (same4 a (by omega)).bind ?_
    simp only [if_true]
    refine Ev.bind (g := fun _ => bitmap_Count.f x) (ev_some (count_f x)) ?_
    refine Ev.bind (g := fun _ => bitmap_Count.f y) (ev_some (count_f y)) ?_
    refine Ev.bind (g := fun _ => bitmap_Count.f a) (ev_some (count_f a)) ?_
    refine Ev.bind (g := fun _ => bitmap_Count.f b) (ev_some (count_f b)) ?_
    have := cnt_two a b hab
    rw [← hx, ← hy] at this
    simp only [this, beq_self_eq_true]
    exact Ev.now _
  | cons p ta ih =>
    intro tb i h1 h2
    have hlt := drop_lt h1
    cases tb with
    | nil => have := drop_nil h2; omega
    | cons q tb =>
      have hpa : a[i] = p := by rw [← rdOf_nat false a i hlt, drop_rdOf false h1]
      have hqb : b[i]'(by omega) = q := by rw [← rdOf_nat false b i (by omega), drop_rdOf false h2]
      have ex : rdOf false x (i : Int) = (p && q) := by
        rw [rdOf_nat false x i (by omega)]
        simp only [hx, List.getElem_zipWith, hpa, hqb]
      have ey : rdOf false y (i : Int) = (p || q) := by
        rw [rdOf_nat false y i (by omega)]
        simp only [hy, List.getElem_zipWith, hpa, hqb]
      refine Ev.step (fun k => by rw [hopperlaw04_BitmapRules.l0]) ?_
      simp only [if_pos (show (i : Int) < (a.length : Int) by omega), if_pos (show 0 ≤ (i : Int) by omega), if_pos (show (i : Int) < (x.length : Int) by omega), if_pos (show (i : Int) < (y.length : Int) by omega), if_pos (show (i : Int) < (b.length : Int) by omega), drop_rdOf false h1, drop_rdOf false h2, ex, ey, wr1 i (by omega)]
      have hg := ih tb (i + 1) (drop_tl h1) (drop_tl h2)
      cases p <;> cases q <;> simpa using hg
theorem BitmapRules (l0 : List Bool) (l1 : List Bool) (_ : l0.length ≤ 140737488351232) (_ : l1.length ≤ 140737488351232) : ∃ k, hopperlaw04_BitmapRules.f k l0 l1 = some true := by
  have hend : Ev (fun k => hopperlaw04_BitmapRules.j0 k l0 l1 true) true := by
    refine Ev.step (fun k => by rw [hopperlaw04_BitmapRules.j0]) ?_
    simp only [if_true]
    exact awake4.bind (Ev.now _)
  apply Ev.rounds
  unfold hopperlaw04_BitmapRules.f
  refine awake4.bind ?_
  simp only [if_true]
  by_cases h5 : (l0.length : Int) > 300
  · simp only [if_pos h5]
    exact hend
  simp only [if_neg h5]
  by_cases h6 : (l1.length : Int) > 300
  · rw [decide_eq_true h6]; exact hend
  rw [decide_eq_false h6]
  refine Ev.step (fun k => by rw [hopperlaw04_BitmapRules.j0]) ?_
  simp only [Bool.false_eq_true, if_false]
  refine Ev.bind (g := fun _ => bitmap_And.f l0 l1) (ev_some (and_f l0 l1 (by omega))) ?_
  refine Ev.bind (g := fun _ => bitmap_Or.f l0 l1) (ev_some (or_f l0 l1 (by omega))) ?_
  by_cases hl : l0.length = l1.length
  · simp only [if_pos hl, if_pos (show (l0.length : Int) = (l1.length : Int) by omega)]
    exact rules_end l0 l1 _ _ (by omega) hl rfl rfl l0 l1 0 rfl rfl
  · simp only [if_neg hl, if_neg (show ¬ (l0.length : Int) = (l1.length : Int) by omega), List.length_nil, if_pos (show ((0 : Nat) : Int) = 0 from rfl)]
    exact Ev.now _
end Go.Proofs.Ytdohphiicmdilaa.Pure
