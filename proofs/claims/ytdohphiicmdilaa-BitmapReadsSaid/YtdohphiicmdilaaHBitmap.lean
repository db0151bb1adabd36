/- Plain laws of bitmaps: counts, both, packed bytes. -/
import Derived.Test.YtdohphiicmdilaaHBits
import Derived.Test.YtdohphiicmdilaaPx10
import Derived.Test.YtdohphiicmdilaaPx5
import Derived.Test.YtdohphiicmdilaaPx9
import Derived.Test.YtdohphiicmdilaaPx15
set_option linter.unusedVariables false
set_option linter.unusedSimpArgs false
namespace Go.Proofs.Ytdohphiicmdilaa.HP
open Go.RowKit Go.Proofs.Ytdohphiicmdilaa.P Go.Proofs.YtdohphiicmdilaaW.PrintWords Go.Proofs.YtdohphiicmdilaaW.PrintLast Go.Proofs.YtdohphiicmdilaaW.PrintMore

theorem awake4 : Ev (fun k => hopperlaw04_awake.f k) true := Ev.of (fun k => hopperlaw04_awake.mono k) (k := 20) (by decide +kernel)
theorem same4l (l : List Bool) (hl : l.length ≤ 100000) : ∀ (t : List Bool) (i : Nat), l.drop i = t → Ev (fun k => hopperref04_Same.l0 k l l (i : Int)) true := by
  intro t
  induction t with
  | nil =>
    intro i h
    have := drop_nil h
    refine Ev.step (fun k => by rw [hopperref04_Same.l0]) ?_
    simp only [if_neg (show ¬ (i : Int) < (l.length : Int) by omega)]
    exact Ev.now _
  | cons a t ih =>
    intro i h
    have hlt := drop_lt h
    refine Ev.step (fun k => by rw [hopperref04_Same.l0]) ?_
    simp only [if_pos (show (i : Int) < (l.length : Int) by omega), if_pos (show 0 ≤ (i : Int) by omega), wr1 i (by omega), bne_self_eq_false, Bool.false_eq_true, if_false]
    exact ih (i + 1) (drop_tl h)
theorem same4 (l : List Bool) (hl : l.length ≤ 100000) : Ev (fun k => hopperref04_Same.f k l l) true := by
  have := same4l l hl l 0 rfl
  unfold hopperref04_Same.f
  simpa using this

/-- How many are so. -/
abbrev cnt (l : List Bool) : Int := bitmap_Rank.n l
theorem cnt_nil : cnt [] = 0 := rfl
theorem cnt_cons (b : Bool) (l : List Bool) : cnt (b :: l) = (if b = true then 1 else 0) + cnt l := by
  unfold cnt bitmap_Rank.n
  cases b <;> simp <;> omega
theorem cnt_bd (l : List Bool) : 0 ≤ cnt l ∧ cnt l ≤ l.length := bitmap_Rank.n_bd l
theorem rank_f (l : List Bool) (i : Int) : bitmap_Rank.f l i = some (cnt (l.take i.toNat)) := by
  unfold bitmap_Rank.f
  congr 2
  by_cases h : i.toNat ≤ l.length
  · have : (mn (mx i 0) (l.length : Int)).toNat = i.toNat := by unfold mn mx; split <;> split <;> omega
    rw [this]
  · rw [List.take_of_length_le (show l.length ≤ i.toNat by omega)]
    have : (mn (mx i 0) (l.length : Int)).toNat = l.length := by unfold mn mx; split <;> split <;> omega
    rw [this, List.take_length]
theorem rank_nat (l : List Bool) (i : Nat) : bitmap_Rank.f l (i : Int) = some (cnt (l.take i)) := by rw [rank_f]; rfl
theorem count_f (l : List Bool) : bitmap_Count.f l = some (cnt l) := by
  unfold bitmap_Count.f
  rw [rank_nat, List.take_length]
  rfl
theorem not_f (l : List Bool) (hl : l.length ≤ 100000) : bitmap_Not.f l = some (l.map (fun b => !b)) := by
  unfold bitmap_Not.f
  rw [if_pos (by omega)]
  congr 1
  unfold bitmap_Not.z
  induction l with
  | nil => rfl
  | cons b t ih => simp only [List.zipWith_cons_cons, List.map_cons, ih (by simp at hl; omega)]
theorem and_f (a b : List Bool) (hl : a.length ≤ 100000) : bitmap_And.f a b = some (if a.length = b.length then List.zipWith (fun a b => a && b) a b else []) := by
  unfold bitmap_And.f
  rw [if_pos (by omega)]
  rfl
theorem or_f (a b : List Bool) (hl : a.length ≤ 100000) : bitmap_Or.f a b = some (if a.length = b.length then List.zipWith (fun a b => a || b) a b else []) := by
  unfold bitmap_Or.f
  rw [if_pos (by omega)]
  rfl
theorem and_self_l (l : List Bool) : List.zipWith (fun a b => a && b) l l = l := by
  induction l with
  | nil => rfl
  | cons b t ih => simp only [List.zipWith_cons_cons, ih, Bool.and_self]
theorem ev_some {α : Type} {x : Option α} {r : α} (h : x = some r) : Ev (fun _ => x) r := by rw [h]; exact Ev.now r
theorem cnt_not (l : List Bool) : cnt (l.map (fun b => !b)) = l.length - cnt l := by
  induction l with
  | nil => rfl
  | cons b t ih => rw [List.map_cons, cnt_cons, cnt_cons, ih]; cases b <;> simp <;> omega
theorem cnt_two (a : List Bool) : ∀ b, a.length = b.length → cnt (List.zipWith (fun a b => a && b) a b) + cnt (List.zipWith (fun a b => a || b) a b) = cnt a + cnt b := by
  induction a with
  | nil => intro b h; cases b with
    | nil => rfl
    | cons _ _ => simp at h
  | cons x a ih =>
    intro b h
    cases b with
    | nil => simp at h
    | cons y b =>
      have := ih b (by simpa using h)
      simp only [List.zipWith_cons_cons, cnt_cons]
      cases x <;> cases y <;> simp <;> omega
theorem not_and (a : List Bool) : ∀ b : List Bool, (List.zipWith (fun a b => a && b) a b).map (fun b => !b) = List.zipWith (fun a b => a || b) (a.map (fun b => !b)) (b.map (fun b => !b)) := by
  induction a with
  | nil => intro b; simp
  | cons x a ih =>
    intro b
    cases b with
    | nil => simp
    | cons y b => simp only [List.zipWith_cons_cons, List.map_cons, ih b, Bool.not_and]
theorem not_not_l (a : List Bool) : (a.map (fun b => !b)).map (fun b => !b) = a := by
  rw [List.map_map]
  induction a with
  | nil => rfl
  | cons x a ih => simp only [List.map_cons, ih, Function.comp, Bool.not_not]
end Go.Proofs.Ytdohphiicmdilaa.HP
