/- What the functions of pick answer, without memory: eventually, in enough rounds. -/
import Derived.Test.YtdohphiicmdilaaHP
import Derived.Test.YtdohphiicmdilaaPx3
import Derived.Test.YtdohphiicmdilaaPx5
import Derived.Test.YtdohphiicmdilaaPx2
import Derived.Test.YtdohphiicmdilaaPx1
set_option linter.unusedVariables false
set_option linter.unusedSimpArgs false
namespace Go.Proofs.Ytdohphiicmdilaa.HP
open Go.RowKit Go.Proofs.Ytdohphiicmdilaa.P Go.Proofs.YtdohphiicmdilaaW.PrintWords Go.Proofs.YtdohphiicmdilaaW.PrintLast Go.Proofs.YtdohphiicmdilaaW.PrintMore

theorem awake5 : Ev (fun k => hopperlaw05_awake.f k) true := Ev.of (fun k => hopperlaw05_awake.mono k) (k := 20) (by decide +kernel)

theorem places_l (l : List Bool) (hl : l.length ≤ 100000) : ∀ (t : List Bool) (i : Nat) (acc : List Int), l.drop i = t → i ≤ l.length → acc.length ≤ i →
    Ev (fun k => hopperlaw05_places.l0 k l acc (i : Int)) (acc ++ plf i t) := by
  intro t
  induction t with
  | nil =>
    intro i acc h hi ha
    have := drop_nil h
    refine Ev.step (fun k => by rw [hopperlaw05_places.l0]) ?_
    simp only [if_neg (show ¬ (i : Int) < (l.length : Int) by omega)]
    simp only [plf, List.append_nil]
    exact Ev.now _
  | cons b t ih =>
    intro i acc h hi ha
    have hlt := drop_lt h
    refine Ev.step (fun k => by rw [hopperlaw05_places.l0]) ?_
    simp only [if_pos (show (i : Int) < (l.length : Int) by omega), if_pos (show 0 ≤ (i : Int) by omega), drop_rdOf false h, wr1 i (by omega), if_pos (show acc.length < 17592186044416 by omega)]
    cases b with
    | true =>
      simp only [if_true]
      have := ih (i + 1) (acc ++ [(i : Int)]) (drop_tl h) (by omega) (by simp; omega)
      simpa [plf] using this
    | false =>
      simp only [Bool.false_eq_true, if_false]
      have := ih (i + 1) acc (drop_tl h) (by omega) (by omega)
      simpa [plf] using this
theorem places_f (l : List Bool) (hl : l.length ≤ 100000) : Ev (fun k => hopperlaw05_places.f k l) (pl l) := by
  have : Ev (fun k => hopperlaw05_places.l0 k l [] 0) (pl l) := by simpa [pl] using places_l l hl l 0 [] rfl (by omega) (by simp)
  exact this

theorem of_l (l : List Bool) (hl : l.length ≤ 100000) : ∀ (t : List Bool) (i : Nat) (acc : List Int), l.drop i = t → i ≤ l.length → acc.length ≤ i →
    Ev (fun k => pick_Of.l0 k acc l (l.length : Int) (i : Int)) (acc ++ plf i t) := by
  intro t
  induction t with
  | nil =>
    intro i acc h hi ha
    have := drop_nil h
    refine Ev.step (fun k => by rw [pick_Of.l0]) ?_
    simp only [if_neg (show ¬ (i : Int) < (l.length : Int) by omega)]
    simp only [plf, List.append_nil]
    exact Ev.now _
  | cons b t ih =>
    intro i acc h hi ha
    have hlt := drop_lt h
    refine Ev.step (fun k => by rw [pick_Of.l0]) ?_
    simp only [if_pos (show (i : Int) < (l.length : Int) by omega), if_pos (show 0 ≤ (i : Int) by omega), drop_rdOf false h, wr1 i (by omega), if_pos (show acc.length < 17592186044416 by omega)]
    cases b with
    | true =>
      simp only [if_true]
      have := ih (i + 1) (acc ++ [(i : Int)]) (drop_tl h) (by omega) (by simp; omega)
      simpa [plf] using this
    | false =>
      simp only [Bool.false_eq_true, if_false]
      have := ih (i + 1) acc (drop_tl h) (by omega) (by omega)
      simpa [plf] using this
theorem of_f (l : List Bool) (hl : l.length ≤ 100000) : Ev (fun k => pick_Of.f k l) (pl l) := by
  have : Ev (fun k => pick_Of.l0 k [] l (l.length : Int) 0) (pl l) := by simpa [pl] using of_l l hl l 0 [] rfl (by omega) (by simp)
  exact this

theorem right_l (n : Int) (l : List Int) (hl : l.length ≤ 100000) : ∀ (t : List Int) (i : Nat) (last : Int), l.drop i = t → (∀ a ∈ t, last < a ∧ a < n) → t.Pairwise (· < ·) →
    Ev (fun k => pick_Right.l0 k n last l (l.length : Int) (i : Int)) true := by
  intro t
  induction t with
  | nil =>
    intro i last h _ _
    have := drop_nil h
    refine Ev.step (fun k => by rw [pick_Right.l0]) ?_
    simp only [if_neg (show ¬ (i : Int) < (l.length : Int) by omega)]
    exact Ev.now _
  | cons a t ih =>
    intro i last h hb hp
    have hlt := drop_lt h
    have hba := hb a List.mem_cons_self
    refine Ev.step (fun k => by rw [pick_Right.l0]) ?_
    simp only [if_pos (show (i : Int) < (l.length : Int) by omega), if_pos (show 0 ≤ (i : Int) by omega), drop_rd h, wr1 i (by omega), if_neg (show ¬ a ≤ last by omega), if_neg (show ¬ a ≥ n by omega)]
    exact ih (i + 1) a (drop_tl h) (fun b hb2 => ⟨(List.pairwise_cons.1 hp).1 b hb2, (hb b (List.mem_cons_of_mem _ hb2)).2⟩) (List.pairwise_cons.1 hp).2
theorem right_f (n : Int) (l : List Int) (hl : l.length ≤ 100000) (hb : ∀ a ∈ l, -1 < a ∧ a < n) (hp : l.Pairwise (· < ·)) : Ev (fun k => pick_Right.f k l n) true :=
  right_l n l hl l 0 (-1) rfl hb hp

theorem through_l (x l : List Int) (hl : l.length ≤ 100000) : ∀ (t : List Int) (i : Nat) (acc : List Int), l.drop i = t → acc.length ≤ i → (∀ a ∈ t, 0 ≤ a ∧ a < x.length) →
    Ev (fun k => pick_Through.l0 k x acc l (l.length : Int) (i : Int)) (acc ++ t.map (rd x)) := by
  intro t
  induction t with
  | nil =>
    intro i acc h _ _
    have := drop_nil h
    refine Ev.step (fun k => by rw [pick_Through.l0]) ?_
    simp only [if_neg (show ¬ (i : Int) < (l.length : Int) by omega)]
    simp only [List.map_nil, List.append_nil]
    exact Ev.now _
  | cons a t ih =>
    intro i acc h ha hb
    have hlt := drop_lt h
    have hba := hb a List.mem_cons_self
    refine Ev.step (fun k => by rw [pick_Through.l0]) ?_
    simp only [if_pos (show (i : Int) < (l.length : Int) by omega), if_pos (show 0 ≤ (i : Int) by omega), drop_rd h, wr1 i (by omega), if_pos hba.1, if_pos hba.2, if_pos (show acc.length < 17592186044416 by omega)]
    have := ih (i + 1) (acc ++ [rd x a]) (drop_tl h) (by simp; omega) (fun b hb2 => hb b (List.mem_cons_of_mem _ hb2))
    simpa using this
theorem through_f (x l : List Int) (hl : l.length ≤ 100000) (hb : ∀ a ∈ l, 0 ≤ a ∧ a < x.length) : Ev (fun k => pick_Through.f k x l) (l.map (rd x)) := by
  have : Ev (fun k => pick_Through.l0 k x [] l (l.length : Int) 0) (l.map (rd x)) := by simpa using through_l x l hl l 0 [] rfl (by simp) hb
  exact this

theorem ints_l (l : List Int) (hl : l.length ≤ 100000) : ∀ (t : List Int) (i : Nat), l.drop i = t → Ev (fun k => hopperref03_Ints.l0 k l l (i : Int)) true := by
  intro t
  induction t with
  | nil =>
    intro i h
    have := drop_nil h
    refine Ev.step (fun k => by rw [hopperref03_Ints.l0]) ?_
    simp only [if_neg (show ¬ (i : Int) < (l.length : Int) by omega)]
    exact Ev.now _
  | cons a t ih =>
    intro i h
    have hlt := drop_lt h
    refine Ev.step (fun k => by rw [hopperref03_Ints.l0]) ?_
    simp only [if_pos (show (i : Int) < (l.length : Int) by omega), if_pos (show 0 ≤ (i : Int) by omega), wr1 i (by omega), if_true]
    exact ih (i + 1) (drop_tl h)
theorem ints_f (l : List Int) (hl : l.length ≤ 100000) : Ev (fun k => hopperref03_Ints.f k l l) true := by
  have := ints_l l hl l 0 rfl
  unfold hopperref03_Ints.f
  simpa using this

theorem same4_l (l : List Bool) (hl : l.length ≤ 100000) : ∀ (t : List Bool) (i : Nat), l.drop i = t → Ev (fun k => hopperref04_Same.l0 k l l (i : Int)) true := by
  intro t
  induction t with
  | nil =>
    intro i h
    have := drop_nil h
    refine Ev.step (fun k => by rw [hopperref04_Same.l0]) ?_
    simp only [if_neg (show ¬ (i : Int) < (l.length : Int) by omega)]
    exact Ev.now _
  | cons a t ih =>
    intro i h
    have hlt := drop_lt h
    refine Ev.step (fun k => by rw [hopperref04_Same.l0]) ?_
    simp only [if_pos (show (i : Int) < (l.length : Int) by omega), if_pos (show 0 ≤ (i : Int) by omega), wr1 i (by omega), bne_self_eq_false, Bool.false_eq_true, if_false]
    exact ih (i + 1) (drop_tl h)
theorem same4_f (l : List Bool) (hl : l.length ≤ 100000) : Ev (fun k => hopperref04_Same.f k l l) true := by
  have := same4_l l hl l 0 rfl
  unfold hopperref04_Same.f
  simpa using this

theorem not_nil_l (n : Nat) (hn : n ≤ 100000) : ∀ (d i : Nat) (acc : List Int), i + d = n → acc.length ≤ i →
    Ev (fun k => pick_Not.l0 k ([] : List Int) acc (n : Int) (i : Int)) (acc ++ (List.range' i d).map (fun j : Nat => (j : Int))) := by
  intro d
  induction d with
  | zero =>
    intro i acc h ha
    refine Ev.step (fun k => by rw [pick_Not.l0]) ?_
    simp only [if_neg (show ¬ (i : Int) < (n : Int) by omega)]
    simp only [List.range'_zero, List.map_nil, List.append_nil]
    exact Ev.now _
  | succ d ih =>
    intro i acc h ha
    refine Ev.step (fun k => by rw [pick_Not.l0]) ?_
    simp only [if_pos (show (i : Int) < (n : Int) by omega), List.length_nil, if_neg (show ¬ ((0 : Nat) : Int) > 0 by omega), wr1 i (by omega), if_pos (show acc.length < 17592186044416 by omega)]
    have := ih (i + 1) (acc ++ [(i : Int)]) (by omega) (by simp; omega)
    simpa [List.range'_succ] using this
theorem not_nil_f (n : Nat) (hn : n ≤ 100000) : Ev (fun k => pick_Not.f k ([] : List Int) (n : Int)) (iota n) := by
  have : Ev (fun k => pick_Not.l0 k ([] : List Int) [] (n : Int) 0) (iota n) := by simpa [iota, List.range_eq_range'] using not_nil_l n hn n 0 [] (by omega) (by simp)
  exact this
end Go.Proofs.Ytdohphiicmdilaa.HP
