/- PickRules, the plain law: And, Or and Not of picks are those of their bitmaps. -/
import Derived.Test.YtdohphiicmdilaaHPick
import Derived.Test.YtdohphiicmdilaaPx8
set_option linter.unusedVariables false
set_option linter.unusedSimpArgs false
namespace Go.Proofs.Ytdohphiicmdilaa.Pure
open Go.RowKit Go.Proofs.Ytdohphiicmdilaa.P Go.Proofs.Ytdohphiicmdilaa.HP Go.Proofs.YtdohphiicmdilaaW.PrintWords Go.Proofs.YtdohphiicmdilaaW.PrintLast Go.Proofs.YtdohphiicmdilaaW.PrintMore

theorem z_nil (a : List Int) : pick_And.z a [] = [] := by cases a <;> simp [pick_And.z, pick_And.zi]
theorem zi_gt (x : Int) (A B : List Int) (h : ∀ y ∈ B, x < y) : pick_And.zi x (pick_And.z A) B = pick_And.z A B := by
  cases B with
  | nil => rw [z_nil]; simp [pick_And.zi]
  | cons y B => simp only [pick_And.zi, if_pos (h y List.mem_cons_self)]
theorem z_lt (o : Int) (A B : List Int) (h : ∀ y ∈ A, o < y) : pick_And.z A (o :: B) = pick_And.z A B := by
  cases A with
  | nil => simp [pick_And.z]
  | cons x A =>
    have := h x List.mem_cons_self
    simp only [pick_And.z, pick_And.zi, if_neg (show ¬ x < o by omega), if_neg (show ¬ o = x by omega)]
theorem and_pl (a : List Bool) : ∀ (b : List Bool) (o : Nat), a.length = b.length → pick_And.z (plf o a) (plf o b) = plf o (List.zipWith (fun x y => x && y) a b) := by
  induction a with
  | nil => intro b o h; simp [plf, pick_And.z]
  | cons x a ih =>
    intro b o h
    cases b with
    | nil => simp at h
    | cons y b =>
      have hl : a.length = b.length := by simpa using h
      have hA : ∀ q ∈ plf (o + 1) a, (o : Int) < q := fun q hq => by have := plf_mem a (o + 1) q hq; omega
      have hB : ∀ q ∈ plf (o + 1) b, (o : Int) < q := fun q hq => by have := plf_mem b (o + 1) q hq; omega
      have hi := ih b (o + 1) hl
      cases x <;> cases y <;> simp only [plf, List.zipWith_cons_cons, Bool.and_true, Bool.and_false, Bool.false_and, Bool.true_and, Bool.false_eq_true, if_true, if_false]
      · exact hi
      · rw [z_lt _ _ _ hA]; exact hi
      · rw [pick_And.z, zi_gt _ _ _ hB]; exact hi
      · rw [pick_And.z, pick_And.zi, if_neg (by omega), if_pos rfl, zi_gt _ _ _ hB, hi]

def orL : List Int → List Int → List Int
  | [], b => b
  | x :: a, [] => x :: a
  | x :: a, y :: b => if x < y then x :: orL a (y :: b) else if y < x then y :: orL (x :: a) b else x :: orL a b
termination_by a b => a.length + b.length
theorem orL_nil (a : List Int) : orL a [] = a := by cases a <;> simp [orL]
theorem or_gt (x : Int) (A B : List Int) (h : ∀ y ∈ B, x < y) : orL (x :: A) B = x :: orL A B := by
  cases B with
  | nil => simp [orL, orL_nil]
  | cons y B => rw [orL, if_pos (h y List.mem_cons_self)]
theorem or_lt (o : Int) (A B : List Int) (h : ∀ y ∈ A, o < y) : orL A (o :: B) = o :: orL A B := by
  cases A with
  | nil => simp [orL]
  | cons x A =>
    have := h x List.mem_cons_self
    rw [orL, if_neg (by omega), if_pos this]
theorem or_pl (a : List Bool) : ∀ (b : List Bool) (o : Nat), a.length = b.length → orL (plf o a) (plf o b) = plf o (List.zipWith (fun x y => x || y) a b) := by
  induction a with
  | nil =>
    intro b o h
    cases b with
    | nil => simp [plf, orL]
    | cons y b => simp at h
  | cons x a ih =>
    intro b o h
    cases b with
    | nil => simp at h
    | cons y b =>
      have hl : a.length = b.length := by simpa using h
      have hA : ∀ q ∈ plf (o + 1) a, (o : Int) < q := fun q hq => by have := plf_mem a (o + 1) q hq; omega
      have hB : ∀ q ∈ plf (o + 1) b, (o : Int) < q := fun q hq => by have := plf_mem b (o + 1) q hq; omega
      have hi := ih b (o + 1) hl
      cases x <;> cases y <;> simp only [plf, List.zipWith_cons_cons, Bool.or_true, Bool.or_false, Bool.false_or, Bool.true_or, Bool.false_eq_true, if_true, if_false]
      · exact hi
      · rw [or_lt _ _ _ hA, hi]
      · rw [or_gt _ _ _ hB, hi]
      · rw [orL, if_neg (by omega), if_neg (by omega), hi]

theorem rd0 (x : Int) (l : List Int) : rd (x :: l) 0 = x := by unfold rd; simp
theorem or_l : ∀ (n : Nat) (a b acc : List Int), a.length + b.length = n → acc.length + n ≤ 100000 → Ev (fun k => pick_Or.l0 k a b acc) (acc ++ orL a b) := by
  intro n
  induction n using Nat.strongRecOn with
  | _ n ih =>
    intro a b acc hn hb
    refine Ev.step (fun k => by rw [pick_Or.l0]) ?_
    cases a with
    | nil =>
      simp only [List.length_nil, if_neg (show ¬ ((0 : Nat) : Int) > 0 by omega)]
      cases b with
      | nil =>
        simp only [List.length_nil, decide_eq_false (show ¬ ((0 : Nat) : Int) > 0 by omega)]
        refine Ev.step (fun k => by rw [pick_Or.j1]) ?_
        simp only [Bool.false_eq_true, if_false, orL, List.append_nil]
        exact Ev.now _
      | cons y b =>
        have hl : ((y :: b).length : Int) > 0 := by simp <;> omega
        simp only [decide_eq_true hl]
        refine Ev.step (fun k => by rw [pick_Or.j1]) ?_
        simp only [if_true, if_neg (show ¬ ((y :: b).length : Int) = 0 by simp <;> omega), List.length_nil, if_neg (show ¬ ((0 : Nat) : Int) > 0 by omega)]
        refine Ev.step (fun k => by rw [pick_Or.j2]) ?_
        simp only [Bool.false_eq_true, if_false, List.length_nil, Int.ofNat_zero, if_pos (show ((0 : Nat) : Int) = 0 from rfl), if_pos (show 0 < ((y :: b).length : Int) by omega), if_pos (show acc.length < 17592186044416 by omega), if_pos (show 1 ≤ ((y :: b).length : Int) by omega), List.drop_succ_cons, List.drop_zero, rd0]
        have := ih b.length (by simp at hn; omega) [] b (acc ++ [y]) (by simp) (by simp at hn ⊢; omega)
        simpa [orL] using this
    | cons x a =>
      have hla : ((x :: a).length : Int) > 0 := by simp <;> omega
      simp only [if_pos hla]
      refine Ev.step (fun k => by rw [pick_Or.j1]) ?_
      cases b with
      | nil =>
        simp only [if_true, List.length_nil, if_pos (show ((0 : Nat) : Int) = 0 from rfl)]
        refine Ev.step (fun k => by rw [pick_Or.j2]) ?_
        simp only [if_true, if_pos (show 0 < ((x :: a).length : Int) by omega), if_pos (show acc.length < 17592186044416 by omega), if_pos (show 1 ≤ ((x :: a).length : Int) by omega), List.drop_succ_cons, List.drop_zero, rd0]
        have := ih a.length (by simp at hn; omega) a [] (acc ++ [x]) (by simp) (by simp at hn ⊢; omega)
        simpa [orL, orL_nil] using this
      | cons y b =>
        have hlb : ((y :: b).length : Int) > 0 := by simp <;> omega
        simp only [if_true, if_neg (show ¬ ((y :: b).length : Int) = 0 by omega), if_pos hla, if_pos (show 0 < ((x :: a).length : Int) by omega), if_pos (show 0 < ((y :: b).length : Int) by omega), rd0]
        refine Ev.step (fun k => by rw [pick_Or.j2]) ?_
        by_cases hxy : x < y
        · simp only [decide_eq_true_eq, if_pos hxy, if_pos (show 0 < ((x :: a).length : Int) by omega), if_pos (show acc.length < 17592186044416 by omega), if_pos (show 1 ≤ ((x :: a).length : Int) by omega), List.drop_succ_cons, List.drop_zero, rd0]
          have := ih (a.length + (y :: b).length) (by simp at hn ⊢; omega) a (y :: b) (acc ++ [x]) rfl (by simp at hn ⊢; omega)
          rw [orL, if_pos hxy]
          simpa using this
        · simp only [decide_eq_true_eq, if_neg hxy, if_neg (show ¬ ((x :: a).length : Int) = 0 by omega), if_pos (show 0 < ((y :: b).length : Int) by omega), if_pos (show 0 < ((x :: a).length : Int) by omega), rd0, if_pos (show acc.length < 17592186044416 by omega), if_pos (show 1 ≤ ((x :: a).length : Int) by omega), if_pos (show 1 ≤ ((y :: b).length : Int) by omega), List.drop_succ_cons, List.drop_zero]
          by_cases hyx : y < x
          · simp only [if_pos hyx]
            have := ih ((x :: a).length + b.length) (by simp at hn ⊢; omega) (x :: a) b (acc ++ [y]) rfl (by simp at hn ⊢; omega)
            rw [orL, if_neg hxy, if_pos hyx]
            simpa using this
          · simp only [if_neg hyx]
            have := ih (a.length + b.length) (by simp at hn ⊢; omega) a b (acc ++ [x]) rfl (by simp at hn ⊢; omega)
            rw [orL, if_neg hxy, if_neg hyx]
            simpa using this
theorem not_l (a : List Bool) (ha : a.length ≤ 100000) : ∀ (t : List Bool) (i : Nat) (acc : List Int), a.drop i = t → i ≤ a.length → acc.length ≤ i →
    Ev (fun k => pick_Not.l0 k (plf i t) acc (a.length : Int) (i : Int)) (acc ++ plf i (t.map (fun b => !b))) := by
  intro t
  induction t with
  | nil =>
    intro i acc h hi hc
    have := drop_nil h
    refine Ev.step (fun k => by rw [pick_Not.l0]) ?_
    simp only [if_neg (show ¬ (i : Int) < (a.length : Int) by omega)]
    simp only [List.map_nil, plf, List.append_nil]
    exact Ev.now _
  | cons b t ih =>
    intro i acc h hi hc
    have hlt := drop_lt h
    refine Ev.step (fun k => by rw [pick_Not.l0]) ?_
    simp only [if_pos (show (i : Int) < (a.length : Int) by omega), wr1 i (by omega), if_pos (show acc.length < 17592186044416 by omega)]
    cases b with
    | true =>
      have hl : ((plf i (true :: t)).length : Int) > 0 := by simp [plf] <;> omega
      have e : plf i (true :: t) = (i : Int) :: plf (i + 1) t := by simp [plf]
      simp only [if_pos hl, if_pos (show 0 < ((plf i (true :: t)).length : Int) by omega), if_pos (show 1 ≤ ((plf i (true :: t)).length : Int) by omega), e, rd0, if_true, List.drop_succ_cons, List.drop_zero]
      simp only [if_pos (show (((i : Int) :: plf (i + 1) t).length : Int) > 0 by simp <;> omega), if_pos (show 0 < (((i : Int) :: plf (i + 1) t).length : Int) by simp <;> omega), if_pos (show 1 ≤ (((i : Int) :: plf (i + 1) t).length : Int) by simp <;> omega)]
      have := ih (i + 1) acc (drop_tl h) (by omega) (by omega)
      simpa [plf] using this
    | false =>
      have e : plf i (false :: t) = plf (i + 1) t := by simp [plf]
      have hn : ∀ q ∈ plf (i + 1) t, (i : Int) < q := fun q hq => by have := plf_mem t (i + 1) q hq; omega
      have hg := ih (i + 1) (acc ++ [(i : Int)]) (drop_tl h) (by omega) (by simp <;> omega)
      rw [e]
      have e2 : acc ++ plf i ((false :: t).map (fun b => !b)) = (acc ++ [(i : Int)]) ++ plf (i + 1) (t.map (fun b => !b)) := by simp [plf]
      rw [e2]
      cases hp : plf (i + 1) t with
      | nil =>
        rw [hp] at hg
        simp only [List.length_nil, if_neg (show ¬ ((0 : Nat) : Int) > 0 by omega)]
        exact hg
      | cons q r =>
        rw [hp] at hg hn
        have hq := hn q List.mem_cons_self
        simp only [if_pos (show ((q :: r).length : Int) > 0 by simp <;> omega), if_pos (show 0 < ((q :: r).length : Int) by simp <;> omega), rd0, if_neg (show ¬ q = (i : Int) by omega)]
        exact hg
theorem rules_l (a b : List Bool) (ha : a.length ≤ 500) (hab : a.length = b.length) : ∀ (ta tb : List Bool) (i : Nat) (x5 x6 x7 : List Bool), a.drop i = ta → b.drop i = tb → i ≤ a.length → x5.length ≤ i → x6.length ≤ i → x7.length ≤ i →
    x5 ++ List.zipWith (fun x y => x && y) ta tb = List.zipWith (fun x y => x && y) a b → x6 ++ List.zipWith (fun x y => x || y) ta tb = List.zipWith (fun x y => x || y) a b → x7 ++ ta.map (fun x => !x) = a.map (fun x => !x) →
    Ev (fun k => hopperlaw05_PickRules.l0 k a b x5 x6 x7 (i : Int)) true := by
  intro ta
  induction ta with
  | nil =>
    intro tb i x5 x6 x7 h1 h2 hi h5 h6 h7 e5 e6 e7
    have := drop_nil h1
    obtain rfl : tb = [] := by rw [← h2]; exact List.drop_eq_nil_of_le (by omega)
    refine Ev.step (fun k => by rw [hopperlaw05_PickRules.l0]) ?_
    simp only [if_neg (show ¬ (i : Int) < (a.length : Int) by omega)]
    simp only [List.zipWith_nil_left, List.map_nil, List.append_nil] at e5 e6 e7
    have la : (pl a).length ≤ a.length := plf_len a 0
    have lb : (pl b).length ≤ b.length := plf_len b 0
    refine (places_f a (by omega)).bind ?_
    refine (places_f b (by omega)).bind ?_
    have ea : pick_And.f (pl a) (pl b) = some (pl x5) := by
      unfold pick_And.f
      rw [if_pos (by omega), e5]
      exact congrArg some (and_pl a b 0 hab)
    refine Ev.bind (g := fun _ => pick_And.f (pl a) (pl b)) (by rw [ea]; exact Ev.now _) ?_
    refine (places_f x5 (by omega)).bind ?_
    have l5 : (pl x5).length ≤ x5.length := plf_len x5 0
    refine (ints_f (pl x5) (by omega)).bind ?_
    simp only [if_true]
    have eo := or_l ((pl a).length + (pl b).length) (pl a) (pl b) [] rfl (by simp <;> omega)
    rw [List.nil_append, show orL (pl a) (pl b) = pl x6 from by rw [e6]; exact or_pl a b 0 hab] at eo
    refine Ev.bind (g := fun k => pick_Or.f k (pl a) (pl b)) eo ?_
    refine (places_f x6 (by omega)).bind ?_
    have l6 : (pl x6).length ≤ x6.length := plf_len x6 0
    refine (ints_f (pl x6) (by omega)).bind ?_
    simp only [if_true]
    have en := not_l a (by omega) a 0 [] rfl (by omega) (by simp)
    rw [List.nil_append] at en
    refine Ev.bind (g := fun k => pick_Not.f k (pl a) (a.length : Int)) en ?_
    refine (places_f x7 (by omega)).bind ?_
    have l7 : (pl x7).length ≤ x7.length := plf_len x7 0
    rw [show plf 0 (a.map (fun x => !x)) = pl x7 from by rw [e7]; rfl]
    exact (ints_f (pl x7) (by omega)).bind (Ev.now _)
  | cons x ta ih =>
    intro tb i x5 x6 x7 h1 h2 hi h5 h6 h7 e5 e6 e7
    have hlt := drop_lt h1
    cases tb with
    | nil => have := drop_nil h2; omega
    | cons y tb =>
      refine Ev.step (fun k => by rw [hopperlaw05_PickRules.l0]) ?_
      simp only [if_pos (show (i : Int) < (a.length : Int) by omega), if_pos (show 0 ≤ (i : Int) by omega), drop_rdOf false h1, drop_rdOf false h2, wr1 i (by omega), if_pos (show (i : Int) < (b.length : Int) by omega), if_pos (show x5.length < 140737488355328 by omega), if_pos (show x6.length < 140737488355328 by omega), if_pos (show x7.length < 140737488355328 by omega)]
      have hg := ih tb (i + 1) (x5 ++ [x && y]) (x6 ++ [x || y]) (x7 ++ [!x]) (drop_tl h1) (drop_tl h2) (by omega) (by simp <;> omega) (by simp <;> omega) (by simp <;> omega) (by simpa using e5) (by simpa using e6) (by simpa using e7)
      cases x with
      | true => simp only [if_true]; simpa using hg
      | false => simp only [Bool.false_eq_true, if_false]; simpa using hg

theorem PickRules (l0 : List Bool) (l1 : List Bool) (_ : l0.length ≤ 140737488351232) (_ : l1.length ≤ 140737488351232) : ∃ k, hopperlaw05_PickRules.f k l0 l1 = some true := by
  have hend : Ev (fun k => hopperlaw05_PickRules.j0 k l0 l1 true) true := by
    refine Ev.step (fun k => by rw [hopperlaw05_PickRules.j0]) ?_
    simp only [if_true]
    exact awake5.bind (Ev.now _)
  apply Ev.rounds
  unfold hopperlaw05_PickRules.f
  refine awake5.bind ?_
  simp only [if_true]
  by_cases h5 : (l0.length : Int) > 500
  · simp only [if_pos h5]
    exact hend
  simp only [if_neg h5]
  by_cases hl : (l1.length : Int) = (l0.length : Int)
  case neg => rw [show ((l1.length : Int) != (l0.length : Int)) = true from by simpa using hl]; exact hend
  rw [show ((l1.length : Int) != (l0.length : Int)) = false from by simpa using hl]
  refine Ev.step (fun k => by rw [hopperlaw05_PickRules.j0]) ?_
  simp only [Bool.false_eq_true, if_false]
  exact rules_l l0 l1 (by omega) (by omega) l0 l1 0 [] [] [] rfl rfl (by omega) (by simp) (by simp) (by simp) rfl rfl rfl
end Go.Proofs.Ytdohphiicmdilaa.Pure
