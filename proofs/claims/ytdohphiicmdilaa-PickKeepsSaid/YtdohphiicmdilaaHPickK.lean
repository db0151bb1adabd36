/- pick.Or, plain. -/
import Derived.Test.YtdohphiicmdilaaHPick
import Derived.Test.YtdohphiicmdilaaPx7
import Derived.Test.YtdohphiicmdilaaPx6
set_option linter.unusedVariables false
set_option linter.unusedSimpArgs false
namespace Go.Proofs.Ytdohphiicmdilaa.HP
open Go.RowKit Go.Proofs.Ytdohphiicmdilaa.P Go.Proofs.YtdohphiicmdilaaW.PrintWords Go.Proofs.YtdohphiicmdilaaW.PrintLast Go.Proofs.YtdohphiicmdilaaW.PrintMore
def orL : List Int → List Int → List Int
  | [], b => b
  | x :: a, [] => x :: a
  | x :: a, y :: b => if x < y then x :: orL a (y :: b) else if y < x then y :: orL (x :: a) b else x :: orL a b
termination_by a b => a.length + b.length
theorem orL_nil (a : List Int) : orL a [] = a := by cases a <;> simp [orL]
theorem rd0 (x : Int) (l : List Int) : rd (x :: l) 0 = x := by unfold rd; simp
theorem or_l : ∀ (n : Nat) (a b acc : List Int), a.length + b.length = n → acc.length + n ≤ 100000 → Ev (fun k => pick_Or.l0 k a b acc) (acc ++ orL a b) := by
  intro n
  induction n using Nat.strongRecOn with
  | _ n ih =>
    intro a b acc hn hb
    refine Ev.step (fun k => by rw [pick_Or.l0]) ?_
    cases a with
    | nil =>
      simp only [List.length_nil, if_neg (show ¬ ((0 : Nat) : Int) > 0 by omega)]
      cases b with
      | nil =>
        simp only [List.length_nil, decide_eq_false (show ¬ ((0 : Nat) : Int) > 0 by omega)]
        refine Ev.step (fun k => by rw [pick_Or.j1]) ?_
        simp only [Bool.false_eq_true, if_false, orL, List.append_nil]
        exact Ev.now _
      | cons y b =>
        have hl : ((y :: b).length : Int) > 0 := by simp <;> omega
        simp only [decide_eq_true hl]
        refine Ev.step (fun k => by rw [pick_Or.j1]) ?_
        simp only [if_true, if_neg (show ¬ ((y :: b).length : Int) = 0 by simp <;> omega), List.length_nil, if_neg (show ¬ ((0 : Nat) : Int) > 0 by omega)]
        refine Ev.step (fun k => by rw [pick_Or.j2]) ?_
        simp only [Bool.false_eq_true, if_false, List.length_nil, Int.ofNat_zero, if_pos (show ((0 : Nat) : Int) = 0 from rfl), if_pos (show 0 < ((y :: b).length : Int) by omega), if_pos (show acc.length < 17592186044416 by omega), if_pos (show 1 ≤ ((y :: b).length : Int) by omega), List.drop_succ_cons, List.drop_zero, rd0]
        have := ih b.length (by simp at hn; omega) [] b (acc ++ [y]) (by simp) (by simp at hn ⊢; omega)
        simpa [orL] using this
    | cons x a =>
      have hla : ((x :: a).length : Int) > 0 := by simp <;> omega
      simp only [if_pos hla]
      refine Ev.step (fun k => by rw [pick_Or.j1]) ?_
      cases b with
      | nil =>
        simp only [if_true, List.length_nil, if_pos (show ((0 : Nat) : Int) = 0 from rfl)]
        refine Ev.step (fun k => by rw [pick_Or.j2]) ?_
        simp only [if_true, if_pos (show 0 < ((x :: a).length : Int) by omega), if_pos (show acc.length < 17592186044416 by omega), if_pos (show 1 ≤ ((x :: a).length : Int) by omega), List.drop_succ_cons, List.drop_zero, rd0]
        have := ih a.length (by simp at hn; omega) a [] (acc ++ [x]) (by simp) (by simp at hn ⊢; omega)
        simpa [orL, orL_nil] using this
      | cons y b =>
        have hlb : ((y :: b).length : Int) > 0 := by simp <;> omega
        simp only [if_true, if_neg (show ¬ ((y :: b).length : Int) = 0 by omega), if_pos hla, if_pos (show 0 < ((x :: a).length : Int) by omega), if_pos (show 0 < ((y :: b).length : Int) by omega), rd0]
        refine Ev.step (fun k => by rw [pick_Or.j2]) ?_
        by_cases hxy : x < y
        · simp only [decide_eq_true_eq, if_pos hxy, if_pos (show 0 < ((x :: a).length : Int) by omega), if_pos (show acc.length < 17592186044416 by omega), if_pos (show 1 ≤ ((x :: a).length : Int) by omega), List.drop_succ_cons, List.drop_zero, rd0]
          have := ih (a.length + (y :: b).length) (by simp at hn ⊢; omega) a (y :: b) (acc ++ [x]) rfl (by simp at hn ⊢; omega)
          rw [orL, if_pos hxy]
          simpa using this
        · simp only [decide_eq_true_eq, if_neg hxy, if_neg (show ¬ ((x :: a).length : Int) = 0 by omega), if_pos (show 0 < ((y :: b).length : Int) by omega), if_pos (show 0 < ((x :: a).length : Int) by omega), rd0, if_pos (show acc.length < 17592186044416 by omega), if_pos (show 1 ≤ ((x :: a).length : Int) by omega), if_pos (show 1 ≤ ((y :: b).length : Int) by omega), List.drop_succ_cons, List.drop_zero]
          by_cases hyx : y < x
          · simp only [if_pos hyx]
            have := ih ((x :: a).length + b.length) (by simp at hn ⊢; omega) (x :: a) b (acc ++ [y]) rfl (by simp at hn ⊢; omega)
            rw [orL, if_neg hxy, if_pos hyx]
            simpa using this
          · simp only [if_neg hyx]
            have := ih (a.length + b.length) (by simp at hn ⊢; omega) a b (acc ++ [x]) rfl (by simp at hn ⊢; omega)
            rw [orL, if_neg hxy, if_neg hyx]
            simpa using this
end Go.Proofs.Ytdohphiicmdilaa.HP
