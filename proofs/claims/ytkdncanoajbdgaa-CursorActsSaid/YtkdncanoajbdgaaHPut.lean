/- cursor.Put and the reference's Put are a number's varint. -/
import Derived.Test.YtkdncanoajbdgaaHBits
import Derived.Test.YtkdncanoajbdgaaPx1
import Derived.Test.YtkdncanoajbdgaaPx3
set_option linter.unusedVariables false
set_option linter.unusedSimpArgs false
namespace Go.Proofs.Ytkdncanoajbdgaa.HP
open Go.RowKit Go.Proofs.Ytkdncanoajbdgaa.P Go.Proofs.YtkdncanoajbdgaaW.PrintWords Go.Proofs.YtkdncanoajbdgaaW.PrintLast Go.Proofs.YtkdncanoajbdgaaW.PrintMore

theorem cput_l : ∀ (m n : Nat) (acc : List Int), n ≤ m → n < 9223372036854775808 → acc.length + (vint n).length ≤ 1000 → Ev (fun k => cursor_Put.l0 k (n : Int) acc) (acc ++ vint n) := by
  intro m
  induction m with
  | zero =>
    intro n acc h hn hl
    obtain rfl : n = 0 := by omega
    refine Ev.step (fun k => by rw [cursor_Put.l0]) ?_
    rw [vint_small (by omega)] at hl ⊢
    simp only [if_neg (show ¬ ((0 : Nat) : Int) ≥ 128 by omega), if_pos (show acc.length < 140737488355328 by omega), show ((0 : Nat) : Int) % 256 = ((0 : Nat) : Int) by omega]
    exact Ev.now _
  | succ m ih =>
    intro n acc h hn hl
    refine Ev.step (fun k => by rw [cursor_Put.l0]) ?_
    by_cases hb : n < 128
    · rw [vint_small hb] at hl ⊢
      simp only [if_neg (show ¬ (n : Int) ≥ 128 by omega), if_pos (show acc.length < 140737488355328 by omega), show (n : Int) % 256 = (n : Int) by omega]
      exact Ev.now _
    · rw [vint_big hb] at hl ⊢
      simp only [if_pos (show (n : Int) ≥ 128 by omega), if_pos (show acc.length < 140737488355328 by omega), or128 n, show (n : Int) / 128 = ((n / 128 : Nat) : Int) by omega]
      have := ih (n / 128) (acc ++ [((n % 128 + 128 : Nat) : Int)]) (by omega) (by omega) (by simp at hl ⊢; omega)
      simpa using this
theorem cput_f (n : Nat) (hn : n < 9223372036854775808) : Ev (fun k => cursor_Put.f k (n : Int)) (vint n) := by
  have h := cput_l n n [] (Nat.le_refl _) hn (by have := vint_len n hn; simp; omega)
  unfold cursor_Put.f
  simp only [if_neg (show ¬ (n : Int) < 0 by omega)]
  simpa using h
theorem rput_f : ∀ (m n : Nat), n ≤ m → n < 9223372036854775808 → Ev (fun k => hopperref01_Put.f k (n : Int)) (vint n) := by
  intro m
  induction m with
  | zero =>
    intro n h hn
    obtain rfl : n = 0 := by omega
    refine Ev.step (fun k => by rw [hopperref01_Put.f]) ?_
    rw [vint_small (by omega)]
    simp only [if_neg (show ¬ ((0 : Nat) : Int) < 0 by omega), if_pos (show ((0 : Nat) : Int) < 128 by omega), show ((0 : Nat) : Int) % 256 = ((0 : Nat) : Int) by omega]
    exact Ev.now _
  | succ m ih =>
    intro n h hn
    refine Ev.step (fun k => by rw [hopperref01_Put.f]) ?_
    by_cases hb : n < 128
    · rw [vint_small hb]
      simp only [if_neg (show ¬ (n : Int) < 0 by omega), if_pos (show (n : Int) < 128 by omega), show (n : Int) % 256 = (n : Int) by omega]
      exact Ev.now _
    · rw [vint_big hb]
      have e1 : wrap64 ((Int.tmod (n : Int) 128) + 128) % 256 = ((n % 128 + 128 : Nat) : Int) := by
        rw [Int.tmod_eq_emod_of_nonneg (by omega)]; unfold wrap64; omega
      have e2 : wrap64 (Int.tdiv (n : Int) 128) = ((n / 128 : Nat) : Int) := by
        rw [Int.tdiv_eq_ediv_of_nonneg (by omega)]; unfold wrap64; omega
      simp only [if_neg (show ¬ (n : Int) < 0 by omega), if_neg (show ¬ (n : Int) < 128 by omega), e1, e2]
      refine Ev.bind (g := fun _ => some _) (Ev.now _) ?_
      refine (ih (n / 128) (by omega) (by omega)).bind ?_
      have := vint_len (n / 128) (by omega)
      simp only [if_pos (show [((n % 128 + 128 : Nat) : Int)].length + (vint (n / 128)).length < 140737488355328 by simp; omega)]
      exact Ev.now _
theorem rput (n : Nat) (hn : n < 9223372036854775808) : Ev (fun k => hopperref01_Put.f k (n : Int)) (vint n) := rput_f n n (Nat.le_refl _) hn
end Go.Proofs.Ytkdncanoajbdgaa.HP
