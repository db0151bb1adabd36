/- The reference's Power is 2 to the n. -/
import Derived.Test.YtdohphiicmdilaaHP
import Derived.Test.YtdohphiicmdilaaPx11
set_option linter.unusedVariables false
set_option linter.unusedSimpArgs false
namespace Go.Proofs.Ytdohphiicmdilaa.HP
open Go.RowKit Go.Proofs.Ytdohphiicmdilaa.P Go.Proofs.YtdohphiicmdilaaW.PrintWords Go.Proofs.YtdohphiicmdilaaW.PrintLast Go.Proofs.YtdohphiicmdilaaW.PrintMore
theorem pow40 {q : Nat} (h : q ≤ 40) : 2 ^ q ≤ 1099511627776 := by
  have := Nat.pow_le_pow_right (n := 2) (by omega) h
  simpa using this
theorem power_l (q : Nat) (hq : q ≤ 40) : ∀ (d i : Nat), i + d = q → Ev (fun k => hopperref03_Power.l0 k (q : Int) ((2 ^ i : Nat) : Int) (i : Int)) ((2 ^ q : Nat) : Int) := by
  intro d
  induction d with
  | zero =>
    intro i h
    refine Ev.step (fun k => by rw [hopperref03_Power.l0]) ?_
    simp only [if_neg (show ¬ (i : Int) < (q : Int) by omega)]
    rw [show i = q by omega]
    exact Ev.now _
  | succ d ih =>
    intro i h
    refine Ev.step (fun k => by rw [hopperref03_Power.l0]) ?_
    have h1 := pow40 (show i + 1 ≤ 40 by omega)
    have e : wrap64 (2 * ((2 ^ i : Nat) : Int)) = ((2 ^ (i + 1) : Nat) : Int) := by
      rw [Nat.pow_succ] at h1 ⊢
      generalize 2 ^ i = z at *
      unfold wrap64
      omega
    simp only [if_pos (show (i : Int) < (q : Int) by omega), e, wr1 i (by omega)]
    exact ih (i + 1) (by omega)
theorem power_f (q : Nat) (hq : q ≤ 40) : Ev (fun k => hopperref03_Power.f k (q : Int)) ((2 ^ q : Nat) : Int) := power_l q hq q 0 (by omega)
end Go.Proofs.Ytdohphiicmdilaa.HP
