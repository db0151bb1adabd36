/- How wide numbers are: pack's Width and the reference's. -/
import Derived.Test.YtkdncanoajbdgaaHPackR
import Derived.Test.YtkdncanoajbdgaaHPackG
import Derived.Test.YtkdncanoajbdgaaPx8
import Derived.Test.YtkdncanoajbdgaaPx5
set_option linter.unusedVariables false
set_option linter.unusedSimpArgs false
namespace Go.Proofs.Ytkdncanoajbdgaa.HP
open Go.RowKit Go.Proofs.Ytkdncanoajbdgaa.P Go.Proofs.YtkdncanoajbdgaaW.PrintWords Go.Proofs.YtkdncanoajbdgaaW.PrintLast Go.Proofs.YtkdncanoajbdgaaW.PrintMore
def bl (n : Nat) : Nat := if n = 0 then 0 else n.log2 + 1
theorem bl_le (n w : Nat) : bl n ≤ w ↔ n < 2 ^ w := by
  unfold bl
  by_cases h : n = 0
  · simp [h, Nat.two_pow_pos]
  · rw [if_neg h, ← Nat.log2_lt h]
    omega
theorem aux_bl : ∀ (f x : Nat), x < 2 ^ f → Go.Lib.bitLenAux f x = bl x := by
  intro f
  induction f with
  | zero =>
    intro x h
    obtain rfl : x = 0 := by simpa using h
    rfl
  | succ f ih =>
    intro x h
    by_cases hx : x = 0
    · subst hx; rfl
    · have e : Go.Lib.bitLenAux (f + 1) x = 1 + Go.Lib.bitLenAux f (x / 2) := by
        cases x with
        | zero => exact absurd rfl hx
        | succ x => simp [Go.Lib.bitLenAux, Nat.add_comm]
      rw [e, ih (x / 2) (by rw [Nat.pow_succ] at h; omega)]
      unfold bl
      rw [if_neg hx, Nat.log2_def x]
      by_cases h2 : x / 2 = 0
      · simp [h2, show ¬ 2 ≤ x by omega]
      · simp [h2, show 2 ≤ x by omega, Nat.add_comm]
theorem lib_bl (x : Nat) (h : x < 2 ^ 64) : Go.Lib.bitLen x = bl x := aux_bl 64 x h
def mayL (l : List Int) : Bool := l.all (fun a => decide (0 ≤ a) && decide (a ≤ 4294967295))
theorem may_mem {l : List Int} (h : mayL l = true) : ∀ a ∈ l, 0 ≤ a ∧ a ≤ 4294967295 := by
  intro a ha
  have := List.all_eq_true.mp h a ha
  simpa using this
theorem may_l (l : List Int) (hl : l.length ≤ 10000) : ∀ (t : List Int) (i : Nat), l.drop i = t → i ≤ l.length → Ev (fun k => hopperref03_May.l0 k l (i : Int)) (mayL t) := by
  intro t
  induction t with
  | nil =>
    intro i h hi
    have := drop_nil h
    refine Ev.step (fun k => by rw [hopperref03_May.l0]) ?_
    simp only [if_neg (show ¬ (i : Int) < (l.length : Int) by omega)]
    exact Ev.now _
  | cons a t ih =>
    intro i h hi
    have hlt := drop_lt h
    refine Ev.step (fun k => by rw [hopperref03_May.l0]) ?_
    simp only [if_pos (show (i : Int) < (l.length : Int) by omega), if_pos (show 0 ≤ (i : Int) by omega), drop_rd h, wr1 i (by omega)]
    by_cases h0 : a < 0
    · simp only [if_pos h0]
      rw [show mayL (a :: t) = false by unfold mayL; rw [List.all_cons, decide_eq_false (show ¬ 0 ≤ a by omega)]; simp]
      exact Ev.now _
    · simp only [if_neg h0]
      by_cases h1 : a > 4294967295
      · simp only [if_pos h1]
        rw [show mayL (a :: t) = false by unfold mayL; rw [List.all_cons, decide_eq_false (show ¬ a ≤ 4294967295 by omega)]; simp]
        exact Ev.now _
      · simp only [if_neg h1]
        rw [show mayL (a :: t) = mayL t by unfold mayL; rw [List.all_cons, decide_eq_true (show 0 ≤ a by omega), decide_eq_true (show a ≤ 4294967295 by omega)]; simp]
        exact ih (i + 1) (drop_tl h) (by omega)
theorem may_f (l : List Int) (hl : l.length ≤ 10000) : Ev (fun k => hopperref03_May.f k l) (mayL l) := may_l l hl l 0 rfl (by omega)
def wideL (l : List Int) (w : Nat) : Nat := l.foldl (fun w a => max w (bl a.toNat)) w
theorem wide_le (l : List Int) : ∀ w v : Nat, wideL l w ≤ v ↔ w ≤ v ∧ ∀ a ∈ l, a.toNat < 2 ^ v := by
  induction l with
  | nil => intro w v; simp [wideL]
  | cons a t ih =>
    intro w v
    show wideL t (max w (bl a.toNat)) ≤ v ↔ _
    rw [ih, Nat.max_le, bl_le]
    simp [and_assoc]
theorem bl_32 {a : Int} (h : a ≤ 4294967295) : bl a.toNat ≤ 32 := by
  rw [bl_le]
  have e : (2 : Nat) ^ 32 = 4294967296 := by decide
  omega
theorem wide_32 {l : List Int} (h : mayL l = true) : wideL l 0 ≤ 32 := by
  rw [wide_le]
  refine ⟨by omega, fun a ha => ?_⟩
  have := (may_mem h a ha).2
  rw [← bl_le]
  exact bl_32 this
theorem rwidth_1 (l : List Int) (hl : l.length ≤ 10000) (i : Nat) (hi : i < l.length) (h0 : 0 ≤ l[i]) (h1 : l[i] ≤ 4294967295) (R : Int) : ∀ (d w : Nat), w + d = max w (bl l[i].toNat) → w ≤ 32 →
    Ev (fun k => hopperref03_Width.l0 k l ((max w (bl l[i].toNat) : Nat) : Int) ((i + 1 : Nat) : Int)) R → Ev (fun k => hopperref03_Width.l1 k l (w : Int) (i : Int)) R := by
  have h32 := bl_32 h1
  intro d
  induction d with
  | zero =>
    intro w h hw hR
    have hb : bl l[i].toNat ≤ w := by omega
    have hp := (bl_le _ _).mp hb
    refine Ev.step (fun k => by rw [hopperref03_Width.l1]) ?_
    simp only [if_pos (show 0 ≤ (i : Int) by omega), if_pos (show (i : Int) < (l.length : Int) by omega)]
    refine (power_f w (by omega)).bind ?_
    simp only [rd_nat l i hi, if_neg (show ¬ l[i] ≥ ((2 ^ w : Nat) : Int) by omega), wr1 i (by omega)]
    rw [show w = max w (bl l[i].toNat) by omega]
    exact hR
  | succ d ih =>
    intro w h hw hR
    have hb : ¬ bl l[i].toNat ≤ w := by omega
    have hp : ¬ l[i].toNat < 2 ^ w := fun q => hb ((bl_le _ _).mpr q)
    refine Ev.step (fun k => by rw [hopperref03_Width.l1]) ?_
    simp only [if_pos (show 0 ≤ (i : Int) by omega), if_pos (show (i : Int) < (l.length : Int) by omega)]
    refine (power_f w (by omega)).bind ?_
    simp only [rd_nat l i hi, if_pos (show l[i] ≥ ((2 ^ w : Nat) : Int) by omega), wr1 w (by omega)]
    refine ih (w + 1) (by omega) (by omega) ?_
    rw [show max (w + 1) (bl l[i].toNat) = max w (bl l[i].toNat) by omega]
    exact hR
theorem rwidth_l (l : List Int) (hl : l.length ≤ 10000) (hm : mayL l = true) : ∀ (t : List Int) (i w : Nat), l.drop i = t → i ≤ l.length → w ≤ 32 → Ev (fun k => hopperref03_Width.l0 k l (w : Int) (i : Int)) ((wideL t w : Nat) : Int) := by
  intro t
  induction t with
  | nil =>
    intro i w h hi hw
    have := drop_nil h
    refine Ev.step (fun k => by rw [hopperref03_Width.l0]) ?_
    simp only [if_neg (show ¬ (i : Int) < (l.length : Int) by omega)]
    exact Ev.now _
  | cons a t ih =>
    intro i w h hi hw
    have hlt := drop_lt h
    have ha : l[i] = a := by rw [← rd_nat l i hlt, drop_rd h]
    have hma := may_mem hm l[i] (List.getElem_mem _)
    have h32 := bl_32 hma.2
    refine Ev.step (fun k => by rw [hopperref03_Width.l0]) ?_
    simp only [if_pos (show (i : Int) < (l.length : Int) by omega)]
    refine rwidth_1 l hl i hlt hma.1 hma.2 _ (max w (bl l[i].toNat) - w) w (by omega) hw ?_
    show Ev _ ((wideL t (max w (bl a.toNat)) : Nat) : Int)
    rw [← ha]
    exact ih (i + 1) _ (drop_tl h) (by omega) (by omega)
theorem rwidth_f (l : List Int) (hl : l.length ≤ 10000) (hm : mayL l = true) : Ev (fun k => hopperref03_Width.f k l) ((wideL l 0 : Nat) : Int) := by
  have := rwidth_l l hl hm l 0 0 rfl (by omega) (by omega)
  exact this
theorem mx_fold (t : List Int) : ∀ a : Int, (t.foldl mx a = a ∨ t.foldl mx a ∈ t) ∧ a ≤ t.foldl mx a ∧ ∀ x ∈ t, x ≤ t.foldl mx a := by
  induction t with
  | nil => intro a; simp
  | cons b t ih =>
    intro a
    rw [List.foldl_cons]
    obtain ⟨h1, h2, h3⟩ := ih (mx a b)
    have hm : (mx a b = a ∨ mx a b = b) ∧ a ≤ mx a b ∧ b ≤ mx a b := by unfold mx; split <;> omega
    refine ⟨?_, by omega, ?_⟩
    · rcases h1 with h1 | h1
      · rcases hm.1 with e | e
        · left; omega
        · right; rw [h1, e]; exact List.mem_cons_self
      · right; exact List.mem_cons_of_mem _ h1
    · intro x hx
      rcases List.mem_cons.mp hx with rfl | hx
      · omega
      · exact h3 x hx
theorem pwidth_f (l : List Int) (hl : l.length ≤ 10000) (hm : mayL l = true) : pack_Width.f l = some ((wideL l 0 : Nat) : Int) := by
  unfold pack_Width.f
  cases l with
  | nil => rfl
  | cons a t =>
    have e1 : slices_Max_int_int.f (a :: t) = some (t.foldl mx a) := by
      unfold slices_Max_int_int.f slices_Max_int_int.m
      simp [rd]
    obtain ⟨h1, h2, h3⟩ := mx_fold t a
    have hin : t.foldl mx a ∈ a :: t := by
      rcases h1 with e | e
      · rw [e]; exact List.mem_cons_self
      · exact List.mem_cons_of_mem _ e
    have hr := may_mem hm _ hin
    generalize hM : t.foldl mx a = M at *
    have hlen : ¬ (((a :: t).length : Nat) : Int) = 0 := by simp; omega
    rw [if_neg hlen, e1]
    simp only [Option.bind_some]
    have e2 : M % 4294967296 = ((M.toNat : Nat) : Int) := by omega
    rw [e2]
    unfold bits_Len32.f
    rw [if_pos (by omega)]
    simp only [Option.bind_some]
    congr 1
    have e3 := lib_bl M.toNat (by have e : (2 : Nat) ^ 64 = 18446744073709551616 := by decide
                                  omega)
    simp only [Int.toNat_natCast]
    rw [e3]
    congr 1
    apply Nat.le_antisymm
    · rw [bl_le]
      exact ((wide_le (a :: t) 0 (wideL (a :: t) 0)).mp (Nat.le_refl _)).2 M hin
    · rw [wide_le]
      refine ⟨by omega, fun x hx => ?_⟩
      have hx2 : x ≤ M := by
        rcases List.mem_cons.mp hx with rfl | hx
        · exact h2
        · exact h3 x hx
      have := (bl_le M.toNat (bl M.toNat)).mp (Nat.le_refl _)
      omega
theorem wide_good {l : List Int} (hm : mayL l = true) : l.all (goodN (wideL l 0)) = true := by
  rw [List.all_eq_true]
  intro a ha
  have h1 := may_mem hm a ha
  have h2 := ((wide_le l 0 (wideL l 0)).mp (Nat.le_refl _)).2 a ha
  unfold goodN
  simp only [Bool.and_eq_true, decide_eq_true_eq]
  omega
end Go.Proofs.Ytkdncanoajbdgaa.HP
