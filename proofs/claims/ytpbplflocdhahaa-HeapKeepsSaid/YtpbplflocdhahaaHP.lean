/- Plain lemmas on numbers, lists and rounds, without any program. -/
import Derived.Test.YtpbplflocdhahaaWWords
import Derived.Test.YtpbplflocdhahaaWMore
set_option linter.unusedVariables false
set_option linter.unusedSimpArgs false
namespace Go.Proofs.Ytpbplflocdhahaa.HP
open Go.RowKit Go.Proofs.YtpbplflocdhahaaW.PrintWords Go.Proofs.YtpbplflocdhahaaW.PrintMore

theorem wr1 (i : Nat) (h : i < 140737488351232) : wrap64 ((i : Int) + 1) = ((i + 1 : Nat) : Int) := by unfold wrap64; omega
theorem wm1 {i : Int} (h0 : 0 ≤ i) (h : i < 140737488351232) : wrap64 (i - 1) = i - 1 := by unfold wrap64; omega

theorem drop_nil {α : Type} {l : List α} {i : Nat} (h : l.drop i = []) : l.length ≤ i := List.drop_eq_nil_iff.mp h
theorem drop_lt {α : Type} {l : List α} {i : Nat} {a : α} {t : List α} (h : l.drop i = a :: t) : i < l.length := by
  apply Decidable.byContradiction
  intro hc
  rw [List.drop_eq_nil_of_le (by omega)] at h
  cases h
theorem drop_tl {α : Type} {l : List α} {i : Nat} {a : α} {t : List α} (h : l.drop i = a :: t) : l.drop (i + 1) = t := by
  rw [← List.drop_drop, h]
  rfl
theorem drop_len {α : Type} {l : List α} {i : Nat} {t : List α} (h : l.drop i = t) (hi : i ≤ l.length) : i + t.length = l.length := by
  rw [← h, List.length_drop]
  omega
theorem drop_rd {l : List Int} {i : Nat} {a : Int} {t : List Int} (h : l.drop i = a :: t) : rd l (i : Int) = a := by
  have hl := drop_lt h
  have : l[i]? = some a := by rw [← List.head?_drop, h]; rfl
  simp [rd, List.getD_eq_getElem?_getD, this]
theorem drop_rdOf {α : Type} (d : α) {l : List α} {i : Nat} {a : α} {t : List α} (h : l.drop i = a :: t) : rdOf d l (i : Int) = a := by
  have : l[i]? = some a := by rw [← List.head?_drop, h]; rfl
  simp [rdOf, List.getD_eq_getElem?_getD, this]
theorem rd_nat (l : List Int) (i : Nat) (h : i < l.length) : rd l (i : Int) = l[i] := by simp [rd, List.getD_eq_getElem?_getD, h]
theorem rdOf_nat {α : Type} (d : α) (l : List α) (i : Nat) (h : i < l.length) : rdOf d l (i : Int) = l[i] := by simp [rdOf, List.getD_eq_getElem?_getD, h]

/-- The places of a row of bools, from o on. -/
def plf : Nat → List Bool → List Int
  | _, [] => []
  | o, b :: t => if b = true then (o : Int) :: plf (o + 1) t else plf (o + 1) t
def pl (b : List Bool) : List Int := plf 0 b
theorem plf_len (b : List Bool) : ∀ o, (plf o b).length ≤ b.length := by
  induction b with
  | nil => intro o; simp [plf]
  | cons x t ih =>
    intro o
    have := ih (o + 1)
    unfold plf
    split <;> simp <;> omega
theorem plf_mem (b : List Bool) : ∀ o, ∀ a ∈ plf o b, (o : Int) ≤ a ∧ a < (o + b.length : Nat) := by
  induction b with
  | nil => intro o a h; simp [plf] at h
  | cons x t ih =>
    intro o a h
    unfold plf at h
    split at h
    · rcases List.mem_cons.1 h with rfl | h
      · simp; omega
      · have := ih (o + 1) a h
        simp at this ⊢
        omega
    · have := ih (o + 1) a h
      simp at this ⊢
      omega
theorem plf_inc (b : List Bool) : ∀ o, (plf o b).Pairwise (· < ·) := by
  induction b with
  | nil => intro o; simp [plf]
  | cons x t ih =>
    intro o
    unfold plf
    split
    · refine List.pairwise_cons.2 ⟨fun a h => ?_, ih (o + 1)⟩
      have := plf_mem t (o + 1) a h
      omega
    · exact ih (o + 1)

/-- 0, 1, .. below n. -/
def iota (n : Nat) : List Int := (List.range n).map (fun i : Nat => (i : Int))
theorem iota_len (n : Nat) : (iota n).length = n := by simp [iota]
theorem iota_mem {n : Nat} {a : Int} (h : a ∈ iota n) : 0 ≤ a ∧ a < n := by
  simp [iota] at h
  omega
theorem iota_map (l : List Int) : (iota l.length).map (rd l) = l := by
  apply List.ext_getElem
  · simp [iota]
  · intro i h1 h2
    simp [iota, rd, List.getD_eq_getElem?_getD, h2]
end Go.Proofs.Ytpbplflocdhahaa.HP
