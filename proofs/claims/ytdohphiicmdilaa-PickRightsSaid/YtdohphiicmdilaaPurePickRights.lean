/- Whatever numbers are handed in, pick.Right answers what the law's own loop over them says. No condition beyond the row's own. -/
import Derived.Test.YtdohphiicmdilaaPPickRightsx2
namespace Go.Proofs.Ytdohphiicmdilaa.Pure
open Go.RowKit Go.Proofs.Ytdohphiicmdilaa.PPickRights Go.Proofs.YtdohphiicmdilaaW.PrintWords Go.Proofs.YtdohphiicmdilaaW.PrintLast

theorem wr1 {i : Int} (h0 : 0 ≤ i) (h : i < 140737488351232) : wrap64 (i + 1) = i + 1 := by unfold wrap64; omega
theorem wm1 {i : Int} (h0 : 0 ≤ i) (h : i < 140737488351232) : wrap64 (i - 1) = i - 1 := by unfold wrap64; omega

theorem right_says (l : List Int) (n : Int) (hl : l.length ≤ 140737488351231) (d : Nat) : ∀ (i last : Int), 0 ≤ i → i + d = l.length →
    ∃ b, Ev (fun k => pick_Right.l0 k n last l (l.length : Int) i) b ∧ (b = true ↔ ∀ j, i ≤ j → j < l.length → rd l j < n ∧ (if j = i then last else rd l (j - 1)) < rd l j) := by
  induction d with
  | zero =>
    intro i last h0 hd
    refine ⟨true, ?_, by simp; intro j h1 h2; omega⟩
    refine Ev.step (fun k => by rw [pick_Right.l0]) ?_
    simp only [if_neg (show ¬ i < (l.length : Int) by omega)]
    exact Ev.now _
  | succ d ih =>
    intro i last h0 hd
    by_cases h1 : rd l i ≤ last
    · refine ⟨false, Ev.step (fun k => by rw [pick_Right.l0]) ?_, ?_⟩
      · simp only [if_pos (show i < (l.length : Int) by omega), if_pos h0, if_pos h1]
        exact Ev.now _
      · simp only [Bool.false_eq_true, false_iff]
        intro h
        have := (h i (by omega) (by omega)).2
        rw [if_pos rfl] at this
        omega
    · by_cases h2 : rd l i ≥ n
      · refine ⟨false, Ev.step (fun k => by rw [pick_Right.l0]) ?_, ?_⟩
        · simp only [if_pos (show i < (l.length : Int) by omega), if_pos h0, if_neg h1, if_pos h2]
          exact Ev.now _
        · simp only [Bool.false_eq_true, false_iff]
          intro h
          have := (h i (by omega) (by omega)).1
          omega
      · obtain ⟨b, hb, hi⟩ := ih (i + 1) (rd l i) (by omega) (by omega)
        refine ⟨b, Ev.step (fun k => by rw [pick_Right.l0]) ?_, hi.trans ⟨fun h j hj hl => ?_, fun h j hj hl => ?_⟩⟩
        · simp only [if_pos (show i < (l.length : Int) by omega), if_pos h0, if_neg h1, if_neg h2, wr1 h0 (show i < 140737488351232 by omega)]
          exact hb
        · by_cases e : j = i
          · subst e
            rw [if_pos rfl]
            omega
          · have := h j (by omega) hl
            rw [if_neg e]
            by_cases e2 : j = i + 1
            · subst e2
              rw [if_pos rfl] at this
              rw [show i + 1 - 1 = i by omega]
              exact this
            · rw [if_neg e2] at this
              exact this
        · have := h j (by omega) hl
          rw [if_neg (show ¬ j = i by omega)] at this
          by_cases e2 : j = i + 1
          · subst e2
            rw [show i + 1 - 1 = i by omega] at this
            rw [if_pos rfl]
            exact this
          · rw [if_neg e2]
            exact this

theorem law_says (l : List Int) (n : Int) (hl : l.length ≤ 140737488351231) (R : Bool) (hR : Ev (fun k => pick_Right.f k l n) R) (d : Nat) : ∀ (i : Int) (ok : Bool), 0 ≤ i → i + d = l.length →
    ∃ b, Ev (fun k => hopperlaw05_PickRights.l0 k l n ok i) (R == b) ∧ (b = true ↔ ok = true ∧ ∀ j, i ≤ j → j < l.length → 0 ≤ rd l j ∧ rd l j < n ∧ (0 < j → rd l (j - 1) < rd l j)) := by
  induction d with
  | zero =>
    intro i ok h0 hd
    refine ⟨ok, Ev.step (fun k => by rw [hopperlaw05_PickRights.l0]) ?_, ⟨fun h => ⟨h, fun j h1 h2 => by omega⟩, fun h => h.1⟩⟩
    simp only [if_neg (show ¬ i < (l.length : Int) by omega)]
    exact hR.bind (Ev.now _)
  | succ d ih =>
    intro i ok h0 hd
    have hi : i < (l.length : Int) := by omega
    have w1 := wr1 h0 (show i < 140737488351232 by omega)
    have w2 := wm1 h0 (show i < 140737488351232 by omega)
    by_cases hg : 0 ≤ rd l i ∧ rd l i < n ∧ (0 < i → rd l (i - 1) < rd l i)
    · obtain ⟨b, hb, he⟩ := ih (i + 1) ok (by omega) (by omega)
      refine ⟨b, Ev.step (fun k => by rw [hopperlaw05_PickRights.l0]) ?_, he.trans ⟨fun h => ⟨h.1, fun j h1 h2 => ?_⟩, fun h => ⟨h.1, fun j h1 h2 => h.2 j (by omega) h2⟩⟩⟩
      · simp only [if_pos hi, if_pos h0, if_neg (show ¬ rd l i < 0 by omega), if_neg (show ¬ rd l i ≥ n by omega), w1, w2]
        by_cases hp : i > 0
        · simp only [if_pos hp, if_pos (show 0 ≤ i - 1 by omega), if_pos (show i - 1 < (l.length : Int) by omega), if_neg (show ¬ rd l (i - 1) ≥ rd l i by have := hg.2.2 hp; omega)]
          exact hb
        · simp only [if_neg hp]
          exact hb
      · by_cases e : j = i
        · subst e; exact hg
        · exact h.2 j (by omega) h2
    · obtain ⟨b, hb, he⟩ := ih (i + 1) false (by omega) (by omega)
      have hbf : b = false := by
        cases b with
        | false => rfl
        | true => exact absurd (he.1 rfl).1 (by simp)
      subst hbf
      refine ⟨false, Ev.step (fun k => by rw [hopperlaw05_PickRights.l0]) ?_, ?_⟩
      · simp only [if_pos hi, if_pos h0, w1, w2]
        by_cases h1 : rd l i < 0
        · simp only [if_pos h1]; exact hb
        · by_cases h2 : rd l i ≥ n
          · simp only [if_neg h1, if_pos h2]; exact hb
          · have h3 : 0 < i := by
              apply Decidable.byContradiction
              intro hc
              exact hg ⟨by omega, by omega, fun h => absurd h hc⟩
            have h4 : rd l (i - 1) ≥ rd l i := by
              apply Decidable.byContradiction
              intro hc
              exact hg ⟨by omega, by omega, fun h => by omega⟩
            simp only [if_neg h1, if_neg h2, if_pos h3, if_pos (show 0 ≤ i - 1 by omega), if_pos (show i - 1 < (l.length : Int) by omega), if_pos h4]
            exact hb
      · simp only [Bool.false_eq_true, false_iff]
        intro h
        exact hg (h.2 i (by omega) hi)

theorem awake_says : Ev (fun k => hopperlaw05_awake.f k) true :=
  Ev.of (fun k => hopperlaw05_awake.mono k) (k := 20) (by decide +kernel)

theorem PickRights : hopperlaw05_PickRights.Pure := by
  intro l n _ hl8 _ _
  have hl : l.length ≤ 140737488351231 := by omega
  apply Ev.rounds
  unfold hopperlaw05_PickRights.f
  refine awake_says.bind ?_
  simp only [if_true]
  by_cases h3 : (l.length : Int) > 300
  · simp only [decide_eq_true h3]
    refine Ev.step (fun k => by rw [hopperlaw05_PickRights.j0]) ?_
    simp only [if_true]
    exact awake_says.bind (Ev.now _)
  · simp only [decide_eq_false h3]
    refine Ev.step (fun k => by rw [hopperlaw05_PickRights.j0]) ?_
    simp only [Bool.false_eq_true, if_false]
    obtain ⟨R, hR, hRi⟩ := right_says l n hl l.length 0 (-1) (by omega) (by omega)
    have hR' : Ev (fun k => pick_Right.f k l n) R := hR
    obtain ⟨b, hb, hbi⟩ := law_says l n hl R hR' l.length 0 true (by omega) (by omega)
    have e : R = b := by
      rw [Bool.eq_iff_iff, hRi, hbi]
      refine ⟨fun h => ⟨rfl, fun j h0 h1 => ?_⟩, fun h j h0 h1 => ?_⟩
      · have key : ∀ (m : Nat) (j : Int), j = m → j < l.length → 0 ≤ rd l j := by
          intro m
          induction m with
          | zero =>
            intro j hj hl
            have := (h j (by omega) hl).2
            rw [if_pos (by omega)] at this
            omega
          | succ m ih =>
            intro j hj hl
            have := (h j (by omega) hl).2
            rw [if_neg (by omega)] at this
            have := ih (j - 1) (by omega) (by omega)
            omega
        have h2 := h j h0 h1
        refine ⟨key j.toNat j (by omega) h1, h2.1, fun hp => ?_⟩
        have := h2.2
        rwa [if_neg (by omega)] at this
      · have h2 := h.2 j h0 h1
        refine ⟨h2.2.1, ?_⟩
        by_cases e : j = 0
        · rw [if_pos e]; omega
        · rw [if_neg e]; exact h2.2.2 (by omega)
    rw [e] at hb
    simpa using hb

end Go.Proofs.Ytdohphiicmdilaa.Pure
