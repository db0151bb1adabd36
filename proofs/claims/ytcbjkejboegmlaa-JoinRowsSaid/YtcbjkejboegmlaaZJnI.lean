import Derived.Test.YtcbjkejboegmlaaZJnW
import Derived.Test.YtcbjkejboegmlaaZJnF
/- fine: what it answers true at. -/
set_option linter.unusedVariables false
set_option linter.unusedSimpArgs false
namespace Go.Proofs.Ytcbjkejboegmlaa.HW
open Go.RowKit Go.Proofs.Ytcbjkejboegmlaa.P Go.Proofs.Ytcbjkejboegmlaa.HP Go.Proofs.YtcbjkejboegmlaaW.PrintWords Go.Proofs.YtcbjkejboegmlaaW.PrintLast Go.Proofs.YtcbjkejboegmlaaW.PrintMore
attribute [local go_sem] max2_int min2_int max_two min_two max_three min_three max_four min_four
def okV (x : S43) : Prop := x.f1.size ≤ 100 ∧ (x.f0 = true → x.f1.toList = [])
def okRow (cols : Int) (row : Key) : Prop := (row.length : Int) = cols ∧ ∀ x ∈ row, okV x
theorem cols16 (rows : List Key) (cols : Int) (i : Nat) (hi : i < rows.length) (hc : ((rows[i]).length : Int) = cols) (hn : cols ≤ 8) (R : Bool) (hR : Ev (fun k => hopperref16_Rows.l0 k rows cols (wrap64 ((i : Int) + 1))) R) :
    ∀ (d j : Nat), j + d = (rows[i]).length → ∃ b, Ev (fun k => hopperref16_Rows.l1 k rows cols (i : Int) (j : Int)) b ∧ (b = true → R = true ∧ ∀ x ∈ (rows[i]).drop j, okV x) := by
  intro d
  induction d with
  | zero =>
    intro j hj
    refine ⟨R, Ev.step (fun k => by rw [hopperref16_Rows.l1]) ?_, fun h => ⟨h, fun x hx => ?_⟩⟩
    · simp only [if_neg (show ¬ (j : Int) < cols by omega)]
      exact hR
    · rw [List.drop_eq_nil_of_le (by omega)] at hx
      exact absurd hx (by simp)
  | succ d ih =>
    intro j hj
    have w1 : wrap64 ((j : Int) + 1) = ((j + 1 : Nat) : Int) := wr1 j (by omega)
    have e1 : rd_L3 rows (i : Int) = rows[i] := rdL rows i hi
    have hb : j < (rows[i]).length := by omega
    have e2 : rd_T43 (rows[i]) (j : Int) = (rows[i])[j] := rd43 _ j hb
    have hs : ∀ (b : Bool) (g : Nat → Option Bool), (∀ k, hopperref16_Rows.l1 (k + 1) rows cols (i : Int) (j : Int) = g k) → Ev g b → Ev (fun k => hopperref16_Rows.l1 k rows cols (i : Int) (j : Int)) b := fun b g h h2 => Ev.step h h2
    have hu : ∀ k, hopperref16_Rows.l1 (k + 1) rows cols (i : Int) (j : Int) = (if (((rows[i])[j].f1).size : Int) > 100 then (some false) else (if ((rows[i])[j]).f0 = true then (if (((rows[i])[j]).f1).toList = ([] : List UInt8) then (hopperref16_Rows.l1 k rows cols (i : Int) ((j + 1 : Nat) : Int)) else (some false)) else (hopperref16_Rows.l1 k rows cols (i : Int) ((j + 1 : Nat) : Int)))) := fun k => by
      rw [hopperref16_Rows.l1]
      simp only [if_pos (show (j : Int) < cols by omega), if_pos (show (0 : Int) ≤ (i : Int) by omega), if_pos (show (0 : Int) ≤ (j : Int) by omega), if_pos (show (i : Int) < (rows.length : Int) by omega), e1, e2, if_pos (show (j : Int) < ((rows[i]).length : Int) by omega), w1]
    obtain ⟨b, hb1, hb2⟩ := ih (j + 1) (by omega)
    by_cases h1 : (((rows[i])[j].f1).size : Int) > 100
    · refine ⟨false, hs _ _ hu ?_, fun h => absurd h (by simp)⟩
      simp only [if_pos h1]
      exact Ev.now _
    · by_cases h2 : ((rows[i])[j]).f0 = true
      · by_cases h3 : (((rows[i])[j]).f1).toList = ([] : List UInt8)
        · refine ⟨b, hs _ _ hu ?_, fun h => ⟨(hb2 h).1, fun x hx => ?_⟩⟩
          · simp only [if_neg h1, if_pos h2, if_pos h3]
            exact hb1
          · rw [List.drop_eq_getElem_cons hb] at hx
            rcases List.mem_cons.1 hx with e | hx
            · subst e
              exact ⟨by omega, fun _ => h3⟩
            · exact (hb2 h).2 x hx
        · refine ⟨false, hs _ _ hu ?_, fun h => absurd h (by simp)⟩
          simp only [if_neg h1, if_pos h2, if_neg h3]
          exact Ev.now _
      · refine ⟨b, hs _ _ hu ?_, fun h => ⟨(hb2 h).1, fun x hx => ?_⟩⟩
        · simp only [if_neg h1, if_neg h2]
          exact hb1
        · rw [List.drop_eq_getElem_cons hb] at hx
          rcases List.mem_cons.1 hx with e | hx
          · subst e
            exact ⟨by omega, fun h9 => absurd h9 h2⟩
          · exact (hb2 h).2 x hx
theorem rows16 (rows : List Key) (cols : Int) (hn : cols ≤ 8) (hl : rows.length ≤ 100) :
    ∀ (d i : Nat), i + d = rows.length → ∃ b, Ev (fun k => hopperref16_Rows.l0 k rows cols (i : Int)) b ∧ (b = true → ∀ row ∈ rows.drop i, okRow cols row) := by
  intro d
  induction d with
  | zero =>
    intro i hi
    refine ⟨true, Ev.step (fun k => by rw [hopperref16_Rows.l0]) ?_, fun _ row hx => ?_⟩
    · simp only [if_neg (show ¬ (i : Int) < (rows.length : Int) by omega)]
      exact Ev.now _
    · rw [List.drop_eq_nil_of_le (by omega)] at hx
      exact absurd hx (by simp)
  | succ d ih =>
    intro i hi
    have w1 : wrap64 ((i : Int) + 1) = ((i + 1 : Nat) : Int) := wr1 i (by omega)
    have hb : i < rows.length := by omega
    have e1 : rd_L3 rows (i : Int) = rows[i] := rdL rows i hb
    have hu : ∀ k, hopperref16_Rows.l0 (k + 1) rows cols (i : Int) = (if ((rows[i]).length : Int) = cols then (hopperref16_Rows.l1 k rows cols (i : Int) 0) else (some false)) := fun k => by
      rw [hopperref16_Rows.l0]
      simp only [if_pos (show (i : Int) < (rows.length : Int) by omega), if_pos (show (0 : Int) ≤ (i : Int) by omega), e1]
    by_cases h1 : ((rows[i]).length : Int) = cols
    · obtain ⟨b, hb1, hb2⟩ := ih (i + 1) (by omega)
      obtain ⟨b', hc1, hc2⟩ := cols16 rows cols i hb h1 hn b (by rw [w1]; exact hb1) _ 0 (Nat.zero_add _)
      refine ⟨b', Ev.step hu ?_, fun h row hx => ?_⟩
      · simp only [if_pos h1]
        exact hc1
      · rw [List.drop_eq_getElem_cons hb] at hx
        rcases List.mem_cons.1 hx with e | hx
        · subst e
          exact ⟨h1, fun x hx => (hc2 h).2 x (by simpa using hx)⟩
        · exact hb2 (hc2 h).1 row hx
    · refine ⟨false, Ev.step hu ?_, fun h => absurd h (by simp)⟩
      simp only [if_neg h1]
      exact Ev.now _
def FineR (rows : List Key) (cols : Int) : Prop := 1 ≤ cols ∧ cols ≤ 8 ∧ rows.length ≤ 100 ∧ ∀ row ∈ rows, okRow cols row
theorem rows16_f (rows : List Key) (cols : Int) : ∃ b, Ev (fun k => hopperref16_Rows.f k rows cols) b ∧ (b = true → FineR rows cols) := by
  unfold hopperref16_Rows.f
  have hj : Ev (fun k => hopperref16_Rows.j0 k rows cols true) false := by
    refine Ev.step (fun k => by rw [hopperref16_Rows.j0]) ?_
    simp only [if_true]
    exact Ev.now _
  by_cases h1 : cols < 1
  · refine ⟨false, ?_, fun h => absurd h (by simp)⟩
    simp only [if_pos h1]
    exact hj
  · by_cases h2 : cols > 8
    · refine ⟨false, ?_, fun h => absurd h (by simp)⟩
      simp only [if_neg h1, if_pos h2]
      exact hj
    · by_cases h3 : rows.length > 100
      · refine ⟨false, ?_, fun h => absurd h (by simp)⟩
        simp only [if_neg h1, if_neg h2, decide_eq_true (show (rows.length : Int) > 100 by omega)]
        exact hj
      · obtain ⟨b, hb1, hb2⟩ := rows16 rows cols (by omega) (by omega) _ 0 (Nat.zero_add _)
        refine ⟨b, ?_, fun h => ⟨by omega, by omega, by omega, fun row hr => hb2 h row (by simpa using hr)⟩⟩
        simp only [if_neg h1, if_neg h2, decide_eq_false (show ¬ (rows.length : Int) > 100 by omega)]
        refine Ev.step (fun k => by rw [hopperref16_Rows.j0]) ?_
        simp only [Bool.false_eq_true, if_false]
        exact hb1
def Fine (kind : Int) (l r : List Key) (lk rk : List Int) (lc rc : Int) : Prop := FineR l lc ∧ FineR r rc ∧ l.length ≤ 40 ∧ r.length ≤ 40 ∧ rightB kind lk rk lc rc = true
theorem fine_f (kind : Int) (l r : List Key) (lk rk : List Int) (lc rc : Int) : ∃ k b, hopperlaw23_fine.f k kind l r lk rk lc rc = some b ∧ (b = true → Fine kind l r lk rk lc rc) := by
  obtain ⟨b1, ⟨k1, e1⟩, p1⟩ := rows16_f l lc
  obtain ⟨b2, ⟨k2, e2⟩, p2⟩ := rows16_f r rc
  obtain ⟨k3, e3⟩ := rright_f kind lk rk lc rc
  have f1 := e1 (k1 + k2 + k3) (by omega)
  have f2 := e2 (k1 + k2 + k3) (by omega)
  have f3 := e3 (k1 + k2 + k3) (by omega)
  refine ⟨k1 + k2 + k3, (if b1 = true then (if b2 = true then (if (l.length : Int) ≤ 40 then (if (r.length : Int) ≤ 40 then rightB kind lk rk lc rc else false) else false) else false) else false), ?_, ?_⟩
  · unfold hopperlaw23_fine.f
    simp only [f1, f2, f3, Option.bind_some]
    repeat' split
    all_goals rfl
  · intro h
    by_cases g1 : b1 = true
    · by_cases g2 : b2 = true
      · by_cases g3 : (l.length : Int) ≤ 40
        · by_cases g4 : (r.length : Int) ≤ 40
          · rw [if_pos g1, if_pos g2, if_pos g3, if_pos g4] at h
            exact ⟨p1 g1, p2 g2, by omega, by omega, h⟩
          · rw [if_pos g1, if_pos g2, if_pos g3, if_neg g4] at h
            exact absurd h (by simp)
        · rw [if_pos g1, if_pos g2, if_neg g3] at h
          exact absurd h (by simp)
      · rw [if_pos g1, if_neg g2] at h
        exact absurd h (by simp)
    · rw [if_neg g1] at h
      exact absurd h (by simp)
end Go.Proofs.Ytcbjkejboegmlaa.HW
