import Derived.Test.YtcbjkejboegmlaaZJnW
import Derived.Test.YtcbjkejboegmlaaZJnF
import Derived.Test.YtcbjkejboegmlaaZJnO
/- Texts laid together by merge.py: JnI JnJ. -/
section
/- fine: what it answers true at. -/
set_option linter.unusedVariables false
set_option linter.unusedSimpArgs false
namespace Go.Proofs.Ytcbjkejboegmlaa.HW
open Go.RowKit Go.Proofs.Ytcbjkejboegmlaa.P Go.Proofs.Ytcbjkejboegmlaa.HP Go.Proofs.YtcbjkejboegmlaaW.PrintWords Go.Proofs.YtcbjkejboegmlaaW.PrintLast Go.Proofs.YtcbjkejboegmlaaW.PrintMore
attribute [local go_sem] max2_int min2_int max_two min_two max_three min_three max_four min_four
def okV (x : S43) : Prop := x.f1.size ≤ 100 ∧ (x.f0 = true → x.f1.toList = [])
def okRow (cols : Int) (row : Key) : Prop := (row.length : Int) = cols ∧ ∀ x ∈ row, okV x
theorem cols16 (rows : List Key) (cols : Int) (i : Nat) (hi : i < rows.length) (hc : ((rows[i]).length : Int) = cols) (hn : cols ≤ 8) (R : Bool) (hR : Ev (fun k => hopperref16_Rows.l0 k rows cols (wrap64 ((i : Int) + 1))) R) :
    ∀ (d j : Nat), j + d = (rows[i]).length → ∃ b, Ev (fun k => hopperref16_Rows.l1 k rows cols (i : Int) (j : Int)) b ∧ (b = true → R = true ∧ ∀ x ∈ (rows[i]).drop j, okV x) := by
  intro d
  induction d with
  | zero =>
    intro j hj
    refine ⟨R, Ev.step (fun k => by rw [hopperref16_Rows.l1]) ?_, fun h => ⟨h, fun x hx => ?_⟩⟩
    · simp only [if_neg (show ¬ (j : Int) < cols by omega)]
      exact hR
    · rw [List.drop_eq_nil_of_le (by omega)] at hx
      exact absurd hx (by simp)
  | succ d ih =>
    intro j hj
    have w1 : wrap64 ((j : Int) + 1) = ((j + 1 : Nat) : Int) := wr1 j (by omega)
    have e1 : rd_L3 rows (i : Int) = rows[i] := rdL rows i hi
    have hb : j < (rows[i]).length := by omega
    have e2 : rd_T43 (rows[i]) (j : Int) = (rows[i])[j] := rd43 _ j hb
    have hs : ∀ (b : Bool) (g : Nat → Option Bool), (∀ k, hopperref16_Rows.l1 (k + 1) rows cols (i : Int) (j : Int) = g k) → Ev g b → Ev (fun k => hopperref16_Rows.l1 k rows cols (i : Int) (j : Int)) b := fun b g h h2 => Ev.step h h2
    have hu : ∀ k, hopperref16_Rows.l1 (k + 1) rows cols (i : Int) (j : Int) = (if (((rows[i])[j].f1).size : Int) > 100 then (some false) else (if ((rows[i])[j]).f0 = true then (if (((rows[i])[j]).f1).toList = ([] : List UInt8) then (hopperref16_Rows.l1 k rows cols (i : Int) ((j + 1 : Nat) : Int)) else (some false)) else (hopperref16_Rows.l1 k rows cols (i : Int) ((j + 1 : Nat) : Int)))) := fun k => by
      rw [hopperref16_Rows.l1]
      simp only [if_pos (show (j : Int) < cols by omega), if_pos (show (0 : Int) ≤ (i : Int) by omega), if_pos (show (0 : Int) ≤ (j : Int) by omega), if_pos (show (i : Int) < (rows.length : Int) by omega), e1, e2, if_pos (show (j : Int) < ((rows[i]).length : Int) by omega), w1]
    obtain ⟨b, hb1, hb2⟩ := ih (j + 1) (by omega)
    by_cases h1 : (((rows[i])[j].f1).size : Int) > 100
    · refine ⟨false, hs _ _ hu ?_, fun h => absurd h (by simp)⟩
      simp only [if_pos h1]
      exact Ev.now _
    · by_cases h2 : ((rows[i])[j]).f0 = true
      · by_cases h3 : (((rows[i])[j]).f1).toList = ([] : List UInt8)
        · refine ⟨b, hs _ _ hu ?_, fun h => ⟨(hb2 h).1, fun x hx => ?_⟩⟩
          · simp only [if_neg h1, if_pos h2, if_pos h3]
            exact hb1
          · rw [List.drop_eq_getElem_cons hb] at hx
            rcases List.mem_cons.1 hx with e | hx
            · subst e
              exact ⟨by omega, fun _ => h3⟩
            · exact (hb2 h).2 x hx
        · refine ⟨false, hs _ _ hu ?_, fun h => absurd h (by simp)⟩
          simp only [if_neg h1, if_pos h2, if_neg h3]
          exact Ev.now _
      · refine ⟨b, hs _ _ hu ?_, fun h => ⟨(hb2 h).1, fun x hx => ?_⟩⟩
        · simp only [if_neg h1, if_neg h2]
          exact hb1
        · rw [List.drop_eq_getElem_cons hb] at hx
          rcases List.mem_cons.1 hx with e | hx
          · subst e
            exact ⟨by omega, fun h9 => absurd h9 h2⟩
          · exact (hb2 h).2 x hx
theorem rows16 (rows : List Key) (cols : Int) (hn : cols ≤ 8) (hl : rows.length ≤ 100) :
    ∀ (d i : Nat), i + d = rows.length → ∃ b, Ev (fun k => hopperref16_Rows.l0 k rows cols (i : Int)) b ∧ (b = true → ∀ row ∈ rows.drop i, okRow cols row) := by
  intro d
  induction d with
  | zero =>
    intro i hi
    refine ⟨true, Ev.step (fun k => by rw [hopperref16_Rows.l0]) ?_, fun _ row hx => ?_⟩
    · simp only [if_neg (show ¬ (i : Int) < (rows.length : Int) by omega)]
      exact Ev.now _
    · rw [List.drop_eq_nil_of_le (by omega)] at hx
      exact absurd hx (by simp)
  | succ d ih =>
    intro i hi
    have w1 : wrap64 ((i : Int) + 1) = ((i + 1 : Nat) : Int) := wr1 i (by omega)
    have hb : i < rows.length := by omega
    have e1 : rd_L3 rows (i : Int) = rows[i] := rdL rows i hb
    have hu : ∀ k, hopperref16_Rows.l0 (k + 1) rows cols (i : Int) = (if ((rows[i]).length : Int) = cols then (hopperref16_Rows.l1 k rows cols (i : Int) 0) else (some false)) := fun k => by
      rw [hopperref16_Rows.l0]
      simp only [if_pos (show (i : Int) < (rows.length : Int) by omega), if_pos (show (0 : Int) ≤ (i : Int) by omega), e1]
    by_cases h1 : ((rows[i]).length : Int) = cols
    · obtain ⟨b, hb1, hb2⟩ := ih (i + 1) (by omega)
      obtain ⟨b', hc1, hc2⟩ := cols16 rows cols i hb h1 hn b (by rw [w1]; exact hb1) _ 0 (Nat.zero_add _)
      refine ⟨b', Ev.step hu ?_, fun h row hx => ?_⟩
      · simp only [if_pos h1]
        exact hc1
      · rw [List.drop_eq_getElem_cons hb] at hx
        rcases List.mem_cons.1 hx with e | hx
        · subst e
          exact ⟨h1, fun x hx => (hc2 h).2 x (by simpa using hx)⟩
        · exact hb2 (hc2 h).1 row hx
    · refine ⟨false, Ev.step hu ?_, fun h => absurd h (by simp)⟩
      simp only [if_neg h1]
      exact Ev.now _
def FineR (rows : List Key) (cols : Int) : Prop := 1 ≤ cols ∧ cols ≤ 8 ∧ rows.length ≤ 100 ∧ ∀ row ∈ rows, okRow cols row
theorem rows16_f (rows : List Key) (cols : Int) : ∃ b, Ev (fun k => hopperref16_Rows.f k rows cols) b ∧ (b = true → FineR rows cols) := by
  unfold hopperref16_Rows.f
  have hj : Ev (fun k => hopperref16_Rows.j0 k rows cols true) false := by
    refine Ev.step (fun k => by rw [hopperref16_Rows.j0]) ?_
    simp only [if_true]
    exact Ev.now _
  by_cases h1 : cols < 1
  · refine ⟨false, ?_, fun h => absurd h (by simp)⟩
    simp only [if_pos h1]
    exact hj
  · by_cases h2 : cols > 8
    · refine ⟨false, ?_, fun h => absurd h (by simp)⟩
      simp only [if_neg h1, if_pos h2]
      exact hj
    · by_cases h3 : rows.length > 100
      · refine ⟨false, ?_, fun h => absurd h (by simp)⟩
        simp only [if_neg h1, if_neg h2, decide_eq_true (show (rows.length : Int) > 100 by omega)]
        exact hj
      · obtain ⟨b, hb1, hb2⟩ := rows16 rows cols (by omega) (by omega) _ 0 (Nat.zero_add _)
        refine ⟨b, ?_, fun h => ⟨by omega, by omega, by omega, fun row hr => hb2 h row (by simpa using hr)⟩⟩
        simp only [if_neg h1, if_neg h2, decide_eq_false (show ¬ (rows.length : Int) > 100 by omega)]
        refine Ev.step (fun k => by rw [hopperref16_Rows.j0]) ?_
        simp only [Bool.false_eq_true, if_false]
        exact hb1
def Fine (kind : Int) (l r : List Key) (lk rk : List Int) (lc rc : Int) : Prop := FineR l lc ∧ FineR r rc ∧ l.length ≤ 40 ∧ r.length ≤ 40 ∧ rightB kind lk rk lc rc = true
theorem fine_f (kind : Int) (l r : List Key) (lk rk : List Int) (lc rc : Int) : ∃ k b, hopperlaw23_fine.f k kind l r lk rk lc rc = some b ∧ (b = true → Fine kind l r lk rk lc rc) := by
  obtain ⟨b1, ⟨k1, e1⟩, p1⟩ := rows16_f l lc
  obtain ⟨b2, ⟨k2, e2⟩, p2⟩ := rows16_f r rc
  obtain ⟨k3, e3⟩ := rright_f kind lk rk lc rc
  have f1 := e1 (k1 + k2 + k3) (by omega)
  have f2 := e2 (k1 + k2 + k3) (by omega)
  have f3 := e3 (k1 + k2 + k3) (by omega)
  refine ⟨k1 + k2 + k3, (if b1 = true then (if b2 = true then (if (l.length : Int) ≤ 40 then (if (r.length : Int) ≤ 40 then rightB kind lk rk lc rc else false) else false) else false) else false), ?_, ?_⟩
  · unfold hopperlaw23_fine.f
    simp only [f1, f2, f3, Option.bind_some]
    repeat' split
    all_goals rfl
  · intro h
    by_cases g1 : b1 = true
    · by_cases g2 : b2 = true
      · by_cases g3 : (l.length : Int) ≤ 40
        · by_cases g4 : (r.length : Int) ≤ 40
          · rw [if_pos g1, if_pos g2, if_pos g3, if_pos g4] at h
            exact ⟨p1 g1, p2 g2, by omega, by omega, h⟩
          · rw [if_pos g1, if_pos g2, if_pos g3, if_neg g4] at h
            exact absurd h (by simp)
        · rw [if_pos g1, if_pos g2, if_neg g3] at h
          exact absurd h (by simp)
      · rw [if_pos g1, if_neg g2] at h
        exact absurd h (by simp)
    · rw [if_neg g1] at h
      exact absurd h (by simp)
end Go.Proofs.Ytcbjkejboegmlaa.HW
end
section
/- The four kinds of joined rows, told apart: plain laws for JoinParts. -/
set_option linter.unusedVariables false
set_option linter.unusedSimpArgs false
namespace Go.Proofs.Ytcbjkejboegmlaa.HW
open Go.RowKit Go.Proofs.Ytcbjkejboegmlaa.P Go.Proofs.Ytcbjkejboegmlaa.HP Go.Proofs.YtcbjkejboegmlaaW.PrintWords Go.Proofs.YtcbjkejboegmlaaW.PrintLast Go.Proofs.YtcbjkejboegmlaaW.PrintMore
attribute [local go_sem] max2_int min2_int max_two min_two max_three min_three max_four min_four
def hitB (r : List Key) (lk rk : List Int) (row : Key) : Bool := decide (mrow (keysOf r rk) (ofL row lk) ≠ [])
theorem range_getD (l : List Key) : (List.range l.length).map (fun j => l.getD j []) = l := by
  apply List.ext_getElem
  · simp
  · intro i h1 h2
    simp [List.getD_eq_getElem?_getD, h2]
theorem rowsL_flat (kind : Int) (l r : List Key) (lk rk : List Int) (n : Nat) : rowsL kind l r lk rk n = l.flatMap (fun row => joinedL kind row r (mrow (keysOf r rk) (ofL row lk)) n) := by
  unfold rowsL accL
  have h1 : ∀ j ∈ List.range l.length, joinedL kind (l.getD j []) r ((matchL (keysOf l lk) (keysOf r rk)).getD j []) n = (fun row => joinedL kind row r (mrow (keysOf r rk) (ofL row lk)) n) (l.getD j []) := fun j hj => by
    have hj := List.mem_range.1 hj
    rw [matchL_at (by rw [keysOf_len]; exact hj)]
    have : (keysOf l lk).getD j [] = ofL (l.getD j []) lk := by simp [keysOf, List.getD_eq_getElem?_getD, hj]
    rw [this]
  have h2 : (List.range l.length).flatMap (fun j => joinedL kind (l.getD j []) r ((matchL (keysOf l lk) (keysOf r rk)).getD j []) n) = (List.range l.length).flatMap (fun j => (fun row => joinedL kind row r (mrow (keysOf r rk) (ofL row lk)) n) (l.getD j [])) := by
    rw [List.flatMap_def, List.flatMap_def, List.map_congr_left h1]
  rw [h2]
  conv => rhs; rw [← range_getD l]
  rw [List.flatMap_map]
theorem rowsL_small (kind : Int) (l r : List Key) (lk rk : List Int) (n : Nat) : (rowsL kind l r lk rk n).length ≤ (r.length + 1) * l.length := by
  rw [rowsL_flat]
  induction l with
  | nil => simp
  | cons x l ih =>
    rw [List.flatMap_cons, List.length_append, List.length_cons, Nat.mul_add]
    have h1 := joinedL_len kind x r (mrow (keysOf r rk) (ofL x lk)) n
    have h2 := mrow_len (keysOf r rk) (ofL x lk)
    rw [keysOf_len] at h2
    omega
theorem rowsL_semi (l r : List Key) (lk rk : List Int) (n : Nat) : rowsL 3 l r lk rk n = l.filter (hitB r lk rk) := by
  rw [rowsL_flat]
  induction l with
  | nil => rfl
  | cons x l ih =>
    rw [List.flatMap_cons, ih, List.filter_cons]
    unfold joinedL hitB
    by_cases h : mrow (keysOf r rk) (ofL x lk) = []
    · simp [h]
    · simp [h]
theorem rowsL_anti (l r : List Key) (lk rk : List Int) (n : Nat) : rowsL 4 l r lk rk n = l.filter (fun row => !hitB r lk rk row) := by
  rw [rowsL_flat]
  induction l with
  | nil => rfl
  | cons x l ih =>
    rw [List.flatMap_cons, ih, List.filter_cons]
    unfold joinedL hitB
    by_cases h : mrow (keysOf r rk) (ofL x lk) = []
    · simp [h]
    · simp [h]
theorem rowsL_sum (l r : List Key) (lk rk : List Int) (n : Nat) : (rowsL 2 l r lk rk n).length = (rowsL 1 l r lk rk n).length + (rowsL 4 l r lk rk n).length := by
  rw [rowsL_flat, rowsL_flat, rowsL_flat]
  induction l with
  | nil => rfl
  | cons x l ih =>
    rw [List.flatMap_cons, List.flatMap_cons, List.flatMap_cons, List.length_append, List.length_append, List.length_append, ih]
    unfold joinedL
    by_cases h : mrow (keysOf r rk) (ofL x lk) = []
    · simp [h]; omega
    · simp [h]; omega
/-- How many of the first i are such. -/
def cntF (f : Key → Bool) (l : List Key) (i : Nat) : Nat := ((l.take i).filter f).length
theorem cntF_at (f : Key → Bool) (l : List Key) (i : Nat) (hi : i < l.length) (h : f l[i] = true) : cntF f l i < (l.filter f).length ∧ (l.filter f).getD (cntF f l i) [] = l[i] ∧ cntF f l (i + 1) = cntF f l i + 1 := by
  have e : l.filter f = (l.take i).filter f ++ l[i] :: (l.drop (i + 1)).filter f := by
    conv => lhs; rw [← List.take_append_drop i l]
    rw [List.filter_append, List.drop_eq_getElem_cons hi, List.filter_cons, if_pos h]
  refine ⟨?_, ?_, ?_⟩
  · rw [e]; unfold cntF; simp
  · rw [e]; unfold cntF; simp [List.getD_eq_getElem?_getD]
  · unfold cntF
    rw [List.take_succ_eq_append_getElem hi, List.filter_append]
    simp [h]
theorem cntF_no (f : Key → Bool) (l : List Key) (i : Nat) (hi : i < l.length) (h : f l[i] = false) : cntF f l (i + 1) = cntF f l i := by
  unfold cntF
  rw [List.take_succ_eq_append_getElem hi, List.filter_append]
  simp [h]
theorem cntF_all (f : Key → Bool) (l : List Key) : cntF f l l.length = (l.filter f).length := by unfold cntF; simp
theorem cntF_le (f : Key → Bool) (l : List Key) (i : Nat) : cntF f l i ≤ i := by
  unfold cntF
  have := List.length_filter_le f (l.take i)
  have h2 := List.length_take_le i l
  omega
theorem filt_mem (f : Key → Bool) (l : List Key) (s : Nat) (h : s < (l.filter f).length) : f ((l.filter f).getD s []) = true := by
  have := getD_lt_mem (l.filter f) s h
  exact (List.mem_filter.1 this).2
end Go.Proofs.Ytcbjkejboegmlaa.HW
end
