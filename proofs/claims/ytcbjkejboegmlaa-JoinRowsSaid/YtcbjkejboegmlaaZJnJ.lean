import Derived.Test.YtcbjkejboegmlaaZJnI
import Derived.Test.YtcbjkejboegmlaaZJnO
/- The four kinds of joined rows, told apart: plain laws for JoinParts. -/
set_option linter.unusedVariables false
set_option linter.unusedSimpArgs false
namespace Go.Proofs.Ytcbjkejboegmlaa.HW
open Go.RowKit Go.Proofs.Ytcbjkejboegmlaa.P Go.Proofs.Ytcbjkejboegmlaa.HP Go.Proofs.YtcbjkejboegmlaaW.PrintWords Go.Proofs.YtcbjkejboegmlaaW.PrintLast Go.Proofs.YtcbjkejboegmlaaW.PrintMore
attribute [local go_sem] max2_int min2_int max_two min_two max_three min_three max_four min_four
def hitB (r : List Key) (lk rk : List Int) (row : Key) : Bool := decide (mrow (keysOf r rk) (ofL row lk) ≠ [])
theorem range_getD (l : List Key) : (List.range l.length).map (fun j => l.getD j []) = l := by
  apply List.ext_getElem
  · simp
  · intro i h1 h2
    simp [List.getD_eq_getElem?_getD, h2]
theorem rowsL_flat (kind : Int) (l r : List Key) (lk rk : List Int) (n : Nat) : rowsL kind l r lk rk n = l.flatMap (fun row => joinedL kind row r (mrow (keysOf r rk) (ofL row lk)) n) := by
  unfold rowsL accL
  have h1 : ∀ j ∈ List.range l.length, joinedL kind (l.getD j []) r ((matchL (keysOf l lk) (keysOf r rk)).getD j []) n = (fun row => joinedL kind row r (mrow (keysOf r rk) (ofL row lk)) n) (l.getD j []) := fun j hj => by
    have hj := List.mem_range.1 hj
    rw [matchL_at (by rw [keysOf_len]; exact hj)]
    have : (keysOf l lk).getD j [] = ofL (l.getD j []) lk := by simp [keysOf, List.getD_eq_getElem?_getD, hj]
    rw [this]
  have h2 : (List.range l.length).flatMap (fun j => joinedL kind (l.getD j []) r ((matchL (keysOf l lk) (keysOf r rk)).getD j []) n) = (List.range l.length).flatMap (fun j => (fun row => joinedL kind row r (mrow (keysOf r rk) (ofL row lk)) n) (l.getD j [])) := by
    rw [List.flatMap_def, List.flatMap_def, List.map_congr_left h1]
  rw [h2]
  conv => rhs; rw [← range_getD l]
  rw [List.flatMap_map]
theorem rowsL_small (kind : Int) (l r : List Key) (lk rk : List Int) (n : Nat) : (rowsL kind l r lk rk n).length ≤ (r.length + 1) * l.length := by
  rw [rowsL_flat]
  induction l with
  | nil => simp
  | cons x l ih =>
    rw [List.flatMap_cons, List.length_append, List.length_cons, Nat.mul_add]
    have h1 := joinedL_len kind x r (mrow (keysOf r rk) (ofL x lk)) n
    have h2 := mrow_len (keysOf r rk) (ofL x lk)
    rw [keysOf_len] at h2
    omega
theorem rowsL_semi (l r : List Key) (lk rk : List Int) (n : Nat) : rowsL 3 l r lk rk n = l.filter (hitB r lk rk) := by
  rw [rowsL_flat]
  induction l with
  | nil => rfl
  | cons x l ih =>
    rw [List.flatMap_cons, ih, List.filter_cons]
    unfold joinedL hitB
    by_cases h : mrow (keysOf r rk) (ofL x lk) = []
    · simp [h]
    · simp [h]
theorem rowsL_anti (l r : List Key) (lk rk : List Int) (n : Nat) : rowsL 4 l r lk rk n = l.filter (fun row => !hitB r lk rk row) := by
  rw [rowsL_flat]
  induction l with
  | nil => rfl
  | cons x l ih =>
    rw [List.flatMap_cons, ih, List.filter_cons]
    unfold joinedL hitB
    by_cases h : mrow (keysOf r rk) (ofL x lk) = []
    · simp [h]
    · simp [h]
theorem rowsL_sum (l r : List Key) (lk rk : List Int) (n : Nat) : (rowsL 2 l r lk rk n).length = (rowsL 1 l r lk rk n).length + (rowsL 4 l r lk rk n).length := by
  rw [rowsL_flat, rowsL_flat, rowsL_flat]
  induction l with
  | nil => rfl
  | cons x l ih =>
    rw [List.flatMap_cons, List.flatMap_cons, List.flatMap_cons, List.length_append, List.length_append, List.length_append, ih]
    unfold joinedL
    by_cases h : mrow (keysOf r rk) (ofL x lk) = []
    · simp [h]; omega
    · simp [h]; omega
/-- How many of the first i are such. -/
def cntF (f : Key → Bool) (l : List Key) (i : Nat) : Nat := ((l.take i).filter f).length
theorem cntF_at (f : Key → Bool) (l : List Key) (i : Nat) (hi : i < l.length) (h : f l[i] = true) : cntF f l i < (l.filter f).length ∧ (l.filter f).getD (cntF f l i) [] = l[i] ∧ cntF f l (i + 1) = cntF f l i + 1 := by
  have e : l.filter f = (l.take i).filter f ++ l[i] :: (l.drop (i + 1)).filter f := by
    conv => lhs; rw [← List.take_append_drop i l]
    rw [List.filter_append, List.drop_eq_getElem_cons hi, List.filter_cons, if_pos h]
  refine ⟨?_, ?_, ?_⟩
  · rw [e]; unfold cntF; simp
  · rw [e]; unfold cntF; simp [List.getD_eq_getElem?_getD]
  · unfold cntF
    rw [List.take_succ_eq_append_getElem hi, List.filter_append]
    simp [h]
theorem cntF_no (f : Key → Bool) (l : List Key) (i : Nat) (hi : i < l.length) (h : f l[i] = false) : cntF f l (i + 1) = cntF f l i := by
  unfold cntF
  rw [List.take_succ_eq_append_getElem hi, List.filter_append]
  simp [h]
theorem cntF_all (f : Key → Bool) (l : List Key) : cntF f l l.length = (l.filter f).length := by unfold cntF; simp
theorem cntF_le (f : Key → Bool) (l : List Key) (i : Nat) : cntF f l i ≤ i := by
  unfold cntF
  have := List.length_filter_le f (l.take i)
  have h2 := List.length_take_le i l
  omega
theorem filt_mem (f : Key → Bool) (l : List Key) (s : Nat) (h : s < (l.filter f).length) : f ((l.filter f).getD s []) = true := by
  have := getD_lt_mem (l.filter f) s h
  exact (List.mem_filter.1 this).2
end Go.Proofs.Ytcbjkejboegmlaa.HW
