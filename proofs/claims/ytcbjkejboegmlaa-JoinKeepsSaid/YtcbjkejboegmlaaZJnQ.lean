import Derived.Test.YtcbjkejboegmlaaZJnL
import Derived.Test.YtcbjkejboegmlaaZJnO
import Derived.Test.YtcbjkejboegmlaaZJnD
import Derived.Test.YtcbjkejboegmlaaZPx7
/- JoinPairs: plain laws, and the literal of two rows. -/
set_option linter.unusedVariables false
set_option linter.unusedSimpArgs false
namespace Go.Proofs.Ytcbjkejboegmlaa.HW
open Go.RowKit Go.Proofs.Ytcbjkejboegmlaa.P Go.Proofs.Ytcbjkejboegmlaa.HP Go.Proofs.YtcbjkejboegmlaaW.PrintWords Go.Proofs.YtcbjkejboegmlaaW.PrintLast Go.Proofs.YtcbjkejboegmlaaW.PrintMore
attribute [local go_sem] max2_int min2_int max_two min_two max_three min_three max_four min_four
/-- Which of the first j right rows match. -/
def mP (row : Key) (r : List Key) (lk rk : List Int) (j : Nat) : List Int := ((List.range j).filter (fun i => mB (ofL row lk) (ofL (r.getD i []) rk))).map (fun (i : Nat) => (i : Int))
theorem mP_yes {row : Key} {r : List Key} {lk rk : List Int} {j : Nat} (h : mB (ofL row lk) (ofL (r.getD j []) rk) = true) : mP row r lk rk (j + 1) = mP row r lk rk j ++ [(j : Int)] := by
  unfold mP
  rw [List.range_succ, List.filter_append, List.map_append]
  have e : [j].filter (fun i => mB (ofL row lk) (ofL (r.getD i []) rk)) = [j] := List.filter_eq_self.2 (fun a ha => by have ha := List.mem_singleton.1 ha; subst ha; exact h)
  rw [e]
  rfl
theorem mP_no {row : Key} {r : List Key} {lk rk : List Int} {j : Nat} (h : mB (ofL row lk) (ofL (r.getD j []) rk) = false) : mP row r lk rk (j + 1) = mP row r lk rk j := by
  unfold mP
  rw [List.range_succ, List.filter_append, List.map_append]
  have e : [j].filter (fun i => mB (ofL row lk) (ofL (r.getD i []) rk)) = [] := List.filter_eq_nil_iff.2 (fun a ha => by have ha := List.mem_singleton.1 ha; subst ha; rw [h]; simp)
  rw [e]
  simp
theorem mP_len (row : Key) (r : List Key) (lk rk : List Int) (j : Nat) : (mP row r lk rk j).length ≤ j := by
  unfold mP
  rw [List.length_map]
  exact Nat.le_trans (List.length_filter_le _ _) (by simp)
theorem cell_later_ {w V : World} {a : Addr} {v : Value} (hx : w.cell? a = some v) (hV : Below w.heap.size w V) : V.cell? a = some v := by
  have hl := World.block_lt_of_cell? _ _ hx
  rw [← hx]
  unfold World.cell?
  rw [hV.block _ hl]
theorem mP_all (row : Key) (r : List Key) (lk rk : List Int) : mP row r lk rk r.length = mrow (keysOf r rk) (ofL row lk) := by
  unfold mP mrow
  rw [keysOf_len]
  have hk : ∀ i ∈ List.range r.length, mB (ofL row lk) (ofL (r.getD i []) rk) = (decide ((keysOf r rk).getD i [] = ofL row lk) && !gonek (ofL row lk)) := fun i hi => by
    have hi := List.mem_range.1 hi
    have e : (keysOf r rk).getD i [] = ofL (r.getD i []) rk := by simp [keysOf, List.getD_eq_getElem?_getD, hi]
    rw [e]
    unfold mB
    congr 1
    exact decide_eq_decide.2 ⟨fun h => h.symm, fun h => h.symm⟩
  rw [List.filter_congr hk]
  by_cases h : gonek (ofL row lk) = true
  · rw [if_pos h]
    simp [h]
  · rw [if_neg h]
    simp [h]
end Go.Proofs.Ytcbjkejboegmlaa.HW
