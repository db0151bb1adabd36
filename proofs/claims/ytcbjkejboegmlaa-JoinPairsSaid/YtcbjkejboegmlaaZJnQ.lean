import Derived.Test.YtcbjkejboegmlaaZJnL
import Derived.Test.YtcbjkejboegmlaaZJnO
import Derived.Test.YtcbjkejboegmlaaZJnD
import Derived.Test.YtcbjkejboegmlaaZPx7
/- JoinPairs: plain laws, and the literal of two rows. -/
set_option linter.unusedVariables false
set_option linter.unusedSimpArgs false
namespace Go.Proofs.Ytcbjkejboegmlaa.HW
open Go.RowKit Go.Proofs.Ytcbjkejboegmlaa.P Go.Proofs.Ytcbjkejboegmlaa.HP Go.Proofs.YtcbjkejboegmlaaW.PrintWords Go.Proofs.YtcbjkejboegmlaaW.PrintLast Go.Proofs.YtcbjkejboegmlaaW.PrintMore
attribute [local go_sem] max2_int min2_int max_two min_two max_three min_three max_four min_four
theorem ints_l (a b : List Int) (hl : a.length = b.length) (hn : a.length ≤ 1000000) : ∀ (d i : Nat), i + d = a.length → Ev (fun k => hopperref03_Ints.l0 k a b (i : Int)) (decide (a.drop i = b.drop i)) := by
  intro d
  induction d with
  | zero =>
    intro i hi
    refine Ev.step (fun k => by rw [hopperref03_Ints.l0]) ?_
    simp only [if_neg (show ¬ (i : Int) < (a.length : Int) by omega)]
    rw [List.drop_eq_nil_of_le (by omega), List.drop_eq_nil_of_le (by omega), decide_eq_true rfl]
    exact Ev.now _
  | succ d ih =>
    intro i hi
    have w1 : wrap64 ((i : Int) + 1) = ((i + 1 : Nat) : Int) := wr1 i (by omega)
    refine Ev.step (fun k => by rw [hopperref03_Ints.l0]) ?_
    have ha : i < a.length := by omega
    have hb : i < b.length := by omega
    have e1 : rd a (i : Int) = a[i] := rd_nat a i ha
    have e2 : rd b (i : Int) = b[i] := rd_nat b i hb
    simp only [if_pos (show (i : Int) < (a.length : Int) by omega), if_pos (show (0 : Int) ≤ (i : Int) by omega), if_pos (show (i : Int) < (b.length : Int) by omega), w1, e1, e2]
    rw [List.drop_eq_getElem_cons ha, List.drop_eq_getElem_cons hb]
    by_cases h : a[i] = b[i]
    · simp only [if_pos h, h, List.cons.injEq, true_and]
      exact ih (i + 1) (by omega)
    · simp only [if_neg h, List.cons.injEq, h, false_and, decide_false]
      exact Ev.now _
theorem ints_f (a : List Int) (hn : a.length ≤ 1000000) : ∃ k, hopperref03_Ints.f k a a = some true := by
  have h9 := ints_l a a rfl hn _ 0 (Nat.zero_add _)
  rw [decide_eq_true rfl] at h9
  obtain ⟨k, hk⟩ := h9.rounds
  refine ⟨k, ?_⟩
  unfold hopperref03_Ints.f
  rw [if_pos rfl]
  exact hk
/-- Which of the first j right rows match. -/
def mP (row : Key) (r : List Key) (lk rk : List Int) (j : Nat) : List Int := ((List.range j).filter (fun i => mB (ofL row lk) (ofL (r.getD i []) rk))).map (fun (i : Nat) => (i : Int))
theorem mP_yes {row : Key} {r : List Key} {lk rk : List Int} {j : Nat} (h : mB (ofL row lk) (ofL (r.getD j []) rk) = true) : mP row r lk rk (j + 1) = mP row r lk rk j ++ [(j : Int)] := by
  unfold mP
  rw [List.range_succ, List.filter_append, List.map_append]
  have e : [j].filter (fun i => mB (ofL row lk) (ofL (r.getD i []) rk)) = [j] := List.filter_eq_self.2 (fun a ha => by have ha := List.mem_singleton.1 ha; subst ha; exact h)
  rw [e]
  rfl
theorem mP_no {row : Key} {r : List Key} {lk rk : List Int} {j : Nat} (h : mB (ofL row lk) (ofL (r.getD j []) rk) = false) : mP row r lk rk (j + 1) = mP row r lk rk j := by
  unfold mP
  rw [List.range_succ, List.filter_append, List.map_append]
  have e : [j].filter (fun i => mB (ofL row lk) (ofL (r.getD i []) rk)) = [] := List.filter_eq_nil_iff.2 (fun a ha => by have ha := List.mem_singleton.1 ha; subst ha; rw [h]; simp)
  rw [e]
  simp
theorem mP_len (row : Key) (r : List Key) (lk rk : List Int) (j : Nat) : (mP row r lk rk j).length ≤ j := by
  unfold mP
  rw [List.length_map]
  exact Nat.le_trans (List.length_filter_le _ _) (by simp)
theorem mP_mem {row : Key} {r : List Key} {lk rk : List Int} {j k : Nat} (h : k < (mP row r lk rk j).length) : ∃ i : Nat, rd (mP row r lk rk j) (k : Int) = (i : Int) ∧ i < j := by
  rw [rd_nat _ k h]
  have h9 := List.getElem_mem h
  unfold mP at h9
  obtain ⟨i, hi, e⟩ := List.mem_map.1 h9
  exact ⟨i, e.symm, List.mem_range.1 (List.mem_filter.1 hi).1⟩
theorem cell_later_ {w V : World} {a : Addr} {v : Value} (hx : w.cell? a = some v) (hV : Below w.heap.size w V) : V.cell? a = some v := by
  have hl := World.block_lt_of_cell? _ _ hx
  rw [← hx]
  unfold World.cell?
  rw [hV.block _ hl]
theorem mP_all (row : Key) (r : List Key) (lk rk : List Int) : mP row r lk rk r.length = mrow (keysOf r rk) (ofL row lk) := by
  unfold mP mrow
  rw [keysOf_len]
  have hk : ∀ i ∈ List.range r.length, mB (ofL row lk) (ofL (r.getD i []) rk) = (decide ((keysOf r rk).getD i [] = ofL row lk) && !gonek (ofL row lk)) := fun i hi => by
    have hi := List.mem_range.1 hi
    have e : (keysOf r rk).getD i [] = ofL (r.getD i []) rk := by simp [keysOf, List.getD_eq_getElem?_getD, hi]
    rw [e]
    unfold mB
    congr 1
    exact decide_eq_decide.2 ⟨fun h => h.symm, fun h => h.symm⟩
  rw [List.filter_congr hk]
  by_cases h : gonek (ofL row lk) = true
  · rw [if_pos h]
    simp [h]
  · rw [if_neg h]
    simp [h]
theorem accL_more (kind : Int) (l r : List Key) (ms : List (List Int)) (n i : Nat) : ∀ d, ∃ t, accL kind l r ms n (i + d) = accL kind l r ms n i ++ t
  | 0 => ⟨[], by simp⟩
  | d + 1 => by
    obtain ⟨t, ht⟩ := accL_more kind l r ms n i d
    exact ⟨t ++ joinedL kind (l.getD (i + d) []) r (ms.getD (i + d) []) n, by rw [← Nat.add_assoc, accL_succ, ht, List.append_assoc]⟩
theorem joined1 (row : Key) (r : List Key) (m : List Int) (n : Nat) : joinedL 1 row r m n = m.map (fun i => row ++ rd_L3 r i) := by
  unfold joinedL
  simp
theorem acc_at (l r : List Key) (ms : List (List Int)) (n N i k : Nat) (hi : i < N) (hk : k < (ms.getD i []).length) :
    (accL 1 l r ms n i).length + k < (accL 1 l r ms n N).length ∧ (accL 1 l r ms n N).getD ((accL 1 l r ms n i).length + k) [] = l.getD i [] ++ rd_L3 r (rd (ms.getD i []) (k : Int)) := by
  obtain ⟨t, ht⟩ := accL_more 1 l r ms n (i + 1) (N - (i + 1))
  rw [show i + 1 + (N - (i + 1)) = N by omega, accL_succ, joined1, List.append_assoc] at ht
  rw [ht]
  obtain ⟨m, hm⟩ : ∃ m, m = ms.getD i [] := ⟨_, rfl⟩
  obtain ⟨f, hf⟩ : ∃ f : Int → Key, f = fun j => l.getD i [] ++ rd_L3 r j := ⟨_, rfl⟩
  rw [← hm] at hk
  rw [← hm, rd_nat _ k hk, ← hf, show l.getD i [] ++ rd_L3 r m[k] = f m[k] by rw [hf]]
  refine ⟨by simp only [List.length_append, List.length_map]; omega, ?_⟩
  rw [List.getD_eq_getElem?_getD, List.getElem?_append_right (by omega), List.getElem?_append_left (by simp only [List.length_map]; omega)]
  simp [hk]
theorem acc_len (l r : List Key) (ms : List (List Int)) (n i : Nat) : (accL 1 l r ms n (i + 1)).length = (accL 1 l r ms n i).length + (ms.getD i []).length := by
  rw [accL_succ, joined1]
  simp
/-- A joined row, cut in two. -/
theorem cut_two (A : Option Addr) (c N : Nat) (row rj : Key) (hN : N = (row ++ rj).length) (hc : N ≤ c) : ∃ (A' : Option Addr) (c' : Nat), rj.length ≤ c' ∧ row.length ≤ c ∧
    (∀ W : World, (Instr.slice 38 (.slice A N c) none (some (.int .i64 (row.length : Int))) none).run Try.prog W = .ok (.slice A row.length c) W) ∧
    (∀ W : World, (Instr.slice 38 (.slice A N c) (some (.int .i64 (row.length : Int))) none none).run Try.prog W = .ok (.slice A' rj.length c') W) ∧
    ∀ W : World, Kd.C k43 W A N (row ++ rj) → Kd.C k43 W A row.length row ∧ Kd.C k43 W A' rj.length rj := by
  obtain ⟨i0, hi0, _, hsz, _⟩ := info_parts infoV
  have hN2 : N = row.length + rj.length := by rw [hN, List.length_append]
  have h1 := cut_to (P := Try.prog) 38 43 .i64 Try.underlying38 hi0 A N c (row.length : Int) (by omega) (by omega) hc
  have h2 := cut_from (P := Try.prog) 38 43 .i64 Try.underlying38 hi0 2 hsz A N c (row.length : Int) (by omega) (by omega)
  refine ⟨(if c = row.length then A else A.map (·.add (row.length * 2))), c - row.length, by omega, by omega, fun W => ?_, fun W => ?_, fun W hC => ?_⟩
  · rw [h1 W, Int.toNat_natCast]
  · rw [h2 W, Int.toNat_natCast, show N - row.length = rj.length by omega]
  · rw [hN] at hC hc
    have a := Kd.C_take (m := row.length) hC (by simp)
    have b := Kd.C_drop (m := row.length) hC (by simp) hc
    rw [List.take_left] at a
    rw [List.drop_left] at b
    exact ⟨a, b⟩
theorem lit2_step {ops : Array Oper} {o : Oper} {a : Act} {Q : Exit → Act → World → Prop} {Kc : Act → World → Prop} {W : World} {T : Tmp} {x1 x2 : Key} {A1 A2 : Option Addr} {c1 c2 : Nat} (hw : Region.wanted o (yielded ops a.tmps) = true) (hd : o.dst = some T)
    (hrun : (execOp a.eval o).run Try.prog W = .ok (.value (.slice (some ⟨W.heap.size, 0, none⟩) 2 2)) (W.alloc (.cells #[.slice A1 x1.length c1, .slice A2 x2.length c2] 38)))
    (h1 : x1.length ≤ c1) (h2 : x2.length ≤ c2) (hC1 : Kd.C k43 W A1 x1.length x1) (hC2 : Kd.C k43 W A2 x2.length x2)
    (h : ∀ A w1, Kd.C (Kd.slice 43 k43) w1 A [x1, x2].length [x1, x2] → Below W.heap.size W w1 → Kc (a.put (some T) (.slice A 2 2)) w1) :
    if Region.wanted o (yielded ops a.tmps) = true then Oper.wp Try.prog o a W Kc Q else Kc (a.put (some T) undef) W :=
  value_ hw hd hrun (h _ _ (lit_two W x1 x2 A1 A2 c1 c2 h1 h2 hC1 hC2) (below_al W _))
theorem same_two (x y : Key) (hx : x.length ≤ 1000) (hy : y.length ≤ 1000) : ∃ k, hopperref18_Same.f k [x, y] [x, y] = some true := by
  obtain ⟨k, hk⟩ := (same18 [x, y] [x, y] (by simp) (fun row h => by simp only [List.mem_cons, List.not_mem_nil, or_false] at h; rcases h with h | h <;> (subst h; omega))).rounds
  exact ⟨k, hk.trans (by simp)⟩
end Go.Proofs.Ytcbjkejboegmlaa.HW
