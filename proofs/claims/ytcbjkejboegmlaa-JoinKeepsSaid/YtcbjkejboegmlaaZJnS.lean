import Derived.Test.YtcbjkejboegmlaaZRefRows
import Derived.Test.YtcbjkejboegmlaaZWalkJoinParts
/- Rows of one's own whose values are written over: what is kept. -/
set_option linter.unusedVariables false
set_option linter.unusedSimpArgs false
namespace Go.Proofs.Ytcbjkejboegmlaa.HW
open Go.RowKit Go.Proofs.Ytcbjkejboegmlaa.P Go.Proofs.Ytcbjkejboegmlaa.HP Go.Proofs.YtcbjkejboegmlaaW.PrintWords Go.Proofs.YtcbjkejboegmlaaW.PrintLast Go.Proofs.YtcbjkejboegmlaaW.PrintMore
attribute [local go_sem] max2_int min2_int max_two min_two max_three min_three max_four min_four
def Grid (B gx : Nat) (cx : Array Value) (L : Nat → Nat) (n : Nat) (W : World) : Prop := W.heap[gx]? = some (.cells cx 38 (0, 0)) ∧ ∀ i, i < n → ∃ Ai ci, cx[i]? = some (.slice Ai (L i) ci) ∧ (0 < L i → ∃ g cells, Ai = some ⟨g, 0, none⟩ ∧ B ≤ g ∧ W.heap[g]? = some (.cells cells 43 (0, 0)) ∧ 2 * L i ≤ cells.size)
theorem Grid.set {B gx n g j : Nat} {cx : Array Value} {L : Nat → Nat} {W : World} {cells : Array Value} {v : Value} (h : Grid B gx cx L n W) (hg : W.heap[g]? = some (.cells cells 43 (0, 0))) : Grid B gx cx L n (W.setCell ⟨g, j, none⟩ v) := by
  refine ⟨blk_other hg h.1 (fun cs' e => by injection e with _ e; exact absurd e (by decide)) j v, fun i hi => ?_⟩
  obtain ⟨Ai, ci, e, hh⟩ := h.2 i hi
  refine ⟨Ai, ci, e, fun hp => ?_⟩
  obtain ⟨g2, cells2, eA, hB, hb, hs⟩ := hh hp
  by_cases he : g2 = g
  · subst he
    rw [hg] at hb
    injection hb with hb
    injection hb with hb
    subst hb
    exact ⟨g2, _, eA, hB, blk_putj hg j v, by simpa using hs⟩
  · exact ⟨g2, cells2, eA, hB, (Below.heap_setCell W ⟨g, j, none⟩ v g2 he).trans hb, hs⟩
theorem Grid.start {B : Nat} {W : World} {v : Value} {xs : List Key} (h : Kd.R (Kd.slice 43 k43) 38 W B (fun _ => True) v xs) (hp : 0 < xs.length) : ∃ gx cap cx, v = .slice (some ⟨gx, 0, none⟩) xs.length cap ∧ Grid B gx cx (fun i => (xs.getD i []).length) xs.length W := by
  obtain ⟨gx, cap, rfl, hb, hlt, cx, hc⟩ := Kd.R_form h hp
  refine ⟨gx, cap, cx, rfl, hc, fun i hi => ?_⟩
  obtain ⟨c, hcl, ⟨u, rfl, hR⟩, hcell⟩ := Kd.R_get h ([] : Key) (i : Int) (by omega) (by omega)
  rw [Int.toNat_natCast] at hR hcell
  obtain ⟨Ai, ci, eu⟩ := Kd.R_slice hR
  have h1 := hcell 0 _ rfl
  have h2 : cx[i]? = some u := by
    have h3 : W.cell? ⟨gx, i, none⟩ = some u := by
      have e : (⟨gx, 0, none⟩ : Addr).add (i * (Kd.slice 43 k43).sz + 0) = ⟨gx, i, none⟩ := by
        rw [show (Kd.slice 43 k43).sz = 1 from rfl, Nat.mul_one, Nat.add_zero]
        exact add_plain _ _
      rw [e] at h1
      exact h1
    rw [blk_cell hc] at h3
    exact h3
  refine ⟨Ai, ci, by rw [h2, eu], fun hq0 => ?_⟩
  have hq : 0 < (xs.getD i []).length := hq0
  obtain ⟨g, cap2, e2, hb2, hlt2, cells, hcs⟩ := Kd.R_form hR hq
  rw [eu] at e2
  injection e2 with e2
  refine ⟨g, cells, e2, hb2, hcs, ?_⟩
  obtain ⟨A3, c3, e3, hl3, hC3⟩ := Kd.R_reads hR
  rw [eu] at e3
  injection e3 with e3
  rw [← e3, e2] at hC3
  obtain ⟨ad, ea, _, hx⟩ := at_T43 hC3 (((xs.getD i []).length - 1 : Nat) : Int) (by omega) (by omega)
  injection ea with ea
  subst ea
  rw [add_plain, Int.toNat_natCast] at hx
  dsimp only at hx
  rw [blk_cell hcs] at hx
  have := (Array.getElem?_eq_some_iff.1 hx).1
  show 2 * (xs.getD i []).length ≤ cells.size
  omega
theorem Grid.put {B gx n g j : Nat} {cx : Array Value} {L : Nat → Nat} {W w0 : World} {cells : Array Value} {u0 u1 : Value} (h : Grid B gx cx L n W) (hB : Below B w0 W) (hg : W.heap[g]? = some (.cells cells 43 (0, 0))) (hb : B ≤ g) : Grid B gx cx L n (W.setCells g j [u0, u1]) ∧ Below B w0 (W.setCells g j [u0, u1]) := by
  have h1 := h.set (j := j) (v := u0) hg
  have h2 := blk_putj hg j u0
  have h3 := h1.set (j := j + 1) (v := u1) h2
  exact ⟨h3, (hB.setCell hb _).setCell hb _⟩
theorem grid_store {ops : Array Oper} {rest : List Oper} {o : Oper} {a : Act} {Q : Exit → Act → World → Prop} {W w0 : World} {B gx n : Nat} {cx : Array Value} {L : Nat → Nat} (hG : Grid B gx cx L n W) (HB : Below B w0 W) (i j : Nat) (hi : i < n) (hj : j < L i) (Ai : Option Addr) (ci : Nat) (hc : cx[i]? = some (.slice Ai (L i) ci)) (hN : o.dst = none) (hgd : o.guard = none) (p x : Operand) (ho : o.op = .store 43 p x) (ad : Addr) (hA : Ai = some ad) (haddr : a.eval p = .pointer (some (ad.add (j * 2)))) (u0 u1 : Value) (hx : a.eval x = .agg #[u0, u1]) (h0 : u0.oneCell' = true) (h1 : u1.oneCell' = true)
    (h : ∀ w1, Grid B gx cx L n w1 → Below B w0 w1 → wpList Try.prog ops Q rest a w1) : wpList Try.prog ops Q (o :: rest) a W := by
  obtain ⟨A2, c2, e2, hh⟩ := hG.2 i hi
  rw [hc] at e2
  injection e2 with e2
  injection e2 with e3 e4 e5
  subst e3
  obtain ⟨g, cells, e6, hBg, hb, hs⟩ := hh (by omega)
  rw [hA] at e6
  injection e6 with e6
  subst e6
  rw [add_plain] at haddr
  have hrun : (Instr.storeAt 43 (.pointer (some ⟨g, j * 2, none⟩)) (.agg #[u0, u1])).run Try.prog W = .ok () (W.setCells g (j * 2) [u0, u1]) := run_store_run 43 _ [u0, u1] hb rfl (by kernel_rfl) (by show j * 2 + 2 ≤ _; omega) (by intro q hq; simp only [List.mem_cons, List.not_mem_nil, or_false] at hq; rcases hq with rfl | rfl <;> assumption)
  obtain ⟨hG2, hB2⟩ := hG.put (j := j * 2) (u0 := u0) (u1 := u1) HB hb hBg
  refine wpList_plain hgd fun K hK => ?_
  unfold Oper.wp execOp
  simp only [ho, haddr, hx, Sem.run_bind, Sem.run_pure, Result.andThen_ok, hrun]
  show K (a.put o.dst undef) _
  rw [hN]
  exact hK a _ (h _ hG2 hB2)
end Go.Proofs.Ytcbjkejboegmlaa.HW
