import Derived.Test.YtcbjkejboegmlaaZJnW
import Derived.Lib.SmallJoins
import Derived.Deep.SlicePairs
import Derived.Test.YtcbjkejboegmlaaZHRow
/- A side (rows, columns, keys) that came in: what it reads as. -/
set_option linter.unusedVariables false
set_option linter.unusedSimpArgs false
namespace Go.Proofs.Ytcbjkejboegmlaa.HW
open Go.RowKit Go.Proofs.Ytcbjkejboegmlaa.P Go.Proofs.Ytcbjkejboegmlaa.HP Go.Proofs.YtcbjkejboegmlaaW.PrintWords Go.Proofs.YtcbjkejboegmlaaW.PrintLast Go.Proofs.YtcbjkejboegmlaaW.PrintMore
attribute [local go_sem] max2_int min2_int max_two min_two max_three min_three max_four min_four
open Go.ChangeShapes Go.WideShapes Go.Deep
theorem list_of {α : Type} {P : Nat → α → Prop} : ∀ (n : Nat), (∀ i, i < n → ∃ x, P i x) → ∃ l : List α, l.length = n ∧ ∀ (i : Nat) (x : α), l[i]? = some x → P i x
  | 0, _ => ⟨[], rfl, fun i x h => by simp at h⟩
  | n + 1, h => by
    obtain ⟨l, hl, hp⟩ := list_of n (fun i hi => h i (by omega))
    obtain ⟨x, hx⟩ := h n (by omega)
    refine ⟨l ++ [x], by simp [hl], fun i y hy => ?_⟩
    rcases Nat.lt_or_ge i l.length with hi | hi
    · rw [List.getElem?_append_left hi] at hy
      exact hp i y hy
    · rw [List.getElem?_append_right hi] at hy
      have : i - l.length = 0 := by
        rcases Nat.eq_zero_or_pos (i - l.length) with h0 | h0
        · exact h0
        · rw [show i - l.length = (i - l.length - 1) + 1 by omega] at hy
          simp at hy
      rw [this] at hy
      simp only [List.getElem?_cons_zero, Option.some.injEq] at hy
      subst hy
      rw [show i = n by omega]
      exact hx
section
variable {H : Type} {enc : TypeId × Value → H} {W : World} {base : Nat} {held : Bool}
theorem reads_vals {fuel : Nat} {cs : List Value} {x : DataW H × List MemPlace} (h : DataW.trod enc Try.prog W base (fun _ => true) held fuel 38 cs = some x) :
    ∃ (A : Option Addr) (c : Nat) (l : Key), cs = [.slice A l.length c] ∧ l.length ≤ c ∧ Kd.C k43 W A l.length l := by
  rcases open_slice_pairs Try.underlying38 Try.underlying43 (by kernel_rfl) rfl rfl (by kernel_rfl) (by kernel_rfl) h with ⟨hcs, _⟩ | ⟨a, len, cap, m, n, V0, V1, D0, D1, P0, P1, hcs, _, hl, hm, hmm, _, hx⟩
  · exact ⟨none, 0, [], hcs, Nat.le_refl _, ⟨rfl, by simp, fun h => absurd h (by simp)⟩⟩
  · have hmc : m = cap := by simpa using hmm
    obtain ⟨l, hll, hp⟩ := list_of (P := fun i (x : S43) => W.cell? (a.add (i * 2)) = some (.bool x.f0) ∧ W.cell? (a.add (i * 2 + 1)) = some (.string x.f1)) len (fun i hi => by
      obtain ⟨h0, h1, t0, t1⟩ := hx i (by omega)
      obtain ⟨b, e0, _⟩ := DataW.trod_bool Try.underlying4 t0
      obtain ⟨s, e1, _⟩ := DataW.trod_string Try.underlying9 t1
      injection e0 with e0
      injection e1 with e1
      exact ⟨⟨b, s⟩, by rw [h0, e0], by rw [h1, e1]⟩)
    refine ⟨some a, cap, l, by rw [hll]; exact hcs, by omega, ⟨rfl, by rw [hll]; simp only [maxLen] at hm; omega, fun _ => ⟨a, rfl, fun j p hj => ?_⟩⟩⟩
    obtain ⟨g0, g1⟩ := hp j p hj
    refine ⟨[.bool p.f0, .string p.f1], rfl, k43_mk W p, fun i u hu => ?_⟩
    match i, hu with
    | 0, hu =>
      simp only [List.getElem?_cons_zero, Option.some.injEq] at hu
      subst hu
      exact g0
    | 1, hu =>
      simp only [List.getElem?_cons_zero, List.getElem?_cons_succ, Option.some.injEq] at hu
      subst hu
      exact g1
theorem reads_rows {fuel : Nat} {cs : List Value} {x : DataW H × List MemPlace} (h : DataW.trod enc Try.prog W base (fun _ => true) held fuel 22 cs = some x) :
    ∃ (A : Option Addr) (c : Nat) (l : List Key), cs = [.slice A l.length c] ∧ l.length ≤ c ∧ Kd.C (Kd.slice 43 k43) W A l.length l := by
  rcases open_slice Try.underlying22 h with ⟨hcs, _⟩ | ⟨a, len, cap, m, n, D, Pl, hcs, _, hl, hm, hmm, _, hx⟩
  · exact ⟨none, 0, [], hcs, Nat.le_refl _, ⟨rfl, by simp, fun h => absurd h (by simp)⟩⟩
  · have hmc : m = cap := by simpa using hmm
    have hc1 : Try.prog.cellsOf 38 = 1 := by kernel_rfl
    obtain ⟨l, hll, hp⟩ := list_of (P := fun i (x : Key) => ∃ (A : Option Addr) (c : Nat), W.cell? (a.add i) = some (.slice A x.length c) ∧ x.length ≤ c ∧ Kd.C k43 W A x.length x) len (fun i hi => by
      obtain ⟨cs', h0, h1⟩ := hx i (by omega)
      rw [hc1, Nat.mul_one] at h0
      obtain ⟨_, hlen, hcell⟩ := World.cells?_some h0
      obtain ⟨A, c, xl, e, hc, hC⟩ := reads_vals h1
      subst e
      have e0 := hcell 0 (by omega)
      exact ⟨xl, A, c, by rw [add0] at e0; simpa using e0, hc, hC⟩)
    refine ⟨some a, cap, l, by rw [hll]; exact hcs, by omega, ⟨rfl, by rw [hll]; simp only [maxLen] at hm; omega, fun _ => ⟨a, rfl, fun j p hj => ?_⟩⟩⟩
    obtain ⟨A, c, g0, g1, g2⟩ := hp j p hj
    refine ⟨[.slice A p.length c], rfl, ⟨A, c, rfl, g1, g2⟩, fun i u hu => ?_⟩
    match i, hu with
    | 0, hu =>
      simp only [List.getElem?_cons_zero, Option.some.injEq] at hu
      subst hu
      show W.cell? (a.add (j * 1 + 0)) = _
      rw [Nat.mul_one, Nat.add_zero]
      exact g0
theorem reads_nums {fuel : Nat} {cs : List Value} {x : DataW H × List MemPlace} (h : DataW.trod enc Try.prog W base (fun _ => true) held fuel 23 cs = some x) :
    ∃ (A : Option Addr) (c : Nat) (l : List Int), cs = [.slice A l.length c] ∧ l.length ≤ c ∧ Kd.C (Kd.int .i64) W A l.length l ∧ ∀ x ∈ l, (Lit.int .i64 x).wf = true := by
  rcases open_ints Try.underlying23 Try.underlying3 (by kernel_rfl) h with ⟨hcs, _⟩ | ⟨a, len, cap, zs, hcs, _, hl, hm, hz, hx, hcell, hwf⟩
  · exact ⟨none, 0, [], hcs, Nat.le_refl _, ⟨rfl, by simp, fun h => absurd h (by simp)⟩, by simp⟩
  · have hz2 : zs.length = cap := by simpa using hz
    have hlen : (zs.take len).length = len := by simp; omega
    refine ⟨some a, cap, zs.take len, by rw [hlen]; exact hcs, by rw [hlen]; exact hl, ?_, fun y hy => hwf y (List.mem_of_mem_take hy)⟩
    refine Kd.C_of_reads (d := (0 : Int)) (h1 := fun _ => rfl) ⟨rfl, by rw [hlen]; simp only [maxLen] at hm; omega, fun _ => ⟨a, rfl, fun j hj => ?_⟩⟩
    rw [hlen] at hj
    rw [hcell j (by omega)]
    simp [List.getD_eq_getElem?_getD, hj]
/-- A side's value. -/
def sideV (A : Option Addr) (l : List Key) (c : Nat) (m : Int) (A' : Option Addr) (k : List Int) (c' : Nat) : Value := .agg #[.slice A l.length c, .int .i64 m, .slice A' k.length c']
theorem reads_side {r : Reach} {b0 : Nat} {v : Value} {d : DataW H} {p : List MemPlace} (hv : Value.okWide Try.prog W r b0 25 v) (h : DataW.Trod enc Try.prog W base (fun _ => true) held 25 v d p) :
    ∃ (A : Option Addr) (l : List Key) (c : Nat) (m : Int) (A' : Option Addr) (k : List Int) (c' : Nat), v = sideV A l c m A' k c' ∧ l.length ≤ c ∧ Kd.C (Kd.slice 43 k43) W A l.length l ∧ (Lit.int .i64 m).wf = true ∧ k.length ≤ c' ∧ Kd.C (Kd.int .i64) W A' k.length k ∧ ∀ x ∈ k, (Lit.int .i64 x).wf = true := by
  obtain ⟨v0, v1, v2, y0, y1, y2, n, rfl, _, _, t0, t1, t2⟩ := Go.Joins.open_agg3 Try.underlying25 (by kernel_rfl) (by kernel_rfl) hv h
  obtain ⟨A, c, l, e0, hc, hC⟩ := reads_rows t0
  obtain ⟨m, e1, _, hm⟩ := DataW.trod_int Try.underlying3 t1
  obtain ⟨A', c', k, e2, hc', hC', hw⟩ := reads_nums t2
  injection e0 with e0
  injection e1 with e1
  injection e2 with e2
  exact ⟨A, l, c, m, A', k, c', by rw [e0, e1, e2]; rfl, hc, hC, hm, hc', hC', hw⟩
end
end Go.Proofs.Ytcbjkejboegmlaa.HW
