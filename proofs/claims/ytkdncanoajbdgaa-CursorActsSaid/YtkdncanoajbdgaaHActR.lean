/- A slice of acts that came in. -/
import Derived.ChangeSlices
import Derived.Deep.SlicePairs
import Derived.Test.YtkdncanoajbdgaaWWords
set_option linter.unusedVariables false
namespace Go.Proofs.Ytkdncanoajbdgaa.HRow
open Go.ChangeShapes Go.WideShapes Go.Deep
def getI : Value → Int
  | .int _ n => n
  | _ => 0
theorem reads_acts {H : Type} {enc : TypeId × Value → H} {P : Program} {W : World} {base : Nat} {held : Bool} {t e : TypeId} {f0 f1 : Field} {a : Option Addr} {len cap : Nat} {d : DataW H} {ps : List MemPlace}
    (ht : P.underlying t = some (.slice e)) (he : P.underlying e = some (.struct #[f0, f1])) (ce : P.cellsOf e = 2) (o0 : f0.offset = 0) (o1 : f1.offset = 1) (c0 : P.cellsOf f0.type = 1) (c1 : P.cellsOf f1.type = 1)
    (u0 : P.underlying f0.type = some (.int .i64)) (u1 : P.underlying f1.type = some (.int .i64))
    (h : DataW.Trod enc P W base (fun _ => true) held t (.slice a len cap) d ps) :
    ∃ l : List (Int × Int), l.length = len ∧ (∀ (i : Nat) (h : i < l.length), ∃ ad, a = some ad ∧ W.cell? (ad.add (i * 2)) = some (.int .i64 l[i].1) ∧ W.cell? (ad.add (i * 2 + 1)) = some (.int .i64 l[i].2)) ∧ l.length ≤ cap ∧
      ∀ p ∈ l, (-9223372036854775808 ≤ p.1 ∧ p.1 < 9223372036854775808) ∧ (-9223372036854775808 ≤ p.2 ∧ p.2 < 9223372036854775808) := by
  obtain ⟨fuel, hf⟩ := h
  rcases open_slice_pairs ht he ce o0 o1 c0 c1 hf with ⟨hcs, _⟩ | ⟨x, l, c, m, n, V0, V1, D0, D1, P0, P1, hcs, _, hl, hm, hmm, _, hx⟩
  · simp [Value.cells] at hcs
    obtain ⟨rfl, rfl, rfl⟩ := hcs
    exact ⟨[], rfl, fun i hi => absurd hi (by simp), Nat.le_refl _, by simp⟩
  · simp [Value.cells] at hcs
    obtain ⟨rfl, rfl, rfl⟩ := hcs
    have hmc : m = cap := by simpa using hmm
    have hv : ∀ i, i < len → V0 i = .int .i64 (getI (V0 i)) ∧ V1 i = .int .i64 (getI (V1 i)) ∧ (Lit.int .i64 (getI (V0 i))).wf = true ∧ (Lit.int .i64 (getI (V1 i))).wf = true := by
      intro i hi
      obtain ⟨_, _, t0, t1⟩ := hx i (by omega)
      obtain ⟨n0, e0, _, w0⟩ := DataW.trod_int u0 t0
      obtain ⟨n1, e1, _, w1⟩ := DataW.trod_int u1 t1
      injection e0 with e0
      injection e1 with e1
      rw [e0, e1]
      exact ⟨rfl, rfl, w0, w1⟩
    refine ⟨(List.range len).map (fun i => (getI (V0 i), getI (V1 i))), by simp, fun i hi => ⟨x, rfl, ?_⟩, by simpa using hl, fun p hp => ?_⟩
    · have hi2 : i < len := by simpa using hi
      obtain ⟨h0, h1, _, _⟩ := hx i (by omega)
      obtain ⟨e0, e1, _, _⟩ := hv i hi2
      simp only [List.getElem_map, List.getElem_range]
      exact ⟨by rw [← e0]; exact h0, by rw [← e1]; exact h1⟩
    · rw [List.mem_map] at hp
      obtain ⟨i, hi, rfl⟩ := hp
      rw [List.mem_range] at hi
      obtain ⟨_, _, w0, w1⟩ := hv i hi
      simp [Lit.wf, IntKind.min, IntKind.max, IntKind.signed, IntKind.bits] at w0 w1
      simp only
      omega
end Go.Proofs.Ytkdncanoajbdgaa.HRow
