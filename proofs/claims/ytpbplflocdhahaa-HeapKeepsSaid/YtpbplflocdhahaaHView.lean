/- Arrays of sixteen bytes: blocks, and the numbers in them. -/
import Derived.Test.YtpbplflocdhahaaHCrc
import Derived.Test.YtpbplflocdhahaaPx1
import Derived.Deep.WholeRow
set_option linter.unusedVariables false
set_option linter.unusedSimpArgs false
namespace Go.Proofs.Ytpbplflocdhahaa.HP
open Go.RowKit Go.Proofs.Ytpbplflocdhahaa.P Go.Proofs.YtpbplflocdhahaaW.PrintWords Go.Proofs.YtpbplflocdhahaaW.PrintLast Go.Proofs.YtpbplflocdhahaaW.PrintMore
/-- The cells of bytes. -/
def cel (a : List Int) : Array Value := (a.map (Value.int .u8)).toArray
theorem cel_size (a : List Int) : (cel a).size = a.length := by simp [cel]
theorem cel_get (a : List Int) (j : Nat) (h : j < a.length) : (cel a)[j]? = some (Value.int .u8 a[j]) := by simp [cel, h]
/-- The number in four bytes. -/
def le4v (l : List Int) : Int := rd l 0 + rd l 1 * 256 + rd l 2 * 65536 + rd l 3 * 16777216
theorem wraps_i64 (n : Int) (h₀ : 0 ≤ n) (h₁ : n < 2 ^ 62) : IntKind.i64.wrap n = n := by rw [IntKind.wrap_i64]; omega
theorem ww (x : Int) (h0 : 0 ≤ x) (h : x < 1000000000000) : wrap64 x = x := by unfold wrap64; omega
theorem or_turn (k : IntKind) (x y : Int) : Go.bits .or k x y = Go.bits .or k y x := by simp only [Go.bits, BitVec.or_comm]
theorem or64 (x y : Int) (i : Nat) (M : Int) (hM : (2 : Int) ^ i = M) (hx : 0 ≤ x) (hx1 : x < M) (hy : 0 ≤ y) (hm : y % M = 0) (hy2 : y < 4611686018427387904) (hM2 : M ≤ 4611686018427387904) : Go.bits .or .i64 x y = x + y := by
  have h62 : (2 : Int) ^ 62 = 4611686018427387904 := by decide
  have h2 : x < 2 ^ 62 := by rw [h62]; omega
  have h1 : y < 2 ^ 62 := by rw [h62]; exact hy2
  rw [← hM] at hx1 hm
  rw [or_turn, bits_join .i64 62 (by decide) wraps_i64 i y x hy hm h1 hx hx1 h2, Int.add_comm]
theorem p24 : (2 : Int) ^ 24 = 16777216 := by decide
theorem sum4 (x0 x1 x2 x3 : Int) (g0 : 0 ≤ x0) (g1 : 0 ≤ x1) (g2 : 0 ≤ x2) (g3 : 0 ≤ x3) (h0 : x0 < 256) (h1 : x1 < 256) (h2 : x2 < 256) (h3 : x3 < 256) : Go.bits .or .i64 (Go.bits .or .i64 (Go.bits .or .i64 x0 (x1 * 256)) (x2 * 65536)) (x3 * 16777216) = x0 + x1 * 256 + x2 * 65536 + x3 * 16777216 := by
  have o1 := or64 x0 (x1 * 256) 8 256 (by decide) g0 h0 (by omega) (by omega) (by omega) (by omega)
  have o2 := or64 (x0 + x1 * 256) (x2 * 65536) 16 65536 (by decide) (by omega) (by omega) (by omega) (by omega) (by omega) (by omega)
  have o3 := or64 (x0 + x1 * 256 + x2 * 65536) (x3 * 16777216) 24 16777216 p24 (by omega) (by omega) (by omega) (by omega) (by omega) (by omega)
  rw [o1, o2, o3]
theorem rd_b (l : List Int) (hb : isB l) (j : Nat) (h : j < l.length) : 0 ≤ rd l (j : Int) ∧ rd l (j : Int) < 256 := by
  rw [rd_nat l j h]
  exact hb l[j] (List.getElem_mem h)
theorem get_f (l : List Int) (hb : isB l) (h4 : 4 ≤ l.length) : view_get.f l = some (le4v l) := by
  have h0 : 0 ≤ rd l 0 ∧ rd l 0 < 256 := rd_b l hb 0 (by omega)
  have h1 : 0 ≤ rd l 1 ∧ rd l 1 < 256 := rd_b l hb 1 (by omega)
  have h2 : 0 ≤ rd l 2 ∧ rd l 2 < 256 := rd_b l hb 2 (by omega)
  have h3 : 0 ≤ rd l 3 ∧ rd l 3 < 256 := rd_b l hb 3 (by omega)
  unfold view_get.f le4v
  rw [if_pos (by omega), if_pos (by omega), if_pos (by omega), if_pos (by omega)]
  clear hb h4
  generalize rd l 0 = x0 at *
  generalize rd l 1 = x1 at *
  generalize rd l 2 = x2 at *
  generalize rd l 3 = x3 at *
  rw [ww x0 h0.1 (by omega), ww x1 h1.1 (by omega), ww x2 h2.1 (by omega), ww x3 h3.1 (by omega), ww (x1 * 256) (by omega) (by omega), ww (x2 * 65536) (by omega) (by omega), ww (x3 * 16777216) (by omega) (by omega), sum4 x0 x1 x2 x3 h0.1 h1.1 h2.1 h3.1 h0.2 h1.2 h2.2 h3.2]
theorem le4v_bd (l : List Int) (hb : isB l) (h4 : 4 ≤ l.length) : 0 ≤ le4v l ∧ le4v l < 4294967296 := by
  have h0 : 0 ≤ rd l 0 ∧ rd l 0 < 256 := rd_b l hb 0 (by omega)
  have h1 : 0 ≤ rd l 1 ∧ rd l 1 < 256 := rd_b l hb 1 (by omega)
  have h2 : 0 ≤ rd l 2 ∧ rd l 2 < 256 := rd_b l hb 2 (by omega)
  have h3 : 0 ≤ rd l 3 ∧ rd l 3 < 256 := rd_b l hb 3 (by omega)
  unfold le4v
  generalize rd l 0 = x0 at *
  generalize rd l 1 = x1 at *
  generalize rd l 2 = x2 at *
  generalize rd l 3 = x3 at *
  omega
theorem C_blk {w : World} {g : Nat} {a : List Int} {t : TypeId} (h : w.heap[g]? = some (.cells (cel a) t (0, 0))) (o : Nat) (ho : o < a.length) (ha : a.length ≤ 1000) : Kd.C (Kd.int .u8) w (some ⟨g, o, none⟩) (a.drop o).length (a.drop o) := by
  refine Kd.C_of_reads (d := (0 : Int)) (h1 := fun _ => rfl) ⟨rfl, by simp; omega, fun _ => ⟨_, rfl, fun j hj => ?_⟩⟩
  have e : (⟨g, o, none⟩ : Addr).add j = ⟨g, o + j, none⟩ := by unfold Addr.add; split <;> simp_all
  have hj2 : j < (a.drop o).length := hj
  rw [e, blk_cell h, cel_get a (o + j) (by simp at hj2; omega)]
  simp [List.getD_eq_getElem?_getD, show o + j < a.length by simp at hj2; omega]
end Go.Proofs.Ytpbplflocdhahaa.HP
