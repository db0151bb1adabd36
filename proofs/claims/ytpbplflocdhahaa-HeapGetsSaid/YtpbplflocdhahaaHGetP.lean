/- What Get answers, of a heap made of pieces. -/
import Derived.Test.YtpbplflocdhahaaWalkHeapOf
set_option linter.unusedVariables false
set_option linter.unusedSimpArgs false
namespace Go.Proofs.Ytpbplflocdhahaa.HW
open Go.RowKit Go.Proofs.Ytpbplflocdhahaa.P Go.Proofs.Ytpbplflocdhahaa.HP Go.Proofs.YtpbplflocdhahaaW.PrintWords Go.Proofs.YtpbplflocdhahaaW.PrintLast Go.Proofs.YtpbplflocdhahaaW.PrintMore
attribute [local go_sem] max2_int min2_int max_two min_two max_three min_three max_four min_four
theorem chunk_at {α : Type} (k : Nat) (L : List α) (q : Nat) (hk : 1 ≤ k) (h : q * k < L.length) : (chunks k L)[q]? = some ((L.drop (q * k)).take k) := by
  unfold chunks
  rw [List.getElem?_map, List.getElem?_range ((ceil_lt hk).2 h)]
  rfl
theorem chunk_no {α : Type} (k : Nat) (L : List α) (q : Nat) (hk : 1 ≤ k) (h : ¬ q * k < L.length) : (chunks k L).length ≤ q := by
  unfold chunks
  rw [List.length_map, List.length_range]
  exact Nat.le_of_not_lt (fun h2 => h ((ceil_lt hk).1 h2))
def endOf (q k N : Nat) : Nat := if N < (q + 1) * k then N else (q + 1) * k
theorem end_len {α : Type} (k : Nat) (L : List α) (q : Nat) (h : q * k < L.length) : q * k + ((L.drop (q * k)).take k).length = endOf q k L.length := by
  unfold endOf
  rw [List.length_take, List.length_drop, Nat.succ_mul]
  split <;> omega
theorem end_le (q k N : Nat) (h : ¬ q * k < N) : endOf q k N ≤ q * k := by
  unfold endOf
  rw [Nat.succ_mul]
  split <;> omega
theorem str_ne {x y : ByteArray} : (x.toList == y.toList) = decide (x = y) := by
  by_cases h : x = y
  · subst h; simp
  · rw [decide_eq_false h]
    refine Bool.eq_false_iff.2 (fun e => h ?_)
    have e := eq_of_beq e
    rw [ByteArray.toList_eq, ByteArray.toList_eq] at e
    obtain ⟨⟨x⟩⟩ := x
    obtain ⟨⟨y⟩⟩ := y
    simp only at e
    rw [e]
theorem ext4 (bs : List Int) (hb : isB bs) : (strOfNums bs).extract 0 4 = strOfNums (bs.take 4) := by
  refine bytes_inj ?_
  rw [bytes_str _ (isB_take hb 4)]
  have h := bytes_str bs hb
  have e : bytesOf ((strOfNums bs).extract 0 4) = (bytesOf (strOfNums bs)).take 4 := by
    simp [bytesOf, List.map_take]
  rw [e, h]
theorem has_pre2 (bs : List Int) (hb : isB bs) (h4 : 4 ≤ bs.length) (p : ByteArray) (hp : p.size = 4) : strings_HasPrefix.f (strOfNums bs) p = some (decide (strOfNums (bs.take 4) = p)) := by
  have hs : (strOfNums bs).size = bs.length := str_size bs
  unfold strings_HasPrefix.f stringslite_HasPrefix.f
  rw [if_pos (by omega), if_pos (by omega), if_pos (by omega), Int.toNat_natCast, hp, ext4 bs hb, str_ne]
  rfl
theorem pvw_size (a : List Int) (ha : a.length = 16) (n : Nat) (hn : le4v a = (n : Int)) (h12 : 12 < n) : (pvw a).size = 4 := by
  unfold pvw
  rw [if_neg (by omega), str_size, List.length_take, List.length_drop, ha]
  rfl
theorem isB_drop {l : List Int} (h : isB l) (n : Nat) : isB (l.drop n) := fun x hx => h x (List.mem_of_mem_drop hx)
theorem get_part {k : Nat} {L : List Int} (n q at_ : Nat) (hk : 1 ≤ k ∧ k ≤ 65536) (h12 : 12 < n) (hin : ¬ endOf q k L.length < q * k + at_ + n) : ∃ b : List Int, (chunks k L)[q]? = some b ∧ at_ + n ≤ b.length ∧ b.length ≤ 100000 ∧ (b.drop at_).take n = (L.drop (q * k + at_)).take n ∧ ((L.drop (q * k + at_)).take n).length = n := by
  have hq : q * k < L.length := by
    rcases Nat.lt_or_ge (q * k) L.length with hq | hq
    · exact hq
    · have := end_le q k L.length (by omega); omega
  have he := end_len k L q hq
  refine ⟨_, chunk_at k L q hk.1 hq, by omega, by rw [List.length_take]; omega, ?_, ?_⟩
  · have hl : ((L.drop (q * k)).take k).length = min k (L.length - q * k) := by rw [List.length_take, List.length_drop]
    rw [List.drop_take, List.take_take, List.drop_drop, Nat.min_eq_left (by omega)]
  · rw [List.length_take, List.length_drop]
    have hl : ((L.drop (q * k)).take k).length = min k (L.length - q * k) := by rw [List.length_take, List.length_drop]
    omega
section
variable {lo g k : Nat} {L : List Int} {size m : Int} (a : List Int) (n : Nat) (w : World) (h : HM lo w g (chunks k L) size m) (hk : 1 ≤ k ∧ k ≤ 65536) (hL : L.length ≤ 3000) (hB : isB L) (ha : a.length = 16) (hab : isB a) (hr : rightB a = true) (hn : le4v a = (n : Int)) (h12 : 12 < n) (hn4 : n ≤ 4096)
  (q at_ : Nat) (hp8 : le4v (a.drop 8) = (q : Int)) (hp12 : le4v (a.drop 12) = (at_ : Int)) (h65 : at_ ≤ 65536)
include h hk hL ha hab hr hn h12 hn4 hp8 hp12 h65
theorem get_over (hov : endOf q k L.length < q * k + at_ + n) : Calls Try.prog 12 #[.pointer (some ⟨g, 0, none⟩), .agg (cel a)] w fun e w' => e = .returned (.tuple #[.string ⟨#[]⟩, .bool false]) ∧ Below w.heap.size w w' := by
  refine get_no g a n w ha hab hr hn h12 (fun W hW => ?_)
  by_cases hq : q * k < L.length
  · have he := end_len k L q hq
    refine (HM.long_past a n W (h.below hW) ha hab hn h12 hn4 q at_ _ (chunk_at k L q hk.1 hq) hp8 hp12 h65 (by have := chunks_len k hk.1 L; omega) (by omega)).mono ?_
    rintro e w1 ⟨rfl, hb⟩
    exact ⟨none, 0, 0, rfl, hb⟩
  · refine (HM.long_none a n W (h.below hW) ha hab hn h12 hn4 q at_ hp8 hp12 (chunk_no k L q hk.1 hq)).mono ?_
    rintro e w1 ⟨rfl, hb⟩
    exact ⟨none, 0, 0, rfl, hb⟩
include hB
theorem get_unlike (hin : ¬ endOf q k L.length < q * k + at_ + n) (hu : strOfNums ((L.drop (q * k + at_)).take 4) ≠ pvw a) : Calls Try.prog 12 #[.pointer (some ⟨g, 0, none⟩), .agg (cel a)] w fun e w' => e = .returned (.tuple #[.string ⟨#[]⟩, .bool false]) ∧ Below w.heap.size w w' := by
  refine get_no g a n w ha hab hr hn h12 (fun W hW => ?_)
  obtain ⟨b, hb, hfit, hbl, hbs, hlen⟩ := get_part n q at_ hk h12 hin
  refine (HM.long_fit a n W (h.below hW) ha hab hn h12 hn4 q at_ b hb hp8 hp12 h65 (by have := chunks_len k hk.1 L; omega) hfit hbl false ?_).mono ?_
  · rw [hbs, has_pre2 _ (isB_take (isB_drop hB _) _) (by rw [hlen]; omega) _ (pvw_size a ha n hn h12), List.take_take, Nat.min_eq_left (by omega), decide_eq_false hu]
  · rintro e w1 ⟨A', c', rfl, _, _, hb⟩
    exact ⟨A', _, c', rfl, hb⟩
theorem get_like (hin : ¬ endOf q k L.length < q * k + at_ + n) (hu : strOfNums ((L.drop (q * k + at_)).take 4) = pvw a) : Calls Try.prog 12 #[.pointer (some ⟨g, 0, none⟩), .agg (cel a)] w fun e w' => e = .returned (.tuple #[.string (strOfNums ((L.drop (q * k + at_)).take n)), .bool true]) ∧ Below w.heap.size w w' := by
  refine get_yes g a n w ha hab hr hn h12 _ (fun W hW => ?_)
  obtain ⟨b, hb, hfit, hbl, hbs, hlen⟩ := get_part n q at_ hk h12 hin
  have h9 := HM.long_fit a n W (h.below hW) ha hab hn h12 hn4 q at_ b hb hp8 hp12 h65 (by have := chunks_len k hk.1 L; omega) hfit hbl true (by
    rw [hbs, has_pre2 _ (isB_take (isB_drop hB _) _) (by rw [hlen]; omega) _ (pvw_size a ha n hn h12), List.take_take, Nat.min_eq_left (by omega), decide_eq_true hu])
  rw [hbs] at h9
  exact h9
end
/-- A right short view is what Make lays. -/
theorem short_mk (a : List Int) (hab : isB a) (ha : a.length = 16) (hr : rightB a = true) (n : Nat) (hn : le4v a = (n : Int)) (h12 : n ≤ 12) : a = mkS (strOfNums ((a.drop 4).take n)) ∧ (strOfNums ((a.drop 4).take n)).size = n := by
  have hs : (strOfNums ((a.drop 4).take n)).size = n := by rw [str_size, List.length_take, List.length_drop, ha]; omega
  refine ⟨?_, hs⟩
  unfold rightB at hr
  rw [if_neg (by omega), if_pos (by omega)] at hr
  have h1 := of_decide_eq_true hr
  rw [← mkS_e _ (by omega), bytes_str _ (isB_take (isB_drop hab 4) n), hs, ← hn]
  rw [hn, Int.toNat_natCast] at h1
  rw [hn]
  exact h1.symm
end Go.Proofs.Ytpbplflocdhahaa.HW
