/- Bytes, of any number of buffers: what is answered is new memory. -/
import Derived.Test.YtpbplflocdhahaaWalkHeapOf
set_option linter.unusedVariables false
set_option linter.unusedSimpArgs false
namespace Go.Proofs.Ytpbplflocdhahaa.HW
open Go.RowKit Go.Proofs.Ytpbplflocdhahaa.P Go.Proofs.Ytpbplflocdhahaa.HP Go.Proofs.YtpbplflocdhahaaW.PrintWords Go.Proofs.YtpbplflocdhahaaW.PrintLast Go.Proofs.YtpbplflocdhahaaW.PrintMore
attribute [local go_sem] max2_int min2_int max_two min_two max_three min_three max_four min_four
/-- A value that is a slice of these bytes, in a block from lo on that may be written. -/
def NewRow (lo : Nat) (w : World) (v : Value) (l : List Int) : Prop := ∃ (A : Option Addr) (c : Nat), v = .slice A l.length c ∧ l.length ≤ c ∧ Kd.C (Kd.int .u8) w A l.length l ∧ (l.length ≠ 0 → ∃ g9 : Nat, A = some ⟨g9, 0, none⟩ ∧ lo ≤ g9 ∧ ∀ j, j < l.length → w.frozen? ⟨g9, j, none⟩ = false)
theorem NewRow.of_R {lo : Nat} {w : World} {v : Value} {l : List Int} (h : Kd.R (Kd.int .u8) 5 w lo (fun _ => True) v l) : NewRow lo w v l := by
  obtain ⟨A, c, rfl, hl, hr⟩ := Kd.R_reads h
  refine ⟨A, c, rfl, hl, hr, fun hn => ?_⟩
  obtain ⟨g, c2, e, hg, _⟩ := Kd.R_form h (by omega)
  injection e with e1 e2 e3
  subst e1 e3
  exact ⟨g, rfl, hg, fun j hj => by have h9 := (Kd.R_celln (0 : Int) h (j : Int) (by omega) (by omega)).2; rwa [Int.toNat_natCast] at h9⟩
set_option maxHeartbeats 8000000 in
set_option maxRecDepth 100000 in
theorem Join1N (gb cb : Nat) (A : Option Addr) (c : Nat) (b : List Int) (w : World) (hx0 : w.cell? ⟨gb, 0, none⟩ = some (.slice A b.length c)) (hr : Kd.C (Kd.int .u8) w A b.length b) (hbl : b.length ≤ 100000) : Calls Try.prog 29 #[.slice (some ⟨gb, 0, none⟩) 1 cb, .slice none 0 0] w fun e w' => ∃ v, e = .returned v ∧ NewRow w.heap.size w' v b ∧ Below w.heap.size w w' := by
  have HB := Aside0.mk (Below.refl w.heap.size w)
  have HR := Aside0.mk hr
  have HBL := Aside0.mk hbl
  clear hr hbl
  go_enter Try.func29, Try.ntmps29
  go_wp2_with (first | ((with_reducible refine gate_builtin (b := .append) (xs := #[.const (.slice none 0 0), .tmp 21]) rfl ?_); at_builtin; refine Kd.R_append_rows (Kd.int .u8) (w0 := w) w.heap.size rfl (.const (.slice none 0 0)) (.tmp 21) 36 5 (.int .u8 0) 1 rfl Try.underlying36 info8 rfl (by decide) (by omega) (.slice none 0 0) [] b _ _ _ (fun _ => True) (fun _ => False) rfl rfl ?aO ?aR (fun _ _ h => h) (fun _ h => h.elim) ?aF ?aB ?aS ?aL ?_; (case aR => exact HR.out); (case aB => exact HB.out); (case aF => exact (fun _ _ => trivial)); (case aO => exact Kd.R_nil _ _ _ _ _); (case aS => exact (below_size HB.out)); (case aL => have := HBL.out; simp; omega); intro v6 w6 ho hb hg hat; have HB6 := Aside0.mk hb; have HO6 := Aside0.mk ho; clear ho hb hg hat))
  go_ret
  have h9 := HO6.out
  rw [List.nil_append] at h9
  exact ⟨_, rfl, NewRow.of_R h9, HB6.out⟩
theorem join_manyN (gb cb n : Nat) (xs : List (Option Addr × Nat × Nat)) (Bs : List (List Int)) (w : World) (hn : xs.length = n) (hl : Bs.length = n) (h2 : 2 ≤ n) (hcap : n ≤ cb) (hnb : n ≤ 100000)
    (hcell : ∀ (i : Nat) (x : Option Addr × Nat × Nat), xs[i]? = some x → w.cell? ⟨gb, i, none⟩ = some (encSl x))
    (hrow : ∀ (i : Nat) (x : Option Addr × Nat × Nat) (b : List Int), xs[i]? = some x → Bs[i]? = some b → x.2.1 = b.length ∧ Kd.C (Kd.int .u8) w x.1 b.length b) (hB : ∀ b ∈ Bs, isB b) (htot : Bs.flatten.length ≤ 100000000) :
    Calls Try.prog 29 #[.slice (some ⟨gb, 0, none⟩) n cb, .slice none 0 0] w fun e w' => ∃ v, e = .returned v ∧ NewRow w.heap.size w' v Bs.flatten ∧ Below w.heap.size w w' := by
  have h := Any.bytes_Join_many bytes_Join.lays gb 0 n cb (xs.map encSl) (Bs.map u8s) (.slice none 0 0) [] w (by rw [List.length_map, hl]) h2 ⟨by rw [List.length_map, List.length_map, hn, hl], fun i v hv => ?_, fun i v l hv hl => ?_⟩ hcap ⟨none, 0, rfl, fun _ => rfl, fun a ha => by cases ha⟩ (by omega) (by rw [lens_flat]; simp only [List.length_nil, Nat.zero_mul, Nat.add_zero]; omega)
  · refine Calls.mono (show Calls Try.prog 29 _ _ _ from h) ?_
    rintro e w1 ⟨v, rfl, ⟨g, cap, zs, rfl, hg, hlc, hcm, hzl, hzb, hbo, hce, hfr⟩, hb⟩
    rw [join_flat, u8s_len] at hlc hbo ⊢
    have hz : zs.take Bs.flatten.length = Bs.flatten := u8s_back (fun x hx => (by have := hzb x (List.mem_of_mem_take hx); omega)) (isB_flat hB) hbo
    refine ⟨_, rfl, ⟨_, _, rfl, hlc, Kd.C_of_reads (d := (0 : Int)) (h1 := fun _ => rfl) ⟨rfl, by omega, fun _ => ⟨⟨g, 0, none⟩, rfl, fun j hj => ?_⟩⟩, fun _ => ⟨g, rfl, hg, fun j hj => hfr j (by omega)⟩⟩, hb⟩
    rw [add_plain, hce j (by omega)]
    have e : zs[j]? = Bs.flatten[j]? := by rw [← hz, List.getElem?_take_of_lt hj]
    rw [List.getD_eq_getElem?_getD, List.getD_eq_getElem?_getD, e]
  · rw [add_plain]
    rw [List.getElem?_map] at hv
    obtain ⟨x, hx, rfl⟩ := Option.map_eq_some_iff.1 hv
    exact hcell i x hx
  · rw [List.getElem?_map] at hv hl
    obtain ⟨⟨A, k, c⟩, hx, rfl⟩ := Option.map_eq_some_iff.1 hv
    obtain ⟨b, hb, rfl⟩ := Option.map_eq_some_iff.1 hl
    obtain ⟨e, hr⟩ := hrow i _ b hx hb
    have hbb := hB b (List.mem_of_getElem? hb)
    simp only at e hr
    subst e
    refine ⟨A, c, by rw [u8s_len]; rfl, fun hA => ?_, fun a ha j y hy => ?_⟩
    · have hz : b.length = 0 := by
        rcases Nat.eq_zero_or_pos b.length with h | h
        · exact h
        · obtain ⟨ad, e, _⟩ := hr.2.2 h
          rw [hA] at e; cases e
      exact List.eq_nil_of_length_eq_zero (by rw [u8s_len]; exact hz)
    · have hbj := u8s_at hbb j y hy
      have hj := (List.getElem?_eq_some_iff.1 hbj).1
      obtain ⟨ad, e, hc⟩ := hr.2.2 (by omega)
      rw [ha] at e
      injection e with e
      subst e
      obtain ⟨cs, h1, h2, h3⟩ := hc j _ hbj
      have h2' : cs = [Value.int .u8 (y.toNat : Int)] := h2
      subst h2'
      have h9 := h3 0 _ rfl
      have e1 : j * (Kd.int IntKind.u8).sz + 0 = j := Nat.mul_one j
      rwa [e1] at h9
theorem HM.joinN {lo g : Nat} {Bs : List (List Int)} {size m : Int} (w : World) (h : HM lo w g Bs size m) (hnb : Bs.length ≤ 100000) (hB : ∀ b ∈ Bs, isB b) (hbl : ∀ b ∈ Bs, b.length ≤ 65536) (htot : Bs.flatten.length ≤ 100000000) : ∃ (A : Option Addr) (k c : Nat), w.heap[g]? = some (.cells #[.slice A k c, .int .i64 size, .int .i64 m] 53 (0, 0)) ∧
    Calls Try.prog 29 #[.slice A k c, .slice none 0 0] w fun e w' => ∃ v, e = .returned v ∧ NewRow w.heap.size w' v Bs.flatten ∧ Below w.heap.size w w' := by
  obtain ⟨h0, vB, xs, hg, h1, hl, h2, h3⟩ := h
  match Bs, hl with
  | [], hl =>
    obtain ⟨AB, cB, hvB, hcB, hrB⟩ := Kd.R_reads h1
    subst hvB
    have hx : xs = [] := List.eq_nil_of_length_eq_zero hl
    subst hx
    refine ⟨AB, 0, cB, hg, ?_⟩
    refine Calls.mono (show Calls Try.prog 29 _ _ _ from Any.bytes_Join_none bytes_Join.lays AB cB (.slice none 0 0) w) ?_
    rintro e w1 ⟨rfl, rfl⟩
    exact ⟨_, rfl, ⟨_, 0, rfl, Nat.le_refl _, Kd.C_of_reads (d := (0 : Int)) (h1 := fun _ => rfl) ⟨rfl, by simp, fun h => by simp at h⟩, fun h => absurd rfl h⟩, below_alloc (Below.refl _ _) _⟩
  | [b], hl =>
    obtain ⟨gb, cb, c, A, xs', hp⟩ := HM.parts ⟨h0, vB, xs, hg, h1, hl, h2, h3⟩ 0 b rfl
    have hx1 : xs'.length = 1 := hp.hl
    have hpg := hp.hg
    rw [hx1] at hpg
    refine ⟨_, 1, cb, hpg, ?_⟩
    have hb6 := hbl b (by simp)
    refine (Join1N gb cb A c b w hp.cell hp.hr (by omega)).mono ?_
    rintro e w1 ⟨v, rfl, hr, hb⟩
    rw [show [b].flatten = b by simp]
    exact ⟨_, rfl, hr, hb⟩
  | b0 :: b1 :: t, hl =>
    obtain ⟨gb, cb, c, A, xs', hp⟩ := HM.parts ⟨h0, vB, xs, hg, h1, hl, h2, h3⟩ 0 b0 rfl
    obtain ⟨_, hcb, _⟩ := Kd.R_reads' hp.h1
    refine ⟨_, _, cb, hp.hg, ?_⟩
    have hpl := hp.hl
    have hnl : (b0 :: b1 :: t).length = t.length + 2 := rfl
    refine join_manyN gb cb xs'.length xs' (b0 :: b1 :: t) w rfl hpl.symm (by omega) hcb (by omega) (fun i x hx => ?_) (fun i x b hx hb => ?_) hB htot
    · have hi := (List.getElem?_eq_some_iff.1 hx).1
      have hcell := (Kd.R_cell (enc := encSl) (h1 := fun _ => rfl) (none, 0, 0) hp.h1 (i : Int) (by omega) (by omega)).1
      have hrq : rdOf ((none, 0, 0) : Option Addr × Nat × Nat) xs' (i : Int) = x := by simp [rdOf, List.getD_eq_getElem?_getD, hx]
      rw [hrq, Int.toNat_natCast] at hcell
      exact hcell
    · obtain ⟨A, k, c⟩ := x
      obtain ⟨e, _, hr⟩ := Kd.R_reads' (show Kd.R (Kd.int .u8) 5 w lo (fun _ => True) (.slice A k c) b from hp.h2 i _ b hx hb)
      exact ⟨e, hr⟩
set_option maxHeartbeats 8000000 in
set_option maxRecDepth 100000 in
theorem HM.bytesN {lo g : Nat} {Bs : List (List Int)} {size m : Int} (w : World) (h : HM lo w g Bs size m) (hnb : Bs.length ≤ 100000) (hB : ∀ b ∈ Bs, isB b) (hbl : ∀ b ∈ Bs, b.length ≤ 65536) (htot : Bs.flatten.length ≤ 100000000) : Calls Try.prog 15 #[.pointer (some ⟨g, 0, none⟩)] w fun e w' => ∃ v, e = .returned v ∧ NewRow w.heap.size w' v Bs.flatten ∧ Below w.heap.size w w' := by
  obtain ⟨A, k, c, hg, hj⟩ := h.joinN w hnb hB hbl htot
  have hc0 := blk_cell hg 0
  simp only [List.getElem?_toArray, List.getElem?_cons_zero, List.getElem?_cons_succ] at hc0
  have HJ := Aside0.mk hj
  obtain ⟨b, hbe⟩ : ∃ b, b = Bs.flatten := ⟨_, rfl⟩
  rw [← hbe] at HJ ⊢
  clear h hg hj hnb hB hbl htot hbe
  go_enter Try.func15, Try.ntmps15
  go_wp2_with fail
  refine HJ.out.mono ?_
  rintro e w1 ⟨v, rfl, hr, hb⟩
  go_wp2_with fail
  go_ret
  exact ⟨_, rfl, hr, hb⟩
theorem R_from {α : Type} {enc : α → Value} {h1 : ∀ x, (enc x).oneCell' = true} {e lo : Nat} {w W : World} {v : Value} {xs : List α} (h : (Kd.scalar enc h1).R e w lo (fun _ => True) v xs) (k : ∀ i, lo ≤ i → i < w.heap.size → W.heap[i]? = w.heap[i]?) : (Kd.scalar enc h1).R e W lo (fun _ => True) v xs :=
  Kd.R_mono (Kd.R_step (Kd.R_tight rfl h) (fun j hj hlt => k j (own_base (Kd.own_of_R h) j hj.symm) hlt)) (fun _ _ => trivial)
/-- Of a heap's memory nothing lies below lo. -/
theorem HM.apart {lo : Nat} {w W : World} {g : Nat} {Bs : List (List Int)} {size m : Int} (h : HM lo w g Bs size m) (k : ∀ i, lo ≤ i → i < w.heap.size → W.heap[i]? = w.heap[i]?) : HM lo W g Bs size m := by
  obtain ⟨h0, vB, xs, hg, h1, hl, h2, h3⟩ := h
  exact ⟨h0, vB, xs, (k g h0 (blk_lt hg)).trans hg, R_from h1 k, hl, fun j x b hx hb => R_from (h2 j x b hx hb) k, h3⟩
end Go.Proofs.Ytpbplflocdhahaa.HW
