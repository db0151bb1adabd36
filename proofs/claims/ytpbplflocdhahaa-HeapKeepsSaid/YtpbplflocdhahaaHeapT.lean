/- The heap's Size and Bytes, of any number of buffers. -/
import Derived.Test.YtpbplflocdhahaaHeapS
import Derived.Shelf.Bytes.SlJoin
set_option linter.unusedVariables false
set_option linter.unusedSimpArgs false
namespace Go.Proofs.Ytpbplflocdhahaa.HW
open Go.RowKit Go.Proofs.Ytpbplflocdhahaa.P Go.Proofs.Ytpbplflocdhahaa.HP Go.Proofs.YtpbplflocdhahaaW.PrintWords Go.Proofs.YtpbplflocdhahaaW.PrintLast Go.Proofs.YtpbplflocdhahaaW.PrintMore
attribute [local go_sem] max2_int min2_int max_two min_two max_three min_three max_four min_four
def bytes_Join.ren : Go.Shelf.Ren := ⟨fun | 14 => 29 | 15 => 37 | n => n, fun | 0 => 0 | 3 => 3 | 4 => 4 | 5 => 5 | 9 => 9 | 20 => 20 | 22 => 36 | 26 => 51 | n => n, fun | n => n⟩
theorem bytes_Join.lays : Go.Proofs.SlLaysJ.n14 Try.prog bytes_Join.ren := {
  mixed := by kernel_rfl
  f14 := Try.func29.trans (congrArg some (by kernel_rfl))
  f15 := Try.func37.trans (congrArg some (by kernel_rfl))
  t0 := Try.underlying0
  a0 := Try.isAgg0
  z0 := Try.sizeOf0
  v0 := Try.zeroValue0
  t3 := Try.underlying3
  a3 := Try.isAgg3
  z3 := Try.sizeOf3
  v3 := Try.zeroValue3
  t4 := Try.underlying4
  a4 := Try.isAgg4
  z4 := Try.sizeOf4
  v4 := Try.zeroValue4
  t9 := Try.underlying9
  a9 := Try.isAgg9
  z9 := Try.sizeOf9
  v9 := Try.zeroValue9
  t20 := Try.underlying20
  a20 := Try.isAgg20
  z20 := Try.sizeOf20
  v20 := Try.zeroValue20
  t22 := Try.underlying36
  a22 := Try.isAgg36
  z22 := Try.sizeOf36
  v22 := Try.zeroValue36
  t26 := Try.underlying51
  a26 := Try.isAgg51
  z26 := Try.sizeOf51
  v26 := Try.zeroValue51
  t5 := Try.underlying5
  z5 := Try.sizeOf5
  i5 := by kernel_rfl }
def u8s (b : List Int) : List UInt8 := b.map fun x => UInt8.ofNat x.toNat
theorem u8s_at {b : List Int} (hb : isB b) (i : Nat) (y : UInt8) (h : (u8s b)[i]? = some y) : b[i]? = some (y.toNat : Int) := by
  unfold u8s at h
  rw [List.getElem?_map] at h
  obtain ⟨x, hx, rfl⟩ := Option.map_eq_some_iff.1 h
  have := hb x (List.mem_of_getElem? hx)
  rw [hx]
  congr 1
  rw [UInt8.toNat_ofNat']
  omega
theorem u8s_back {b c : List Int} (hb : isB b) (hc : isB c) (h : u8s b = u8s c) : b = c := by
  have := congrArg (List.map (fun y : UInt8 => (y.toNat : Int))) h
  have e : ∀ {b : List Int}, isB b → (u8s b).map (fun y : UInt8 => (y.toNat : Int)) = b := fun {b} hb => by
    unfold u8s
    rw [List.map_map]
    conv => rhs; rw [← List.map_id b]
    refine List.map_congr_left (fun x hx => ?_)
    have := hb x hx
    simp only [Function.comp, UInt8.toNat_ofNat', id_eq]
    omega
  rwa [e hb, e hc] at this
theorem u8s_len (b : List Int) : (u8s b).length = b.length := by simp [u8s]
theorem join_flat (Bs : List (List Int)) : Lib.join (Bs.map u8s) [] = u8s Bs.flatten := by
  unfold Lib.join u8s
  rw [List.map_flatten]
  induction Bs with
  | nil => rfl
  | cons b t ih => cases t with
    | nil => simp
    | cons c t => simp [List.intercalate] at ih ⊢; exact ih
theorem lens_flat (Bs : List (List Int)) : Lib.lens (Bs.map u8s) = Bs.flatten.length := by
  unfold Lib.lens
  rw [List.map_map, List.length_flatten]
  congr 1
  exact List.map_congr_left (fun b _ => u8s_len b)
theorem isB_flat {Bs : List (List Int)} (h : ∀ b ∈ Bs, isB b) : isB Bs.flatten := fun x hx => by
  obtain ⟨b, hb, hx⟩ := List.mem_flatten.1 hx
  exact h b hb x hx
/-- A value that is a slice of these bytes. -/
def ByteRow (w : World) (v : Value) (l : List Int) : Prop := ∃ (A : Option Addr) (c : Nat), v = .slice A l.length c ∧ l.length ≤ c ∧ Kd.C (Kd.int .u8) w A l.length l
theorem join_many (gb cb n : Nat) (xs : List (Option Addr × Nat × Nat)) (Bs : List (List Int)) (w : World) (hn : xs.length = n) (hl : Bs.length = n) (h2 : 2 ≤ n) (hcap : n ≤ cb) (hnb : n ≤ 100000)
    (hcell : ∀ (i : Nat) (x : Option Addr × Nat × Nat), xs[i]? = some x → w.cell? ⟨gb, i, none⟩ = some (encSl x))
    (hrow : ∀ (i : Nat) (x : Option Addr × Nat × Nat) (b : List Int), xs[i]? = some x → Bs[i]? = some b → x.2.1 = b.length ∧ Kd.C (Kd.int .u8) w x.1 b.length b) (hB : ∀ b ∈ Bs, isB b) (htot : Bs.flatten.length ≤ 100000000) :
    Calls Try.prog 29 #[.slice (some ⟨gb, 0, none⟩) n cb, .slice none 0 0] w fun e w' => ∃ v, e = .returned v ∧ ByteRow w' v Bs.flatten ∧ Below w.heap.size w w' := by
  have h := Any.bytes_Join_many bytes_Join.lays gb 0 n cb (xs.map encSl) (Bs.map u8s) (.slice none 0 0) [] w (by rw [List.length_map, hl]) h2 ⟨by rw [List.length_map, List.length_map, hn, hl], fun i v hv => ?_, fun i v l hv hl => ?_⟩ hcap ⟨none, 0, rfl, fun _ => rfl, fun a ha => by cases ha⟩ (by omega) (by rw [lens_flat]; simp only [List.length_nil, Nat.zero_mul, Nat.add_zero]; omega)
  · refine Calls.mono (show Calls Try.prog 29 _ _ _ from h) ?_
    rintro e w1 ⟨v, rfl, ⟨g, cap, zs, rfl, hg, hlc, hcm, hzl, hzb, hbo, hce, hfr⟩, hb⟩
    rw [join_flat, u8s_len] at hlc hbo ⊢
    have hz : zs.take Bs.flatten.length = Bs.flatten := u8s_back (fun x hx => (by have := hzb x (List.mem_of_mem_take hx); omega)) (isB_flat hB) hbo
    refine ⟨_, rfl, ⟨_, _, rfl, hlc, Kd.C_of_reads (d := (0 : Int)) (h1 := fun _ => rfl) ⟨rfl, by omega, fun _ => ⟨⟨g, 0, none⟩, rfl, fun j hj => ?_⟩⟩⟩, hb⟩
    rw [add_plain, hce j (by omega)]
    have e : zs[j]? = Bs.flatten[j]? := by rw [← hz, List.getElem?_take_of_lt hj]
    rw [List.getD_eq_getElem?_getD, List.getD_eq_getElem?_getD, e]
  · rw [add_plain]
    rw [List.getElem?_map] at hv
    obtain ⟨x, hx, rfl⟩ := Option.map_eq_some_iff.1 hv
    exact hcell i x hx
  · rw [List.getElem?_map] at hv hl
    obtain ⟨⟨A, k, c⟩, hx, rfl⟩ := Option.map_eq_some_iff.1 hv
    obtain ⟨b, hb, rfl⟩ := Option.map_eq_some_iff.1 hl
    obtain ⟨e, hr⟩ := hrow i _ b hx hb
    have hbb := hB b (List.mem_of_getElem? hb)
    simp only at e hr
    subst e
    refine ⟨A, c, by rw [u8s_len]; rfl, fun hA => ?_, fun a ha j y hy => ?_⟩
    · have hz : b.length = 0 := by
        rcases Nat.eq_zero_or_pos b.length with h | h
        · exact h
        · obtain ⟨ad, e, _⟩ := hr.2.2 h
          rw [hA] at e; cases e
      exact List.eq_nil_of_length_eq_zero (by rw [u8s_len]; exact hz)
    · have hbj := u8s_at hbb j y hy
      have hj := (List.getElem?_eq_some_iff.1 hbj).1
      obtain ⟨ad, e, hc⟩ := hr.2.2 (by omega)
      rw [ha] at e
      injection e with e
      subst e
      obtain ⟨cs, h1, h2, h3⟩ := hc j _ hbj
      have h2' : cs = [Value.int .u8 (y.toNat : Int)] := h2
      subst h2'
      have h9 := h3 0 _ rfl
      have e1 : j * (Kd.int IntKind.u8).sz + 0 = j := Nat.mul_one j
      rwa [e1] at h9
theorem HM.join {lo g : Nat} {Bs : List (List Int)} {size m : Int} (w : World) (h : HM lo w g Bs size m) (hnb : Bs.length ≤ 100000) (hB : ∀ b ∈ Bs, isB b) (hbl : ∀ b ∈ Bs, b.length ≤ 65536) (htot : Bs.flatten.length ≤ 100000000) : ∃ (A : Option Addr) (k c : Nat), w.heap[g]? = some (.cells #[.slice A k c, .int .i64 size, .int .i64 m] 53 (0, 0)) ∧
    Calls Try.prog 29 #[.slice A k c, .slice none 0 0] w fun e w' => ∃ v, e = .returned v ∧ ByteRow w' v Bs.flatten ∧ Below w.heap.size w w' := by
  obtain ⟨h0, vB, xs, hg, h1, hl, h2, h3⟩ := h
  match Bs, hl with
  | [], hl =>
    obtain ⟨AB, cB, hvB, hcB, hrB⟩ := Kd.R_reads h1
    subst hvB
    have hx : xs = [] := List.eq_nil_of_length_eq_zero hl
    subst hx
    refine ⟨AB, 0, cB, hg, ?_⟩
    refine Calls.mono (show Calls Try.prog 29 _ _ _ from Any.bytes_Join_none bytes_Join.lays AB cB (.slice none 0 0) w) ?_
    rintro e w1 ⟨rfl, rfl⟩
    exact ⟨_, rfl, ⟨_, 0, rfl, Nat.le_refl _, Kd.C_of_reads (d := (0 : Int)) (h1 := fun _ => rfl) ⟨rfl, by simp, fun h => by simp at h⟩⟩, below_alloc (Below.refl _ _) _⟩
  | [b], hl =>
    obtain ⟨gb, cb, c, A, xs', hp⟩ := HM.parts ⟨h0, vB, xs, hg, h1, hl, h2, h3⟩ 0 b rfl
    have hx1 : xs'.length = 1 := hp.hl
    have hpg := hp.hg
    rw [hx1] at hpg
    refine ⟨_, 1, cb, hpg, ?_⟩
    have hb6 := hbl b (by simp)
    refine (Join1 gb cb A c b w hp.cell hp.hr (by omega)).mono ?_
    rintro e w1 ⟨A', c', rfl, hc, hr, hb⟩
    rw [show [b].flatten = b by simp]
    exact ⟨_, rfl, ⟨A', c', rfl, hc, hr⟩, hb⟩
  | b0 :: b1 :: t, hl =>
    obtain ⟨gb, cb, c, A, xs', hp⟩ := HM.parts ⟨h0, vB, xs, hg, h1, hl, h2, h3⟩ 0 b0 rfl
    obtain ⟨_, hcb, _⟩ := Kd.R_reads' hp.h1
    refine ⟨_, _, cb, hp.hg, ?_⟩
    have hpl := hp.hl
    have hnl : (b0 :: b1 :: t).length = t.length + 2 := rfl
    refine join_many gb cb xs'.length xs' (b0 :: b1 :: t) w rfl hpl.symm (by omega) hcb (by omega) (fun i x hx => ?_) (fun i x b hx hb => ?_) hB htot
    · have hi := (List.getElem?_eq_some_iff.1 hx).1
      have hcell := (Kd.R_cell (enc := encSl) (h1 := fun _ => rfl) (none, 0, 0) hp.h1 (i : Int) (by omega) (by omega)).1
      have hrq : rdOf ((none, 0, 0) : Option Addr × Nat × Nat) xs' (i : Int) = x := by simp [rdOf, List.getD_eq_getElem?_getD, hx]
      rw [hrq, Int.toNat_natCast] at hcell
      exact hcell
    · obtain ⟨A, k, c⟩ := x
      obtain ⟨e, _, hr⟩ := Kd.R_reads' (show Kd.R (Kd.int .u8) 5 w lo (fun _ => True) (.slice A k c) b from hp.h2 i _ b hx hb)
      exact ⟨e, hr⟩
set_option maxHeartbeats 8000000 in
set_option maxRecDepth 100000 in
theorem HM.bytes {lo g : Nat} {Bs : List (List Int)} {size m : Int} (w : World) (h : HM lo w g Bs size m) (hnb : Bs.length ≤ 100000) (hB : ∀ b ∈ Bs, isB b) (hbl : ∀ b ∈ Bs, b.length ≤ 65536) (htot : Bs.flatten.length ≤ 100000000) : Calls Try.prog 15 #[.pointer (some ⟨g, 0, none⟩)] w fun e w' => ∃ (A' : Option Addr) (c' : Nat), e = .returned (.slice A' Bs.flatten.length c') ∧ Bs.flatten.length ≤ c' ∧ Kd.C (Kd.int .u8) w' A' Bs.flatten.length Bs.flatten ∧ Below w.heap.size w w' := by
  obtain ⟨A, k, c, hg, hj⟩ := h.join w hnb hB hbl htot
  have hc0 := blk_cell hg 0
  simp only [List.getElem?_toArray, List.getElem?_cons_zero, List.getElem?_cons_succ] at hc0
  have HJ := Aside0.mk hj
  obtain ⟨b, hbe⟩ : ∃ b, b = Bs.flatten := ⟨_, rfl⟩
  rw [← hbe] at HJ ⊢
  clear h hg hj hnb hB hbl htot hbe
  go_enter Try.func15, Try.ntmps15
  go_wp2_with fail
  refine HJ.out.mono ?_
  rintro e w1 ⟨v, rfl, ⟨A9, c9, rfl, hl, hr⟩, hb⟩
  obtain ⟨q, hq⟩ : ∃ q, q = b.length := ⟨_, rfl⟩
  have HQ := Aside0.mk hq
  rw [← hq] at hl hr ⊢
  clear hq
  go_wp2_with fail
  go_ret
  rw [← HQ.out]
  exact ⟨A9, c9, rfl, hl, hr, hb⟩
set_option maxHeartbeats 8000000 in
set_option maxRecDepth 100000 in
theorem HM.size {lo g : Nat} {Bs : List (List Int)} {n0 : Nat} {m : Int} (w : World) (h : HM lo w g Bs (n0 : Int) m) : Calls Try.prog 14 #[.pointer (some ⟨g, 0, none⟩)] w fun e w' => e = .returned (.int .i64 (n0 : Int)) ∧ Below w.heap.size w w' := by
  obtain ⟨vb, hgb⟩ := h.cells_
  have hc1 := blk_cell hgb 1
  simp only [List.getElem?_toArray, List.getElem?_cons_zero, List.getElem?_cons_succ] at hc1
  have HB := Aside0.mk (Below.refl w.heap.size w)
  clear h hgb
  go_enter Try.func14, Try.ntmps14
  go_wp2_with fail
  go_ret
  exact ⟨rfl, by repeat (first | exact HB.out | apply below_alloc | apply pw_below_drewN | apply below_drew1)⟩
end Go.Proofs.Ytpbplflocdhahaa.HW
