/- The heap of any number of buffers: what Add turns. -/
import Derived.Test.YtpbplflocdhahaaHeapN
set_option linter.unusedVariables false
set_option linter.unusedSimpArgs false
namespace Go.Proofs.Ytpbplflocdhahaa.HW
open Go.RowKit Go.Proofs.Ytpbplflocdhahaa.P Go.Proofs.Ytpbplflocdhahaa.HP Go.Proofs.YtpbplflocdhahaaW.PrintWords Go.Proofs.YtpbplflocdhahaaW.PrintLast Go.Proofs.YtpbplflocdhahaaW.PrintMore
attribute [local go_sem] max2_int min2_int max_two min_two max_three min_three max_four min_four
theorem app_hat {P : Program} (w : World) (base : Nat) (t u ty e : TypeId) (i : TypeInfo) (ht : P.underlying t = some (.slice e)) (hu : P.underlying u = some .string) (hi : P.info? e = some i) (hz : i.zero = some (.int .u8 0))
    (hsize : i.size = 1) (hby : i.bytes = 1) (v : Value) (n : Nat) (xs : List Value) (hown : w.ownsRow base e 1 v n xs) (s : ByteArray) (hbytes : n + s.size ≤ 140737488355328) (v' : Value) (w' : World)
    (hr : (Builtin.append_ #[t, u] ty #[v, .string s]).run P w = .ok v' w') (hnil : v' = .slice none 0 0 ↔ v = .slice none 0 0 ∧ s.size = 0) : v'.ownBlock = v.ownBlock ∨ ∃ b, v'.ownBlock = some b ∧ w.heap.size ≤ b := by
  have hxl : xs.length = n := by simpa using hown.1
  rcases hown.2 with ⟨rfl, rfl⟩ | ⟨g, cap, cur, rfl, hbg, hg, hnc, hcm, hcs, htake⟩
  · by_cases hm : s.size = 0
    · rw [hnil.2 ⟨rfl, hm⟩]
      exact .inl rfl
    · have h2 := run_append_nil_string (P := P) w t u ty e i (.int .u8 0) ht hu hi hz s (by omega) (by omega) (by rw [hby]; omega)
      rw [h2] at hr
      injection hr with hr _
      subst hr
      exact .inr ⟨_, rfl, Nat.le_refl _⟩
  · by_cases hroom : n + s.size ≤ cap
    · have hcs' : cur.size = cap := by simpa using hcs
      have h2 := Lib.run_append_room_string (P := P) w t u ty e i ht hu hi hsize g n cap cur hg s hroom (by omega)
      rw [h2] at hr
      injection hr with hr _
      subst hr
      exact .inl rfl
    · have holds : ∀ j u, xs[j]? = some u → w.cell? ((⟨g, 0, none⟩ : Addr).add j) = some u := hown.cells (g := g) rfl
      have h2 := Lib.run_append_grow_string (P := P) w t u ty e i (.int .u8 0) ht hu hi hz ⟨g, 0, none⟩ n cap xs (by rw [hsize]; simpa using hxl) holds s (by omega) (by omega) (by rw [hby]; exact growslice_fits (by omega) (by omega))
      rw [h2] at hr
      injection hr with hr _
      subst hr
      exact .inr ⟨_, rfl, Nat.le_refl _⟩
/-- append of a string, as one step of a region that draws; it says where the row then lies. -/
theorem append_str_step2 {P : Program} {ops : Array Oper} {o : Oper} {a : Act} {Q : Exit → Act → World → Prop} {Kc : Act → World → Prop} {w0 W : World} (base : Nat) (hw : Region.wanted o (yielded ops a.tmps) = true) (s x : Operand) (t u e : TypeId)
    (ho : o.op = .call { callee := .builtin .append, args := #[s, x], argTypes := #[t, u] })
    (ht : P.underlying t = some (.slice e)) (hu : P.underlying u = some .string) (hinfo : (P.info? e).map (fun i => (i.zero, i.size, i.bytes)) = some (some (.int .u8 0), 1, 1))
    (v : Value) (xs : List Int) (y : ByteArray) (hs : a.eval s = v) (hx : a.eval x = .string y)
    (HO : W.ownsRow base e 1 v xs.length (nums .u8 xs)) (HB : Below base w0 W) (hbase : base ≤ W.heap.size) (hl : xs.length + y.size ≤ 140737488355328)
    (h : ∀ v1 w1, w1.ownsRow base e 1 v1 (xs ++ bytesOf y).length (nums .u8 (xs ++ bytesOf y)) → Below base w0 w1 → W.grownBy w1 v.ownBlock → (v1.ownBlock = v.ownBlock ∨ ∃ b, v1.ownBlock = some b ∧ W.heap.size ≤ b) → Kc (a.put o.dst v1) w1) :
    if Region.wanted o (yielded ops a.tmps) = true then Oper.wp P o a W Kc Q else Kc (a.put o.dst undef) W := by
  obtain ⟨i0, hi, hzz⟩ := Option.map_eq_some_iff.1 hinfo
  simp only [Prod.mk.injEq] at hzz
  obtain ⟨hz0, hz1, hz2⟩ := hzz
  obtain ⟨v', w', hr, h2, h3, h4⟩ := Lib.run_append_own_string (P := P) W base t u o.type e i0 ht hu hi hz0 hz1 hz2 v xs.length (nums .u8 xs) HO y (by simp only [maxLen]; omega) hl hbase
  have hat := app_hat W base t u o.type e i0 ht hu hi hz0 hz1 hz2 v xs.length (nums .u8 xs) HO y hl v' w' hr h4
  have hl2 : (xs ++ bytesOf y).length = xs.length + y.size := by rw [List.length_append, bytesOf_length]
  have hc : nums .u8 (xs ++ bytesOf y) = nums .u8 xs ++ Lib.strCells y := by
    rw [nums_append]
    congr 1
    simp [nums, bytesOf, Lib.strCells]
  refine event_step (w1 := w') (v := v') hw ?_ (h v' w' (by rw [hl2, hc]; exact h2) (HB.grown h3 hbase (own_base HO)) h3 hat)
  unfold execOp
  simp only [ho, resolve, invoke, builtin, Sem.run_bind, Sem.run_pure, Result.andThen_ok, List.map_toArray, List.map_cons, List.map_nil, hs, hx, hr]
/-- The heap's own blocks stay. -/
def KO (w W : World) : Prop := ∀ (k : Nat) (cs : Array Value) (t : TypeId), t = 53 ∨ t = 36 ∨ t = 5 → w.heap[k]? = some (.cells cs t (0, 0)) → W.heap[k]? = some (.cells cs t (0, 0))
theorem KO.of_below {w W : World} (hb : Below w.heap.size w W) : KO w W := fun k cs t _ h => (hb.block _ (blk_lt h)).trans h
theorem KO.row {w : World} {v : Nat} {cs : Array Value} (hv : w.heap[v]? = some (.cells cs 28 (0, 0))) (D : Array Value) : KO w (w.setRow v D) := fun k c t ht h => (heap_row (blk_ne h hv (by rcases ht with rfl | rfl | rfl <;> decide))).trans h
theorem KO.trans {w W W' : World} (h : KO w W) (k : KO W W') : KO w W' := fun i cs t ht hh => k i cs t ht (h i cs t ht hh)
theorem R_ko {α : Type} {enc : α → Value} {h1 : ∀ x, (enc x).oneCell' = true} {e b1 : Nat} {w W : World} {v : Value} {xs : List α} (h : (Kd.scalar enc h1).R e w b1 (fun _ => True) v xs) (he : e = 53 ∨ e = 36 ∨ e = 5) (k : KO w W) : (Kd.scalar enc h1).R e W b1 (fun _ => True) v xs := by
  obtain ⟨inner, ho⟩ := Kd.R_own h
  refine Kd.R_mono (Kd.R_step (Kd.R_tight rfl h) (fun j hj _ => ?_)) (fun _ _ => trivial)
  obtain ⟨cells, hc⟩ := own_typed ho j hj.symm
  rw [hc]
  exact k j cells _ he hc
theorem HM.keep {lo : Nat} {w W : World} {g : Nat} {Bs : List (List Int)} {size m : Int} (h : HM lo w g Bs size m) (k : KO w W) : HM lo W g Bs size m := by
  obtain ⟨h0, vB, xs, hg, h1, hl, h2, h3⟩ := h
  exact ⟨h0, vB, xs, k _ _ _ (.inl rfl) hg, R_ko h1 (.inr (.inl rfl)) k, hl, fun j x b hx hb => R_ko (h2 j x b hx hb) (.inr (.inr rfl)) k, h3⟩
theorem KT.kr {w W W' : World} (h : KT w W) (k : KR W W') : KT w W' := fun i cs t h0 a b c => k i cs t (h i cs t h0 a b c) a b
theorem HM.put {lo : Nat} {w w5 : World} {g : Nat} {Bs : List (List Int)} {size m : Int} {q : Nat} {b L : List Int} {gb cb c g5 c5 : Nat} {A : Option Addr} {xs : List (Option Addr × Nat × Nat)} (h : HQ lo w g Bs size m q b gb cb c A xs) (hbq : Bs[q]? = some b)
    (hg5 : w.grownBy w5 (Value.slice A b.length c).ownBlock) (hO : w5.ownsRow lo 5 1 (.slice (some ⟨g5, 0, none⟩) L.length c5) L.length (nums .u8 L))
    (hat : (Value.slice (some ⟨g5, 0, none⟩) L.length c5).ownBlock = (Value.slice A b.length c).ownBlock ∨ ∃ k, (Value.slice (some ⟨g5, 0, none⟩) L.length c5).ownBlock = some k ∧ w.heap.size ≤ k) (y : Int) :
    HM lo ((w5.setCell ⟨gb, q, none⟩ (.slice (some ⟨g5, 0, none⟩) L.length c5)).setCell ⟨g, 1, none⟩ (.int .i64 y)) g (Bs.set q L) y m ∧ lo ≤ gb ∧ w5.heap[g]? = some (.cells #[.slice (some ⟨gb, 0, none⟩) xs.length cb, .int .i64 size, .int .i64 m] 53 (0, 0)) ∧ (∃ gc, w5.heap[gb]? = some (.cells gc 36 (0, 0))) ∧
      w5.cell? ⟨gb, q, none⟩ = some (.slice A b.length c) ∧ w5.frozen? ⟨gb, q, none⟩ = false := by
  have hX : Kd.R (Kd.int .u8) 5 w lo (fun _ => True) (.slice A b.length c) b := h.h2 q _ b h.hq hbq
  have hqx : q < xs.length := (List.getElem?_eq_some_iff.1 h.hq).1
  have hG5 := blk_grown h.hg hg5 (Kd.R_ne hX h.hg (by decide))
  obtain ⟨gB, cB, e, hlg, _, gc, hgc⟩ := Kd.R_form h.h1 (by omega)
  injection e with e1 _ _
  injection e1 with e1
  injection e1 with e1 _ _
  subst e1
  have hne := Kd.R_ne hX hgc (by decide)
  have hB5 := blk_grown hgc hg5 hne
  have hK5 := KS_keep h.h1 hg5 hne
  have hN5 : Kd.R (Kd.int .u8) 5 w5 lo (fun _ => True) (.slice (some ⟨g5, 0, none⟩) L.length c5) L := Kd.R_of_own hO (fun _ _ => trivial)
  have hR5 : ∀ (j : Nat) (x : Option Addr × Nat × Nat) (b' : List Int), j ≠ q → xs[j]? = some x → Bs[j]? = some b' → Kd.R (Kd.int .u8) 5 w5 lo (fun _ => True) (encSl x) b' := fun j x b' hj hx hb' =>
    Kd.R_mono (Kd.R_step (Kd.R_tight rfl (show (Kd.scalar (Value.int .u8) (fun _ => rfl)).R 5 w lo (fun _ => True) (encSl x) b' from h.h2 j x b' hx hb')) (fun k hk hlt => hg5.block k hlt (fun e => h.h3 j q k x _ hj hx h.hq hk.symm e.symm))) (fun _ _ => trivial)
  have hK6 := (Kd.R_put (enc := encSl) (h1 := fun _ => rfl) hK5 (q : Int) (some ⟨g5, 0, none⟩, L.length, c5)).1
  rw [Int.toNat_natCast] at hK6
  have hcell := Kd.R_cell (enc := encSl) (h1 := fun _ => rfl) (none, 0, 0) hK5 (q : Int) (by omega) (by omega)
  have hrq : rdOf ((none, 0, 0) : Option Addr × Nat × Nat) xs (q : Int) = (A, b.length, c) := by simp [rdOf, List.getD_eq_getElem?_getD, h.hq]
  rw [hrq, Int.toNat_natCast] at hcell
  have hgg : g ≠ gb := blk_ne hG5 hB5 (by decide)
  have hG6 : (w5.setCell ⟨gb, q, none⟩ (encSl (some ⟨g5, 0, none⟩, L.length, c5))).heap[g]? = _ := (Below.heap_setCell _ _ _ _ hgg).trans hG5
  have hB6 : (w5.setCell ⟨gb, q, none⟩ (encSl (some ⟨g5, 0, none⟩, L.length, c5))).heap[g]? = some (.cells #[.slice (some ⟨gb, 0, none⟩) xs.length cb, .int .i64 size, .int .i64 m] 53 (0, 0)) := hG6
  have two : ∀ {v : Value} {b' : List Int}, Kd.R (Kd.int .u8) 5 w5 lo (fun _ => True) v b' → Kd.R (Kd.int .u8) 5 ((w5.setCell ⟨gb, q, none⟩ (encSl (some ⟨g5, 0, none⟩, L.length, c5))).setCell ⟨g, 1, none⟩ (.int .i64 y)) lo (fun _ => True) v b' := fun hv => R_setblk (R_setblk hv hB5 (by decide)) hB6 (by decide)
  refine ⟨⟨h.h0, .slice (some ⟨gb, 0, none⟩) xs.length cb, xs.set q (some ⟨g5, 0, none⟩, L.length, c5), blk_put hB6 1 _ rfl, R_setblk hK6 hB6 (by decide), by rw [List.length_set, List.length_set, h.hl], fun j x b' hx hb' => ?_, fun i j k x z hij hx hz hk => ?_⟩, hlg, hG5, ⟨gc, hB5⟩, hcell.1, hcell.2⟩
  · by_cases hj : j = q
    · subst hj
      rw [List.getElem?_set_self (by omega)] at hx
      rw [List.getElem?_set_self (by rw [← h.hl]; omega)] at hb'
      injection hx with hx
      injection hb' with hb'
      subst hx hb'
      exact two hN5
    · rw [List.getElem?_set_ne (fun e => hj e.symm)] at hx hb'
      exact two (hR5 j x b' hj hx hb')
  · have hold : ∀ (i : Nat) (x : Option Addr × Nat × Nat) (k : Nat), i ≠ q → xs[i]? = some x → (encSl x).ownBlock = some k → (Value.slice (some ⟨g5, 0, none⟩) L.length c5).ownBlock ≠ some k := fun i x k hi hx hk e => by
      obtain ⟨b', hb'⟩ : ∃ b', Bs[i]? = some b' := ⟨_, List.getElem?_eq_getElem (by rw [← h.hl]; exact (List.getElem?_eq_some_iff.1 hx).1)⟩
      rcases hat with hat | ⟨k2, hk2, hle⟩
      · exact h.h3 i q k x _ hi hx h.hq hk (hat.symm.trans e)
      · obtain ⟨inner, ho⟩ := Kd.R_own (h.h2 i x b' hx hb')
        have := (ho.lt k hk).2
        rw [hk2] at e
        injection e with e
        omega
    by_cases hi : i = q
    · subst hi
      rw [List.getElem?_set_self (by omega)] at hx
      rw [List.getElem?_set_ne hij] at hz
      injection hx with hx
      subst hx
      exact fun e => hold j z k (fun e => hij e.symm) hz e hk
    · rw [List.getElem?_set_ne (fun e => hi e.symm)] at hx
      by_cases hj : j = q
      · subst hj
        rw [List.getElem?_set_self (by omega)] at hz
        injection hz with hz
        subst hz
        exact hold i x k hi hx hk
      · rw [List.getElem?_set_ne (fun e => hj e.symm)] at hz
        exact h.h3 i j k x z hij hx hz hk
end Go.Proofs.Ytpbplflocdhahaa.HW
