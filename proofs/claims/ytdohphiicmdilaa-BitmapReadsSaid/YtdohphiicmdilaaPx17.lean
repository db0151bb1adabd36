-- Written by hp.py, a wrapper round the kit's print; not by print.sh.
import Derived.Test.YtdohphiicmdilaaPx0
namespace Go.Proofs.Ytdohphiicmdilaa.P
open Go.RowKit Go.Proofs.YtdohphiicmdilaaW.PrintWords Go.Proofs.YtdohphiicmdilaaW.PrintLast Go.Proofs.YtdohphiicmdilaaW.PrintMore
attribute [local go_sem] max2_int min2_int max_two min_two max_three min_three max_four min_four   -- for this text's walks alone
set_option linter.unusedVariables false
set_option linter.unusedSimpArgs false


/-! ### slices_Clone_byte_byte: function 48, given -/
def slices_Clone_byte_byte.f (l0 : List Int) : Option (List Int) := if l0.length < 140737488355328 then some l0 else none
theorem slices_Clone_byte_byte.info : (Try.prog.info? 5).map (fun i => (i.zero, i.size, i.bytes)) = some (some (.int .u8 0), 1, 1) := by kernel_rfl
set_option maxHeartbeats 8000000 in
set_option maxRecDepth 100000 in
theorem slices_Clone_byte_byte.calls (A0 : Option Addr) (c0 : Nat) (l0 : List Int) (r : List Int) (w : World) (hr0 : Kd.C (Kd.int .u8) w A0 l0.length l0) (hc0 : l0.length ≤ c0) (h : slices_Clone_byte_byte.f l0 = some r) :
    Calls Try.prog 48 #[.slice A0 l0.length c0] w fun e w' => ∃ v0_ : Value, e = .returned (v0_) ∧ Kd.R (Kd.int .u8) 5 w' w.heap.size (fun _ => True) v0_ r ∧ Below w.heap.size w w' := by
  unfold slices_Clone_byte_byte.f at h
  by_cases hl : l0.length < 140737488355328
  case neg => rw [if_neg hl] at h; cases h
  rw [if_pos hl] at h
  obtain rfl := Option.some.inj h
  clear h
  have HL := Aside0.mk hl
  have HB := Aside0.mk (Below.refl w.heap.size w)
  cases A0 with
  | none =>
    obtain rfl : l0 = [] := by
      cases l0 with
      | nil => rfl
      | cons x t =>
        obtain ⟨ad, he, _⟩ := hr0.2.2 (by simp)
        cases he
    clear hr0 hc0 hl
    have heq := fun (W : World) => Go.Lib.run_eql_slice_nil (P := Try.prog) W 32 5 (none : Option Addr) ([] : List Int).length c0 0 0 Try.underlying32
    simp only [Option.isNone_none, List.length_nil] at heq
    go_enter Try.func48, Try.ntmps48
    go_wp2
    go_ret
    exact ⟨_, rfl, Kd.R_nil _ _ _ _ _, HB.out⟩
  | some ad =>
    have HR0 := Aside0.mk hr0
    clear hr0 hl
    have heq := fun (W : World) => Go.Lib.run_eql_slice_nil (P := Try.prog) W 32 5 (some ad) l0.length c0 0 0 Try.underlying32
    simp only [Option.isNone_some] at heq
    go_enter Try.func48, Try.ntmps48
    go_wp2_with (first | ((with_reducible refine gate_dst (N := 5) rfl ?_); refine Kd.R_lit (Kd.int .u8) _ 5 ?hg (N := 5) ?hd (xs := ([] : List Int)) (inner := []) (ok := fun _ => True) (okp := fun _ => True) ?hr ?hp (fun _ hk => hk) trivial (Below.refl _ _) (Nat.le_refl _) (by simp) ?_; (case hd => rfl); (case hg => rfl); (case hr => first | (go_simp; done) | (go_simp; rfl)); (case hp => exact Reps.none _ _); intro v397 w8 ho9 hb hg_ hnew_; clear hg_ hnew_; have HO := Aside0.mk ho9; have n1_ := Aside0.mk hb; clear HB; have HB := n1_; clear n1_ hb ho9) | ((with_reducible refine gate_builtin (b := .append) (xs := #[.tmp 5, .tmp 6]) rfl ?_); at_builtin; refine Kd.R_append_rows (Kd.int .u8) (w0 := w) w.heap.size rfl (.tmp 5) (.tmp 6) 32 5 (.int .u8 0) 1 rfl Try.underlying32 slices_Clone_byte_byte.info rfl (by decide) (by omega) v397 [] l0 _ _ _ (fun _ => True) (fun _ => False) rfl rfl ?aO ?aR (fun _ _ h => h) (fun _ h => h.elim) ?aF ?aB ?aS ?aL ?_; (case aR => exact Kd.C_below HR0.out HB.out); (case aB => exact HB.out); (case aF => exact (fun _ _ => trivial)); (case aO => exact HO.out); (case aS => exact (below_size HB.out)); (case aL => have := HL.out; simp; omega); intro v403 w11 ho hb hg hat; rw [List.nil_append] at ho; have n1_ := Aside0.mk hb; have n2_ := Aside0.mk ho; clear HB HO; have HB := n1_; have HO := n2_; clear n1_ n2_; clear ho hb hg hat))
    go_ret
    exact ⟨_, rfl, HO.out, HB.out⟩

/-- A state of type 56 at block g of W; what its slices lead to came in by w0. -/
def IsS56 (w0 W : World) (g : Nat) (f0 : List Int) (f1 : Int) (f2 : Int) : Prop := ∃ A0 c0, W.heap[g]? = some (.cells #[.slice A0 f0.length c0, .int .i64 f1, .int .i64 f2] 56 (0, 0)) ∧ (w0.heap.size ≤ g ∧ f0.length ≤ c0 ∧ (0 < f0.length → ∀ a_, A0 = some a_ → w0.drawn ≤ a_.block)) ∧ Kd.C (Kd.int .u8) w0 A0 f0.length f0
theorem IsS56.grown {w0 W : World} {g : Nat} {f0 : List Int} {f1 : Int} {f2 : Int} {W1 : World} {row : Option Nat} (h : IsS56 w0 W g f0 f1 f2) (hw : W.grownBy W1 row) (hne : some g ≠ row) : IsS56 w0 W1 g f0 f1 f2 := by
  obtain ⟨A0, c0, hb, hg, hr0⟩ := h
  exact ⟨A0, c0, blk_grown hb hw hne, hg, hr0⟩
theorem IsS56.own_neN {w0 W : World} {g : Nat} {f0 : List Int} {f1 : Int} {f2 : Int} {α : Type} {d : Kd α} {e : Nat} {base : Nat} {ok : Nat → Prop} {v : Value} {xs : List α} (h : IsS56 w0 W g f0 f1 f2) (ho : Kd.N d e W base ok v xs) (ht : e ≠ 56) : some g ≠ v.ownBlock := by
  obtain ⟨A0, c0, hb, hg, hr0⟩ := h
  exact Kd.N_ne ho hb ht
theorem IsS56.fresh {w0 W : World} {g : Nat} {f0 : List Int} {f1 : Int} {f2 : Int} (h : IsS56 w0 W g f0 f1 f2) : ∀ k, W.heap.size ≤ k → k ≠ g := by
  obtain ⟨A0, c0, hb, hg, hr0⟩ := h
  exact Kd.freshB hb
theorem IsS56.kept {w0 W : World} {g : Nat} {f0 : List Int} {f1 : Int} {f2 : Int} {W1 : World} {S : Nat → Prop} (h : IsS56 w0 W g f0 f1 f2) (hk : Kept W W1 S) (hne : ¬ S g) : IsS56 w0 W1 g f0 f1 f2 := by
  obtain ⟨A0, c0, hb, hg, hr0⟩ := h
  exact ⟨A0, c0, blk_kept hb hk hne, hg, hr0⟩
theorem IsS56.below {w0 W : World} {g : Nat} {f0 : List Int} {f1 : Int} {f2 : Int} {W1 : World} (h : IsS56 w0 W g f0 f1 f2) (hw : Below W.heap.size W W1) : IsS56 w0 W1 g f0 f1 f2 := h.grown (grown_of_below hw none) (by simp)
theorem IsS56.alloc {w0 W : World} {g : Nat} {f0 : List Int} {f1 : Int} {f2 : Int} (h : IsS56 w0 W g f0 f1 f2) (o : Obj) : IsS56 w0 (W.alloc o) g f0 f1 f2 := h.below (below_alloc (Below.refl _ _) o)
theorem IsS56.drewN {w0 W : World} {g : Nat} {f0 : List Int} {f1 : Int} {f2 : Int} (h : IsS56 w0 W g f0 f1 f2) (m : Nat) : IsS56 w0 (W.drewN m) g f0 f1 f2 := h
theorem IsS56.drew {w0 W : World} {g : Nat} {f0 : List Int} {f1 : Int} {f2 : Int} (h : IsS56 w0 W g f0 f1 f2) : IsS56 w0 W.drew g f0 f1 f2 := h
theorem IsS56.at_ {w0 W : World} {g : Nat} {f0 : List Int} {f1 : Int} {f2 : Int} {w' : World} {m : Nat} (hq : W.drewN m = w') (h : IsS56 w0 W g f0 f1 f2) : IsS56 w0 w' g f0 f1 f2 := by subst hq; exact IsS56.drewN h m
theorem IsS56.apart {w0 W : World} {g : Nat} {f0 : List Int} {f1 : Int} {f2 : Int} {α : Type} {d : Kd α} {e : Nat} {base : Nat} {ok : Nat → Prop} {v : Value} {xs : List α} (h : IsS56 w0 W g f0 f1 f2) (ho : d.R e W base ok v xs) (ht : ∀ q, q ∈ e :: d.E → q ≠ 56) : d.R e W base (fun k => ok k ∧ k ≠ g) v xs := by
  obtain ⟨A0, c0, hb, hg, hr0⟩ := h
  exact Kd.R_types ho hb ht
theorem IsS56.own_ne {w0 W : World} {g : Nat} {f0 : List Int} {f1 : Int} {f2 : Int} {α : Type} {d : Kd α} {e : Nat} {base : Nat} {ok : Nat → Prop} {v : Value} {xs : List α} (h : IsS56 w0 W g f0 f1 f2) (ho : d.R e W base ok v xs) (ht : e ≠ 56) : some g ≠ v.ownBlock := by
  obtain ⟨A0, c0, hb, hg, hr0⟩ := h
  exact Kd.R_ne ho hb ht
theorem IsS56.apartQ {w0 W : World} {g : Nat} {f0 : List Int} {f1 : Int} {f2 : Int} {α : Type} {d : Kd α} {e : Nat} {base : Nat} {ok : Nat → Prop} {v : Value} {xs : List α} (h : IsS56 w0 W g f0 f1 f2) (ho : d.Q e W base ok v xs) (ht : ∀ q, q ∈ e :: d.E → q ≠ 56) : d.Q e W base (fun k => ok k ∧ k ≠ g) v xs := by
  obtain ⟨A0, c0, hb, hg, hr0⟩ := h
  exact Kd.Q_types ho hb ht
theorem IsS56.own_neQ {w0 W : World} {g : Nat} {f0 : List Int} {f1 : Int} {f2 : Int} {α : Type} {d : Kd α} {e : Nat} {base : Nat} {ok : Nat → Prop} {v : Value} {xs : List α} (h : IsS56 w0 W g f0 f1 f2) (ho : d.Q e W base ok v xs) (ht : e ≠ 56) : some g ≠ v.ownBlock := by
  obtain ⟨A0, c0, hb, hg, hr0⟩ := h
  exact Kd.Q_ne ho hb ht
theorem IsS56.apartS {w0 W : World} {g : Nat} {f0 : List Int} {f1 : Int} {f2 : Int} {α : Type} {d : Kd α} {e : Nat} {base : Nat} {ok : Nat → Prop} {v : Value} {xs : List α} (h : IsS56 w0 W g f0 f1 f2) (ho : d.S e W base ok v xs) (ht : ∀ q, q ∈ e :: d.E → q ≠ 56) : d.S e W base (fun k => ok k ∧ k ≠ g) v xs := by
  obtain ⟨A0, c0, hb, hg, hr0⟩ := h
  exact Kd.S_types ho hb ht
theorem IsS56.own_neS {w0 W : World} {g : Nat} {f0 : List Int} {f1 : Int} {f2 : Int} {α : Type} {d : Kd α} {e : Nat} {base : Nat} {ok : Nat → Prop} {v : Value} {xs : List α} (h : IsS56 w0 W g f0 f1 f2) (ho : d.S e W base ok v xs) (ht : e ≠ 56) : some g ≠ v.ownBlock := by
  obtain ⟨A0, c0, hb, hg, hr0⟩ := h
  exact Kd.S_ne ho hb ht
theorem IsS56.lt {w0 W : World} {g : Nat} {f0 : List Int} {f1 : Int} {f2 : Int} (h : IsS56 w0 W g f0 f1 f2) : g < W.heap.size := by
  obtain ⟨A0, c0, hb, hg, hr0⟩ := h
  exact blk_lt hb
theorem IsS56.ge {w0 W : World} {g : Nat} {f0 : List Int} {f1 : Int} {f2 : Int} (h : IsS56 w0 W g f0 f1 f2) : w0.heap.size ≤ g := by
  obtain ⟨A0, c0, hb, hg, hr0⟩ := h
  exact hg.1
theorem IsS56.ne_blk {w0 W : World} {g : Nat} {f0 : List Int} {f1 : Int} {f2 : Int} {a : Nat} {cs : Array Value} {t : TypeId} {fr : Nat × Nat} (h : IsS56 w0 W g f0 f1 f2) (hb2 : W.heap[a]? = some (.cells cs t fr)) (ht : t ≠ 56) : g ≠ a := by
  obtain ⟨A0, c0, hb, hg, hr0⟩ := h
  rintro rfl
  rw [hb] at hb2
  injection hb2 with hb2
  injection hb2 with _ ht2
  exact ht ht2.symm
theorem IsS56.far {w0 W : World} {g : Nat} {f0 : List Int} {f1 : Int} {f2 : Int} {p : Addr} (h : IsS56 w0 W g f0 f1 f2) (hne : g ≠ p.block) (u : Value) : IsS56 w0 (W.setCell p u) g f0 f1 f2 := by
  obtain ⟨A0, c0, hb, hg, hr0⟩ := h
  exact ⟨A0, c0, blk_far hb hne u, hg, hr0⟩
theorem cellS56_0 {W : World} {g : Nat} {A0 : Option Addr} {c0 : Nat} {f0 : List Int} {f1 : Int} {f2 : Int} (h : W.heap[g]? = some (.cells #[.slice A0 f0.length c0, .int .i64 f1, .int .i64 f2] 56 (0, 0))) : W.cell? ⟨g, 0, none⟩ = some (.slice A0 f0.length c0) := (blk_cell h 0).trans rfl
theorem cellS56_1 {W : World} {g : Nat} {A0 : Option Addr} {c0 : Nat} {f0 : List Int} {f1 : Int} {f2 : Int} (h : W.heap[g]? = some (.cells #[.slice A0 f0.length c0, .int .i64 f1, .int .i64 f2] 56 (0, 0))) : W.cell? ⟨g, 1, none⟩ = some (.int .i64 f1) := (blk_cell h 1).trans rfl
theorem IsS56.set_1 {w0 W : World} {g : Nat} {f0 : List Int} {f1 : Int} {f2 : Int} (h : IsS56 w0 W g f0 f1 f2) (x : Int) : IsS56 w0 (W.setCell ⟨g, 1, none⟩ (.int .i64 x)) g f0 x f2 := by
  obtain ⟨A0, c0, hb, hg, hr0⟩ := h
  exact ⟨A0, c0, by simpa using blk_set hb 1 (.int .i64 x), hg, hr0⟩
theorem cellS56_2 {W : World} {g : Nat} {A0 : Option Addr} {c0 : Nat} {f0 : List Int} {f1 : Int} {f2 : Int} (h : W.heap[g]? = some (.cells #[.slice A0 f0.length c0, .int .i64 f1, .int .i64 f2] 56 (0, 0))) : W.cell? ⟨g, 2, none⟩ = some (.int .i64 f2) := (blk_cell h 2).trans rfl
theorem IsS56.set_2 {w0 W : World} {g : Nat} {f0 : List Int} {f1 : Int} {f2 : Int} (h : IsS56 w0 W g f0 f1 f2) (x : Int) : IsS56 w0 (W.setCell ⟨g, 2, none⟩ (.int .i64 x)) g f0 f1 x := by
  obtain ⟨A0, c0, hb, hg, hr0⟩ := h
  exact ⟨A0, c0, by simpa using blk_set hb 2 (.int .i64 x), hg, hr0⟩
theorem IsS56.new (w0 W : World) (A0 : Option Addr) (c0 : Nat) (f0 : List Int) (f1 : Int) (f2 : Int) (hB : Below w0.heap.size w0 W) (hr0 : Kd.C (Kd.int .u8) w0 A0 f0.length f0) (hq0 : f0.length ≤ c0 ∧ (0 < f0.length → ∀ a_, A0 = some a_ → w0.drawn ≤ a_.block)) : IsS56 w0 (W.alloc (.cells #[.slice A0 f0.length c0, .int .i64 f1, .int .i64 f2] 56)) W.heap.size f0 f1 f2 := ⟨A0, c0, by simpa using heap_alloc_new W _, ⟨hB.size, hq0⟩, hr0⟩

/-! ### cursor_New: function 36, given -/
/-- The world as it was when block g was about to be laid. -/
def trw (w : World) (g lo : Nat) : World := { w with heap := w.heap.extract 0 g, drawn := lo }
theorem trw_size (w : World) (g lo : Nat) (hg : g ≤ w.heap.size) : (trw w g lo).heap.size = g := by simp [trw]; omega
theorem trw_get (w : World) (g lo k : Nat) (hk : k < g) : (trw w g lo).heap[k]? = w.heap[k]? := by
  simp only [trw]
  rw [Array.getElem?_extract]
  by_cases h : k < w.heap.size
  · rw [if_pos (by omega)]; simp
  · rw [if_neg (by omega), Array.getElem?_eq_none (by omega)]
theorem trw_below (w : World) (g lo : Nat) (hg : g ≤ w.heap.size) : Below (trw w g lo).heap.size (trw w g lo) w := by
  have := trw_size w g lo hg
  exact ⟨rfl, rfl, rfl, by omega, fun k hk => (trw_get w g lo k (by omega)).symm⟩
theorem trw_C (w : World) (g lo : Nat) {A : Option Addr} {l : List Int} (h : Kd.C (Kd.int .u8) w A l.length l) (hb : 0 < l.length → ∀ a, A = some a → a.block < g) : Kd.C (Kd.int .u8) (trw w g lo) A l.length l := by
  have hr := Kd.reads_of_C (d := (0 : Int)) h
  refine Kd.C_of_reads (d := (0 : Int)) (h1 := fun _ => rfl) ⟨hr.1, hr.2.1, fun hn => ?_⟩
  obtain ⟨ad, e, hc⟩ := hr.2.2 hn
  refine ⟨ad, e, fun j hj => ?_⟩
  rw [← hc j hj]
  unfold World.cell?
  rw [trw_get w g lo (ad.add j).block (by rw [add_block]; exact hb hn ad e)]
/-- A cursor of the program's: its block, its bytes (they lie in a block of its own, or nowhere), all from lo on. -/
def Cur (lo : Nat) (w : World) (g : Nat) (l : List Int) (i e : Int) : Prop := ∃ A c, w.heap[g]? = some (.cells #[.slice A l.length c, .int .i64 i, .int .i64 e] 56 (0, 0)) ∧ l.length ≤ c ∧ Kd.C (Kd.int .u8) w A l.length l ∧ lo ≤ g ∧ (0 < l.length → ∀ a, A = some a → lo ≤ a.block ∧ a.block < g)
section
variable {lo : Nat} {w w' : World} {g : Nat} {l : List Int} {i e : Int}
theorem Cur.lt (h : Cur lo w g l i e) : g < w.heap.size := by obtain ⟨A, c, hb, _⟩ := h; exact blk_lt hb
theorem Cur.ge (h : Cur lo w g l i e) : lo ≤ g := by obtain ⟨A, c, _, _, _, h, _⟩ := h; exact h
theorem Cur.isS (h : Cur lo w g l i e) : IsS56 (trw w g lo) w g l i e := by
  obtain ⟨A, c, hb, hc, hr, hl, ha⟩ := h
  exact ⟨A, c, hb, ⟨by have := trw_size w g lo (Nat.le_of_lt (blk_lt hb)); omega, hc, fun hn a e => (ha hn a e).1⟩, trw_C w g lo hr (fun hn a e => (ha hn a e).2)⟩
theorem Cur.trb (h : Cur lo w g l i e) : Below (trw w g lo).heap.size (trw w g lo) w := trw_below w g lo (Nat.le_of_lt h.lt)
/-- Every other block of the cursor's is as it was. -/
theorem Cur.moved (h : Cur lo w g l i e) (hk : ∀ k, lo ≤ k → k ≤ g → w'.heap[k]? = w.heap[k]?) : Cur lo w' g l i e := by
  obtain ⟨A, c, hb, hc, hr, hl, ha⟩ := h
  refine ⟨A, c, (hk g hl (Nat.le_refl _)).trans hb, hc, ?_, hl, ha⟩
  have hr := Kd.reads_of_C (d := (0 : Int)) hr
  refine Kd.C_of_reads (d := (0 : Int)) (h1 := fun _ => rfl) ⟨hr.1, hr.2.1, fun hn => ?_⟩
  obtain ⟨ad, e, hcell⟩ := hr.2.2 hn
  refine ⟨ad, e, fun j hj => ?_⟩
  have := ha hn ad e
  rw [← hcell j hj]
  unfold World.cell?
  rw [hk (ad.add j).block (by rw [add_block]; exact this.1) (by rw [add_block]; omega)]
theorem Cur.below (h : Cur lo w g l i e) (hb : Below w.heap.size w w') : Cur lo w' g l i e := h.moved (fun k _ hk => hb.block k (by have := h.lt; omega))
theorem Cur.keep (h : Cur lo w g l i e) {g2 : Nat} (hk : KeepBut w w' g2 none) (hg : g2 < lo ∨ g < g2) : Cur lo w' g l i e := h.moved (fun k h1 h2 => hk.2 k (by have := h.lt; omega) (by omega) (by simp))
theorem Cur.back {i' e' : Int} (h : Cur lo w g l i e) (hk : KeepBut w w' g none) (hi : IsS56 (trw w g lo) w' g l i' e') : Cur lo w' g l i' e' := by
  obtain ⟨A, c, hb, hc, hr, hl, ha⟩ := h
  have hg := blk_lt hb
  obtain ⟨A', c', hb', hc', hr'⟩ := hi
  have hs := trw_size w g lo (Nat.le_of_lt hg)
  refine ⟨A', c', hb', hc'.2.1, ?_, hl, fun hn a e => ⟨hc'.2.2 hn a e, ?_⟩⟩
  · have hr := Kd.reads_of_C (d := (0 : Int)) hr'
    refine Kd.C_of_reads (d := (0 : Int)) (h1 := fun _ => rfl) ⟨hr.1, hr.2.1, fun hn => ?_⟩
    obtain ⟨ad, e, hcell⟩ := hr.2.2 hn
    refine ⟨ad, e, fun j hj => ?_⟩
    have h1 := World.block_lt_of_cell? _ _ (hcell j hj)
    rw [← hcell j hj]
    unfold World.cell?
    rw [hk.2 (ad.add j).block (by omega) (by omega) (by simp), trw_get w g lo (ad.add j).block (by omega)]
  · have hr := Kd.reads_of_C (d := (0 : Int)) hr'
    obtain ⟨ad, e2, hcell⟩ := hr.2.2 hn
    have h1 := World.block_lt_of_cell? _ _ (hcell 0 hn)
    rw [add_block] at h1
    rw [e2] at e
    obtain rfl := Option.some.inj e
    omega
end
set_option maxHeartbeats 8000000 in
set_option maxRecDepth 100000 in
theorem Cur.make (A0 : Option Addr) (c0 : Nat) (l : List Int) (w : World) (hr0 : Kd.C (Kd.int .u8) w A0 l.length l) (hc0 : l.length ≤ c0) (hl : l.length < 140737488355328) :
    Calls Try.prog 36 #[.slice A0 l.length c0] w fun e w' => ∃ g : Nat, e = .returned (.pointer (some ⟨g, 0, none⟩)) ∧ Cur w.heap.size w' g l 0 0 ∧ Below w.heap.size w w' := by
  have HR0 := Aside0.mk hr0
  have HC0 := Aside0.mk hc0
  have HL := Aside0.mk hl
  have HB := Aside0.mk (Below.refl w.heap.size w)
  clear hr0 hc0 hl
  go_enter Try.func36, Try.ntmps36
  go_wp2_with fail
  refine (slices_Clone_byte_byte.calls A0 c0 l l _ ?side1 HC0.out (by unfold slices_Clone_byte_byte.f; rw [if_pos HL.out])).mono ?_
  case side1 => exact HR0.out
  rintro e w1 ⟨v1, rfl, ho, hb⟩
  obtain ⟨A1, c1, rfl, hc1, hr1⟩ := Kd.R_reads ho
  have hbl : 0 < l.length → ∀ a, A1 = some a → w.heap.size ≤ a.block ∧ a.block < w1.heap.size := by
    intro _ a ha
    subst ha
    exact ⟨Kd.R_base ho a.block rfl, Kd.R_lt ho a.block rfl⟩
  have HB1 := Aside0.mk (below_step HB.out hb)
  have HR1 := Aside0.mk hr1
  have HX := Aside0.mk hbl
  have HC1 := Aside0.mk hc1
  clear HB hb ho hr1 hbl hc1
  go_wp2_with fail
  go_ret
  refine ⟨_, rfl, ⟨A1, c1, heap_alloc_new w1 _, HC1.out, ?_, HB1.out.size, HX.out⟩, ?_⟩
  · exact Kd.C_alloc HR1.out _
  · exact below_alloc HB1.out _

/-! ### cursor_Cursor_Fail: function 52 -/
def cursor_Cursor_Fail.f (s0_0 : List Int) (s0_1 : Int) (s0_2 : Int) (a1 : Int) : Option (Int × Int) := if s0_2 = 0 then (some (s0_1, a1)) else (some (s0_1, s0_2))
set_option maxHeartbeats 8000000 in
set_option maxRecDepth 100000 in
theorem cursor_Cursor_Fail.calls (g : Nat) (s0_0 : List Int) (s0_1 : Int) (s0_2 : Int) (a1 : Int) (r1 : Int) (r2 : Int) (w0 w : World) (hI : IsS56 w0 w g s0_0 s0_1 s0_2) (hB : Below w0.heap.size w0 w) (h : cursor_Cursor_Fail.f s0_0 s0_1 s0_2 a1 = some (r1, r2)) :
    Calls Try.prog 52 #[.pointer (some ⟨g, 0, none⟩), .int .i64 a1] w fun e w' => e = .returned (.tuple #[]) ∧ IsS56 w0 w' g s0_0 r1 r2 ∧ Below w0.heap.size w0 w' ∧ KeepBut w w' g none := by
  have HI0 := Aside0.mk hI
  have HK := Aside0.mk (KeepBut.refl w g none)
  have HL := Aside0.mk hB.size
  clear hI
  have HW0 := Aside0.mk hB.size
  have HB := Aside0.mk hB
  clear hB
  have H : (if s0_2 = 0 then (some (s0_1, a1)) else (some (s0_1, s0_2))) = some (r1, r2) := h
  clear h
  by_cases c3 : s0_2 = 0
  · rw [if_pos c3] at H
    have c3b0 : (s0_2 == 0) = true := beq_iff_eq.mpr c3
    have c3b1 : (s0_2 != 0) = false := bne_eq_false_iff_eq.mpr c3
    clear c3
    simp only [Option.some.injEq, Prod.mk.injEq] at H
    obtain ⟨rfl, rfl⟩ := H
    obtain ⟨ASz4_0, cSz4_0, HGz4, hgz4, HSz4_0⟩ := HI0.out
    have hcz4_0 := cellS56_0 HGz4
    have hcz4_1 := cellS56_1 HGz4
    have hcz4_2 := cellS56_2 HGz4
    have hfz4_1 := blk_frozen HGz4 1
    have hfz4_2 := blk_frozen HGz4 2
    clear HGz4 hgz4
    go_enter Try.func52, Try.ntmps52
    go_wp2
    first | go_end0 | ((try simp only [Exit.inBlock, Exit.then]); refine bodyPost_ret (results_none rfl _ _ _) rfl ?_)
    exact ⟨by first | rfl | (simp [errW_none, errW_some] <;> rfl) | (simp [*, errW_none, errW_some] <;> rfl), by repeat (first | (with_reducible first | exact HI0.out | apply IsS56.alloc | apply IsS56.drewN | apply IsS56.drew | apply IsS56.set_1 | apply IsS56.set_2) | exact HI0.out), by repeat (first | (with_reducible first | exact HB.out | apply below_alloc | apply pw_below_drewN | apply below_drew1 | refine below_set ?_ (IsS56.ge HI0.out)) | exact HB.out), by repeat (first | (with_reducible first | exact HK.out | apply KeepBut.set_ | apply keep_drewN | apply keep_drew | apply keep_alloc) | exact HK.out)⟩
  · rw [if_neg c3] at H
    have c3b0 : (s0_2 == 0) = false := beq_eq_false_iff_ne.mpr c3
    have c3b1 : (s0_2 != 0) = true := bne_iff_ne.mpr c3
    simp only [Option.some.injEq, Prod.mk.injEq] at H
    obtain ⟨rfl, rfl⟩ := H
    obtain ⟨ASz5_0, cSz5_0, HGz5, hgz5, HSz5_0⟩ := HI0.out
    have hcz5_0 := cellS56_0 HGz5
    have hcz5_1 := cellS56_1 HGz5
    have hcz5_2 := cellS56_2 HGz5
    have hfz5_1 := blk_frozen HGz5 1
    have hfz5_2 := blk_frozen HGz5 2
    clear HGz5 hgz5
    go_enter Try.func52, Try.ntmps52
    go_wp2
    first | go_end0 | ((try simp only [Exit.inBlock, Exit.then]); refine bodyPost_ret (results_none rfl _ _ _) rfl ?_)
    exact ⟨by first | rfl | (simp [errW_none, errW_some] <;> rfl) | (simp [*, errW_none, errW_some] <;> rfl), by repeat (first | (with_reducible first | exact HI0.out | apply IsS56.alloc | apply IsS56.drewN | apply IsS56.drew | apply IsS56.set_1 | apply IsS56.set_2) | exact HI0.out), by repeat (first | (with_reducible first | exact HB.out | apply below_alloc | apply pw_below_drewN | apply below_drew1 | refine below_set ?_ (IsS56.ge HI0.out)) | exact HB.out), by repeat (first | (with_reducible first | exact HK.out | apply KeepBut.set_ | apply keep_drewN | apply keep_drew | apply keep_alloc) | exact HK.out)⟩


/-! ### cursor_Cursor_Number: function 53, given -/
def cursor_Cursor_Number.m (i : Nat) (x b : Int) : Int := Go.bits .or .i64 x (wrap64 (wrap64 (Go.bits .and .u8 b 127) * 2 ^ (7 * i)))
def cursor_Cursor_Number.z : List Int → Nat → Int → Int × Int × Int
  | [], _, _ => (0, 0, 2)
  | b :: t, i, x => if i = 9 then (0, 0, 3) else if b < 128 then (if b = 0 ∧ 0 < i then (0, 0, 3) else (cursor_Cursor_Number.m i x b, (i : Int) + 1, 0)) else cursor_Cursor_Number.z t (i + 1) (cursor_Cursor_Number.m i x b)
def cursor_Cursor_Number.f (s0_0 : List Int) (s0_1 : Int) (s0_2 : Int) : Option (Int × Int × Int) := if s0_2 = 0 then (if 0 ≤ s0_1 ∧ s0_1 ≤ (s0_0.length : Int) then some ((cursor_Cursor_Number.z (s0_0.drop s0_1.toNat) 0 0).1, wrap64 (s0_1 + (cursor_Cursor_Number.z (s0_0.drop s0_1.toNat) 0 0).2.1), (cursor_Cursor_Number.z (s0_0.drop s0_1.toNat) 0 0).2.2) else none) else some (0, s0_1, s0_2)
theorem cursor_Cursor_Number.info : (Try.prog.info? 5).map (fun i => (i.zero, i.size, i.bytes)) = some (some (.int .u8 0), 1, 1) := by kernel_rfl
theorem cursor_Cursor_Number.head (l : List Int) (i : Nat) (hi : i < l.length) : l.drop i = rd l (i : Int) :: l.drop (i + 1) := by
  rw [List.drop_eq_getElem_cons hi]
  simp [rd, List.getD_eq_getElem?_getD, hi]
set_option maxHeartbeats 8000000 in
set_option maxRecDepth 100000 in
theorem cursor_Cursor_Number.calls (g : Nat) (s0_0 : List Int) (s0_1 : Int) (s0_2 : Int) (r1 : Int) (r2 : Int) (r3 : Int) (w0 w : World) (hI : IsS56 w0 w g s0_0 s0_1 s0_2) (hB : Below w0.heap.size w0 w) (h : cursor_Cursor_Number.f s0_0 s0_1 s0_2 = some (r1, r2, r3)) :
    Calls Try.prog 53 #[.pointer (some ⟨g, 0, none⟩)] w fun e w' => e = .returned (.int .i64 r1) ∧ IsS56 w0 w' g s0_0 r2 r3 ∧ Below w0.heap.size w0 w' ∧ KeepBut w w' g none := by
  have HI0 := Aside0.mk hI
  have HK := Aside0.mk (KeepBut.refl w g none)
  clear hI
  have HB := Aside0.mk hB
  clear hB
  obtain ⟨AS, cS, HG, hgc, HS⟩ := HI0.out
  have hcz_0 := cellS56_0 HG
  have hcz_1 := cellS56_1 HG
  have hcz_2 := cellS56_2 HG
  have hfz_1 := blk_frozen HG 1
  have hfz_2 := blk_frozen HG 2
  clear HG
  unfold cursor_Cursor_Number.f at h
  by_cases c2 : s0_2 = 0
  · rw [if_pos c2] at h
    subst c2
    by_cases cR : 0 ≤ s0_1 ∧ s0_1 ≤ (s0_0.length : Int)
    case neg => rw [if_neg cR] at h; cases h
    rw [if_pos cR] at h
    obtain ⟨a, rfl⟩ : ∃ a : Nat, s0_1 = (a : Int) := ⟨s0_1.toNat, by omega⟩
    have haL : a ≤ s0_0.length := by omega
    have hlc : s0_0.length ≤ cS := hgc.2.1
    have hlm := HS.2.1
    rw [Int.toNat_natCast] at h
    obtain ⟨l, HL⟩ : ∃ l : List Int, Aside0 (l = s0_0.drop a) := ⟨_, ⟨rfl⟩⟩
    have HZ : Aside0 (r1 = (cursor_Cursor_Number.z l 0 0).1 ∧ r2 = wrap64 ((a : Int) + (cursor_Cursor_Number.z l 0 0).2.1) ∧ r3 = (cursor_Cursor_Number.z l 0 0).2.2) := by
      rw [HL.out]
      simp only [Option.some.injEq, Prod.mk.injEq] at h
      exact ⟨h.1.symm, h.2.1.symm, h.2.2.symm⟩
    obtain ⟨i0, hi0, _, hsz, _⟩ := info_parts cursor_Cursor_Number.info
    have hcut := cut_from (P := Try.prog) 32 5 .i64 Try.underlying32 hi0 1 hsz AS s0_0.length cS a (by omega) (by omega)
    have HLl : Aside0 (l.length = s0_0.length - a) := ⟨by rw [HL.out]; simp⟩
    obtain ⟨A9, HA9⟩ : ∃ A9, Aside0 (A9 = (if cS = a then AS else (AS : Option Addr).map (·.add (a * 1)))) := ⟨_, ⟨rfl⟩⟩
    have HRt := Aside0.mk (Kd.C_drop (m := a) (c := cS) HS (by omega) hlc)
    rw [Int.toNat_natCast, ← HA9.out, ← HLl.out] at hcut
    have HRl : Aside0 (Kd.C (Kd.int .u8) w0 A9 l.length l) := ⟨by have z_ := HRt.out; rw [← HL.out] at z_; rw [HA9.out]; exact z_⟩
    have HLM : Aside0 (a + l.length = s0_0.length ∧ s0_0.length ≤ 9223372036854775807) := ⟨by have := HLl.out; omega⟩
    have hlM := HLM.out.2
    clear HRt hi0 hsz cR h HS haL hlc hlm hgc
    go_enter Try.func53, Try.ntmps53
    go_wp2
    repeat (go_quiet (fail); try go_wp2)
    go_loopg [3, 21] (l.length : Nat) (fun kq v3 v21 w' => ∃ (i : Nat) (x : Int), v21 = .int .i64 (i : Int) ∧ v3 = .int .i64 x ∧ Aside0 (i + kq = l.length) ∧ Aside0 (i ≤ 9) ∧ Aside0 (cursor_Cursor_Number.z l 0 0 = cursor_Cursor_Number.z (l.drop i) i x) ∧ Drawn0 w w')
    case atStart => exact ⟨0, 0, rfl, rfl, ⟨by omega⟩, ⟨by omega⟩, ⟨rfl⟩, by repeat (first | exact Drawn0.refl _ | apply Drawn0.step)⟩
    case round =>
      obtain ⟨i, x, rfl, rfl, HI, HN, HE, ⟨m1, rfl⟩⟩ := hrel
      have hi9 := HN.out
      cases gk with
      | zero =>
        obtain rfl : i = l.length := by have := HI.out; omega
        rw [HE.out, List.drop_length] at HZ
        obtain ⟨h1, h2, h3⟩ := HZ.out
        clear HZ
        simp only [cursor_Cursor_Number.z] at h1 h2 h3
        subst h1 h3
        have e2 : r2 = (a : Int) := by rw [h2]; have := HLM.out; unfold wrap64; omega
        clear h2
        subst e2
        go_wp2_with (first | (go_at_call 52; (refine (cursor_Cursor_Fail.calls g s0_0 (a : Int) 0 2 (a : Int) 2 w0 _ ?side1 ?side2 (by simp [cursor_Cursor_Fail.f])).mono ?_); (case side1 => repeat (first | exact HI0.out | apply IsS56.alloc | apply IsS56.drewN | apply IsS56.drew)); (case side2 => repeat (first | exact HB.out | apply below_alloc | apply pw_below_drewN | apply below_drew1)); rintro e w6 ⟨rfl, hi, hb, hk⟩; have n0_ := Aside0.mk (KeepBut.trans (by repeat (first | exact HK.out | apply keep_drewN | apply keep_drew | apply keep_alloc)) hk (.inl rfl)); have n1_ := Aside0.mk (hb); have n2_ := Aside0.mk (hi); clear HK; clear HB; clear HI0; have HK := n0_; have HB := n1_; have HI0 := n2_; clear n0_ n1_ n2_; (try clear hb); (try clear hk); (try clear hi)))
        go_ret
        exact ⟨by first | rfl | (simp; done), by repeat (first | exact HI0.out | apply IsS56.alloc | apply IsS56.drewN | apply IsS56.drew | apply IsS56.set_1 | apply IsS56.set_2), by repeat (first | exact HB.out | apply below_alloc | apply pw_below_drewN | apply below_drew1 | refine below_set ?_ (IsS56.ge HI0.out)), by repeat (first | exact HK.out | apply KeepBut.set_ | apply keep_drewN | apply keep_drew | apply keep_alloc)⟩
      | succ k1 =>
        have cm : i < l.length := by have := HI.out; omega
        have HD := Aside0.mk (cursor_Cursor_Number.head l i cm)
        have c : (i : Int) < (l.length : Int) := by omega
        have cb : decide ((i : Int) < (l.length : Int)) = true := decide_eq_true c
        have cb2 : decide (i < l.length) = true := decide_eq_true cm
        obtain ⟨ad1, e1, hx1⟩ := Kd.at_int HRl.out (i : Int) (by omega) c
        cases e1
        replace hx1 := (HB.out.cell (World.block_lt_of_cell? w0 _ hx1)).trans hx1
        simp only [Int.toNat_natCast] at hx1
        generalize rd l (i : Int) = b at *
        rw [HE.out, HD.out] at HZ
        simp only [cursor_Cursor_Number.z] at HZ
        by_cases c9 : i = 9
        · rw [if_pos c9] at HZ
          obtain ⟨h1, h2, h3⟩ := HZ.out
          clear HZ
          simp only at h1 h2 h3
          subst h1 h3
          have e2 : r2 = (a : Int) := by rw [h2]; have := HLM.out; unfold wrap64; omega
          clear h2
          subst e2
          have t9 : ((i : Int) == 9) = true := by rw [c9]; rfl
          clear c9
          go_wp2_with (first | (go_at_call 52; (refine (cursor_Cursor_Fail.calls g s0_0 (a : Int) 0 3 (a : Int) 3 w0 _ ?side1 ?side2 (by simp [cursor_Cursor_Fail.f])).mono ?_); (case side1 => repeat (first | exact HI0.out | apply IsS56.alloc | apply IsS56.drewN | apply IsS56.drew)); (case side2 => repeat (first | exact HB.out | apply below_alloc | apply pw_below_drewN | apply below_drew1)); rintro e w6 ⟨rfl, hi, hb, hk⟩; have n0_ := Aside0.mk (KeepBut.trans (by repeat (first | exact HK.out | apply keep_drewN | apply keep_drew | apply keep_alloc)) hk (.inl rfl)); have n1_ := Aside0.mk (hb); have n2_ := Aside0.mk (hi); clear HK; clear HB; clear HI0; have HK := n0_; have HB := n1_; have HI0 := n2_; clear n0_ n1_ n2_; (try clear hb); (try clear hk); (try clear hi)))
          go_ret
          exact ⟨by first | rfl | (simp; done), by repeat (first | exact HI0.out | apply IsS56.alloc | apply IsS56.drewN | apply IsS56.drew | apply IsS56.set_1 | apply IsS56.set_2), by repeat (first | exact HB.out | apply below_alloc | apply pw_below_drewN | apply below_drew1 | refine below_set ?_ (IsS56.ge HI0.out)), by repeat (first | exact HK.out | apply KeepBut.set_ | apply keep_drewN | apply keep_drew | apply keep_alloc)⟩
        · rw [if_neg c9] at HZ
          have t9 : ((i : Int) == 9) = false := by simp; omega
          by_cases c128 : b < 128
          · rw [if_pos c128] at HZ
            have t128 : decide (b < 128) = true := decide_eq_true c128
            by_cases c0 : b = 0
            · have t0 : (b == 0) = true := by simpa using c0
              by_cases ci : 0 < i
              · have ti : decide (0 < (i : Int)) = true := decide_eq_true (by omega)
                have ti2 : decide (0 < i) = true := decide_eq_true ci
                rw [if_pos ⟨c0, ci⟩] at HZ
                obtain ⟨h1, h2, h3⟩ := HZ.out
                clear HZ
                simp only at h1 h2 h3
                subst h1 h3
                have e2 : r2 = (a : Int) := by rw [h2]; have := HLM.out; unfold wrap64; omega
                clear h2 c0 ci c128 c9
                subst e2
                go_wp2_with (first | (go_at_call 52; (refine (cursor_Cursor_Fail.calls g s0_0 (a : Int) 0 3 (a : Int) 3 w0 _ ?side1 ?side2 (by simp [cursor_Cursor_Fail.f])).mono ?_); (case side1 => repeat (first | exact HI0.out | apply IsS56.alloc | apply IsS56.drewN | apply IsS56.drew)); (case side2 => repeat (first | exact HB.out | apply below_alloc | apply pw_below_drewN | apply below_drew1)); rintro e w6 ⟨rfl, hi, hb, hk⟩; have n0_ := Aside0.mk (KeepBut.trans (by repeat (first | exact HK.out | apply keep_drewN | apply keep_drew | apply keep_alloc)) hk (.inl rfl)); have n1_ := Aside0.mk (hb); have n2_ := Aside0.mk (hi); clear HK; clear HB; clear HI0; have HK := n0_; have HB := n1_; have HI0 := n2_; clear n0_ n1_ n2_; (try clear hb); (try clear hk); (try clear hi)))
                go_ret
                exact ⟨by first | rfl | (simp; done), by repeat (first | exact HI0.out | apply IsS56.alloc | apply IsS56.drewN | apply IsS56.drew | apply IsS56.set_1 | apply IsS56.set_2), by repeat (first | exact HB.out | apply below_alloc | apply pw_below_drewN | apply below_drew1 | refine below_set ?_ (IsS56.ge HI0.out)), by repeat (first | exact HK.out | apply KeepBut.set_ | apply keep_drewN | apply keep_drew | apply keep_alloc)⟩
              · have ti : decide (0 < (i : Int)) = false := decide_eq_false (by omega)
                have ti2 : decide (0 < i) = false := decide_eq_false ci
                rw [if_neg (fun z => ci z.2)] at HZ
                obtain ⟨h1, h2, h3⟩ := HZ.out
                clear HZ
                simp only at h1 h2 h3
                subst h1 h2 h3
                clear c0 ci c128 c9
                go_wp2
                go_ret
                exact ⟨by first | rfl | (simp; done), by repeat (first | exact HI0.out | apply IsS56.alloc | apply IsS56.drewN | apply IsS56.drew | apply IsS56.set_1 | apply IsS56.set_2), by repeat (first | exact HB.out | apply below_alloc | apply pw_below_drewN | apply below_drew1 | refine below_set ?_ (IsS56.ge HI0.out)), by repeat (first | exact HK.out | apply KeepBut.set_ | apply keep_drewN | apply keep_drew | apply keep_alloc)⟩
            · have t0 : (b == 0) = false := by simpa using c0
              rw [if_neg (fun z => c0 z.1)] at HZ
              obtain ⟨h1, h2, h3⟩ := HZ.out
              clear HZ
              simp only at h1 h2 h3
              subst h1 h2 h3
              clear c0 c128 c9
              go_wp2
              go_ret
              exact ⟨by first | rfl | (simp; done), by repeat (first | exact HI0.out | apply IsS56.alloc | apply IsS56.drewN | apply IsS56.drew | apply IsS56.set_1 | apply IsS56.set_2), by repeat (first | exact HB.out | apply below_alloc | apply pw_below_drewN | apply below_drew1 | refine below_set ?_ (IsS56.ge HI0.out)), by repeat (first | exact HK.out | apply KeepBut.set_ | apply keep_drewN | apply keep_drew | apply keep_alloc)⟩
          · have t128 : decide (b < 128) = false := decide_eq_false c128
            rw [if_neg c128] at HZ
            have HE2 : Aside0 (cursor_Cursor_Number.z l 0 0 = cursor_Cursor_Number.z (l.drop (i + 1)) (i + 1) (cursor_Cursor_Number.m i x b)) := ⟨by rw [HE.out, HD.out]; simp only [cursor_Cursor_Number.z, if_neg c9, if_neg c128]⟩
            have HN2 : Aside0 (i + 1 ≤ 9) := ⟨by omega⟩
            have HZ2 : Aside0 (r1 = (cursor_Cursor_Number.z l 0 0).1 ∧ r2 = wrap64 ((a : Int) + (cursor_Cursor_Number.z l 0 0).2.1) ∧ r3 = (cursor_Cursor_Number.z l 0 0).2.2) := ⟨by rw [HE2.out]; exact HZ.out⟩
            clear c128 c9 HZ
            go_wp2
            go_roundg k1
            case measure => omega
            case rel => exact ⟨i + 1, cursor_Cursor_Number.m i x b, (by first | rfl | (simp; done) | go_num), (by first | rfl | (simp [cursor_Cursor_Number.m]; done)), ⟨by have := HI.out; omega⟩, HN2, HE2, by repeat (first | exact Drawn0.refl _ | apply Drawn0.step)⟩
  · rw [if_neg c2] at h
    have t2 : (s0_2 != 0) = true := bne_iff_ne.mpr c2
    simp only [Option.some.injEq, Prod.mk.injEq] at h
    obtain ⟨rfl, rfl, rfl⟩ := h
    clear c2
    go_enter Try.func53, Try.ntmps53
    go_wp2
    go_ret
    exact ⟨by first | rfl | (simp; done), by repeat (first | exact HI0.out | apply IsS56.alloc | apply IsS56.drewN | apply IsS56.drew | apply IsS56.set_1 | apply IsS56.set_2), by repeat (first | exact HB.out | apply below_alloc | apply pw_below_drewN | apply below_drew1 | refine below_set ?_ (IsS56.ge HI0.out)), by repeat (first | exact HK.out | apply KeepBut.set_ | apply keep_drewN | apply keep_drew | apply keep_alloc)⟩

/-! ### cursor_Cursor_Most: function 49 -/
def cursor_Cursor_Most.f (s0_0 : List Int) (s0_1 : Int) (s0_2 : Int) (a1 : Int) : Option (Int × Int × Int) := (cursor_Cursor_Number.f s0_0 s0_1 s0_2).bind fun bt507 => (if bt507.1 > a1 then ((cursor_Cursor_Fail.f s0_0 s0_1 bt507.2.2 3).bind fun bt510 => (some (0, bt510.1, bt510.2))) else (some (bt507.1, bt507.2.1, bt507.2.2)))
set_option maxHeartbeats 8000000 in
set_option maxRecDepth 100000 in
theorem cursor_Cursor_Most.calls (g : Nat) (s0_0 : List Int) (s0_1 : Int) (s0_2 : Int) (a1 : Int) (r1 : Int) (r2 : Int) (r3 : Int) (w0 w : World) (hI : IsS56 w0 w g s0_0 s0_1 s0_2) (hB : Below w0.heap.size w0 w) (h : cursor_Cursor_Most.f s0_0 s0_1 s0_2 a1 = some (r1, r2, r3)) :
    Calls Try.prog 49 #[.pointer (some ⟨g, 0, none⟩), .int .i64 a1] w fun e w' => e = .returned (.int .i64 r1) ∧ IsS56 w0 w' g s0_0 r2 r3 ∧ Below w0.heap.size w0 w' ∧ KeepBut w w' g none := by
  have HI0 := Aside0.mk hI
  have HK := Aside0.mk (KeepBut.refl w g none)
  have HL := Aside0.mk hB.size
  clear hI
  have HW0 := Aside0.mk hB.size
  have HB := Aside0.mk hB
  clear hB
  have H : ((cursor_Cursor_Number.f s0_0 s0_1 s0_2).bind fun bt507 => (if bt507.1 > a1 then ((cursor_Cursor_Fail.f s0_0 s0_1 bt507.2.2 3).bind fun bt510 => (some (0, bt510.1, bt510.2))) else (some (bt507.1, bt507.2.1, bt507.2.2)))) = some (r1, r2, r3) := h
  clear h
  replace H := Option.bind_eq_some_iff.mp H
  obtain ⟨⟨t507, t508, t509⟩, A30, H⟩ := H
  replace H : (if t507 > a1 then ((cursor_Cursor_Fail.f s0_0 s0_1 t509 3).bind fun bt510 => (some (0, bt510.1, bt510.2))) else (some (t507, t508, t509))) = some (r1, r2, r3) := H
  have A3 := Aside0.mk A30
  clear A30
  by_cases c4 : t507 > a1
  · rw [if_pos c4] at H
    have c4b0 : decide (a1 < t507) = true := decide_eq_true c4
    clear c4
    replace H := Option.bind_eq_some_iff.mp H
    obtain ⟨⟨t510, t511⟩, A50, H⟩ := H
    replace H : (some (0, t510, t511)) = some (r1, r2, r3) := H
    have A5 := Aside0.mk A50
    clear A50
    simp only [Option.some.injEq, Prod.mk.injEq] at H
    obtain ⟨rfl, rfl, rfl⟩ := H
    obtain ⟨ASz6_0, cSz6_0, HGz6, hgz6, HSz6_0⟩ := HI0.out
    have hcz6_0 := cellS56_0 HGz6
    have hcz6_1 := cellS56_1 HGz6
    have hcz6_2 := cellS56_2 HGz6
    have hfz6_1 := blk_frozen HGz6 1
    have hfz6_2 := blk_frozen HGz6 2
    clear HGz6 hgz6
    go_enter Try.func49, Try.ntmps49
    go_wp2_with (first | ((with_reducible refine gate_callee (f := 53) rfl ?_); refine goesL_ (some 12) rfl rfl Try.func53 (by kernel_rfl) rfl #[.pointer (some ⟨g, 0, none⟩)] rfl (by (try simp only [List.map_toArray, List.map_cons, List.map_nil]); first | done | rfl | (simp only [List.length_drop, List.length_take]; rfl)) ?_; (with_reducible refine (cursor_Cursor_Number.calls g s0_0 s0_1 s0_2 t507 t508 t509 w0 _ ?side1 ?side2 A3.out).mono ?_); (case side1 => repeat (first | (with_reducible first | exact HI0.out | apply IsS56.alloc | apply IsS56.drewN | apply IsS56.drew | apply IsS56.set_1 | apply IsS56.set_2) | exact HI0.out)); (case side2 => repeat (first | (with_reducible first | exact HB.out | apply below_alloc | apply pw_below_drewN | apply below_drew1 | refine below_set ?_ (IsS56.ge HI0.out)) | exact HB.out)); rintro e w7 ⟨rfl, hi, hb, hk⟩; refine ⟨_, rfl, ?_⟩; have n0_ := Aside0.mk (KeepBut.trans (by repeat (first | (with_reducible first | exact HK.out | apply KeepBut.set_ | apply keep_drewN | apply keep_drew | apply keep_alloc) | exact HK.out)) hk (.inl rfl)); have n1_ := Aside0.mk (hb); have n2_ := Aside0.mk (hi); clear HK; clear HB; clear HI0; have HK := n0_; have HB := n1_; have HI0 := n2_; clear n0_ n1_ n2_; (try clear hb); (try clear hb2); (try clear hk); (try clear hi); obtain ⟨ASz8_0, cSz8_0, HGz8, hgz8, HSz8_0⟩ := HI0.out; have hcz8_0 := cellS56_0 HGz8; have hcz8_1 := cellS56_1 HGz8; have hcz8_2 := cellS56_2 HGz8; have hfz8_1 := blk_frozen HGz8 1; have hfz8_2 := blk_frozen HGz8 2; clear HGz8 hgz8) | ((with_reducible refine gate_callee (f := 52) rfl ?_); refine goesL_ (some 21) rfl rfl Try.func52 (by kernel_rfl) rfl #[.pointer (some ⟨g, 0, none⟩), .int .i64 3] rfl (by (try simp only [List.map_toArray, List.map_cons, List.map_nil]); first | done | rfl | (simp only [List.length_drop, List.length_take]; rfl)) ?_; (with_reducible refine (cursor_Cursor_Fail.calls g s0_0 s0_1 t509 3 t510 t511 w0 _ ?side1 ?side2 A5.out).mono ?_); (case side1 => repeat (first | (with_reducible first | exact HI0.out | apply IsS56.alloc | apply IsS56.drewN | apply IsS56.drew | apply IsS56.set_1 | apply IsS56.set_2) | exact HI0.out)); (case side2 => repeat (first | (with_reducible first | exact HB.out | apply below_alloc | apply pw_below_drewN | apply below_drew1 | refine below_set ?_ (IsS56.ge HI0.out)) | exact HB.out)); rintro e w9 ⟨rfl, hi, hb, hk⟩; refine ⟨_, rfl, ?_⟩; have n0_ := Aside0.mk (KeepBut.trans (by repeat (first | (with_reducible first | exact HK.out | apply KeepBut.set_ | apply keep_drewN | apply keep_drew | apply keep_alloc) | exact HK.out)) hk (.inl rfl)); have n1_ := Aside0.mk (hb); have n2_ := Aside0.mk (hi); clear HK; clear HB; clear HI0; have HK := n0_; have HB := n1_; have HI0 := n2_; clear n0_ n1_ n2_; (try clear hb); (try clear hb2); (try clear hk); (try clear hi)))
    go_ret
    exact ⟨by first | rfl | (simp [errW_none, errW_some] <;> rfl) | (simp [*, errW_none, errW_some] <;> rfl), by repeat (first | (with_reducible first | exact HI0.out | apply IsS56.alloc | apply IsS56.drewN | apply IsS56.drew | apply IsS56.set_1 | apply IsS56.set_2) | exact HI0.out), by repeat (first | (with_reducible first | exact HB.out | apply below_alloc | apply pw_below_drewN | apply below_drew1 | refine below_set ?_ (IsS56.ge HI0.out)) | exact HB.out), by repeat (first | (with_reducible first | exact HK.out | apply KeepBut.set_ | apply keep_drewN | apply keep_drew | apply keep_alloc) | exact HK.out)⟩
  · rw [if_neg c4] at H
    have c4b0 : decide (a1 < t507) = false := decide_eq_false c4
    clear c4
    simp only [Option.some.injEq, Prod.mk.injEq] at H
    obtain ⟨rfl, rfl, rfl⟩ := H
    obtain ⟨ASz10_0, cSz10_0, HGz10, hgz10, HSz10_0⟩ := HI0.out
    have hcz10_0 := cellS56_0 HGz10
    have hcz10_1 := cellS56_1 HGz10
    have hcz10_2 := cellS56_2 HGz10
    have hfz10_1 := blk_frozen HGz10 1
    have hfz10_2 := blk_frozen HGz10 2
    clear HGz10 hgz10
    go_enter Try.func49, Try.ntmps49
    go_wp2_with (first | ((with_reducible refine gate_callee (f := 53) rfl ?_); refine goesL_ (some 12) rfl rfl Try.func53 (by kernel_rfl) rfl #[.pointer (some ⟨g, 0, none⟩)] rfl (by (try simp only [List.map_toArray, List.map_cons, List.map_nil]); first | done | rfl | (simp only [List.length_drop, List.length_take]; rfl)) ?_; (with_reducible refine (cursor_Cursor_Number.calls g s0_0 s0_1 s0_2 t507 t508 t509 w0 _ ?side1 ?side2 A3.out).mono ?_); (case side1 => repeat (first | (with_reducible first | exact HI0.out | apply IsS56.alloc | apply IsS56.drewN | apply IsS56.drew | apply IsS56.set_1 | apply IsS56.set_2) | exact HI0.out)); (case side2 => repeat (first | (with_reducible first | exact HB.out | apply below_alloc | apply pw_below_drewN | apply below_drew1 | refine below_set ?_ (IsS56.ge HI0.out)) | exact HB.out)); rintro e w11 ⟨rfl, hi, hb, hk⟩; refine ⟨_, rfl, ?_⟩; have n0_ := Aside0.mk (KeepBut.trans (by repeat (first | (with_reducible first | exact HK.out | apply KeepBut.set_ | apply keep_drewN | apply keep_drew | apply keep_alloc) | exact HK.out)) hk (.inl rfl)); have n1_ := Aside0.mk (hb); have n2_ := Aside0.mk (hi); clear HK; clear HB; clear HI0; have HK := n0_; have HB := n1_; have HI0 := n2_; clear n0_ n1_ n2_; (try clear hb); (try clear hb2); (try clear hk); (try clear hi)))
    go_ret
    exact ⟨by first | rfl | (simp [errW_none, errW_some] <;> rfl) | (simp [*, errW_none, errW_some] <;> rfl), by repeat (first | (with_reducible first | exact HI0.out | apply IsS56.alloc | apply IsS56.drewN | apply IsS56.drew | apply IsS56.set_1 | apply IsS56.set_2) | exact HI0.out), by repeat (first | (with_reducible first | exact HB.out | apply below_alloc | apply pw_below_drewN | apply below_drew1 | refine below_set ?_ (IsS56.ge HI0.out)) | exact HB.out), by repeat (first | (with_reducible first | exact HK.out | apply KeepBut.set_ | apply keep_drewN | apply keep_drew | apply keep_alloc) | exact HK.out)⟩

/-! ### cursor_Cursor_Left: function 39 -/
def cursor_Cursor_Left.f (s0_0 : List Int) (s0_1 : Int) (s0_2 : Int) : Option (Int × Int × Int) := some (wrap64 ((s0_0.length : Int) - s0_1), s0_1, s0_2)
set_option maxHeartbeats 8000000 in
set_option maxRecDepth 100000 in
theorem cursor_Cursor_Left.calls (g : Nat) (s0_0 : List Int) (s0_1 : Int) (s0_2 : Int) (r1 : Int) (r2 : Int) (r3 : Int) (w0 w : World) (hI : IsS56 w0 w g s0_0 s0_1 s0_2) (hB : Below w0.heap.size w0 w) (h : cursor_Cursor_Left.f s0_0 s0_1 s0_2 = some (r1, r2, r3)) :
    Calls Try.prog 39 #[.pointer (some ⟨g, 0, none⟩)] w fun e w' => e = .returned (.int .i64 r1) ∧ IsS56 w0 w' g s0_0 r2 r3 ∧ Below w0.heap.size w0 w' ∧ KeepBut w w' g none := by
  have HI0 := Aside0.mk hI
  have HK := Aside0.mk (KeepBut.refl w g none)
  have HL := Aside0.mk hB.size
  clear hI
  have HW0 := Aside0.mk hB.size
  have HB := Aside0.mk hB
  clear hB
  have H : (some (wrap64 ((s0_0.length : Int) - s0_1), s0_1, s0_2)) = some (r1, r2, r3) := h
  clear h
  simp only [Option.some.injEq, Prod.mk.injEq] at H
  obtain ⟨rfl, rfl, rfl⟩ := H
  obtain ⟨ASz2_0, cSz2_0, HGz2, hgz2, HSz2_0⟩ := HI0.out
  have hcz2_0 := cellS56_0 HGz2
  have hcz2_1 := cellS56_1 HGz2
  have hcz2_2 := cellS56_2 HGz2
  have hfz2_1 := blk_frozen HGz2 1
  have hfz2_2 := blk_frozen HGz2 2
  clear HGz2 hgz2
  go_enter Try.func39, Try.ntmps39
  go_wp2
  repeat (go_quiet (fail); try go_wp2)
  go_ret
  exact ⟨by first | rfl | (simp [errW_none, errW_some] <;> rfl) | (simp [*, errW_none, errW_some] <;> rfl), by repeat (first | (with_reducible first | exact HI0.out | apply IsS56.alloc | apply IsS56.drewN | apply IsS56.drew | apply IsS56.set_1 | apply IsS56.set_2) | exact HI0.out), by repeat (first | (with_reducible first | exact HB.out | apply below_alloc | apply pw_below_drewN | apply below_drew1 | refine below_set ?_ (IsS56.ge HI0.out)) | exact HB.out), by repeat (first | (with_reducible first | exact HK.out | apply KeepBut.set_ | apply keep_drewN | apply keep_drew | apply keep_alloc) | exact HK.out)⟩

end Go.Proofs.Ytdohphiicmdilaa.P
