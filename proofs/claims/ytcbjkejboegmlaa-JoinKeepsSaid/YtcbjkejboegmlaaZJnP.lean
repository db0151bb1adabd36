import Derived.Test.YtcbjkejboegmlaaZJnH
/- Plain: an open table of keys, searched place by place. -/
set_option linter.unusedVariables false
set_option linter.unusedSimpArgs false
namespace Go.Proofs.Ytcbjkejboegmlaa.HW
open Go.RowKit Go.Proofs.Ytcbjkejboegmlaa.P Go.Proofs.Ytcbjkejboegmlaa.HP Go.Proofs.YtcbjkejboegmlaaW.PrintWords Go.Proofs.YtcbjkejboegmlaaW.PrintLast Go.Proofs.YtcbjkejboegmlaaW.PrintMore
attribute [local go_sem] max2_int min2_int max_two min_two max_three min_three max_four min_four
instance : DecidableEq S43 := fun a b => decidable_of_iff (a.f0 = b.f0 ∧ a.f1 = b.f1) ⟨fun h => by cases a; cases b; simp at h ⊢; exact h, fun h => by subst h; exact ⟨rfl, rfl⟩⟩
abbrev Key := List S43
def startN (key : Key) (n : Nat) : Nat := (hashL key).toNat % n
def Hit (pl : List Int) (ks : List Key) (key : Key) (a : Nat) : Prop := pl.getD a 0 = 0 ∨ ks.getD ((pl.getD a 0).toNat - 1) [] = key
def Found (pl : List Int) (ks : List Key) (key : Key) (d : Nat) : Prop := d < pl.length ∧ Hit pl ks key ((startN key pl.length + d) % pl.length) ∧ ∀ i, i < d → ¬ Hit pl ks key ((startN key pl.length + i) % pl.length)
/-- A table of the first m keys. -/
structure Inv (pl : List Int) (ks : List Key) (m : Nat) : Prop where
  pow : ∃ e, 2 ≤ e ∧ e ≤ 20 ∧ pl.length = 2 ^ e
  rng : ∀ x ∈ pl, 0 ≤ x ∧ x ≤ (m : Int)
  mle : m ≤ ks.length
  zeros : pl.countP (fun x => decide (x = 0)) + m = pl.length
  place : ∀ j, j < m → ∃ d, Found pl ks (ks.getD j []) d ∧ pl.getD ((startN (ks.getD j []) pl.length + d) % pl.length) 0 = ((j + 1 : Nat) : Int)
theorem least {P : Nat → Prop} : ∀ n, P n → ∃ d, d ≤ n ∧ P d ∧ ∀ i, i < d → ¬ P i := by
  intro n
  induction n using Nat.strongRecOn with
  | _ n ih =>
    intro h
    by_cases hc : ∃ i, i < n ∧ P i
    · obtain ⟨i, hi, hp⟩ := hc
      obtain ⟨d, h1, h2, h3⟩ := ih i hi hp
      exact ⟨d, by omega, h2, h3⟩
    · exact ⟨n, Nat.le_refl _, h, fun i hi hp => hc ⟨i, hi, hp⟩⟩
theorem Inv.pos {pl : List Int} {ks : List Key} {m : Nat} (h : Inv pl ks m) : 0 < pl.length := by
  obtain ⟨e, _, _, he⟩ := h.pow
  rw [he]
  exact Nat.two_pow_pos e
theorem getD_mem {pl : List Int} {a : Nat} (h : a < pl.length) : pl.getD a 0 ∈ pl := by
  simp [List.getD_eq_getElem?_getD, h]
theorem Inv.free {pl : List Int} {ks : List Key} {m : Nat} (h : Inv pl ks m) (hm : m < pl.length) : ∃ z, z < pl.length ∧ pl.getD z 0 = 0 := by
  have h1 : 0 < pl.countP (fun x => decide (x = 0)) := by have := h.zeros; omega
  obtain ⟨x, hx, hp⟩ := List.countP_pos_iff.1 h1
  obtain ⟨z, hz, hx⟩ := List.getElem_of_mem hx
  refine ⟨z, hz, ?_⟩
  simp [List.getD_eq_getElem?_getD, hz, hx]
  simpa using hp
/-- The search ends: at the key's place, or at a free one. -/
theorem Inv.probe {pl : List Int} {ks : List Key} {m : Nat} (h : Inv pl ks m) (hm : m < pl.length) (key : Key) :
    ∃ d, Found pl ks key d ∧ ((∃ j, j < m ∧ ks.getD j [] = key ∧ pl.getD ((startN key pl.length + d) % pl.length) 0 = ((j + 1 : Nat) : Int)) ∨ ((∀ j, j < m → ks.getD j [] ≠ key) ∧ pl.getD ((startN key pl.length + d) % pl.length) 0 = 0)) := by
  by_cases hk : ∃ j, j < m ∧ ks.getD j [] = key
  · obtain ⟨j, hj, e⟩ := hk
    obtain ⟨d, h1, h2⟩ := h.place j hj
    rw [e] at h1 h2
    exact ⟨d, h1, .inl ⟨j, hj, e, h2⟩⟩
  · have hn := h.pos
    obtain ⟨z, hz, hz0⟩ := h.free hm
    have hs : startN key pl.length < pl.length := Nat.mod_lt _ hn
    obtain ⟨d, h1, h2, h3⟩ := least (P := fun d => Hit pl ks key ((startN key pl.length + d) % pl.length)) ((z + pl.length - startN key pl.length) % pl.length) (by
      show Hit pl ks key ((startN key pl.length + (z + pl.length - startN key pl.length) % pl.length) % pl.length)
      have e : (startN key pl.length + (z + pl.length - startN key pl.length) % pl.length) % pl.length = z := by
        rw [Nat.add_mod_mod, show startN key pl.length + (z + pl.length - startN key pl.length) = z + pl.length by omega, Nat.add_mod_right, Nat.mod_eq_of_lt hz]
      rw [e]
      exact .inl hz0)
    have hd : d < pl.length := Nat.lt_of_le_of_lt h1 (Nat.mod_lt _ hn)
    refine ⟨d, ⟨hd, h2, h3⟩, .inr ⟨fun j hj e => hk ⟨j, hj, e⟩, ?_⟩⟩
    rcases h2 with h2 | h2
    · exact h2
    · have ha : (startN key pl.length + d) % pl.length < pl.length := Nat.mod_lt _ hn
      obtain ⟨r1, r2⟩ := h.rng _ (getD_mem ha)
      by_cases h0 : pl.getD ((startN key pl.length + d) % pl.length) 0 = 0
      · exact h0
      · exact absurd h2 (fun e => hk ⟨(pl.getD ((startN key pl.length + d) % pl.length) 0).toNat - 1, by omega, e⟩)
theorem getD_set_ne {pl : List Int} {a b : Nat} (v : Int) (h : b ≠ a) : (pl.set a v).getD b 0 = pl.getD b 0 := by
  simp only [List.getD_eq_getElem?_getD]
  rw [List.getElem?_set_ne (Ne.symm h)]
theorem getD_set_eq {pl : List Int} {a : Nat} (v : Int) (h : a < pl.length) : (pl.set a v).getD a 0 = v := by
  simp [List.getD_eq_getElem?_getD, h]
/-- A key is entered at the free place where its search ended. -/
theorem Inv.enter {pl : List Int} {ks : List Key} {m d : Nat} (h : Inv pl ks m) (hm : m < ks.length) (hf : Found pl ks (ks.getD m []) d) (hnew : ∀ j, j < m → ks.getD j [] ≠ ks.getD m []) (h0 : pl.getD ((startN (ks.getD m []) pl.length + d) % pl.length) 0 = 0) :
    Inv (pl.set ((startN (ks.getD m []) pl.length + d) % pl.length) ((m + 1 : Nat) : Int)) ks (m + 1) := by
  have hn := h.pos
  obtain ⟨key, hkey⟩ : ∃ key, key = ks.getD m [] := ⟨_, rfl⟩
  rw [← hkey] at hf hnew h0 ⊢
  obtain ⟨a, ha⟩ : ∃ a, a = (startN key pl.length + d) % pl.length := ⟨_, rfl⟩
  rw [← ha] at h0 ⊢
  have hal : a < pl.length := by rw [ha]; exact Nat.mod_lt _ hn
  refine ⟨by rw [List.length_set]; exact h.pow, fun x hx => ?_, hm, ?_, fun j hj => ?_⟩
  · rcases List.mem_or_eq_of_mem_set hx with hx | hx
    · have := h.rng x hx; omega
    · omega
  · have h9 := List.countP_set (p := fun x : Int => decide (x = 0)) (l := pl) (i := a) (a := ((m + 1 : Nat) : Int)) hal
    have e1 : pl[a] = 0 := by have h8 := h0; simp [List.getD_eq_getElem?_getD, hal] at h8; exact h8
    have e2 : ¬ (((m + 1 : Nat) : Int) = 0) := by omega
    simp only [e1, e2, decide_true, decide_false, if_true, Bool.false_eq_true, if_false, Nat.add_zero] at h9
    have hz := h.zeros
    have hpos : 0 < pl.countP (fun x => decide (x = 0)) := List.countP_pos_iff.2 ⟨pl[a], List.getElem_mem hal, by simp [e1]⟩
    rw [List.length_set]
    omega
  · rw [List.length_set]
    rcases Nat.lt_or_ge j m with hj | hj
    · obtain ⟨dj, ⟨f1, f2, f3⟩, f4⟩ := h.place j hj
      have hne : ∀ i, i ≤ dj → (startN (ks.getD j []) pl.length + i) % pl.length ≠ a := by
        intro i hi e
        rcases Nat.lt_or_ge i dj with hlt | hge
        · exact f3 i hlt (.inl (by rw [e]; exact h0))
        · obtain rfl : i = dj := by omega
          rw [e, h0] at f4
          omega
      refine ⟨dj, ⟨by rw [List.length_set]; exact f1, ?_, fun i hi => ?_⟩, ?_⟩
      · rw [List.length_set]
        unfold Hit
        rw [getD_set_ne _ (hne dj (Nat.le_refl _))]
        exact f2
      · rw [List.length_set]
        unfold Hit
        rw [getD_set_ne _ (hne i (by omega))]
        exact f3 i hi
      · rw [getD_set_ne _ (hne dj (Nat.le_refl _))]
        exact f4
    · obtain rfl : j = m := by omega
      rw [← hkey]
      obtain ⟨f1, f2, f3⟩ := hf
      refine ⟨d, ⟨by rw [List.length_set]; exact f1, ?_, fun i hi => ?_⟩, ?_⟩
      · rw [List.length_set, ← ha]
        unfold Hit
        rw [getD_set_eq _ hal]
        exact .inr (by rw [show (((j + 1 : Nat) : Int)).toNat - 1 = j by omega]; exact hkey.symm)
      · rw [List.length_set]
        have hne : (startN key pl.length + i) % pl.length ≠ a := fun e => f3 i hi (.inl (by rw [e]; exact h0))
        unfold Hit
        rw [getD_set_ne _ hne]
        exact f3 i hi
      · rw [← ha, getD_set_eq _ hal]
theorem getD_app {ks : List Key} {key : Key} {i : Nat} (h : i < ks.length) : (ks ++ [key]).getD i [] = ks.getD i [] := by
  simp only [List.getD_eq_getElem?_getD]
  rw [List.getElem?_append_left h]
theorem Inv.hit_more {pl : List Int} {ks : List Key} {m : Nat} (h : Inv pl ks m) (key k2 : Key) (a : Nat) (ha : a < pl.length) : Hit pl (ks ++ [key]) k2 a ↔ Hit pl ks k2 a := by
  unfold Hit
  by_cases h0 : pl.getD a 0 = 0
  · exact ⟨fun _ => .inl h0, fun _ => .inl h0⟩
  · have := h.rng _ (getD_mem ha)
    have hm := h.mle
    rw [getD_app (by omega)]
theorem Inv.found_more {pl : List Int} {ks : List Key} {m : Nat} (h : Inv pl ks m) (key k2 : Key) (d : Nat) (hf : Found pl ks k2 d) : Found pl (ks ++ [key]) k2 d := by
  have hn := h.pos
  exact ⟨hf.1, (h.hit_more key k2 _ (Nat.mod_lt _ hn)).2 hf.2.1, fun i hi hh => hf.2.2 i hi ((h.hit_more key k2 _ (Nat.mod_lt _ hn)).1 hh)⟩
/-- A key behind the others, not yet entered. -/
theorem Inv.more {pl : List Int} {ks : List Key} {m : Nat} (h : Inv pl ks m) (key : Key) : Inv pl (ks ++ [key]) m := by
  refine ⟨h.pow, h.rng, by have := h.mle; simp; omega, h.zeros, fun j hj => ?_⟩
  have hm := h.mle
  rw [getD_app (by omega)]
  obtain ⟨d, f1, f2⟩ := h.place j hj
  exact ⟨d, h.found_more key _ d f1, f2⟩
theorem Inv.empty (ks : List Key) (e : Nat) (h1 : 2 ≤ e) (h2 : e ≤ 20) : Inv (List.replicate (2 ^ e) (0 : Int)) ks 0 := by
  refine ⟨⟨e, h1, h2, by simp⟩, fun x hx => ?_, Nat.zero_le _, ?_, fun j hj => absurd hj (Nat.not_lt_zero _)⟩
  · rw [(List.mem_replicate.1 hx).2]; simp
  · simp [List.countP_replicate]
/-- A search, one place on. -/
theorem Found.start {key : Key} {n : Nat} (hn : 0 < n) : startN key n < n := Nat.mod_lt _ hn
/-- The places as the program reckons them. -/
theorem mask_start (key : Key) (e : Nat) (he : e ≤ 20) : wrap64 (Go.bits BinOp.and IntKind.u64 (hashL key) (IntKind.u64.wrap (((2 ^ e : Nat) : Int) - 1))) = ((startN key (2 ^ e) : Nat) : Int) := by
  obtain ⟨h0, h1⟩ := hashL_range key
  have hp : (2 : Nat) ^ e ≤ 2 ^ 20 := Nat.pow_le_pow_right (by decide) he
  have hp2 : (2 : Nat) ^ 20 = 1048576 := by decide
  have hpos := Nat.two_pow_pos e
  have hw : IntKind.u64.wrap (((2 ^ e : Nat) : Int) - 1) = ((2 : Int) ^ e - 1) := by
    have e1 : IntKind.u64.wrap (((2 ^ e : Nat) : Int) - 1) = (((2 ^ e : Nat) : Int) - 1) % 18446744073709551616 := by simp [IntKind.wrap, IntKind.bits, IntKind.signed]
    have e2 : ((2 ^ e : Nat) : Int) = (2 : Int) ^ e := by simp
    rw [e1, ← e2]
    omega
  have hm := bits_mask .u64 64 (by decide) (fun n h0 h1 => by simp [IntKind.wrap, IntKind.bits, IntKind.signed]; omega) e (by omega) (hashL key) h0 (by simpa using h1)
  rw [hw, hm]
  have e3 : hashL key % (2 : Int) ^ e = ((startN key (2 ^ e) : Nat) : Int) := by
    unfold startN
    rw [Int.natCast_emod, Int.toNat_of_nonneg h0]
    simp
  rw [e3]
  have h4 : startN key (2 ^ e) < 2 ^ e := Nat.mod_lt _ hpos
  unfold wrap64
  omega
theorem mask_next (a e : Nat) (he : e ≤ 20) (ha : a < 2 ^ e) : Go.bits BinOp.and IntKind.i64 (((a + 1 : Nat) : Int)) (((2 ^ e : Nat) : Int) - 1) = (((a + 1) % 2 ^ e : Nat) : Int) := by
  have hp : (2 : Nat) ^ e ≤ 2 ^ 20 := Nat.pow_le_pow_right (by decide) he
  have hp2 : (2 : Nat) ^ 20 = 1048576 := by decide
  have e2 : ((2 ^ e : Nat) : Int) = (2 : Int) ^ e := by simp
  have hm := bits_mask .i64 62 (by decide) (fun n h0 h1 => by rw [IntKind.wrap_i64]; omega) e (by omega) ((a + 1 : Nat) : Int) (by omega) (by omega)
  rw [e2, hm, Int.natCast_emod, e2]
end Go.Proofs.Ytcbjkejboegmlaa.HW
