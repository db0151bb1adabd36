/- Numbers: the reference's way and the cursor's are one; what each act takes. -/
import Derived.Test.YtkdncanoajbdgaaHCurS
import Derived.Test.YtkdncanoajbdgaaHCurB
import Derived.Test.YtkdncanoajbdgaaPx12
set_option linter.unusedVariables false
set_option linter.unusedSimpArgs false
namespace Go.Proofs.Ytkdncanoajbdgaa.HP
open Go.RowKit Go.Proofs.Ytkdncanoajbdgaa.P Go.Proofs.YtkdncanoajbdgaaW.PrintWords Go.Proofs.YtkdncanoajbdgaaW.PrintLast Go.Proofs.YtkdncanoajbdgaaW.PrintMore
/-- The error, and how many bytes a number takes. -/
def zc : List Int → Nat → Int × Nat
  | [], _ => (2, 0)
  | b :: t, i => if i = 9 then (3, 0) else if b < 128 then (if b = 0 ∧ 0 < i then (3, 0) else (0, i + 1)) else zc t (i + 1)
theorem zc_err : ∀ (l : List Int) (i : Nat), (zc l i).1 ≠ 0 → (zc l i).2 = 0
  | [], _, _ => rfl
  | b :: t, i, h => by
    unfold zc at h ⊢
    split
    · rfl
    · split
      · split
        · rfl
        · simp_all
      · exact zc_err t (i + 1) (by simp_all)
theorem zc_kind : ∀ (l : List Int) (i : Nat), (zc l i).1 = 0 ∨ (zc l i).1 = 2 ∨ (zc l i).1 = 3
  | [], _ => by right; left; rfl
  | b :: t, i => by
    unfold zc
    split
    · right; right; rfl
    · split
      · split
        · right; right; rfl
        · left; rfl
      · exact zc_kind t (i + 1)
theorem z_zc : ∀ (l : List Int) (i : Nat) (x : Int), (cursor_Cursor_Number.z l i x).2.2 = (zc l i).1 ∧ (cursor_Cursor_Number.z l i x).2.1 = ((zc l i).2 : Int)
  | [], _, _ => ⟨rfl, rfl⟩
  | b :: t, i, x => by
    unfold cursor_Cursor_Number.z zc
    split
    · exact ⟨rfl, rfl⟩
    · split
      · split
        · exact ⟨rfl, rfl⟩
        · exact ⟨rfl, rfl⟩
      · exact z_zc t (i + 1) _
/-- The number of seven bits each. -/
def fo (l : List Int) : Int := l.foldr (fun b acc => b % 128 + 128 * acc) 0
theorem fo_cons (b : Int) (t : List Int) : fo (b :: t) = b % 128 + 128 * fo t := rfl
theorem fo_bd : ∀ l : List Int, 0 ≤ fo l ∧ fo l < 128 ^ l.length
  | [] => by decide
  | b :: t => by
    have := fo_bd t
    rw [fo_cons, List.length_cons, Int.pow_succ]
    omega
theorem fo_vint : ∀ (m n : Nat), n ≤ m → fo (vint n) = (n : Int) := by
  intro m
  induction m with
  | zero =>
    intro n h
    rw [vint_small (by omega), fo_cons]
    show (n : Int) % 128 + 128 * 0 = _
    omega
  | succ m ih =>
    intro n h
    by_cases hb : n < 128
    · rw [vint_small hb, fo_cons]
      show (n : Int) % 128 + 128 * 0 = _
      omega
    · rw [vint_big hb, fo_cons, ih (n / 128) (by omega)]
      omega
def numR (s : List Int) : Int × Int × Int := (if (zc s 0).1 = 0 then fo (s.take (zc s 0).2) else 0, ((zc s 0).2 : Int), (zc s 0).1)
section
variable (l : List Int) (a : Nat) (hb : isBy l) (hl : l.length ≤ 100000)
include hb hl
theorem rn_l1 (c : Nat) (hc : c ≤ 8) (hac : a + c < l.length) : ∀ i : Nat, i ≤ c + 1 →
    Ev (fun k => hopperref01_Number.l1 k l (a : Int) (c : Int) (fo (((l.drop a).take (c + 1)).drop i)) ((i : Int) - 1)) (if 0 < c ∧ l[a + c] = 0 then (0, 0, 3) else (fo ((l.drop a).take (c + 1)), (c : Int) + 1, 0)) := by
  intro i
  induction i with
  | zero =>
    intro h
    refine Ev.step (fun k => by rw [hopperref01_Number.l1]) ?_
    have hr : rd l ((a : Int) + (c : Int)) = l[a + c] := by
      rw [show (a : Int) + (c : Int) = ((a + c : Nat) : Int) by omega, rd_nat l (a + c) hac]
    have w1 : wrap64 ((a : Int) + (c : Int)) = (a : Int) + (c : Int) := by unfold wrap64; omega
    have w2 : wrap64 ((c : Int) + 1) = (c : Int) + 1 := by unfold wrap64; omega
    rw [w1, w2]
    simp only [if_neg (show ¬ ((0 : Nat) : Int) - 1 ≥ 0 by omega), if_pos (show 0 ≤ (a : Int) + (c : Int) by omega), if_pos (show (a : Int) + (c : Int) < (l.length : Int) by omega), hr, List.drop_zero]
    by_cases h1 : 0 < c
    · simp only [if_pos (show (c : Int) > 0 by omega)]
      by_cases h2 : l[a + c] = 0
      · simp only [if_pos h2, if_pos (And.intro h1 h2)]
        exact Ev.now _
      · simp only [if_neg h2, if_neg (show ¬ (0 < c ∧ l[a + c] = 0) from fun h => h2 h.2)]
        exact Ev.now _
    · simp only [if_neg (show ¬ (c : Int) > 0 by omega), if_neg (show ¬ (0 < c ∧ l[a + c] = 0) from fun h => h1 h.1)]
      exact Ev.now _
  | succ i ih =>
    intro h
    refine Ev.step (fun k => by rw [hopperref01_Number.l1]) ?_
    have hi : a + i < l.length := by omega
    have hr : rd l ((a : Int) + (i : Int)) = l[a + i] := by
      rw [show (a : Int) + (i : Int) = ((a + i : Nat) : Int) by omega, rd_nat l (a + i) hi]
    have hbi := hb l[a + i] (List.getElem_mem hi)
    have e0 : ((i + 1 : Nat) : Int) - 1 = (i : Int) := by omega
    have w1 : wrap64 ((a : Int) + (i : Int)) = (a : Int) + (i : Int) := by unfold wrap64; omega
    have w2 : wrap64 ((i : Int) - 1) = (i : Int) - 1 := by unfold wrap64; omega
    have hlen : ((l.drop a).take (c + 1)).length = c + 1 := by simp; omega
    have hd : ((l.drop a).take (c + 1)).drop i = l[a + i] :: ((l.drop a).take (c + 1)).drop (i + 1) := by
      rw [List.drop_eq_getElem_cons (by omega)]
      simp
    have hbd := fo_bd (((l.drop a).take (c + 1)).drop (i + 1))
    have hpow : (128 : Int) ^ (((l.drop a).take (c + 1)).drop (i + 1)).length ≤ 128 ^ 8 := by
      have h8 : (((l.drop a).take (c + 1)).drop (i + 1)).length ≤ 8 := by rw [List.length_drop, hlen]; omega
      exact_mod_cast Nat.pow_le_pow_right (by omega : 0 < 128) h8
    have h128 : (128 : Int) ^ 8 = 72057594037927936 := by decide
    have e1 : wrap64 (wrap64 (128 * fo (((l.drop a).take (c + 1)).drop (i + 1))) + wrap64 (Int.tmod l[a + i] 128)) = fo (((l.drop a).take (c + 1)).drop i) := by
      rw [hd, fo_cons, Int.tmod_eq_emod_of_nonneg hbi.1]
      generalize fo (((l.drop a).take (c + 1)).drop (i + 1)) = F at hbd
      unfold wrap64
      omega
    have := ih (by omega)
    rw [← e1] at this
    rw [e0, w1, w2]
    simp only [if_pos (show (i : Int) ≥ 0 by omega), if_pos (show 0 ≤ (a : Int) + (i : Int) by omega), if_pos (show (a : Int) + (i : Int) < (l.length : Int) by omega), hr]
    exact this
theorem rn_j2 (j : Nat) (hj : j ≤ 9) (haj : a + j ≤ l.length) (h : j = 9 ∨ a + j = l.length ∨ ∃ h : a + j < l.length, l[a + j] < 128) :
    Ev (fun k => hopperref01_Number.j2 k l (a : Int) (j : Int)) (if (zc (l.drop (a + j)) j).1 = 0 then fo ((l.drop a).take (zc (l.drop (a + j)) j).2) else 0, ((zc (l.drop (a + j)) j).2 : Int), (zc (l.drop (a + j)) j).1) := by
  have w1 : wrap64 ((a : Int) + (j : Int)) = (a : Int) + (j : Int) := by unfold wrap64; omega
  refine Ev.step (fun k => by rw [hopperref01_Number.j2]) ?_
  rw [w1]
  by_cases h9 : j = 9
  · subst h9
    simp only [if_pos (show ((9 : Nat) : Int) = 9 from rfl)]
    refine Ev.step (fun k => by rw [hopperref01_Number.j3]) ?_
    rw [w1]
    by_cases hlt : a + 9 < l.length
    · rw [List.drop_eq_getElem_cons hlt]
      simp only [zc, decide_eq_true (show (a : Int) + ((9 : Nat) : Int) < (l.length : Int) by omega), if_true]
      exact Ev.now _
    · rw [List.drop_eq_nil_of_le (by omega)]
      simp only [zc, decide_eq_false (show ¬ (a : Int) + ((9 : Nat) : Int) < (l.length : Int) by omega), if_pos (show (a : Int) + ((9 : Nat) : Int) ≥ (l.length : Int) by omega)]
      exact Ev.now _
  · simp only [if_neg (show ¬ (j : Int) = 9 by omega)]
    refine Ev.step (fun k => by rw [hopperref01_Number.j3]) ?_
    rw [w1]
    by_cases hlt : a + j < l.length
    · have hs : l[a + j] < 128 := by
        rcases h with h | h | ⟨_, h⟩
        · exact absurd h h9
        · omega
        · exact h
      have hbi := hb l[a + j] (List.getElem_mem hlt)
      have hl1 := rn_l1 l a hb hl j (by omega) hlt (j + 1) (Nat.le_refl _)
      rw [List.drop_eq_nil_of_le (by simp; omega), show (((j + 1 : Nat) : Int) - 1) = (j : Int) by omega] at hl1
      rw [List.drop_eq_getElem_cons hlt]
      simp only [zc, if_neg h9, if_pos hs, if_neg (show ¬ (a : Int) + (j : Int) ≥ (l.length : Int) by omega)]
      simp only [Bool.false_eq_true, if_false]
      by_cases hz : l[a + j] = 0 ∧ 0 < j
      · rw [if_pos hz]
        rw [if_pos (show 0 < j ∧ l[a + j] = 0 from ⟨hz.2, hz.1⟩)] at hl1
        exact hl1
      · rw [if_neg hz]
        rw [if_neg (show ¬ (0 < j ∧ l[a + j] = 0) from fun h => hz ⟨h.2, h.1⟩)] at hl1
        exact hl1
    · rw [List.drop_eq_nil_of_le (by omega)]
      simp only [zc, if_pos (show (a : Int) + (j : Int) ≥ (l.length : Int) by omega)]
      simp only [Bool.false_eq_true, if_false]
      exact Ev.now _
theorem rn_l0 : ∀ (d j : Nat), j + d = 8 → a + j ≤ l.length →
    Ev (fun k => hopperref01_Number.l0 k l (a : Int) (j : Int)) (if (zc (l.drop (a + j)) j).1 = 0 then fo ((l.drop a).take (zc (l.drop (a + j)) j).2) else 0, ((zc (l.drop (a + j)) j).2 : Int), (zc (l.drop (a + j)) j).1) := by
  intro d
  induction d with
  | zero =>
    intro j hj haj
    obtain rfl : j = 8 := by omega
    have w1 : wrap64 ((a : Int) + ((8 : Nat) : Int)) = (a : Int) + ((8 : Nat) : Int) := by unfold wrap64; omega
    have w2 : wrap64 (((8 : Nat) : Int) + 1) = ((9 : Nat) : Int) := by unfold wrap64; omega
    refine Ev.step (fun k => by rw [hopperref01_Number.l0]) ?_
    rw [w1]
    by_cases hlt : a + 8 < l.length
    · have hr : rd l ((a : Int) + ((8 : Nat) : Int)) = l[a + 8] := by
        rw [show (a : Int) + ((8 : Nat) : Int) = ((a + 8 : Nat) : Int) by omega, rd_nat l (a + 8) hlt]
      simp only [if_pos (show (a : Int) + ((8 : Nat) : Int) < (l.length : Int) by omega), if_pos (show 0 ≤ (a : Int) + ((8 : Nat) : Int) by omega), hr]
      refine Ev.step (fun k => by rw [hopperref01_Number.j1]) ?_
      rw [w2]
      by_cases hs : l[a + 8] < 128
      · simp only [decide_eq_false (show ¬ l[a + 8] ≥ 128 by omega), Bool.false_eq_true, if_false]
        exact rn_j2 l a hb hl 8 (by omega) haj (.inr (.inr ⟨hlt, hs⟩))
      · simp only [decide_eq_true (show l[a + 8] ≥ 128 by omega), if_true, if_pos (show ((9 : Nat) : Int) = 9 from rfl)]
        have := rn_j2 l a hb hl 9 (by omega) (by omega) (.inl rfl)
        rw [List.drop_eq_getElem_cons hlt]
        simp only [zc, if_neg (show ¬ (8 : Nat) = 9 by omega), if_neg hs]
        exact this
    · simp only [if_neg (show ¬ (a : Int) + ((8 : Nat) : Int) < (l.length : Int) by omega)]
      refine Ev.step (fun k => by rw [hopperref01_Number.j1]) ?_
      simp only [Bool.false_eq_true, if_false]
      exact rn_j2 l a hb hl 8 (by omega) haj (.inr (.inl (by omega)))
  | succ d ih =>
    intro j hj haj
    have w1 : wrap64 ((a : Int) + (j : Int)) = (a : Int) + (j : Int) := by unfold wrap64; omega
    have w2 : wrap64 ((j : Int) + 1) = ((j + 1 : Nat) : Int) := by unfold wrap64; omega
    refine Ev.step (fun k => by rw [hopperref01_Number.l0]) ?_
    rw [w1]
    by_cases hlt : a + j < l.length
    · have hr : rd l ((a : Int) + (j : Int)) = l[a + j] := by
        rw [show (a : Int) + (j : Int) = ((a + j : Nat) : Int) by omega, rd_nat l (a + j) hlt]
      simp only [if_pos (show (a : Int) + (j : Int) < (l.length : Int) by omega), if_pos (show 0 ≤ (a : Int) + (j : Int) by omega), hr]
      refine Ev.step (fun k => by rw [hopperref01_Number.j1]) ?_
      rw [w2]
      by_cases hs : l[a + j] < 128
      · simp only [decide_eq_false (show ¬ l[a + j] ≥ 128 by omega), Bool.false_eq_true, if_false]
        exact rn_j2 l a hb hl j (by omega) haj (.inr (.inr ⟨hlt, hs⟩))
      · simp only [decide_eq_true (show l[a + j] ≥ 128 by omega), if_true, if_neg (show ¬ ((j + 1 : Nat) : Int) = 9 by omega)]
        have := ih (j + 1) (by omega) (by omega)
        rw [List.drop_eq_getElem_cons hlt]
        simp only [zc, if_neg (show ¬ j = 9 by omega), if_neg hs]
        exact this
    · simp only [if_neg (show ¬ (a : Int) + (j : Int) < (l.length : Int) by omega)]
      refine Ev.step (fun k => by rw [hopperref01_Number.j1]) ?_
      simp only [Bool.false_eq_true, if_false]
      exact rn_j2 l a hb hl j (by omega) haj (.inr (.inl (by omega)))
/-- The reference's number, and the cursor's. -/
theorem num_both (ha : a ≤ l.length) : ∃ (n : Int) (c : Nat) (e : Int), Ev (fun k => hopperref01_Number.f k l (a : Int)) (n, (c : Int), e) ∧ cursor_Cursor_Number.f l (a : Int) 0 = some (n, ((a + c : Nat) : Int), e) ∧
    0 ≤ n ∧ a + c ≤ l.length ∧ (e ≠ 0 → n = 0 ∧ c = 0) ∧ (e = 0 ∨ e = 2 ∨ e = 3) ∧ n < 9223372036854775808 := by
  have hr := rn_l0 l a hb hl 8 0 rfl (by omega)
  rw [Nat.add_zero] at hr
  have hbd : isBy (l.drop a) := fun x hx => hb x (List.mem_of_mem_drop hx)
  have hz := z_zc (l.drop a) 0 0
  have hk := zc_kind (l.drop a) 0
  have he := zc_err (l.drop a) 0
  have hf : cursor_Cursor_Number.f l (a : Int) 0 = some ((cursor_Cursor_Number.z (l.drop a) 0 0).1, wrap64 ((a : Int) + (cursor_Cursor_Number.z (l.drop a) 0 0).2.1), (cursor_Cursor_Number.z (l.drop a) 0 0).2.2) := by
    unfold cursor_Cursor_Number.f
    rw [if_pos rfl, if_pos (by omega), Int.toNat_natCast]
  rw [hz.1, hz.2] at hf
  have hlen : (zc (l.drop a) 0).2 ≤ (l.drop a).length := by
    rcases z_any (l.drop a) hbd with ⟨n, hn, t, e1, e2⟩ | e | e
    · rw [e2] at hz
      have : (zc (l.drop a) 0).2 = (vint n).length := by have := hz.2; simp only at this; omega
      rw [this, e1]; simp
    · rw [e] at hz
      have := hz.2; simp only at this; omega
    · rw [e] at hz
      have := hz.2; simp only at this; omega
  rw [List.length_drop] at hlen
  have hw : wrap64 ((a : Int) + ((zc (l.drop a) 0).2 : Int)) = ((a + (zc (l.drop a) 0).2 : Nat) : Int) := by unfold wrap64; omega
  rw [hw] at hf
  refine ⟨_, _, _, hr, ?_, ?_, by omega, fun h => ⟨if_neg h, he h⟩, hk, ?_⟩
  · rw [hf]
    congr 1
    refine Prod.ext ?_ rfl
    simp only
    rcases z_any (l.drop a) hbd with ⟨n, hn, t, e1, e2⟩ | e | e
    · rw [e2] at hz ⊢
      have h1 : (zc (l.drop a) 0).1 = 0 := hz.1.symm
      have h2 : (zc (l.drop a) 0).2 = (vint n).length := by have := hz.2; simp only at this; omega
      rw [if_pos h1, h2, e1, List.take_left, fo_vint n n (Nat.le_refl _)]
    · rw [e] at hz ⊢
      have h1 : (zc (l.drop a) 0).1 = 2 := hz.1.symm
      rw [if_neg (by omega)]
    · rw [e] at hz ⊢
      have h1 : (zc (l.drop a) 0).1 = 3 := hz.1.symm
      rw [if_neg (by omega)]
  · split
    · exact (fo_bd _).1
    · omega
  · rcases z_any (l.drop a) hbd with ⟨n, hn, t, e1, e2⟩ | e | e
    · rw [e2] at hz
      have h1 : (zc (l.drop a) 0).1 = 0 := hz.1.symm
      have h2 : (zc (l.drop a) 0).2 = (vint n).length := by have := hz.2; simp only at this; omega
      rw [if_pos h1, h2, e1, List.take_left, fo_vint n n (Nat.le_refl _)]
      omega
    · rw [e] at hz
      have h1 : (zc (l.drop a) 0).1 = 2 := hz.1.symm
      rw [if_neg (by omega)]; omega
    · rw [e] at hz
      have h1 : (zc (l.drop a) 0).1 = 3 := hz.1.symm
      rw [if_neg (by omega)]; omega
end
end Go.Proofs.Ytkdncanoajbdgaa.HP
