/- Sealing and opening, in plain lists. -/
import Derived.Test.YtmedgpchmkmifaaHCrc
import Derived.Test.YtmedgpchmkmifaaPx1
import Derived.Test.YtmedgpchmkmifaaPx3
import Derived.Test.YtmedgpchmkmifaaPx5
import Derived.Test.YtmedgpchmkmifaaPx4
set_option linter.unusedVariables false
set_option linter.unusedSimpArgs false
namespace Go.Proofs.Ytmedgpchmkmifaa.HP
open Go.RowKit Go.Proofs.Ytmedgpchmkmifaa.P Go.Proofs.YtmedgpchmkmifaaW.PrintWords Go.Proofs.YtmedgpchmkmifaaW.PrintLast Go.Proofs.YtmedgpchmkmifaaW.PrintMore
theorem ev_some {α : Type} {x : Option α} {r : α} (h : x = some r) : Ev (fun _ => x) r := by rw [h]; exact Ev.now r
def le4 (s : Nat) : List Int := [((s % 256 : Nat) : Int), ((s / 256 % 256 : Nat) : Int), ((s / 65536 % 256 : Nat) : Int), ((s / 16777216 % 256 : Nat) : Int)]
theorem le4_b (s : Nat) : isB (le4 s) := by
  intro x hx
  simp [le4] at hx
  rcases hx with rfl | rfl | rfl | rfl <;> omega
theorem le4_inj {a b : Nat} (ha : a < 2 ^ 32) (hb : b < 2 ^ 32) (h : le4 a = le4 b) : a = b := by
  simp only [le4, List.cons.injEq, and_true] at h
  omega
def sealL (l : List Int) : List Int := l ++ le4 (crcN l)
theorem sealL_b {l : List Int} (h : isB l) : isB (sealL l) := isB_app h (le4_b _)
theorem sealL_len (l : List Int) : (sealL l).length = l.length + 4 := by simp [sealL, le4]
theorem bytes_f (s : Nat) : crc_bytes.f (s : Int) = some (le4 s) := by
  unfold crc_bytes.f le4
  congr 1
theorem seal_f (l : List Int) (hl : l.length ≤ 100000) (hb : isB l) : crc_Seal.f l = some (sealL l) := by
  unfold crc_Seal.f slices_Clone_byte_byte.f
  rw [if_pos (by omega), of_f [l] (by simpa using hb)]
  simp only [Option.bind_some, List.flatten_cons, List.flatten_nil, List.append_nil, bytes_f]
  rw [if_pos (by simp [le4]; omega)]
  rfl
theorem rseal_f (l : List Int) (hl : l.length ≤ 100000) (hb : isB l) : Ev (fun k => hopperref02_Seal.f k l) (sealL l) := by
  unfold hopperref02_Seal.f
  refine (rof_f l hl hb).bind ?_
  refine Ev.bind (g := fun _ => some _) (Ev.now _) ?_
  simp only [List.length_nil, if_pos (show 0 + l.length < 140737488355328 by omega), List.nil_append]
  refine Ev.bind (g := fun _ => some _) (Ev.now _) ?_
  have hc := crcN_lt hb
  have e : ([(Int.tmod ((crcN l : Nat) : Int) 256) % 256, ((Int.tdiv ((crcN l : Nat) : Int) 256) % 4294967296) % 256, ((Int.tdiv ((crcN l : Nat) : Int) 65536) % 4294967296) % 256, ((Int.tdiv ((crcN l : Nat) : Int) 16777216) % 4294967296) % 256] : List Int) = le4 (crcN l) := by
    unfold le4
    rw [Int.tmod_eq_emod_of_nonneg (by omega), Int.tdiv_eq_ediv_of_nonneg (by omega), Int.tdiv_eq_ediv_of_nonneg (by omega), Int.tdiv_eq_ediv_of_nonneg (by omega)]
    simp only [List.cons.injEq, and_true]
    omega
  simp only [e]
  refine Ev.bind (g := fun _ => some _) (Ev.now _) ?_
  simp only [if_pos (show l.length + (le4 (crcN l)).length < 140737488355328 by simp [le4]; omega)]
  exact Ev.now _
theorem drop_eq {α : Type} {a b : List α} (i : Nat) (h : a.length = b.length) (x y : α) (s t : List α) (ha : a.drop i = x :: s) (hb : b.drop i = y :: t) : True := trivial
theorem equal_l (a b : List Int) (hl : a.length ≤ 100000) (hab : a.length = b.length) : ∀ (s t : List Int) (i : Nat), a.drop i = s → b.drop i = t → Ev (fun k => slices_Equal_byte_byte.l0 k a b (a.length : Int) (i : Int)) (decide (s = t)) := by
  intro s
  induction s with
  | nil =>
    intro t i ha hb
    have := drop_nil ha
    obtain rfl : t = [] := by rw [← hb]; exact List.drop_eq_nil_of_le (by omega)
    refine Ev.step (fun k => by rw [slices_Equal_byte_byte.l0]) ?_
    simp only [if_neg (show ¬ (i : Int) < (a.length : Int) by omega), decide_true]
    exact Ev.now _
  | cons x s ih =>
    intro t i ha hb
    have hlt := drop_lt ha
    cases t with
    | nil => have := drop_nil hb; omega
    | cons y t =>
      refine Ev.step (fun k => by rw [slices_Equal_byte_byte.l0]) ?_
      simp only [if_pos (show (i : Int) < (a.length : Int) by omega), if_pos (show 0 ≤ (i : Int) by omega), if_pos (show (i : Int) < (b.length : Int) by omega), drop_rd ha, drop_rd hb, wr1 i (by omega)]
      by_cases e : x = y
      · subst e
        simp only [if_true]
        have := ih t (i + 1) (drop_tl ha) (drop_tl hb)
        simpa using this
      · simp only [if_neg e]
        rw [decide_eq_false (show ¬ x :: s = y :: t by simp [e])]
        exact Ev.now _
theorem equal_f (a b : List Int) (hl : a.length ≤ 100000) : Ev (fun k => slices_Equal_byte_byte.f k a b) (decide (a = b)) := by
  unfold slices_Equal_byte_byte.f
  by_cases h : a.length = b.length
  · simp only [if_pos (show (a.length : Int) = (b.length : Int) by omega)]
    exact equal_l a b hl h a b 0 rfl rfl
  · simp only [if_neg (show ¬ (a.length : Int) = (b.length : Int) by omega)]
    rw [decide_eq_false (fun e => h (by rw [e]))]
    exact Ev.now _
theorem sn_inj {a b : List Int} (ha : isB a) (hb : isB b) (h : (strOfNums a).toList = (strOfNums b).toList) : a = b := by
  have key : ∀ l : List Int, (strOfNums l).toList = l.map (fun x => UInt8.ofNat x.toNat) := by
    intro l
    simp [strOfNums]
  rw [key, key] at h
  have : (a.map (fun x => UInt8.ofNat x.toNat)).map (fun u => (u.toNat : Int)) = (b.map (fun x => UInt8.ofNat x.toNat)).map (fun u => (u.toNat : Int)) := by rw [h]
  rw [List.map_map, List.map_map] at this
  have back : ∀ l : List Int, isB l → l.map ((fun u : UInt8 => (u.toNat : Int)) ∘ fun x => UInt8.ofNat x.toNat) = l := by
    intro l hl
    rw [List.map_congr_left (g := id)]
    · simp
    · intro x hx
      have := hl x hx
      simp [UInt8.toNat_ofNat']
      omega
  rwa [back a ha, back b hb] at this
theorem same_f {a b : List Int} (ha : isB a) (hb : isB b) : hopperref01_Same.f a b = some (decide (a = b)) := by
  unfold hopperref01_Same.f
  congr 1
  by_cases h : a = b
  · subst h; simp
  · rw [decide_eq_false h, beq_eq_false_iff_ne]
    exact fun e => h (sn_inj ha hb e)
theorem same_self (a : List Int) : hopperref01_Same.f a a = some true := by unfold hopperref01_Same.f; simp
def okL (l : List Int) : Prop := l.drop (l.length - 4) = le4 (crcN (l.take (l.length - 4)))
instance (l : List Int) : Decidable (okL l) := by unfold okL; exact inferInstance
def openL (l : List Int) : List Int × Bool := if 4 ≤ l.length ∧ okL l then (l.take (l.length - 4), true) else ([], false)
theorem open_f (l : List Int) (hl : l.length ≤ 100000) (hb : isB l) : Ev (fun k => crc_Open.f k l) (openL l) := by
  unfold crc_Open.f
  have e0 : wrap64 ((l.length : Int) - 4) = (l.length : Int) - 4 := by unfold wrap64; omega
  simp only [e0]
  by_cases h : l.length < 4
  · simp only [if_pos (show (l.length : Int) - 4 < 0 by omega)]
    rw [show openL l = ([], false) by unfold openL; rw [if_neg (by omega)]]
    exact Ev.now _
  · have e1 : ((l.length : Int) - 4).toNat = l.length - 4 := by omega
    simp only [if_neg (show ¬ (l.length : Int) - 4 < 0 by omega), if_pos (show 0 ≤ (l.length : Int) - 4 by omega), if_pos (show (l.length : Int) - 4 ≤ (l.length : Int) by omega), e1]
    have hbt := isB_take hb (l.length - 4)
    refine Ev.bind (g := fun _ => crc_Of.f _) (ev_some (of_f _ (by simpa using hbt))) ?_
    simp only [List.flatten_cons, List.flatten_nil, List.append_nil]
    refine Ev.bind (g := fun _ => crc_bytes.f _) (ev_some (bytes_f _)) ?_
    refine (equal_f _ _ (by simp; omega)).bind ?_
    by_cases hk : okL l
    · rw [show openL l = (l.take (l.length - 4), true) by unfold openL; rw [if_pos ⟨by omega, hk⟩]]
      simp only [decide_eq_true (show l.drop (l.length - 4) = le4 (crcN (l.take (l.length - 4))) from hk), if_true]
      refine Ev.bind (g := fun _ => slices_Clone_byte_byte.f _) (ev_some (by unfold slices_Clone_byte_byte.f; rw [if_pos (by simp; omega)])) (Ev.now _)
    · rw [show openL l = ([], false) by unfold openL; rw [if_neg (fun h => hk h.2)]]
      simp only [decide_eq_false (show ¬ l.drop (l.length - 4) = le4 (crcN (l.take (l.length - 4))) from hk), Bool.false_eq_true, if_false]
      exact Ev.now _
theorem open_seal (l : List Int) : openL (sealL l) = (l, true) := by
  have hl := sealL_len l
  have e : (sealL l).length - 4 = l.length := by omega
  have h1 : (sealL l).take l.length = l := by unfold sealL; rw [List.take_left]
  have h2 : (sealL l).drop l.length = le4 (crcN l) := by unfold sealL; rw [List.drop_left]
  have hok : okL (sealL l) := by unfold okL; rw [e, h1, h2]
  unfold openL
  rw [if_pos ⟨by omega, hok⟩, e, h1]
theorem crc_ne {p q : List Int} {a b : Int} (h1 : isB (p ++ a :: q)) (h2 : isB (p ++ b :: q)) (h : crcN (p ++ a :: q) = crcN (p ++ b :: q)) : a = b := by
  have h := xor_inj h
  have ha := h1 a (by simp)
  have hb := h2 b (by simp)
  have hq : isB q := fun x hx => h1 x (by simp [hx])
  have hp : isB p := fun x hx => h1 x (by simp [hx])
  rw [nat8_app, nat8_app, run_app, run_app] at h
  have hs : run all32 (nat8 p) < 2 ^ 32 := run_lt _ (by rw [all32_v]; omega) (nat8_lt hp)
  have h3 : run (upN (run all32 (nat8 p)) a.toNat) (nat8 q) = run (upN (run all32 (nat8 p)) b.toNat) (nat8 q) := h
  have h4 := run_inj _ (upN_lt hs (by omega)) (upN_lt hs (by omega)) (nat8_lt hq) h3
  have := upN_inj_b hs (by omega) (by omega) h4
  omega
end Go.Proofs.Ytmedgpchmkmifaa.HP
