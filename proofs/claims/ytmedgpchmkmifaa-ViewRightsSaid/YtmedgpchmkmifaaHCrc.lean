/- CRC-32 in plain numbers: the table's way and the bits' way tell the same; what is unlike stays unlike. -/
import Derived.Test.YtmedgpchmkmifaaHP
import Derived.Laws.BitsLemmas
import Derived.Test.YtmedgpchmkmifaaPx1
import Derived.Test.YtmedgpchmkmifaaPx4
set_option linter.unusedVariables false
set_option linter.unusedSimpArgs false
namespace Go.Proofs.Ytmedgpchmkmifaa.HP
open Go.RowKit Go.Proofs.Ytmedgpchmkmifaa.P Go.Proofs.YtmedgpchmkmifaaW.PrintWords Go.Proofs.YtmedgpchmkmifaaW.PrintLast Go.Proofs.YtmedgpchmkmifaaW.PrintMore

def poly : Nat := 3988292384
theorem poly_v : poly = 3988292384 := rfl
/-- One step of the shift register. -/
def stp (x : Nat) : Nat := if x % 2 = 1 then x / 2 ^^^ poly else x / 2
theorem xor_mod2 (a b : Nat) : (a ^^^ b) % 2 = (a % 2 + b % 2) % 2 := by
  have h := Nat.xor_mod_two_pow (a := a) (b := b) (n := 1)
  simp only [Nat.pow_one] at h
  rw [h]
  rcases Nat.mod_two_eq_zero_or_one a with ha | ha <;> rcases Nat.mod_two_eq_zero_or_one b with hb | hb <;> simp [ha, hb]
theorem xor4 (a b c d : Nat) : (a ^^^ b) ^^^ (c ^^^ d) = (a ^^^ c) ^^^ (b ^^^ d) := by
  rw [Nat.xor_assoc, Nat.xor_assoc, ← Nat.xor_assoc b c d, Nat.xor_comm b c, Nat.xor_assoc c b d]
theorem stp_xor (a b : Nat) : stp (a ^^^ b) = stp a ^^^ stp b := by
  unfold stp
  rw [xor_mod2, Nat.xor_div_two]
  rcases Nat.mod_two_eq_zero_or_one a with ha | ha <;> rcases Nat.mod_two_eq_zero_or_one b with hb | hb
  · simp [ha, hb]
  · simp only [ha, hb]
    simp only [show ((0 + 1) % 2 = 1) from rfl, if_true, show ¬ (0 = 1) by decide, if_false]
    rw [Nat.xor_assoc]
  · simp only [ha, hb]
    simp only [show ((1 + 0) % 2 = 1) from rfl, if_true, show ¬ (0 = 1) by decide, if_false]
    rw [Nat.xor_assoc, Nat.xor_comm (b / 2) poly, ← Nat.xor_assoc]
  · simp only [ha, hb]
    simp only [show ¬ ((1 + 1) % 2 = 1) by decide, if_true, if_false]
    rw [xor4, Nat.xor_self, Nat.xor_zero]
theorem stp_two (z : Nat) : stp (2 * z) = z := by unfold stp; rw [if_neg (by omega)]; omega
theorem stp_zero : stp 0 = 0 := rfl
theorem stp_lt {x : Nat} (h : x < 2 ^ 32) : stp x < 2 ^ 32 := by
  unfold stp
  split
  · exact Nat.xor_lt_two_pow (by omega) (by rw [poly_v]; omega)
  · omega
theorem xor_inj {a b c : Nat} (h : a ^^^ c = b ^^^ c) : a = b := by
  have := congrArg (· ^^^ c) h
  simpa [Nat.xor_assoc] using this
theorem stp_inj {x y : Nat} (hx : x < 2 ^ 32) (hy : y < 2 ^ 32) (h : stp x = stp y) : x = y := by
  unfold stp at h
  have far : ∀ a b : Nat, a < 2 ^ 31 → b < 2 ^ 31 → a ^^^ poly ≠ b := by
    intro a b ha hb e
    have e2 : poly = a ^^^ b := by rw [← e, ← Nat.xor_assoc, Nat.xor_self, Nat.zero_xor]
    have := Nat.xor_lt_two_pow ha hb
    rw [← e2, poly_v] at this
    omega
  by_cases h1 : x % 2 = 1 <;> by_cases h2 : y % 2 = 1
  · rw [if_pos h1, if_pos h2] at h
    have := xor_inj h
    omega
  · rw [if_pos h1, if_neg h2] at h
    exact absurd h (far _ _ (by omega) (by omega))
  · rw [if_neg h1, if_pos h2] at h
    exact absurd h.symm (far _ _ (by omega) (by omega))
  · rw [if_neg h1, if_neg h2] at h
    omega
/-- Several steps. -/
def stps : Nat → Nat → Nat
  | 0, x => x
  | n + 1, x => stps n (stp x)
theorem stps_xor (n : Nat) : ∀ a b, stps n (a ^^^ b) = stps n a ^^^ stps n b := by
  induction n with
  | zero => intro a b; rfl
  | succ n ih => intro a b; simp only [stps, stp_xor, ih]
theorem stps_pow (n : Nat) : ∀ z, stps n (2 ^ n * z) = z := by
  induction n with
  | zero => intro z; simp [stps]
  | succ n ih => intro z; rw [stps, Nat.pow_succ, show 2 ^ n * 2 * z = 2 * (2 ^ n * z) by rw [Nat.mul_comm (2 ^ n) 2, Nat.mul_assoc], stp_two, ih]
theorem stps_lt (n : Nat) : ∀ {x}, x < 2 ^ 32 → stps n x < 2 ^ 32 := by
  induction n with
  | zero => intro x h; exact h
  | succ n ih => intro x h; exact ih (stp_lt h)
theorem stps_inj (n : Nat) : ∀ {x y}, x < 2 ^ 32 → y < 2 ^ 32 → stps n x = stps n y → x = y := by
  induction n with
  | zero => intro x y _ _ h; exact h
  | succ n ih => intro x y hx hy h; exact stp_inj hx hy (ih (stp_lt hx) (stp_lt hy) h)
theorem split8 (x : Nat) : x = (x % 256) ^^^ (2 ^ 8 * (x / 256)) := by
  apply Nat.eq_of_testBit_eq
  intro i
  rw [Nat.testBit_xor, show (256 : Nat) = 2 ^ 8 from rfl, Nat.testBit_mod_two_pow, Nat.testBit_two_pow_mul, Nat.testBit_div_two_pow]
  by_cases h : i < 8
  · simp [h, show ¬ 8 ≤ i by omega]
  · simp [h, show 8 ≤ i by omega, show 8 + (i - 8) = i by omega]
theorem step8 (x : Nat) : stps 8 x = stps 8 (x % 256) ^^^ (x / 256) := by
  have h := congrArg (stps 8) (split8 x)
  rw [stps_xor, stps_pow] at h
  exact h
/-- A byte taken in. -/
def upN (s b : Nat) : Nat := stps 8 (s ^^^ b)
theorem upN_lt {s b : Nat} (hs : s < 2 ^ 32) (hb : b < 256) : upN s b < 2 ^ 32 := stps_lt 8 (Nat.xor_lt_two_pow hs (by omega))
theorem upN_table {s b : Nat} (hb : b < 256) : upN s b = stps 8 ((s % 256) ^^^ b) ^^^ (s / 256) := by
  unfold upN
  rw [step8]
  have e1 : (s ^^^ b) % 256 = (s % 256) ^^^ b := by
    rw [show (256 : Nat) = 2 ^ 8 from rfl, Nat.xor_mod_two_pow, Nat.mod_eq_of_lt (a := b) (by omega)]
  have e2 : (s ^^^ b) / 256 = s / 256 := by
    rw [show (256 : Nat) = 2 ^ 8 from rfl, Nat.xor_div_two_pow, Nat.div_eq_of_lt (a := b) (by omega), Nat.xor_zero]
  rw [e1, e2]
theorem upN_inj_s {s t b : Nat} (hs : s < 2 ^ 32) (ht : t < 2 ^ 32) (hb : b < 256) (h : upN s b = upN t b) : s = t :=
  xor_inj (stps_inj 8 (Nat.xor_lt_two_pow hs (by omega)) (Nat.xor_lt_two_pow ht (by omega)) h)
theorem upN_inj_b {s a b : Nat} (hs : s < 2 ^ 32) (ha : a < 256) (hb : b < 256) (h : upN s a = upN s b) : a = b := by
  have := stps_inj 8 (Nat.xor_lt_two_pow hs (by omega)) (Nat.xor_lt_two_pow hs (by omega)) h
  rw [Nat.xor_comm s a, Nat.xor_comm s b] at this
  exact xor_inj this

/-! ### as Go's operations tell it -/
theorem wraps_u32 (n : Int) (h₀ : 0 ≤ n) (h₁ : n < 2 ^ 32) : IntKind.u32.wrap n = n := by rw [IntKind.wrap_u32]; omega
theorem bits_xor (k : IntKind) (j : Nat) (hj : j ≤ k.bits) (hk : ∀ n : Int, 0 ≤ n → n < 2 ^ j → k.wrap n = n) (a b : Nat) (ha : a < 2 ^ j) (hb : b < 2 ^ j) : Go.bits .xor k a b = ((a ^^^ b : Nat) : Int) := by
  have hp : 2 ^ j ≤ 2 ^ k.bits := Nat.pow_le_pow_right (by decide) hj
  have ha' : a % 2 ^ k.bits = a := Nat.mod_eq_of_lt (Nat.lt_of_lt_of_le ha hp)
  have hb' : b % 2 ^ k.bits = b := Nat.mod_eq_of_lt (Nat.lt_of_lt_of_le hb hp)
  simp only [Go.bits, BitVec.ofInt_natCast, BitVec.toNat_xor, BitVec.toNat_ofNat, ha', hb']
  exact hk _ (Int.natCast_nonneg _) (by exact_mod_cast Nat.xor_lt_two_pow ha hb)
theorem xor32 {a b : Nat} (ha : a < 2 ^ 32) (hb : b < 2 ^ 32) : Go.bits .xor .u32 (a : Int) (b : Int) = ((a ^^^ b : Nat) : Int) := bits_xor .u32 32 (by decide) wraps_u32 a b ha hb
theorem xor8 {a b : Nat} (ha : a < 2 ^ 8) (hb : b < 2 ^ 8) : Go.bits .xor .u8 (a : Int) (b : Int) = ((a ^^^ b : Nat) : Int) := bits_xor .u8 8 (by decide) wraps_u8 a b ha hb
theorem and1 {a : Nat} (ha : a < 2 ^ 32) : Go.bits .and .u32 (a : Int) 1 = ((a % 2 : Nat) : Int) := by
  have := bits_mask .u32 32 (by decide) wraps_u32 1 (by decide) (a : Int) (by omega) (by exact_mod_cast ha)
  rw [show ((2 : Int) ^ 1 - 1) = 1 from rfl] at this
  rw [this]
  omega
theorem row_l : ∀ (d i x : Nat), i + d = 8 → x < 2 ^ 32 → crc_row.l0 (d + 1) (x : Int) (i : Int) = some ((stps d x : Nat) : Int) := by
  intro d
  induction d with
  | zero => intro i x h hx; rw [crc_row.l0, if_neg (by omega)]; rfl
  | succ d ih =>
    intro i x h hx
    rw [crc_row.l0, if_pos (by omega), and1 hx, wr1 i (by omega), show (x : Int) / 2 = ((x / 2 : Nat) : Int) by omega]
    have e : Go.bits .xor .u32 ((x / 2 : Nat) : Int) 3988292384 = ((x / 2 ^^^ poly : Nat) : Int) := xor32 (b := poly) (by omega) (by rw [poly_v]; omega)
    rw [e, stps]
    by_cases h1 : x % 2 = 1
    · rw [if_pos (by omega)]
      have : stp x = x / 2 ^^^ poly := by unfold stp; rw [if_pos h1]
      rw [← this]
      exact ih (i + 1) (stp x) (by omega) (stp_lt hx)
    · rw [if_neg (by omega)]
      have : stp x = x / 2 := by unfold stp; rw [if_neg h1]
      rw [← this]
      exact ih (i + 1) (stp x) (by omega) (stp_lt hx)
theorem row_v {x : Nat} (hx : x < 2 ^ 32) : crc_row.v (x : Int) = ((stps 8 x : Nat) : Int) := by
  unfold crc_row.v crc_row.f
  rw [show crc_row.l0 9 (x : Int) 0 = some ((stps 8 x : Nat) : Int) from row_l 8 0 x rfl hx]
  rfl
theorem up_v {s b : Nat} (hs : s < 2 ^ 32) (hb : b < 256) : crc_Of.up (s : Int) (b : Int) = ((upN s b : Nat) : Int) := by
  unfold crc_Of.up
  have h2 : (s % 256) ^^^ b < 2 ^ 8 := Nat.xor_lt_two_pow (by omega) (by omega)
  rw [show (s : Int) % 256 = ((s % 256 : Nat) : Int) by omega, xor8 (by omega) (by omega), row_v (by omega), show (s : Int) / 256 = ((s / 256 : Nat) : Int) by omega, xor32 (stps_lt 8 (by omega)) (by omega), upN_table hb]
/-- Bytes, as they are. -/
def nat8 (l : List Int) : List Nat := l.map Int.toNat
def isB (l : List Int) : Prop := ∀ x ∈ l, 0 ≤ x ∧ x < 256
theorem isB_wf {l : List Int} (h : ∀ x ∈ l, (Lit.int .u8 x).wf = true) : isB l := by
  intro x hx
  have := h x hx
  simp [Lit.wf, IntKind.min, IntKind.max, IntKind.signed, IntKind.bits] at this
  omega
theorem isB_app {a b : List Int} (ha : isB a) (hb : isB b) : isB (a ++ b) := fun x hx => (List.mem_append.1 hx).elim (ha x) (hb x)
theorem isB_take {a : List Int} (ha : isB a) (n : Nat) : isB (a.take n) := fun x hx => ha x (List.mem_of_mem_take hx)
theorem isB_drop {a : List Int} (ha : isB a) (n : Nat) : isB (a.drop n) := fun x hx => ha x (List.mem_of_mem_drop hx)
theorem nat8_lt {l : List Int} (h : isB l) : ∀ x ∈ nat8 l, x < 256 := by
  intro x hx
  obtain ⟨y, hy, rfl⟩ := List.mem_map.1 hx
  have := h y hy
  omega
theorem nat8_app (a b : List Int) : nat8 (a ++ b) = nat8 a ++ nat8 b := List.map_append
/-- The register behind bytes. -/
def run (s : Nat) (l : List Nat) : Nat := l.foldl upN s
theorem run_lt (l : List Nat) : ∀ {s}, s < 2 ^ 32 → (∀ x ∈ l, x < 256) → run s l < 2 ^ 32 := by
  induction l with
  | nil => intro s h _; exact h
  | cons b t ih => intro s h hb; exact ih (upN_lt h (hb b List.mem_cons_self)) (fun x hx => hb x (List.mem_cons_of_mem _ hx))
theorem run_app (s : Nat) (a b : List Nat) : run s (a ++ b) = run (run s a) b := List.foldl_append
theorem run_inj (l : List Nat) : ∀ {s t}, s < 2 ^ 32 → t < 2 ^ 32 → (∀ x ∈ l, x < 256) → run s l = run t l → s = t := by
  induction l with
  | nil => intro s t _ _ _ h; exact h
  | cons b l ih =>
    intro s t hs ht hb h
    have hbb := hb b List.mem_cons_self
    exact upN_inj_s hs ht hbb (ih (upN_lt hs hbb) (upN_lt ht hbb) (fun x hx => hb x (List.mem_cons_of_mem _ hx)) h)
def all32 : Nat := 4294967295
theorem all32_v : all32 = 4294967295 := rfl
def crcN (l : List Int) : Nat := run all32 (nat8 l) ^^^ all32
theorem crcN_lt {l : List Int} (h : isB l) : crcN l < 2 ^ 32 := Nat.xor_lt_two_pow (run_lt _ (by rw [all32_v]; omega) (nat8_lt h)) (by rw [all32_v]; omega)
theorem fold_up (l : List Int) : ∀ {s : Nat}, s < 2 ^ 32 → isB l → l.foldl crc_Of.up (s : Int) = ((run s (nat8 l) : Nat) : Int) := by
  induction l with
  | nil => intro s _ _; rfl
  | cons b t ih =>
    intro s hs hb
    have hbb := hb b List.mem_cons_self
    have e : crc_Of.up (s : Int) b = ((upN s b.toNat : Nat) : Int) := by
      rw [← up_v hs (by omega)]
      congr 1
      omega
    rw [List.foldl_cons, e, ih (upN_lt hs (by omega)) (fun x hx => hb x (List.mem_cons_of_mem _ hx))]
    rfl
theorem fold_all (ll : List (List Int)) : ∀ {s : Nat}, s < 2 ^ 32 → isB ll.flatten → ll.foldl (fun s l => l.foldl crc_Of.up s) (s : Int) = ((run s (nat8 ll.flatten) : Nat) : Int) := by
  induction ll with
  | nil => intro s _ _; rfl
  | cons l ll ih =>
    intro s hs hb
    rw [List.flatten_cons] at hb
    have h1 : isB l := fun x hx => hb x (List.mem_append_left _ hx)
    have h2 : isB ll.flatten := fun x hx => hb x (List.mem_append_right _ hx)
    rw [List.foldl_cons, fold_up l hs h1, ih (run_lt _ hs (nat8_lt h1)) h2, List.flatten_cons, nat8_app, run_app]
theorem of_f (ll : List (List Int)) (hb : isB ll.flatten) : crc_Of.f ll = some ((crcN ll.flatten : Nat) : Int) := by
  unfold crc_Of.f crc_Of.all
  rw [show (4294967295 : Int) = ((all32 : Nat) : Int) from rfl, fold_all ll (by rw [all32_v]; omega) hb, xor32 (run_lt _ (by rw [all32_v]; omega) (nat8_lt hb)) (by rw [all32_v]; omega)]
  rfl
theorem rof_1 (l : List Int) (hl : l.length ≤ 100000) (i : Nat) (R : Int) : ∀ (d j s : Nat), j + d = 8 → s < 2 ^ 32 → Ev (fun k => hopperref02_Of.l0 k l ((stps d s : Nat) : Int) (wrap64 ((i : Int) + 1))) R → Ev (fun k => hopperref02_Of.l1 k l (s : Int) (i : Int) (j : Int)) R := by
  intro d
  induction d with
  | zero =>
    intro j s h hs hR
    refine Ev.step (fun k => by rw [hopperref02_Of.l1]) ?_
    simp only [if_neg (show ¬ (j : Int) < 8 by omega)]
    exact hR
  | succ d ih =>
    intro j s h hs hR
    refine Ev.step (fun k => by rw [hopperref02_Of.l1]) ?_
    have e0 : Int.tdiv (s : Int) 2 % 4294967296 = ((s / 2 : Nat) : Int) := by rw [Int.tdiv_eq_ediv_of_nonneg (by omega)]; omega
    have e1 : Int.tmod (s : Int) 2 = ((s % 2 : Nat) : Int) := by rw [Int.tmod_eq_emod_of_nonneg (by omega)]; omega
    have e : Go.bits .xor .u32 ((s / 2 : Nat) : Int) 3988292384 = ((s / 2 ^^^ poly : Nat) : Int) := xor32 (b := poly) (by omega) (by rw [poly_v]; omega)
    simp only [if_pos (show (j : Int) < 8 by omega), e0, e1, e, wr1 j (by omega)]
    by_cases h1 : s % 2 = 1
    · simp only [if_pos (show ((s % 2 : Nat) : Int) = 1 by omega)]
      have : stp s = s / 2 ^^^ poly := by unfold stp; rw [if_pos h1]
      rw [← this]
      exact ih (j + 1) (stp s) (by omega) (stp_lt hs) hR
    · simp only [if_neg (show ¬ ((s % 2 : Nat) : Int) = 1 by omega)]
      have : stp s = s / 2 := by unfold stp; rw [if_neg h1]
      rw [← this]
      exact ih (j + 1) (stp s) (by omega) (stp_lt hs) hR
theorem not32 {s : Nat} (hs : s < 2 ^ 32) : 4294967295 - s = s ^^^ all32 := by
  have : s ^^^ all32 = 2 ^ 32 - 1 - s := by
    rw [show all32 = 2 ^ 32 - 1 from rfl]
    apply Nat.eq_of_testBit_eq
    intro i
    rw [Nat.testBit_xor, Nat.testBit_two_pow_sub_one, show 2 ^ 32 - 1 - s = 2 ^ 32 - (s + 1) by omega, Nat.testBit_two_pow_sub_succ hs]
    by_cases h : i < 32
    · simp [h]
    · simp [h]
      exact Nat.testBit_lt_two_pow (Nat.lt_of_lt_of_le hs (Nat.pow_le_pow_right (by omega) (by omega)))
  rw [this]
theorem rof_l (l : List Int) (hl : l.length ≤ 100000) (hb : isB l) : ∀ (t : List Int) (i s : Nat), l.drop i = t → s < 2 ^ 32 → Ev (fun k => hopperref02_Of.l0 k l (s : Int) (i : Int)) ((run s (nat8 t) ^^^ all32 : Nat) : Int) := by
  intro t
  induction t with
  | nil =>
    intro i s h hs
    have := drop_nil h
    refine Ev.step (fun k => by rw [hopperref02_Of.l0]) ?_
    simp only [if_neg (show ¬ (i : Int) < (l.length : Int) by omega)]
    have e : ((4294967295 : Int) - (s : Int)) % 4294967296 = ((s ^^^ all32 : Nat) : Int) := by
      rw [← not32 hs]; omega
    rw [e]
    exact Ev.now _
  | cons b t ih =>
    intro i s h hs
    have hlt := drop_lt h
    have hbb := hb b (by rw [← List.take_append_drop i l, h]; simp)
    refine Ev.step (fun k => by rw [hopperref02_Of.l0]) ?_
    have e : Go.bits .xor .u32 (s : Int) (b % 4294967296) = ((s ^^^ b.toNat : Nat) : Int) := by
      rw [show b % 4294967296 = ((b.toNat : Nat) : Int) by omega]
      exact xor32 hs (by omega)
    simp only [if_pos (show (i : Int) < (l.length : Int) by omega), if_pos (show 0 ≤ (i : Int) by omega), drop_rd h, e]
    refine rof_1 l hl i _ 8 0 _ rfl (Nat.xor_lt_two_pow hs (by omega)) ?_
    rw [wr1 i (by omega)]
    exact ih (i + 1) (upN s b.toNat) (drop_tl h) (upN_lt hs (by omega))
theorem rof_f (l : List Int) (hl : l.length ≤ 100000) (hb : isB l) : Ev (fun k => hopperref02_Of.f k l) ((crcN l : Nat) : Int) :=
  rof_l l hl hb l 0 all32 rfl (by rw [all32_v]; omega)
end Go.Proofs.Ytmedgpchmkmifaa.HP
