/- What view.Make lays, in plain lists. -/
import Derived.Test.YtpbplflocdhahaaViewC
set_option linter.unusedVariables false
set_option linter.unusedSimpArgs false
namespace Go.Proofs.Ytpbplflocdhahaa.HW
open Go.RowKit Go.Proofs.Ytpbplflocdhahaa.P Go.Proofs.Ytpbplflocdhahaa.HP Go.Proofs.YtpbplflocdhahaaW.PrintWords Go.Proofs.YtpbplflocdhahaaW.PrintLast Go.Proofs.YtpbplflocdhahaaW.PrintMore
/-- A number's four bytes. -/
def fourL (n : Int) : List Int := [n % 256, n / 256 % 256, n / 65536 % 256, n / 16777216 % 256]
theorem fourL_b (n : Int) : isB (fourL n) := by
  intro x hx
  simp [fourL] at hx
  rcases hx with rfl | rfl | rfl | rfl <;> omega
theorem le4v_four (n : Int) (h0 : 0 ≤ n) (h1 : n < 4294967296) (t : List Int) : le4v (fourL n ++ t) = n := by
  have e0 : rd (fourL n ++ t) 0 = n % 256 := by simp [rd, fourL]
  have e1 : rd (fourL n ++ t) 1 = n / 256 % 256 := by simp [rd, fourL]
  have e2 : rd (fourL n ++ t) 2 = n / 65536 % 256 := by simp [rd, fourL]
  have e3 : rd (fourL n ++ t) 3 = n / 16777216 % 256 := by simp [rd, fourL]
  unfold le4v
  rw [e0, e1, e2, e3]
  omega
theorem put_z (n : Int) : put4 z16 0 n 4 = fourL n ++ List.replicate 12 0 := by
  simp [put4, z16, fourL, List.replicate]
theorem setAt_app (a b l : List Int) (h : l.length ≤ b.length) (o : Nat) (ho : o = a.length) : setAt (a ++ b) o l = a ++ (l ++ b.drop l.length) := by
  subst ho
  unfold setAt
  rw [List.take_left, List.append_assoc]
  congr 2
  rw [← List.drop_drop, List.drop_left]
def mkS (s : ByteArray) : List Int := fourL s.size ++ (bytesOf s ++ List.replicate (12 - s.size) 0)
theorem mkS_e (s : ByteArray) (h : s.size ≤ 12) : setAt (put4 z16 0 (s.size : Int) 4) 4 (bytesOf s) = mkS s := by
  rw [put_z, setAt_app _ _ _ (by rw [bytes_len]; simpa using h) 4 rfl, bytes_len]
  unfold mkS
  rw [List.drop_replicate]
def mkB (s : ByteArray) (buf at_ : Int) : List Int := fourL s.size ++ ((bytesOf s).take 4 ++ (fourL buf ++ fourL at_))
theorem four_of {l : List Int} (h : l.length = 4) : ∃ a b c d, l = [a, b, c, d] := by
  match l, h with
  | [a, b, c, d], _ => exact ⟨a, b, c, d, rfl⟩
theorem mkB_e (s : ByteArray) (buf at_ : Int) (h : 12 < s.size) : put4 (put4 (setAt (put4 z16 0 (s.size : Int) 4) 4 ((bytesOf s).take 4)) 8 buf 4) 12 at_ 4 = mkB s buf at_ := by
  obtain ⟨a, b, c, d, hp⟩ := four_of (l := (bytesOf s).take 4) (by rw [List.length_take, bytes_len]; omega)
  unfold mkB
  rw [hp, put_z, setAt_app _ _ _ (by simp) 4 rfl]
  simp [put4, fourL, List.replicate]
theorem bytes_b (s : ByteArray) : isB (bytesOf s) := by
  intro x hx
  simp [bytesOf] at hx
  obtain ⟨b, _, rfl⟩ := hx
  have := b.toNat_lt
  omega
theorem str_b (s : ByteArray) : strOfNums (bytesOf s) = s := by
  unfold strOfNums bytesOf
  rw [List.map_map]
  have e : (fun n : Int => UInt8.ofNat n.toNat) ∘ (fun b : UInt8 => (b.toNat : Int)) = id := by
    funext b
    simp
  rw [e, List.map_id]
theorem bytes_inj {s t : ByteArray} (h : bytesOf s = bytesOf t) : s = t := by
  have := congrArg strOfNums h
  rwa [str_b, str_b] at this
theorem mkS_len (s : ByteArray) (h : s.size ≤ 12) : (mkS s).length = 16 := by
  unfold mkS
  simp [fourL, bytes_len]
  omega
theorem mkB_len (s : ByteArray) (buf at_ : Int) (h : 12 < s.size) : (mkB s buf at_).length = 16 := by
  unfold mkB
  simp [fourL, bytes_len]
  omega
theorem rep_b (k : Nat) : isB (List.replicate k 0) := fun x hx => by
  obtain ⟨_, rfl⟩ := List.mem_replicate.1 hx
  omega
theorem mkS_b (s : ByteArray) : isB (mkS s) := isB_app (fourL_b _) (isB_app (bytes_b s) (rep_b _))
theorem mkB_b (s : ByteArray) (buf at_ : Int) : isB (mkB s buf at_) := isB_app (fourL_b _) (isB_app (isB_take (bytes_b s) 4) (isB_app (fourL_b _) (fourL_b _)))
theorem mkS_n (s : ByteArray) (h : s.size ≤ 12) : le4v (mkS s) = s.size := le4v_four _ (by omega) (by omega) _
theorem mkB_n (s : ByteArray) (buf at_ : Int) (h : s.size ≤ 4096) : le4v (mkB s buf at_) = s.size := le4v_four _ (by omega) (by omega) _
theorem drop_four (n : Int) (t : List Int) : (fourL n ++ t).drop 4 = t := rfl
theorem mkS_t (s : ByteArray) : ((mkS s).drop 4).take s.size = bytesOf s := by
  unfold mkS
  rw [drop_four]
  have := bytes_len s
  rw [List.take_append_of_le_length (by omega), ← this, List.take_length]
theorem mkS_r (s : ByteArray) (h : s.size ≤ 12) : rightB (mkS s) = true := by
  unfold rightB
  rw [mkS_n s h, if_neg (by omega), if_pos (by omega), Int.toNat_natCast, mkS_t, mkS_e s h]
  simp
theorem mkB_8 (s : ByteArray) (buf at_ : Int) (h : 12 < s.size) (h0 : 0 ≤ buf) (h1 : buf ≤ 65535) : le4v ((mkB s buf at_).drop 8) = buf := by
  obtain ⟨a, b, c, d, hp⟩ := four_of (l := (bytesOf s).take 4) (by rw [List.length_take, bytes_len]; omega)
  unfold mkB
  rw [hp]
  exact le4v_four buf h0 (by omega) (fourL at_)
theorem mkB_12 (s : ByteArray) (buf at_ : Int) (h : 12 < s.size) (h0 : 0 ≤ at_) (h1 : at_ ≤ 65536) : le4v ((mkB s buf at_).drop 12) = at_ := by
  obtain ⟨a, b, c, d, hp⟩ := four_of (l := (bytesOf s).take 4) (by rw [List.length_take, bytes_len]; omega)
  unfold mkB
  rw [hp]
  have := le4v_four at_ h0 (by omega) []
  rw [List.append_nil] at this
  exact this
theorem mkB_r (s : ByteArray) (buf at_ : Int) (h : 12 < s.size) (h2 : s.size ≤ 4096) (h0 : 0 ≤ buf) (h1 : buf ≤ 65535) (h3 : 0 ≤ at_) (h4 : at_ ≤ 65536) : rightB (mkB s buf at_) = true := by
  unfold rightB
  rw [mkB_n s buf at_ h2, if_neg (by omega), if_neg (by omega), mkB_8 s buf at_ h h0 h1, mkB_12 s buf at_ h h3 h4]
  unfold placedB
  exact decide_eq_true ⟨h0, h1, h3, h4⟩
/-- The first four bytes, or all. -/
def preB (s : ByteArray) : ByteArray := strOfNums ((bytesOf s).take 4)
theorem mkS_p (s : ByteArray) (h : s.size ≤ 12) : strOfNums (((mkS s).drop 4).take (if le4v (mkS s) < 4 then (le4v (mkS s)).toNat else 4)) = preB s := by
  have hl := bytes_len s
  rw [mkS_n s h, Int.toNat_natCast]
  unfold mkS preB
  rw [drop_four]
  by_cases h4 : s.size < 4
  · rw [if_pos (by omega), List.take_append_of_le_length (by omega), List.take_of_length_le (by omega), List.take_of_length_le (by omega)]
  · rw [if_neg (by omega), List.take_append_of_le_length (by omega)]
theorem mkB_p (s : ByteArray) (buf at_ : Int) (h : 12 < s.size) (h2 : s.size ≤ 4096) : strOfNums (((mkB s buf at_).drop 4).take (if le4v (mkB s buf at_) < 4 then (le4v (mkB s buf at_)).toNat else 4)) = preB s := by
  have hl := bytes_len s
  rw [mkB_n s buf at_ h2, if_neg (by omega)]
  unfold mkB preB
  rw [drop_four, List.take_append_of_le_length (by simp; omega), List.take_take]
  rfl
theorem preB_size (s : ByteArray) : (preB s).size = min 4 s.size := by
  unfold preB
  rw [str_size, List.length_take, bytes_len]
theorem mkS_inj (s t : ByteArray) (h1 : s.size ≤ 12) (h2 : t.size ≤ 12) : decide (mkS s = mkS t) = decide (s = t) := by
  by_cases h : s = t
  · subst h; simp
  · rw [decide_eq_false h]
    refine decide_eq_false (fun e => h ?_)
    have hz := congrArg le4v e
    rw [mkS_n s h1, mkS_n t h2] at hz
    have hs := mkS_t s
    rw [e, show s.size = t.size by omega, mkS_t t] at hs
    exact bytes_inj hs.symm
end Go.Proofs.Ytpbplflocdhahaa.HW
