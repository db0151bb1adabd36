/- What pack's laws share. -/
import Derived.Test.YtkdncanoajbdgaaHPackW
import Derived.Test.YtkdncanoajbdgaaPx6
import Derived.Test.YtkdncanoajbdgaaPx10
set_option linter.unusedVariables false
set_option linter.unusedSimpArgs false
namespace Go.Proofs.Ytkdncanoajbdgaa.HP
open Go.RowKit Go.Proofs.Ytkdncanoajbdgaa.P Go.Proofs.YtkdncanoajbdgaaW.PrintWords Go.Proofs.YtkdncanoajbdgaaW.PrintLast Go.Proofs.YtkdncanoajbdgaaW.PrintMore
theorem awake3 : Ev (fun k => hopperlaw03_awake.f k) true := Ev.of hopperlaw03_awake.mono (k := 20) (by decide +kernel)
theorem same_self (a : List Int) : hopperref01_Same.f a a = some true := by unfold hopperref01_Same.f; simp
def writeL (l : List Int) : List Int := vint l.length ++ [((wideL l 0 : Nat) : Int)] ++ pack (bitsL (wideL l 0) l)
theorem any_may (l : List Int) : l.any slices_ContainsFunc_int_int.p = !mayL l := by
  unfold mayL
  induction l with
  | nil => rfl
  | cons a t ih =>
    rw [List.any_cons, List.all_cons, ih]
    unfold slices_ContainsFunc_int_int.p
    by_cases h0 : a < 0
    · simp [h0, show ¬ 0 ≤ a by omega]
    · by_cases h1 : 4294967295 < a
      · simp [h1, show ¬ a ≤ 4294967295 by omega]
      · simp [h0, h1, show 0 ≤ a by omega, show a ≤ 4294967295 by omega]
theorem pwrite_no (l : List Int) (h : mayL l = false) : Ev (fun k => pack_Write.f k l) badP := by
  unfold pack_Write.f
  refine Ev.bind (g := fun _ => slices_ContainsFunc_int_int.f _ _) (ev_some (by unfold slices_ContainsFunc_int_int.f; rw [if_pos rfl])) ?_
  rw [any_may, h]
  simp only [Bool.not_false, if_true]
  exact Ev.now _
theorem packB_len (l : List Int) (hl : l.length ≤ 10000) (w : Nat) (hw : w ≤ 32) : (pack (bitsL w l)).length ≤ 100000 := by
  have h1 := nw_le hl hw
  have : (pack (bitsL w l)).length = size8 (l.length * w) := by simp [pack, bitsL_len]
  rw [this]
  unfold size8
  omega
theorem pwrite_f (l : List Int) (hl : l.length ≤ 10000) (h : mayL l = true) : Ev (fun k => pack_Write.f k l) (writeL l, 0) := by
  have hw := wide_32 h
  have hp := packB_len l hl _ hw
  have hv := vint_len l.length (by omega)
  unfold pack_Write.f
  refine Ev.bind (g := fun _ => slices_ContainsFunc_int_int.f _ _) (ev_some (by unfold slices_ContainsFunc_int_int.f; rw [if_pos rfl])) ?_
  rw [any_may, h]
  simp only [Bool.not_true, Bool.false_eq_true, if_false]
  refine Ev.bind (g := fun _ => pack_Width.f _) (ev_some (pwidth_f l hl h)) ?_
  refine (pput_f _ hw l hl).bind ?_
  rw [if_pos (wide_good h)]
  refine (cput_f l.length (by omega)).bind ?_
  rw [show ((wideL l 0 : Nat) : Int) % 256 = ((wideL l 0 : Nat) : Int) by omega]
  have e : ([vint l.length, [((wideL l 0 : Nat) : Int)], pack (bitsL (wideL l 0) l)] : List (List Int)).flatten = writeL l := by unfold writeL; simp
  have hc : slices_Concat_byte_byte.f [vint l.length, [((wideL l 0 : Nat) : Int)], (packed (wideL l 0) l).1] = some (writeL l) := by
    rw [show (packed (wideL l 0) l).1 = pack (bitsL (wideL l 0) l) from rfl]
    unfold slices_Concat_byte_byte.f
    rw [e, if_pos (by unfold writeL; simp; omega)]
  exact Ev.bind (g := fun _ => slices_Concat_byte_byte.f _) (ev_some hc) (Ev.now _)
theorem rwrite_f (l : List Int) (hl : l.length ≤ 10000) (h : mayL l = true) : Ev (fun k => hopperref03_Write.f k l) (writeL l) := by
  have hw := wide_32 h
  have hp := packB_len l hl _ hw
  have hv := vint_len l.length (by omega)
  unfold hopperref03_Write.f
  refine (rwidth_f l hl h).bind ?_
  refine (rput3_f _ hw l hl).bind ?_
  rw [if_pos (wide_good h)]
  refine (rput l.length (by omega)).bind ?_
  refine (rwidth_f l hl h).bind ?_
  rw [show ((wideL l 0 : Nat) : Int) % 256 = ((wideL l 0 : Nat) : Int) by omega]
  simp only [if_pos (show (vint l.length).length < 140737488355328 by omega)]
  refine Ev.bind (g := fun _ => some _) (Ev.now _) ?_
  rw [show (packed (wideL l 0) l).1 = pack (bitsL (wideL l 0) l) from rfl]
  simp only [if_pos (show (vint l.length ++ [((wideL l 0 : Nat) : Int)]).length + (pack (bitsL (wideL l 0) l)).length < 140737488355328 by simp; omega)]
  exact Ev.now _
end Go.Proofs.Ytkdncanoajbdgaa.HP
