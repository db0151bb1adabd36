/- The sum of a text and its sum behind it is the same of all texts. -/
import Derived.Test.YtmedgpchmkmifaaHCrcL
set_option linter.unusedVariables false
set_option linter.unusedSimpArgs false
namespace Go.Proofs.Ytmedgpchmkmifaa.HP
open Go.RowKit Go.Proofs.Ytmedgpchmkmifaa.P Go.Proofs.YtmedgpchmkmifaaW.PrintWords Go.Proofs.YtmedgpchmkmifaaW.PrintLast Go.Proofs.YtmedgpchmkmifaaW.PrintMore
/-- One byte of c taken in, in a register whose xor with c is known. -/
theorem up_xor (t c : Nat) : upN (t ^^^ c) (c % 256) = stps 8 t ^^^ (c / 256) := by
  unfold upN
  have h : t ^^^ c ^^^ (c % 256) = t ^^^ (2 ^ 8 * (c / 256)) := by
    have e := split8 c
    rw [Nat.xor_assoc]
    congr 1
    calc c ^^^ (c % 256) = ((c % 256) ^^^ (2 ^ 8 * (c / 256))) ^^^ (c % 256) := by rw [← e]
      _ = 2 ^ 8 * (c / 256) := by rw [Nat.xor_comm (c % 256), Nat.xor_assoc, Nat.xor_self, Nat.xor_zero]
  rw [h, stps_xor, stps_pow]
theorem run_self (t c : Nat) (hc : c < 2 ^ 32) : run (t ^^^ c) [c % 256, c / 256 % 256, c / 65536 % 256, c / 16777216 % 256] = stps 8 (stps 8 (stps 8 (stps 8 t))) := by
  have e1 : c / 65536 = c / 256 / 256 := by omega
  have e2 : c / 16777216 = c / 256 / 256 / 256 := by omega
  have e3 : c / 256 / 256 / 256 / 256 = 0 := by omega
  rw [e1, e2]
  simp only [run, List.foldl_cons, List.foldl_nil]
  rw [up_xor, up_xor, up_xor, up_xor, e3, Nat.xor_zero]
theorem crc_seal (l : List Int) (hb : isB l) : crcN (sealL l) = stps 8 (stps 8 (stps 8 (stps 8 all32))) ^^^ all32 := by
  have hc := crcN_lt hb
  have e : run all32 (nat8 l) = all32 ^^^ crcN l := by
    unfold crcN
    rw [Nat.xor_comm (run all32 (nat8 l)) all32, ← Nat.xor_assoc, Nat.xor_self, Nat.zero_xor]
  generalize hC : crcN l = C at *
  show run all32 (nat8 (l ++ le4 (crcN l))) ^^^ all32 = _
  rw [hC, nat8_app, run_app, e]
  congr 1
  have h4 : nat8 (le4 C) = [C % 256, C / 256 % 256, C / 65536 % 256, C / 16777216 % 256] := by simp only [nat8, le4, List.map_cons, List.map_nil, Int.toNat_natCast]
  rw [h4, run_self _ _ hc]
end Go.Proofs.Ytmedgpchmkmifaa.HP
