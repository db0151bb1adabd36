/-
  No cell of these rows narrows 'for every input' (looked for: loops, veiled, ifaces, maps, wideKeys, modest, calm, conditions, laid).
  DERIVED. THE GIVEN ROWS OF THIS SEAT. 10 by the template 'for every input the law returns true; each argument reads behind the call as it read before'; 0 by the template 'total and deterministic' (their statements: YtdohphiicmdilaaTotals.lean).
  GIVEN WITH THE SEED: the statements are not yours to turn. If you find one false, say at which input.
  Laid BY PROGRAM, IN A SANDBOX (cutbox-rows.mjs): the forced cells as the released guide's own fill.sh prints them over the translation 4547ba09a4dacc45… (all of the seat's roots in one cut). By AI agents, Wed Nov 11 2026. No macro, syntax, notation, axiom, sorry.
-/
import Derived.Test.YtdohphiicmdilaaChecked
import GoSem.Claim
import GoSem.ClaimJoined
import GoSem.ClaimMapViews
import Derived.JoinedTies
import Derived.KernelRfl
namespace Go.Proofs.Ytdohphiicmdilaa
/- THE CELL 'sum', in the pinned program and in every row, IS THE sha256 OF THE DUMP (.gsa) THAT YtdohphiicmdilaaProg.lean LOADS. Nothing in Lean hashes anything: it is a label: what it is worth is what the hold of that sum in a sandbox is worth. -/
noncomputable def Try.pinned : Pinned := { name := "ytdohphiicmdilaa", sum := "4547ba09a4dacc454f82f2254953120aac0ceaafe336ed39fdd6ee58a323e8b5", checked := Try.checked }
namespace Rows
def none {H : Type} : Left H := { results := [], args := [] }

/-- 'hopperlaw05.PickRights': WHATEVER THE INPUT: true; the input reads as it did. -/
def pickRightsSpec : ChangeSpec := { name := "pickRights", fn := fun _ => fun
  | [d1, d2] => { results := [.lit (.bool true)], args := [d1, d2] }
  | _ => none }
def pickRightsRow : OpenClaim := { program := "ytdohphiicmdilaa", sum := "4547ba09a4dacc454f82f2254953120aac0ceaafe336ed39fdd6ee58a323e8b5", func := "hopper/hopperlaw05.PickRights", spec := "pickRights", apart := false }
def PickRightsSaid : Prop := pickRightsRow.holds Try.pinned (OpenSpec.ofChange pickRightsSpec)

/-- ITS FALSE NEIGHBOUR: 'it returns false'. Refute it at one input. -/
def pickRightsWrong : ChangeSpec := { name := "pickRights", fn := fun _ => fun
  | [d1, d2] => { results := [.lit (.bool false)], args := [d1, d2] }
  | _ => none }
def PickRightsWrongFalsely : Prop := pickRightsRow.holds Try.pinned (OpenSpec.ofChange pickRightsWrong)

/-- 'hopperlaw05.PickThrough': WHATEVER THE INPUT: true; the input reads as it did. -/
def pickThroughSpec : ChangeSpec := { name := "pickThrough", fn := fun _ => fun
  | [d1, d2, d3] => { results := [.lit (.bool true)], args := [d1, d2, d3] }
  | _ => none }
def pickThroughRow : OpenClaim := { program := "ytdohphiicmdilaa", sum := "4547ba09a4dacc454f82f2254953120aac0ceaafe336ed39fdd6ee58a323e8b5", func := "hopper/hopperlaw05.PickThrough", spec := "pickThrough", apart := false }
def PickThroughSaid : Prop := pickThroughRow.holds Try.pinned (OpenSpec.ofChange pickThroughSpec)

/-- ITS FALSE NEIGHBOUR: 'it returns false'. Refute it at one input. -/
def pickThroughWrong : ChangeSpec := { name := "pickThrough", fn := fun _ => fun
  | [d1, d2, d3] => { results := [.lit (.bool false)], args := [d1, d2, d3] }
  | _ => none }
def PickThroughWrongFalsely : Prop := pickThroughRow.holds Try.pinned (OpenSpec.ofChange pickThroughWrong)

/-- 'hopperlaw04.BitmapWrites': WHATEVER THE INPUT: true; the input reads as it did. -/
def bitmapWritesSpec : ChangeSpec := { name := "bitmapWrites", fn := fun _ => fun
  | [d] => { results := [.lit (.bool true)], args := [d] }
  | _ => none }
def bitmapWritesRow : OpenClaim := { program := "ytdohphiicmdilaa", sum := "4547ba09a4dacc454f82f2254953120aac0ceaafe336ed39fdd6ee58a323e8b5", func := "hopper/hopperlaw04.BitmapWrites", spec := "bitmapWrites", unfollowed := true, recurses := true, apart := false }
def BitmapWritesSaid : Prop := bitmapWritesRow.holds Try.pinned (OpenSpec.ofChange bitmapWritesSpec)

/-- ITS FALSE NEIGHBOUR: 'it returns false'. Refute it at one input. -/
def bitmapWritesWrong : ChangeSpec := { name := "bitmapWrites", fn := fun _ => fun
  | [d] => { results := [.lit (.bool false)], args := [d] }
  | _ => none }
def BitmapWritesWrongFalsely : Prop := bitmapWritesRow.holds Try.pinned (OpenSpec.ofChange bitmapWritesWrong)

/-- 'hopperlaw04.BitmapCounts': WHATEVER THE INPUT: true; the input reads as it did. -/
def bitmapCountsSpec : ChangeSpec := { name := "bitmapCounts", fn := fun _ => fun
  | [d1, d2] => { results := [.lit (.bool true)], args := [d1, d2] }
  | _ => none }
def bitmapCountsRow : OpenClaim := { program := "ytdohphiicmdilaa", sum := "4547ba09a4dacc454f82f2254953120aac0ceaafe336ed39fdd6ee58a323e8b5", func := "hopper/hopperlaw04.BitmapCounts", spec := "bitmapCounts", unfollowed := true, recurses := true, apart := false }
def BitmapCountsSaid : Prop := bitmapCountsRow.holds Try.pinned (OpenSpec.ofChange bitmapCountsSpec)

/-- ITS FALSE NEIGHBOUR: 'it returns false'. Refute it at one input. -/
def bitmapCountsWrong : ChangeSpec := { name := "bitmapCounts", fn := fun _ => fun
  | [d1, d2] => { results := [.lit (.bool false)], args := [d1, d2] }
  | _ => none }
def BitmapCountsWrongFalsely : Prop := bitmapCountsRow.holds Try.pinned (OpenSpec.ofChange bitmapCountsWrong)

/-- 'hopperlaw04.BitmapKeeps': WHATEVER THE INPUT: true; the input reads as it did. -/
def bitmapKeepsSpec : ChangeSpec := { name := "bitmapKeeps", fn := fun _ => fun
  | [d] => { results := [.lit (.bool true)], args := [d] }
  | _ => none }
def bitmapKeepsRow : OpenClaim := { program := "ytdohphiicmdilaa", sum := "4547ba09a4dacc454f82f2254953120aac0ceaafe336ed39fdd6ee58a323e8b5", func := "hopper/hopperlaw04.BitmapKeeps", spec := "bitmapKeeps", unfollowed := true, recurses := true, apart := false }
def BitmapKeepsSaid : Prop := bitmapKeepsRow.holds Try.pinned (OpenSpec.ofChange bitmapKeepsSpec)

/-- ITS FALSE NEIGHBOUR: 'it returns false'. Refute it at one input. -/
def bitmapKeepsWrong : ChangeSpec := { name := "bitmapKeeps", fn := fun _ => fun
  | [d] => { results := [.lit (.bool false)], args := [d] }
  | _ => none }
def BitmapKeepsWrongFalsely : Prop := bitmapKeepsRow.holds Try.pinned (OpenSpec.ofChange bitmapKeepsWrong)

/-- 'hopperlaw04.BitmapRules': WHATEVER THE INPUT: true; the input reads as it did. -/
def bitmapRulesSpec : ChangeSpec := { name := "bitmapRules", fn := fun _ => fun
  | [d1, d2] => { results := [.lit (.bool true)], args := [d1, d2] }
  | _ => none }
def bitmapRulesRow : OpenClaim := { program := "ytdohphiicmdilaa", sum := "4547ba09a4dacc454f82f2254953120aac0ceaafe336ed39fdd6ee58a323e8b5", func := "hopper/hopperlaw04.BitmapRules", spec := "bitmapRules", unfollowed := true, recurses := true, apart := false }
def BitmapRulesSaid : Prop := bitmapRulesRow.holds Try.pinned (OpenSpec.ofChange bitmapRulesSpec)

/-- ITS FALSE NEIGHBOUR: 'it returns false'. Refute it at one input. -/
def bitmapRulesWrong : ChangeSpec := { name := "bitmapRules", fn := fun _ => fun
  | [d1, d2] => { results := [.lit (.bool false)], args := [d1, d2] }
  | _ => none }
def BitmapRulesWrongFalsely : Prop := bitmapRulesRow.holds Try.pinned (OpenSpec.ofChange bitmapRulesWrong)

/-- 'hopperlaw05.PickBack': WHATEVER THE INPUT: true; the input reads as it did. -/
def pickBackSpec : ChangeSpec := { name := "pickBack", fn := fun _ => fun
  | [d] => { results := [.lit (.bool true)], args := [d] }
  | _ => none }
def pickBackRow : OpenClaim := { program := "ytdohphiicmdilaa", sum := "4547ba09a4dacc454f82f2254953120aac0ceaafe336ed39fdd6ee58a323e8b5", func := "hopper/hopperlaw05.PickBack", spec := "pickBack", apart := false }
def PickBackSaid : Prop := pickBackRow.holds Try.pinned (OpenSpec.ofChange pickBackSpec)

/-- ITS FALSE NEIGHBOUR: 'it returns false'. Refute it at one input. -/
def pickBackWrong : ChangeSpec := { name := "pickBack", fn := fun _ => fun
  | [d] => { results := [.lit (.bool false)], args := [d] }
  | _ => none }
def PickBackWrongFalsely : Prop := pickBackRow.holds Try.pinned (OpenSpec.ofChange pickBackWrong)

/-- 'hopperlaw05.PickRules': WHATEVER THE INPUT: true; the input reads as it did. -/
def pickRulesSpec : ChangeSpec := { name := "pickRules", fn := fun _ => fun
  | [d1, d2] => { results := [.lit (.bool true)], args := [d1, d2] }
  | _ => none }
def pickRulesRow : OpenClaim := { program := "ytdohphiicmdilaa", sum := "4547ba09a4dacc454f82f2254953120aac0ceaafe336ed39fdd6ee58a323e8b5", func := "hopper/hopperlaw05.PickRules", spec := "pickRules", apart := false }
def PickRulesSaid : Prop := pickRulesRow.holds Try.pinned (OpenSpec.ofChange pickRulesSpec)

/-- ITS FALSE NEIGHBOUR: 'it returns false'. Refute it at one input. -/
def pickRulesWrong : ChangeSpec := { name := "pickRules", fn := fun _ => fun
  | [d1, d2] => { results := [.lit (.bool false)], args := [d1, d2] }
  | _ => none }
def PickRulesWrongFalsely : Prop := pickRulesRow.holds Try.pinned (OpenSpec.ofChange pickRulesWrong)

/-- 'hopperlaw05.PickKeeps': WHATEVER THE INPUT: true; the input reads as it did. -/
def pickKeepsSpec : ChangeSpec := { name := "pickKeeps", fn := fun _ => fun
  | [d] => { results := [.lit (.bool true)], args := [d] }
  | _ => none }
def pickKeepsRow : OpenClaim := { program := "ytdohphiicmdilaa", sum := "4547ba09a4dacc454f82f2254953120aac0ceaafe336ed39fdd6ee58a323e8b5", func := "hopper/hopperlaw05.PickKeeps", spec := "pickKeeps", apart := false }
def PickKeepsSaid : Prop := pickKeepsRow.holds Try.pinned (OpenSpec.ofChange pickKeepsSpec)

/-- ITS FALSE NEIGHBOUR: 'it returns false'. Refute it at one input. -/
def pickKeepsWrong : ChangeSpec := { name := "pickKeeps", fn := fun _ => fun
  | [d] => { results := [.lit (.bool false)], args := [d] }
  | _ => none }
def PickKeepsWrongFalsely : Prop := pickKeepsRow.holds Try.pinned (OpenSpec.ofChange pickKeepsWrong)

/-- 'hopperlaw04.BitmapReads': WHATEVER THE INPUT: true; the input reads as it did. -/
def bitmapReadsSpec : ChangeSpec := { name := "bitmapReads", fn := fun _ => fun
  | [d1, d2, d3] => { results := [.lit (.bool true)], args := [d1, d2, d3] }
  | _ => none }
def bitmapReadsRow : OpenClaim := { program := "ytdohphiicmdilaa", sum := "4547ba09a4dacc454f82f2254953120aac0ceaafe336ed39fdd6ee58a323e8b5", func := "hopper/hopperlaw04.BitmapReads", spec := "bitmapReads", unfollowed := true, recurses := true, apart := false }
def BitmapReadsSaid : Prop := bitmapReadsRow.holds Try.pinned (OpenSpec.ofChange bitmapReadsSpec)

/-- ITS FALSE NEIGHBOUR: 'it returns false'. Refute it at one input. -/
def bitmapReadsWrong : ChangeSpec := { name := "bitmapReads", fn := fun _ => fun
  | [d1, d2, d3] => { results := [.lit (.bool false)], args := [d1, d2, d3] }
  | _ => none }
def BitmapReadsWrongFalsely : Prop := bitmapReadsRow.holds Try.pinned (OpenSpec.ofChange bitmapReadsWrong)

/- THE SECOND FORM. 'bulk': how many values and letters a reading holds, each counted each time it is reached (what is shared counts as often as it is met; a slice's spare places count too). A statement '..UptoSaid' is the law's where the arguments, and the package variables that the reading takes, are together of bulk at most 1048576: NARROWER than '..Said'. Prove '..Said' where nothing that the law and all that it calls make is longer than what came in: it says more and counts as full. Else prove '..UptoSaid'. A law counts once. -/
mutual
def uptoBulk {H : Type} : DataW H → Nat
  | .lit (.string bytes) => bytes.length + 1
  | .lit _ => 1
  | .nil => 1
  | .ptr d => uptoBulk d + 1
  | .slice elems spare => uptoBulkAll elems + uptoBulkAll spare + 1
  | .agg parts => uptoBulkAll parts + 1
  | .iface _ d => uptoBulk d + 1
  | .map entries => uptoBulkEntries entries + 1
  | .held _ => 1
def uptoBulkAll {H : Type} : List (DataW H) → Nat
  | [] => 0
  | d :: r => uptoBulk d + uptoBulkAll r
def uptoBulkEntries {H : Type} : List (Lit × DataW H) → Nat
  | [] => 0
  | x :: r => uptoBulkEntry x + uptoBulkEntries r
def uptoBulkEntry {H : Type} : Lit × DataW H → Nat
  | (.string bytes, d) => bytes.length + uptoBulk d + 1
  | (_, d) => uptoBulk d + 1
 end
def uptoSmall : (H : Type) → List (DataW H) → Bool := fun _ ds => decide (uptoBulkAll ds ≤ 1048576)
def OpenSpec.upto (s : _root_.Go.ChangeSpec) : _root_.Go.OpenSpec := { _root_.Go.OpenSpec.ofChange s with cond := some uptoSmall }

/-- 'hopperlaw05.PickRights', WHERE WHAT IT READS IS OF BULK AT MOST 1048576: true; the input reads as it did. -/
def pickRightsUptoRow : OpenClaim := { program := "ytdohphiicmdilaa", sum := "4547ba09a4dacc454f82f2254953120aac0ceaafe336ed39fdd6ee58a323e8b5", func := "hopper/hopperlaw05.PickRights", spec := "pickRights", apart := false, narrowed := true }
def PickRightsUptoSaid : Prop := pickRightsUptoRow.holds Try.pinned (OpenSpec.upto pickRightsSpec)

/-- 'hopperlaw05.PickThrough', WHERE WHAT IT READS IS OF BULK AT MOST 1048576: true; the input reads as it did. -/
def pickThroughUptoRow : OpenClaim := { program := "ytdohphiicmdilaa", sum := "4547ba09a4dacc454f82f2254953120aac0ceaafe336ed39fdd6ee58a323e8b5", func := "hopper/hopperlaw05.PickThrough", spec := "pickThrough", apart := false, narrowed := true }
def PickThroughUptoSaid : Prop := pickThroughUptoRow.holds Try.pinned (OpenSpec.upto pickThroughSpec)

/-- 'hopperlaw04.BitmapWrites', WHERE WHAT IT READS IS OF BULK AT MOST 1048576: true; the input reads as it did. -/
def bitmapWritesUptoRow : OpenClaim := { program := "ytdohphiicmdilaa", sum := "4547ba09a4dacc454f82f2254953120aac0ceaafe336ed39fdd6ee58a323e8b5", func := "hopper/hopperlaw04.BitmapWrites", spec := "bitmapWrites", unfollowed := true, recurses := true, apart := false, narrowed := true }
def BitmapWritesUptoSaid : Prop := bitmapWritesUptoRow.holds Try.pinned (OpenSpec.upto bitmapWritesSpec)

/-- 'hopperlaw04.BitmapCounts', WHERE WHAT IT READS IS OF BULK AT MOST 1048576: true; the input reads as it did. -/
def bitmapCountsUptoRow : OpenClaim := { program := "ytdohphiicmdilaa", sum := "4547ba09a4dacc454f82f2254953120aac0ceaafe336ed39fdd6ee58a323e8b5", func := "hopper/hopperlaw04.BitmapCounts", spec := "bitmapCounts", unfollowed := true, recurses := true, apart := false, narrowed := true }
def BitmapCountsUptoSaid : Prop := bitmapCountsUptoRow.holds Try.pinned (OpenSpec.upto bitmapCountsSpec)

/-- 'hopperlaw04.BitmapKeeps', WHERE WHAT IT READS IS OF BULK AT MOST 1048576: true; the input reads as it did. -/
def bitmapKeepsUptoRow : OpenClaim := { program := "ytdohphiicmdilaa", sum := "4547ba09a4dacc454f82f2254953120aac0ceaafe336ed39fdd6ee58a323e8b5", func := "hopper/hopperlaw04.BitmapKeeps", spec := "bitmapKeeps", unfollowed := true, recurses := true, apart := false, narrowed := true }
def BitmapKeepsUptoSaid : Prop := bitmapKeepsUptoRow.holds Try.pinned (OpenSpec.upto bitmapKeepsSpec)

/-- 'hopperlaw04.BitmapRules', WHERE WHAT IT READS IS OF BULK AT MOST 1048576: true; the input reads as it did. -/
def bitmapRulesUptoRow : OpenClaim := { program := "ytdohphiicmdilaa", sum := "4547ba09a4dacc454f82f2254953120aac0ceaafe336ed39fdd6ee58a323e8b5", func := "hopper/hopperlaw04.BitmapRules", spec := "bitmapRules", unfollowed := true, recurses := true, apart := false, narrowed := true }
def BitmapRulesUptoSaid : Prop := bitmapRulesUptoRow.holds Try.pinned (OpenSpec.upto bitmapRulesSpec)

/-- 'hopperlaw05.PickBack', WHERE WHAT IT READS IS OF BULK AT MOST 1048576: true; the input reads as it did. -/
def pickBackUptoRow : OpenClaim := { program := "ytdohphiicmdilaa", sum := "4547ba09a4dacc454f82f2254953120aac0ceaafe336ed39fdd6ee58a323e8b5", func := "hopper/hopperlaw05.PickBack", spec := "pickBack", apart := false, narrowed := true }
def PickBackUptoSaid : Prop := pickBackUptoRow.holds Try.pinned (OpenSpec.upto pickBackSpec)

/-- 'hopperlaw05.PickRules', WHERE WHAT IT READS IS OF BULK AT MOST 1048576: true; the input reads as it did. -/
def pickRulesUptoRow : OpenClaim := { program := "ytdohphiicmdilaa", sum := "4547ba09a4dacc454f82f2254953120aac0ceaafe336ed39fdd6ee58a323e8b5", func := "hopper/hopperlaw05.PickRules", spec := "pickRules", apart := false, narrowed := true }
def PickRulesUptoSaid : Prop := pickRulesUptoRow.holds Try.pinned (OpenSpec.upto pickRulesSpec)

/-- 'hopperlaw05.PickKeeps', WHERE WHAT IT READS IS OF BULK AT MOST 1048576: true; the input reads as it did. -/
def pickKeepsUptoRow : OpenClaim := { program := "ytdohphiicmdilaa", sum := "4547ba09a4dacc454f82f2254953120aac0ceaafe336ed39fdd6ee58a323e8b5", func := "hopper/hopperlaw05.PickKeeps", spec := "pickKeeps", apart := false, narrowed := true }
def PickKeepsUptoSaid : Prop := pickKeepsUptoRow.holds Try.pinned (OpenSpec.upto pickKeepsSpec)

/-- 'hopperlaw04.BitmapReads', WHERE WHAT IT READS IS OF BULK AT MOST 1048576: true; the input reads as it did. -/
def bitmapReadsUptoRow : OpenClaim := { program := "ytdohphiicmdilaa", sum := "4547ba09a4dacc454f82f2254953120aac0ceaafe336ed39fdd6ee58a323e8b5", func := "hopper/hopperlaw04.BitmapReads", spec := "bitmapReads", unfollowed := true, recurses := true, apart := false, narrowed := true }
def BitmapReadsUptoSaid : Prop := bitmapReadsUptoRow.holds Try.pinned (OpenSpec.upto bitmapReadsSpec)

end Rows
end Go.Proofs.Ytdohphiicmdilaa
