/-
  No cell of these rows narrows 'for every input' (looked for: loops, veiled, ifaces, maps, wideKeys, modest, calm, conditions, laid).
  DERIVED. THE GIVEN ROWS OF THIS SEAT. 5 by the template 'for every input the law returns true; each argument reads behind the call as it read before'; 0 by the template 'total and deterministic' (their statements: YtcbjkejboegmlaaTotals.lean).
  GIVEN WITH THE SEED: the statements are not yours to turn. If you find one false, say at which input.
  Laid BY PROGRAM, IN A SANDBOX (cutbox-rows.mjs): the forced cells as the released guide's own fill.sh prints them over the translation bb5e1d734cbffb76… (all of the seat's roots in one cut). By AI agents, Wed Nov 11 2026. No macro, syntax, notation, axiom, sorry.
-/
import Derived.Test.YtcbjkejboegmlaaChecked
import GoSem.Claim
import GoSem.ClaimJoined
import GoSem.ClaimMapViews
import Derived.JoinedTies
import Derived.KernelRfl
namespace Go.Proofs.Ytcbjkejboegmlaa
/- THE CELL 'sum', in the pinned program and in every row, IS THE sha256 OF THE DUMP (.gsa) THAT YtcbjkejboegmlaaProg.lean LOADS. Nothing in Lean hashes anything: it is a label: what it is worth is what the hold of that sum in a sandbox is worth. -/
noncomputable def Try.pinned : Pinned := { name := "ytcbjkejboegmlaa", sum := "bb5e1d734cbffb76fc3d82d811c14f4fdcfb6514d2e70c3e1a891f312f2d4a7e", checked := Try.checked }
namespace Rows
def none {H : Type} : Left H := { results := [], args := [] }

/-- 'hopperlaw23.JoinRows': WHATEVER THE INPUT: true; the input reads as it did. -/
def joinRowsSpec : ChangeSpec := { name := "joinRows", fn := fun _ => fun
  | [d1, d2, d3, d4] => { results := [.lit (.bool true)], args := [d1, d2, d3, d4] }
  | _ => none }
def joinRowsRow : OpenClaim := { program := "ytcbjkejboegmlaa", sum := "bb5e1d734cbffb76fc3d82d811c14f4fdcfb6514d2e70c3e1a891f312f2d4a7e", func := "hopper/hopperlaw23.JoinRows", spec := "joinRows", unfollowed := true, recurses := true, apart := false }
def JoinRowsSaid : Prop := joinRowsRow.holds Try.pinned (OpenSpec.ofChange joinRowsSpec)

/-- ITS FALSE NEIGHBOUR: 'it returns false'. Refute it at one input. -/
def joinRowsWrong : ChangeSpec := { name := "joinRows", fn := fun _ => fun
  | [d1, d2, d3, d4] => { results := [.lit (.bool false)], args := [d1, d2, d3, d4] }
  | _ => none }
def JoinRowsWrongFalsely : Prop := joinRowsRow.holds Try.pinned (OpenSpec.ofChange joinRowsWrong)

/-- 'hopperlaw23.JoinRights': WHATEVER THE INPUT: true; the input reads as it did. -/
def joinRightsSpec : ChangeSpec := { name := "joinRights", fn := fun _ => fun
  | [d1, d2, d3, d4, d5] => { results := [.lit (.bool true)], args := [d1, d2, d3, d4, d5] }
  | _ => none }
def joinRightsRow : OpenClaim := { program := "ytcbjkejboegmlaa", sum := "bb5e1d734cbffb76fc3d82d811c14f4fdcfb6514d2e70c3e1a891f312f2d4a7e", func := "hopper/hopperlaw23.JoinRights", spec := "joinRights", unfollowed := true, recurses := true, apart := false }
def JoinRightsSaid : Prop := joinRightsRow.holds Try.pinned (OpenSpec.ofChange joinRightsSpec)

/-- ITS FALSE NEIGHBOUR: 'it returns false'. Refute it at one input. -/
def joinRightsWrong : ChangeSpec := { name := "joinRights", fn := fun _ => fun
  | [d1, d2, d3, d4, d5] => { results := [.lit (.bool false)], args := [d1, d2, d3, d4, d5] }
  | _ => none }
def JoinRightsWrongFalsely : Prop := joinRightsRow.holds Try.pinned (OpenSpec.ofChange joinRightsWrong)

/-- 'hopperlaw23.JoinPairs': WHATEVER THE INPUT: true; the input reads as it did. -/
def joinPairsSpec : ChangeSpec := { name := "joinPairs", fn := fun _ => fun
  | [d1, d2] => { results := [.lit (.bool true)], args := [d1, d2] }
  | _ => none }
def joinPairsRow : OpenClaim := { program := "ytcbjkejboegmlaa", sum := "bb5e1d734cbffb76fc3d82d811c14f4fdcfb6514d2e70c3e1a891f312f2d4a7e", func := "hopper/hopperlaw23.JoinPairs", spec := "joinPairs", unfollowed := true, recurses := true, apart := false }
def JoinPairsSaid : Prop := joinPairsRow.holds Try.pinned (OpenSpec.ofChange joinPairsSpec)

/-- ITS FALSE NEIGHBOUR: 'it returns false'. Refute it at one input. -/
def joinPairsWrong : ChangeSpec := { name := "joinPairs", fn := fun _ => fun
  | [d1, d2] => { results := [.lit (.bool false)], args := [d1, d2] }
  | _ => none }
def JoinPairsWrongFalsely : Prop := joinPairsRow.holds Try.pinned (OpenSpec.ofChange joinPairsWrong)

/-- 'hopperlaw23.JoinParts': WHATEVER THE INPUT: true; the input reads as it did. -/
def joinPartsSpec : ChangeSpec := { name := "joinParts", fn := fun _ => fun
  | [d1, d2] => { results := [.lit (.bool true)], args := [d1, d2] }
  | _ => none }
def joinPartsRow : OpenClaim := { program := "ytcbjkejboegmlaa", sum := "bb5e1d734cbffb76fc3d82d811c14f4fdcfb6514d2e70c3e1a891f312f2d4a7e", func := "hopper/hopperlaw23.JoinParts", spec := "joinParts", unfollowed := true, recurses := true, apart := false }
def JoinPartsSaid : Prop := joinPartsRow.holds Try.pinned (OpenSpec.ofChange joinPartsSpec)

/-- ITS FALSE NEIGHBOUR: 'it returns false'. Refute it at one input. -/
def joinPartsWrong : ChangeSpec := { name := "joinParts", fn := fun _ => fun
  | [d1, d2] => { results := [.lit (.bool false)], args := [d1, d2] }
  | _ => none }
def JoinPartsWrongFalsely : Prop := joinPartsRow.holds Try.pinned (OpenSpec.ofChange joinPartsWrong)

/-- 'hopperlaw23.JoinKeeps': WHATEVER THE INPUT: true; the input reads as it did. -/
def joinKeepsSpec : ChangeSpec := { name := "joinKeeps", fn := fun _ => fun
  | [d1, d2, d3] => { results := [.lit (.bool true)], args := [d1, d2, d3] }
  | _ => none }
def joinKeepsRow : OpenClaim := { program := "ytcbjkejboegmlaa", sum := "bb5e1d734cbffb76fc3d82d811c14f4fdcfb6514d2e70c3e1a891f312f2d4a7e", func := "hopper/hopperlaw23.JoinKeeps", spec := "joinKeeps", unfollowed := true, recurses := true, apart := false }
def JoinKeepsSaid : Prop := joinKeepsRow.holds Try.pinned (OpenSpec.ofChange joinKeepsSpec)

/-- ITS FALSE NEIGHBOUR: 'it returns false'. Refute it at one input. -/
def joinKeepsWrong : ChangeSpec := { name := "joinKeeps", fn := fun _ => fun
  | [d1, d2, d3] => { results := [.lit (.bool false)], args := [d1, d2, d3] }
  | _ => none }
def JoinKeepsWrongFalsely : Prop := joinKeepsRow.holds Try.pinned (OpenSpec.ofChange joinKeepsWrong)

/- THE SECOND FORM. 'bulk': how many values and letters a reading holds, each counted each time it is reached (what is shared counts as often as it is met; a slice's spare places count too). A statement '..UptoSaid' is the law's where the arguments, and the package variables that the reading takes, are together of bulk at most 1048576: NARROWER than '..Said'. Prove '..Said' where nothing that the law and all that it calls make is longer than what came in: it says more and counts as full. Else prove '..UptoSaid'. A law counts once. -/
mutual
def uptoBulk {H : Type} : DataW H → Nat
  | .lit (.string bytes) => bytes.length + 1
  | .lit _ => 1
  | .nil => 1
  | .ptr d => uptoBulk d + 1
  | .slice elems spare => uptoBulkAll elems + uptoBulkAll spare + 1
  | .agg parts => uptoBulkAll parts + 1
  | .iface _ d => uptoBulk d + 1
  | .map entries => uptoBulkEntries entries + 1
  | .held _ => 1
def uptoBulkAll {H : Type} : List (DataW H) → Nat
  | [] => 0
  | d :: r => uptoBulk d + uptoBulkAll r
def uptoBulkEntries {H : Type} : List (Lit × DataW H) → Nat
  | [] => 0
  | x :: r => uptoBulkEntry x + uptoBulkEntries r
def uptoBulkEntry {H : Type} : Lit × DataW H → Nat
  | (.string bytes, d) => bytes.length + uptoBulk d + 1
  | (_, d) => uptoBulk d + 1
 end
def uptoSmall : (H : Type) → List (DataW H) → Bool := fun _ ds => decide (uptoBulkAll ds ≤ 1048576)
def OpenSpec.upto (s : _root_.Go.ChangeSpec) : _root_.Go.OpenSpec := { _root_.Go.OpenSpec.ofChange s with cond := some uptoSmall }

/-- 'hopperlaw23.JoinRows', WHERE WHAT IT READS IS OF BULK AT MOST 1048576: true; the input reads as it did. -/
def joinRowsUptoRow : OpenClaim := { program := "ytcbjkejboegmlaa", sum := "bb5e1d734cbffb76fc3d82d811c14f4fdcfb6514d2e70c3e1a891f312f2d4a7e", func := "hopper/hopperlaw23.JoinRows", spec := "joinRows", unfollowed := true, recurses := true, apart := false, narrowed := true }
def JoinRowsUptoSaid : Prop := joinRowsUptoRow.holds Try.pinned (OpenSpec.upto joinRowsSpec)

/-- 'hopperlaw23.JoinRights', WHERE WHAT IT READS IS OF BULK AT MOST 1048576: true; the input reads as it did. -/
def joinRightsUptoRow : OpenClaim := { program := "ytcbjkejboegmlaa", sum := "bb5e1d734cbffb76fc3d82d811c14f4fdcfb6514d2e70c3e1a891f312f2d4a7e", func := "hopper/hopperlaw23.JoinRights", spec := "joinRights", unfollowed := true, recurses := true, apart := false, narrowed := true }
def JoinRightsUptoSaid : Prop := joinRightsUptoRow.holds Try.pinned (OpenSpec.upto joinRightsSpec)

/-- 'hopperlaw23.JoinPairs', WHERE WHAT IT READS IS OF BULK AT MOST 1048576: true; the input reads as it did. -/
def joinPairsUptoRow : OpenClaim := { program := "ytcbjkejboegmlaa", sum := "bb5e1d734cbffb76fc3d82d811c14f4fdcfb6514d2e70c3e1a891f312f2d4a7e", func := "hopper/hopperlaw23.JoinPairs", spec := "joinPairs", unfollowed := true, recurses := true, apart := false, narrowed := true }
def JoinPairsUptoSaid : Prop := joinPairsUptoRow.holds Try.pinned (OpenSpec.upto joinPairsSpec)

/-- 'hopperlaw23.JoinParts', WHERE WHAT IT READS IS OF BULK AT MOST 1048576: true; the input reads as it did. -/
def joinPartsUptoRow : OpenClaim := { program := "ytcbjkejboegmlaa", sum := "bb5e1d734cbffb76fc3d82d811c14f4fdcfb6514d2e70c3e1a891f312f2d4a7e", func := "hopper/hopperlaw23.JoinParts", spec := "joinParts", unfollowed := true, recurses := true, apart := false, narrowed := true }
def JoinPartsUptoSaid : Prop := joinPartsUptoRow.holds Try.pinned (OpenSpec.upto joinPartsSpec)

/-- 'hopperlaw23.JoinKeeps', WHERE WHAT IT READS IS OF BULK AT MOST 1048576: true; the input reads as it did. -/
def joinKeepsUptoRow : OpenClaim := { program := "ytcbjkejboegmlaa", sum := "bb5e1d734cbffb76fc3d82d811c14f4fdcfb6514d2e70c3e1a891f312f2d4a7e", func := "hopper/hopperlaw23.JoinKeeps", spec := "joinKeeps", unfollowed := true, recurses := true, apart := false, narrowed := true }
def JoinKeepsUptoSaid : Prop := joinKeepsUptoRow.holds Try.pinned (OpenSpec.upto joinKeepsSpec)

end Rows
end Go.Proofs.Ytcbjkejboegmlaa
