/-
  No cell of these rows narrows 'for every input' (looked for: loops, veiled, ifaces, maps, wideKeys, modest, calm, conditions, laid).
  DERIVED. THE GIVEN ROWS OF THIS SEAT. 5 by the template 'for every input the law returns true; each argument reads behind the call as it read before'; 0 by the template 'total and deterministic' (their statements: YtljhlpkoilapiaaTotals.lean).
  GIVEN WITH THE SEED: the statements are not yours to turn. If you find one false, say at which input.
  Laid BY PROGRAM, IN A SANDBOX (cutbox-rows.mjs): the forced cells as the released guide's own fill.sh prints them over the translation b4126ca44c7862c9… (all of the seat's roots in one cut). By AI agents, Wed Nov 11 2026. No macro, syntax, notation, axiom, sorry.
-/
import Derived.Test.YtljhlpkoilapiaaChecked
import GoSem.Claim
import GoSem.ClaimJoined
import GoSem.ClaimMapViews
import Derived.JoinedTies
import Derived.KernelRfl
namespace Go.Proofs.Ytljhlpkoilapiaa
/- THE CELL 'sum', in the pinned program and in every row, IS THE sha256 OF THE DUMP (.gsa) THAT YtljhlpkoilapiaaProg.lean LOADS. Nothing in Lean hashes anything: it is a label: what it is worth is what the hold of that sum in a sandbox is worth. -/
noncomputable def Try.pinned : Pinned := { name := "ytljhlpkoilapiaa", sum := "b4126ca44c7862c95d57dc5c221c62686fba0e9c4431675cf7da29a6f97c7242", checked := Try.checked }
namespace Rows
def none {H : Type} : Left H := { results := [], args := [] }

/-- 'hopperlaw13.FrontBuilds': WHATEVER THE INPUT: true; the input reads as it did. -/
def frontBuildsSpec : ChangeSpec := { name := "frontBuilds", fn := fun _ => fun
  | [d1, d2] => { results := [.lit (.bool true)], args := [d1, d2] }
  | _ => none }
def frontBuildsRow : OpenClaim := { program := "ytljhlpkoilapiaa", sum := "b4126ca44c7862c95d57dc5c221c62686fba0e9c4431675cf7da29a6f97c7242", func := "hopper/hopperlaw13.FrontBuilds", spec := "frontBuilds", unfollowed := true, recurses := true, apart := false }
def FrontBuildsSaid : Prop := frontBuildsRow.holds Try.pinned (OpenSpec.ofChange frontBuildsSpec)

/-- ITS FALSE NEIGHBOUR: 'it returns false'. Refute it at one input. -/
def frontBuildsWrong : ChangeSpec := { name := "frontBuilds", fn := fun _ => fun
  | [d1, d2] => { results := [.lit (.bool false)], args := [d1, d2] }
  | _ => none }
def FrontBuildsWrongFalsely : Prop := frontBuildsRow.holds Try.pinned (OpenSpec.ofChange frontBuildsWrong)

/-- 'hopperlaw13.FrontOpens': WHATEVER THE INPUT: true; the input reads as it did. -/
def frontOpensSpec : ChangeSpec := { name := "frontOpens", fn := fun _ => fun
  | [d] => { results := [.lit (.bool true)], args := [d] }
  | _ => none }
def frontOpensRow : OpenClaim := { program := "ytljhlpkoilapiaa", sum := "b4126ca44c7862c95d57dc5c221c62686fba0e9c4431675cf7da29a6f97c7242", func := "hopper/hopperlaw13.FrontOpens", spec := "frontOpens", unfollowed := true, recurses := true, apart := false }
def FrontOpensSaid : Prop := frontOpensRow.holds Try.pinned (OpenSpec.ofChange frontOpensSpec)

/-- ITS FALSE NEIGHBOUR: 'it returns false'. Refute it at one input. -/
def frontOpensWrong : ChangeSpec := { name := "frontOpens", fn := fun _ => fun
  | [d] => { results := [.lit (.bool false)], args := [d] }
  | _ => none }
def FrontOpensWrongFalsely : Prop := frontOpensRow.holds Try.pinned (OpenSpec.ofChange frontOpensWrong)

/-- 'hopperlaw13.FrontBack': WHATEVER THE INPUT: true; the input reads as it did. -/
def frontBackSpec : ChangeSpec := { name := "frontBack", fn := fun _ => fun
  | [d1, d2] => { results := [.lit (.bool true)], args := [d1, d2] }
  | _ => none }
def frontBackRow : OpenClaim := { program := "ytljhlpkoilapiaa", sum := "b4126ca44c7862c95d57dc5c221c62686fba0e9c4431675cf7da29a6f97c7242", func := "hopper/hopperlaw13.FrontBack", spec := "frontBack", unfollowed := true, recurses := true, apart := false }
def FrontBackSaid : Prop := frontBackRow.holds Try.pinned (OpenSpec.ofChange frontBackSpec)

/-- ITS FALSE NEIGHBOUR: 'it returns false'. Refute it at one input. -/
def frontBackWrong : ChangeSpec := { name := "frontBack", fn := fun _ => fun
  | [d1, d2] => { results := [.lit (.bool false)], args := [d1, d2] }
  | _ => none }
def FrontBackWrongFalsely : Prop := frontBackRow.holds Try.pinned (OpenSpec.ofChange frontBackWrong)

/-- 'hopperlaw13.FrontCut': WHATEVER THE INPUT: true; the input reads as it did. -/
def frontCutSpec : ChangeSpec := { name := "frontCut", fn := fun _ => fun
  | [d1, d2, d3] => { results := [.lit (.bool true)], args := [d1, d2, d3] }
  | _ => none }
def frontCutRow : OpenClaim := { program := "ytljhlpkoilapiaa", sum := "b4126ca44c7862c95d57dc5c221c62686fba0e9c4431675cf7da29a6f97c7242", func := "hopper/hopperlaw13.FrontCut", spec := "frontCut", unfollowed := true, recurses := true, apart := false }
def FrontCutSaid : Prop := frontCutRow.holds Try.pinned (OpenSpec.ofChange frontCutSpec)

/-- ITS FALSE NEIGHBOUR: 'it returns false'. Refute it at one input. -/
def frontCutWrong : ChangeSpec := { name := "frontCut", fn := fun _ => fun
  | [d1, d2, d3] => { results := [.lit (.bool false)], args := [d1, d2, d3] }
  | _ => none }
def FrontCutWrongFalsely : Prop := frontCutRow.holds Try.pinned (OpenSpec.ofChange frontCutWrong)

/-- 'hopperlaw13.FrontKeeps': WHATEVER THE INPUT: true; the input reads as it did. -/
def frontKeepsSpec : ChangeSpec := { name := "frontKeeps", fn := fun _ => fun
  | [d] => { results := [.lit (.bool true)], args := [d] }
  | _ => none }
def frontKeepsRow : OpenClaim := { program := "ytljhlpkoilapiaa", sum := "b4126ca44c7862c95d57dc5c221c62686fba0e9c4431675cf7da29a6f97c7242", func := "hopper/hopperlaw13.FrontKeeps", spec := "frontKeeps", unfollowed := true, recurses := true, apart := false }
def FrontKeepsSaid : Prop := frontKeepsRow.holds Try.pinned (OpenSpec.ofChange frontKeepsSpec)

/-- ITS FALSE NEIGHBOUR: 'it returns false'. Refute it at one input. -/
def frontKeepsWrong : ChangeSpec := { name := "frontKeeps", fn := fun _ => fun
  | [d] => { results := [.lit (.bool false)], args := [d] }
  | _ => none }
def FrontKeepsWrongFalsely : Prop := frontKeepsRow.holds Try.pinned (OpenSpec.ofChange frontKeepsWrong)

/- THE SECOND FORM. 'bulk': how many values and letters a reading holds, each counted each time it is reached (what is shared counts as often as it is met; a slice's spare places count too). A statement '..UptoSaid' is the law's where the arguments, and the package variables that the reading takes, are together of bulk at most 1048576: NARROWER than '..Said'. Prove '..Said' where nothing that the law and all that it calls make is longer than what came in: it says more and counts as full. Else prove '..UptoSaid'. A law counts once. -/
mutual
def uptoBulk {H : Type} : DataW H → Nat
  | .lit (.string bytes) => bytes.length + 1
  | .lit _ => 1
  | .nil => 1
  | .ptr d => uptoBulk d + 1
  | .slice elems spare => uptoBulkAll elems + uptoBulkAll spare + 1
  | .agg parts => uptoBulkAll parts + 1
  | .iface _ d => uptoBulk d + 1
  | .map entries => uptoBulkEntries entries + 1
  | .held _ => 1
def uptoBulkAll {H : Type} : List (DataW H) → Nat
  | [] => 0
  | d :: r => uptoBulk d + uptoBulkAll r
def uptoBulkEntries {H : Type} : List (Lit × DataW H) → Nat
  | [] => 0
  | x :: r => uptoBulkEntry x + uptoBulkEntries r
def uptoBulkEntry {H : Type} : Lit × DataW H → Nat
  | (.string bytes, d) => bytes.length + uptoBulk d + 1
  | (_, d) => uptoBulk d + 1
 end
def uptoSmall : (H : Type) → List (DataW H) → Bool := fun _ ds => decide (uptoBulkAll ds ≤ 1048576)
def OpenSpec.upto (s : _root_.Go.ChangeSpec) : _root_.Go.OpenSpec := { _root_.Go.OpenSpec.ofChange s with cond := some uptoSmall }

/-- 'hopperlaw13.FrontBuilds', WHERE WHAT IT READS IS OF BULK AT MOST 1048576: true; the input reads as it did. -/
def frontBuildsUptoRow : OpenClaim := { program := "ytljhlpkoilapiaa", sum := "b4126ca44c7862c95d57dc5c221c62686fba0e9c4431675cf7da29a6f97c7242", func := "hopper/hopperlaw13.FrontBuilds", spec := "frontBuilds", unfollowed := true, recurses := true, apart := false, narrowed := true }
def FrontBuildsUptoSaid : Prop := frontBuildsUptoRow.holds Try.pinned (OpenSpec.upto frontBuildsSpec)

/-- 'hopperlaw13.FrontOpens', WHERE WHAT IT READS IS OF BULK AT MOST 1048576: true; the input reads as it did. -/
def frontOpensUptoRow : OpenClaim := { program := "ytljhlpkoilapiaa", sum := "b4126ca44c7862c95d57dc5c221c62686fba0e9c4431675cf7da29a6f97c7242", func := "hopper/hopperlaw13.FrontOpens", spec := "frontOpens", unfollowed := true, recurses := true, apart := false, narrowed := true }
def FrontOpensUptoSaid : Prop := frontOpensUptoRow.holds Try.pinned (OpenSpec.upto frontOpensSpec)

/-- 'hopperlaw13.FrontBack', WHERE WHAT IT READS IS OF BULK AT MOST 1048576: true; the input reads as it did. -/
def frontBackUptoRow : OpenClaim := { program := "ytljhlpkoilapiaa", sum := "b4126ca44c7862c95d57dc5c221c62686fba0e9c4431675cf7da29a6f97c7242", func := "hopper/hopperlaw13.FrontBack", spec := "frontBack", unfollowed := true, recurses := true, apart := false, narrowed := true }
def FrontBackUptoSaid : Prop := frontBackUptoRow.holds Try.pinned (OpenSpec.upto frontBackSpec)

/-- 'hopperlaw13.FrontCut', WHERE WHAT IT READS IS OF BULK AT MOST 1048576: true; the input reads as it did. -/
def frontCutUptoRow : OpenClaim := { program := "ytljhlpkoilapiaa", sum := "b4126ca44c7862c95d57dc5c221c62686fba0e9c4431675cf7da29a6f97c7242", func := "hopper/hopperlaw13.FrontCut", spec := "frontCut", unfollowed := true, recurses := true, apart := false, narrowed := true }
def FrontCutUptoSaid : Prop := frontCutUptoRow.holds Try.pinned (OpenSpec.upto frontCutSpec)

/-- 'hopperlaw13.FrontKeeps', WHERE WHAT IT READS IS OF BULK AT MOST 1048576: true; the input reads as it did. -/
def frontKeepsUptoRow : OpenClaim := { program := "ytljhlpkoilapiaa", sum := "b4126ca44c7862c95d57dc5c221c62686fba0e9c4431675cf7da29a6f97c7242", func := "hopper/hopperlaw13.FrontKeeps", spec := "frontKeeps", unfollowed := true, recurses := true, apart := false, narrowed := true }
def FrontKeepsUptoSaid : Prop := frontKeepsUptoRow.holds Try.pinned (OpenSpec.upto frontKeepsSpec)

end Rows
end Go.Proofs.Ytljhlpkoilapiaa
