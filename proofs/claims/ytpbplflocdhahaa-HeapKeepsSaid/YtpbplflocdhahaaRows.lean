/-
  No cell of these rows narrows 'for every input' (looked for: loops, veiled, ifaces, maps, wideKeys, modest, calm, conditions, laid).
  DERIVED. THE GIVEN ROWS OF THIS SEAT. 5 by the template 'for every input the law returns true; each argument reads behind the call as it read before'; 0 by the template 'total and deterministic' (their statements: YtpbplflocdhahaaTotals.lean).
  GIVEN WITH THE SEED: the statements are not yours to turn. If you find one false, say at which input.
  Laid BY PROGRAM, IN A SANDBOX (cutbox-rows.mjs): the forced cells as the released guide's own fill.sh prints them over the translation 955681b0c07f1093… (all of the seat's roots in one cut). By AI agents, Wed Nov 11 2026. No macro, syntax, notation, axiom, sorry.
-/
import Derived.Test.YtpbplflocdhahaaChecked
import GoSem.Claim
import GoSem.ClaimJoined
import GoSem.ClaimMapViews
import Derived.JoinedTies
import Derived.KernelRfl
namespace Go.Proofs.Ytpbplflocdhahaa
/- THE CELL 'sum', in the pinned program and in every row, IS THE sha256 OF THE DUMP (.gsa) THAT YtpbplflocdhahaaProg.lean LOADS. Nothing in Lean hashes anything: it is a label: what it is worth is what the hold of that sum in a sandbox is worth. -/
noncomputable def Try.pinned : Pinned := { name := "ytpbplflocdhahaa", sum := "955681b0c07f10933ea043032868db192281936d7e670558ac8fe6effdc4bd47", checked := Try.checked }
namespace Rows
def none {H : Type} : Left H := { results := [], args := [] }

/-- 'hopperlaw07.HeapAdds': WHATEVER THE INPUT: true; the input reads as it did. -/
def heapAddsSpec : ChangeSpec := { name := "heapAdds", fn := fun _ => fun
  | [d1, d2] => { results := [.lit (.bool true)], args := [d1, d2] }
  | _ => none }
def heapAddsRow : OpenClaim := { program := "ytpbplflocdhahaa", sum := "955681b0c07f10933ea043032868db192281936d7e670558ac8fe6effdc4bd47", func := "hopper/hopperlaw07.HeapAdds", spec := "heapAdds", inPlace := ["internal/bytealg.MakeNoZero"], apart := false }
def HeapAddsSaid : Prop := heapAddsRow.holds Try.pinned (OpenSpec.ofChange heapAddsSpec)

/-- ITS FALSE NEIGHBOUR: 'it returns false'. Refute it at one input. -/
def heapAddsWrong : ChangeSpec := { name := "heapAdds", fn := fun _ => fun
  | [d1, d2] => { results := [.lit (.bool false)], args := [d1, d2] }
  | _ => none }
def HeapAddsWrongFalsely : Prop := heapAddsRow.holds Try.pinned (OpenSpec.ofChange heapAddsWrong)

/-- 'hopperlaw07.HeapOrder': WHATEVER THE INPUT: true; the input reads as it did. -/
def heapOrderSpec : ChangeSpec := { name := "heapOrder", fn := fun _ => fun
  | [d1, d2, d3] => { results := [.lit (.bool true)], args := [d1, d2, d3] }
  | _ => none }
def heapOrderRow : OpenClaim := { program := "ytpbplflocdhahaa", sum := "955681b0c07f10933ea043032868db192281936d7e670558ac8fe6effdc4bd47", func := "hopper/hopperlaw07.HeapOrder", spec := "heapOrder", inPlace := ["internal/bytealg.MakeNoZero"], apart := false }
def HeapOrderSaid : Prop := heapOrderRow.holds Try.pinned (OpenSpec.ofChange heapOrderSpec)

/-- ITS FALSE NEIGHBOUR: 'it returns false'. Refute it at one input. -/
def heapOrderWrong : ChangeSpec := { name := "heapOrder", fn := fun _ => fun
  | [d1, d2, d3] => { results := [.lit (.bool false)], args := [d1, d2, d3] }
  | _ => none }
def HeapOrderWrongFalsely : Prop := heapOrderRow.holds Try.pinned (OpenSpec.ofChange heapOrderWrong)

/-- 'hopperlaw07.HeapGets': WHATEVER THE INPUT: true; the input reads as it did. -/
def heapGetsSpec : ChangeSpec := { name := "heapGets", fn := fun _ => fun
  | [d1, d2, d3] => { results := [.lit (.bool true)], args := [d1, d2, d3] }
  | _ => none }
def heapGetsRow : OpenClaim := { program := "ytpbplflocdhahaa", sum := "955681b0c07f10933ea043032868db192281936d7e670558ac8fe6effdc4bd47", func := "hopper/hopperlaw07.HeapGets", spec := "heapGets", inPlace := ["internal/bytealg.MakeNoZero"], unfollowed := true, recurses := true, apart := false }
def HeapGetsSaid : Prop := heapGetsRow.holds Try.pinned (OpenSpec.ofChange heapGetsSpec)

/-- ITS FALSE NEIGHBOUR: 'it returns false'. Refute it at one input. -/
def heapGetsWrong : ChangeSpec := { name := "heapGets", fn := fun _ => fun
  | [d1, d2, d3] => { results := [.lit (.bool false)], args := [d1, d2, d3] }
  | _ => none }
def HeapGetsWrongFalsely : Prop := heapGetsRow.holds Try.pinned (OpenSpec.ofChange heapGetsWrong)

/-- 'hopperlaw07.HeapOf': WHATEVER THE INPUT: true; the input reads as it did. -/
def heapOfSpec : ChangeSpec := { name := "heapOf", fn := fun _ => fun
  | [d1, d2, d3] => { results := [.lit (.bool true)], args := [d1, d2, d3] }
  | _ => none }
def heapOfRow : OpenClaim := { program := "ytpbplflocdhahaa", sum := "955681b0c07f10933ea043032868db192281936d7e670558ac8fe6effdc4bd47", func := "hopper/hopperlaw07.HeapOf", spec := "heapOf", inPlace := ["internal/bytealg.MakeNoZero"], unfollowed := true, recurses := true, apart := false }
def HeapOfSaid : Prop := heapOfRow.holds Try.pinned (OpenSpec.ofChange heapOfSpec)

/-- ITS FALSE NEIGHBOUR: 'it returns false'. Refute it at one input. -/
def heapOfWrong : ChangeSpec := { name := "heapOf", fn := fun _ => fun
  | [d1, d2, d3] => { results := [.lit (.bool false)], args := [d1, d2, d3] }
  | _ => none }
def HeapOfWrongFalsely : Prop := heapOfRow.holds Try.pinned (OpenSpec.ofChange heapOfWrong)

/-- 'hopperlaw07.HeapKeeps': WHATEVER THE INPUT: true; the input reads as it did. -/
def heapKeepsSpec : ChangeSpec := { name := "heapKeeps", fn := fun _ => fun
  | [d] => { results := [.lit (.bool true)], args := [d] }
  | _ => none }
def heapKeepsRow : OpenClaim := { program := "ytpbplflocdhahaa", sum := "955681b0c07f10933ea043032868db192281936d7e670558ac8fe6effdc4bd47", func := "hopper/hopperlaw07.HeapKeeps", spec := "heapKeeps", inPlace := ["internal/bytealg.MakeNoZero"], unfollowed := true, recurses := true, apart := false }
def HeapKeepsSaid : Prop := heapKeepsRow.holds Try.pinned (OpenSpec.ofChange heapKeepsSpec)

/-- ITS FALSE NEIGHBOUR: 'it returns false'. Refute it at one input. -/
def heapKeepsWrong : ChangeSpec := { name := "heapKeeps", fn := fun _ => fun
  | [d] => { results := [.lit (.bool false)], args := [d] }
  | _ => none }
def HeapKeepsWrongFalsely : Prop := heapKeepsRow.holds Try.pinned (OpenSpec.ofChange heapKeepsWrong)

/- THE SECOND FORM. 'bulk': how many values and letters a reading holds, each counted each time it is reached (what is shared counts as often as it is met; a slice's spare places count too). A statement '..UptoSaid' is the law's where the arguments, and the package variables that the reading takes, are together of bulk at most 1048576: NARROWER than '..Said'. Prove '..Said' where nothing that the law and all that it calls make is longer than what came in: it says more and counts as full. Else prove '..UptoSaid'. A law counts once. -/
mutual
def uptoBulk {H : Type} : DataW H → Nat
  | .lit (.string bytes) => bytes.length + 1
  | .lit _ => 1
  | .nil => 1
  | .ptr d => uptoBulk d + 1
  | .slice elems spare => uptoBulkAll elems + uptoBulkAll spare + 1
  | .agg parts => uptoBulkAll parts + 1
  | .iface _ d => uptoBulk d + 1
  | .map entries => uptoBulkEntries entries + 1
  | .held _ => 1
def uptoBulkAll {H : Type} : List (DataW H) → Nat
  | [] => 0
  | d :: r => uptoBulk d + uptoBulkAll r
def uptoBulkEntries {H : Type} : List (Lit × DataW H) → Nat
  | [] => 0
  | x :: r => uptoBulkEntry x + uptoBulkEntries r
def uptoBulkEntry {H : Type} : Lit × DataW H → Nat
  | (.string bytes, d) => bytes.length + uptoBulk d + 1
  | (_, d) => uptoBulk d + 1
 end
def uptoSmall : (H : Type) → List (DataW H) → Bool := fun _ ds => decide (uptoBulkAll ds ≤ 1048576)
def OpenSpec.upto (s : _root_.Go.ChangeSpec) : _root_.Go.OpenSpec := { _root_.Go.OpenSpec.ofChange s with cond := some uptoSmall }

/-- 'hopperlaw07.HeapAdds', WHERE WHAT IT READS IS OF BULK AT MOST 1048576: true; the input reads as it did. -/
def heapAddsUptoRow : OpenClaim := { program := "ytpbplflocdhahaa", sum := "955681b0c07f10933ea043032868db192281936d7e670558ac8fe6effdc4bd47", func := "hopper/hopperlaw07.HeapAdds", spec := "heapAdds", inPlace := ["internal/bytealg.MakeNoZero"], apart := false, narrowed := true }
def HeapAddsUptoSaid : Prop := heapAddsUptoRow.holds Try.pinned (OpenSpec.upto heapAddsSpec)

/-- 'hopperlaw07.HeapOrder', WHERE WHAT IT READS IS OF BULK AT MOST 1048576: true; the input reads as it did. -/
def heapOrderUptoRow : OpenClaim := { program := "ytpbplflocdhahaa", sum := "955681b0c07f10933ea043032868db192281936d7e670558ac8fe6effdc4bd47", func := "hopper/hopperlaw07.HeapOrder", spec := "heapOrder", inPlace := ["internal/bytealg.MakeNoZero"], apart := false, narrowed := true }
def HeapOrderUptoSaid : Prop := heapOrderUptoRow.holds Try.pinned (OpenSpec.upto heapOrderSpec)

/-- 'hopperlaw07.HeapGets', WHERE WHAT IT READS IS OF BULK AT MOST 1048576: true; the input reads as it did. -/
def heapGetsUptoRow : OpenClaim := { program := "ytpbplflocdhahaa", sum := "955681b0c07f10933ea043032868db192281936d7e670558ac8fe6effdc4bd47", func := "hopper/hopperlaw07.HeapGets", spec := "heapGets", inPlace := ["internal/bytealg.MakeNoZero"], unfollowed := true, recurses := true, apart := false, narrowed := true }
def HeapGetsUptoSaid : Prop := heapGetsUptoRow.holds Try.pinned (OpenSpec.upto heapGetsSpec)

/-- 'hopperlaw07.HeapOf', WHERE WHAT IT READS IS OF BULK AT MOST 1048576: true; the input reads as it did. -/
def heapOfUptoRow : OpenClaim := { program := "ytpbplflocdhahaa", sum := "955681b0c07f10933ea043032868db192281936d7e670558ac8fe6effdc4bd47", func := "hopper/hopperlaw07.HeapOf", spec := "heapOf", inPlace := ["internal/bytealg.MakeNoZero"], unfollowed := true, recurses := true, apart := false, narrowed := true }
def HeapOfUptoSaid : Prop := heapOfUptoRow.holds Try.pinned (OpenSpec.upto heapOfSpec)

/-- 'hopperlaw07.HeapKeeps', WHERE WHAT IT READS IS OF BULK AT MOST 1048576: true; the input reads as it did. -/
def heapKeepsUptoRow : OpenClaim := { program := "ytpbplflocdhahaa", sum := "955681b0c07f10933ea043032868db192281936d7e670558ac8fe6effdc4bd47", func := "hopper/hopperlaw07.HeapKeeps", spec := "heapKeeps", inPlace := ["internal/bytealg.MakeNoZero"], unfollowed := true, recurses := true, apart := false, narrowed := true }
def HeapKeepsUptoSaid : Prop := heapKeepsUptoRow.holds Try.pinned (OpenSpec.upto heapKeepsSpec)

end Rows
end Go.Proofs.Ytpbplflocdhahaa
