import Derived.Test.YtljhlpkoilapiaaProg
import Derived.Below
import Derived.Deep.Draws
import Derived.Deep.AppendLies
import Derived.Maps.AppendAt
import Derived.OwnWalk
import Derived.Laws.BytesArg
import Derived.Laws.MakeOwn
import Derived.Laws.OwnMore
import Derived.Deep.OwnRows
import Derived.Tactics
import Derived.Lib.ConvBytes
import Derived.Laws.Slices
import Derived.WalkKit
import Derived.KernelRfl
import Derived.RowKit3
import Derived.Deep.LoopGhost
import Derived.Deep.QuietTactic
import Derived.BigQuiet
import Derived.WideLaws
import Derived.Deep.DeepCutAuto
import Derived.Deep.CutBlock
import Derived.Deep.RegionHeld3
import Derived.Laws.Rows
import Derived.Lib.AppendStr
import Derived.ArgAppend
import Derived.Laws.IdiomCopy
import Derived.OrdersHeld
import Derived.Laws.BitsLemmas
import Derived.RowKit
import Derived.Lib.SliceRun
import Derived.Lib.SlBytesConst
import Derived.Shelf.Small.Bits
import Derived.Test.YtljhlpkoilapiaaZWWords
import Derived.Test.YtljhlpkoilapiaaZWLast
import Derived.Test.YtljhlpkoilapiaaZWTab
import Derived.Test.YtljhlpkoilapiaaZWFour
import Derived.Test.YtljhlpkoilapiaaZWQPut
import Derived.Test.YtljhlpkoilapiaaZWApart
import Derived.Test.YtljhlpkoilapiaaZWArr
import Derived.Test.YtljhlpkoilapiaaZWZeros
import Derived.Test.YtljhlpkoilapiaaZWFoot
import Derived.Test.YtljhlpkoilapiaaZWKept
import Derived.Test.YtljhlpkoilapiaaZWShare
import Derived.Test.YtljhlpkoilapiaaZWN
import Derived.Test.YtljhlpkoilapiaaZWFootNe
import Derived.Test.YtljhlpkoilapiaaZWAt
import Derived.Test.YtljhlpkoilapiaaZWEqStruct
import Derived.Test.YtljhlpkoilapiaaZWRepsOne
import Derived.Test.YtljhlpkoilapiaaZWInv
import Derived.Test.YtljhlpkoilapiaaZWInvWords
import Derived.Test.YtljhlpkoilapiaaZWGuard
import Derived.Test.YtljhlpkoilapiaaZWNEv
import Derived.Test.YtljhlpkoilapiaaZWMore
-- Written by hp.py, a wrapper round the kit's print; not by print.sh.
namespace Go.Proofs.Ytljhlpkoilapiaa.P
open Go.RowKit Go.Proofs.YtljhlpkoilapiaaW.PrintWords Go.Proofs.YtljhlpkoilapiaaW.PrintLast Go.Proofs.YtljhlpkoilapiaaW.PrintMore
attribute [local go_sem] max2_int min2_int max_two min_two max_three min_three max_four min_four   -- for this text's walks alone
set_option linter.unusedVariables false
set_option linter.unusedSimpArgs false



def errW : Option Int → Value
  | none => .nilIface
  | some c => .iface 0 (.int .i64 c)
theorem errW_none : errW none = .nilIface := rfl
theorem errW_some (c : Int) : errW (some c) = .iface 0 (.int .i64 c) := rfl

theorem info3 : (Try.prog.info? 3).map (fun i => (i.zero, i.size, i.bytes)) = some (some (.int .i64 0), 1, 8) := by kernel_rfl
theorem info5 : (Try.prog.info? 5).map (fun i => (i.zero, i.size, i.bytes)) = some (some (.int .u8 0), 1, 1) := by kernel_rfl
theorem info9 : (Try.prog.info? 9).map (fun i => (i.zero, i.size, i.bytes)) = some (some (.string ⟨#[]⟩), 1, 16) := by kernel_rfl
-- the values' own types
end Go.Proofs.Ytljhlpkoilapiaa.P
