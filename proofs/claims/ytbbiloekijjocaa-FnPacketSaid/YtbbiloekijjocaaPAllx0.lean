-- Walks written by a program of this session (wip/), out of the translation: Lean functions and the contracts of the Go functions.
import Derived.Test.YtbbiloekijjocaaProg
import Derived.Below
import Derived.Deep.Draws
import Derived.Deep.AppendLies
import Derived.Maps.AppendAt
import Derived.OwnWalk
import Derived.Laws.BytesArg
import Derived.Laws.MakeOwn
import Derived.Laws.OwnMore
import Derived.Deep.OwnRows
import Derived.Tactics
import Derived.Lib.ConvBytes
import Derived.Laws.Slices
import Derived.WalkKit
import Derived.KernelRfl
import Derived.RowKit3
import Derived.Deep.LoopGhost
import Derived.Deep.QuietTactic
import Derived.BigQuiet
import Derived.WideLaws
import Derived.Deep.DeepCutAuto
import Derived.Deep.CutBlock
import Derived.Deep.RegionHeld3
import Derived.Laws.Rows
import Derived.Lib.AppendStr
import Derived.ArgAppend
import Derived.Laws.IdiomCopy
import Derived.OrdersHeld
import Derived.Laws.BitsLemmas
import Derived.RowKit
import Derived.Test.YtbbiloekijjocaaWWords
import Derived.Test.YtbbiloekijjocaaWLast
import Derived.Test.YtbbiloekijjocaaWTab
import Derived.Test.YtbbiloekijjocaaWFour
import Derived.Test.YtbbiloekijjocaaWQPut
import Derived.Test.YtbbiloekijjocaaWApart
import Derived.Test.YtbbiloekijjocaaWArr
import Derived.Test.YtbbiloekijjocaaWZeros
import Derived.Test.YtbbiloekijjocaaWFoot
import Derived.Test.YtbbiloekijjocaaWKept
import Derived.Test.YtbbiloekijjocaaWShare
import Derived.Test.YtbbiloekijjocaaWN
import Derived.Test.YtbbiloekijjocaaWFootNe
import Derived.Test.YtbbiloekijjocaaWAt
import Derived.Test.YtbbiloekijjocaaWEqStruct
import Derived.Test.YtbbiloekijjocaaWRepsOne
import Derived.Test.YtbbiloekijjocaaWInv
import Derived.Test.YtbbiloekijjocaaWInvWords
import Derived.Test.YtbbiloekijjocaaWGuard
import Derived.Test.YtbbiloekijjocaaWNEv
import Derived.Test.YtbbiloekijjocaaWMore
namespace Go.Proofs.Ytbbiloekijjocaa.PAll
open Go.RowKit Go.Proofs.YtbbiloekijjocaaW.PrintWords Go.Proofs.YtbbiloekijjocaaW.PrintLast Go.Proofs.YtbbiloekijjocaaW.PrintMore
attribute [local go_sem] max2_int min2_int max_two min_two max_three min_three max_four min_four   -- for this text's walks alone
set_option linter.unusedVariables false
set_option linter.unusedSimpArgs false



def errW : Option Int → Value
  | none => .nilIface
  | some c => .iface 0 (.int .i64 c)
theorem errW_none : errW none = .nilIface := rfl
theorem errW_some (c : Int) : errW (some c) = .iface 0 (.int .i64 c) := rfl

theorem info5 : (Try.prog.info? 5).map (fun i => (i.zero, i.size, i.bytes)) = some (some (.int .u8 0), 1, 1) := by kernel_rfl
-- the values' own types

end Go.Proofs.Ytbbiloekijjocaa.PAll
