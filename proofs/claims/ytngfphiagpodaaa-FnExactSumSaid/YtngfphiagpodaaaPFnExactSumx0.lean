-- PRINTED BY print.sh 35421559b90ae4d0a3588c463048766b98c2df88dd9212a6774a882060cdf62d: not written by this session
import Derived.Test.YtngfphiagpodaaaProg
import Derived.Below
import Derived.Deep.Draws
import Derived.Deep.AppendLies
import Derived.Maps.AppendAt
import Derived.OwnWalk
import Derived.Laws.BytesArg
import Derived.Laws.MakeOwn
import Derived.Laws.OwnMore
import Derived.Deep.OwnRows
import Derived.Tactics
import Derived.Lib.ConvBytes
import Derived.Laws.Slices
import Derived.WalkKit
import Derived.KernelRfl
import Derived.RowKit3
import Derived.Deep.LoopGhost
import Derived.Deep.QuietTactic
import Derived.BigQuiet
import Derived.WideLaws
import Derived.Deep.DeepCutAuto
import Derived.Deep.CutBlock
import Derived.Deep.RegionHeld3
import Derived.Laws.Rows
import Derived.Lib.AppendStr
import Derived.ArgAppend
import Derived.Laws.IdiomCopy
import Derived.OrdersHeld
import Derived.Laws.BitsLemmas
import Derived.RowKit
import Derived.Test.YtngfphiagpodaaaWWords
import Derived.Test.YtngfphiagpodaaaWLast
import Derived.Test.YtngfphiagpodaaaWTab
import Derived.Test.YtngfphiagpodaaaWFour
import Derived.Test.YtngfphiagpodaaaWQPut
import Derived.Test.YtngfphiagpodaaaWApart
import Derived.Test.YtngfphiagpodaaaWArr
import Derived.Test.YtngfphiagpodaaaWZeros
import Derived.Test.YtngfphiagpodaaaWFoot
import Derived.Test.YtngfphiagpodaaaWKept
import Derived.Test.YtngfphiagpodaaaWShare
import Derived.Test.YtngfphiagpodaaaWN
import Derived.Test.YtngfphiagpodaaaWFootNe
import Derived.Test.YtngfphiagpodaaaWAt
import Derived.Test.YtngfphiagpodaaaWEqStruct
import Derived.Test.YtngfphiagpodaaaWRepsOne
import Derived.Test.YtngfphiagpodaaaWInv
import Derived.Test.YtngfphiagpodaaaWInvWords
import Derived.Test.YtngfphiagpodaaaWGuard
import Derived.Test.YtngfphiagpodaaaWNEv
import Derived.Test.YtngfphiagpodaaaWMore
namespace Go.Proofs.Ytngfphiagpodaaa.PFnExactSum
open Go.RowKit Go.Proofs.YtngfphiagpodaaaW.PrintWords Go.Proofs.YtngfphiagpodaaaW.PrintLast Go.Proofs.YtngfphiagpodaaaW.PrintMore
attribute [local go_sem] max2_int min2_int max_two min_two max_three min_three max_four min_four   -- for this text's walks alone
set_option linter.unusedVariables false
set_option linter.unusedSimpArgs false



def errW : Option Int → Value
  | none => .nilIface
  | some c => .iface 0 (.int .i64 c)
theorem errW_none : errW none = .nilIface := rfl
theorem errW_some (c : Int) : errW (some c) = .iface 0 (.int .i64 c) := rfl

theorem info5 : (Try.prog.info? 5).map (fun i => (i.zero, i.size, i.bytes)) = some (some (.int .u8 0), 1, 1) := by kernel_rfl
-- the values' own types

end Go.Proofs.Ytngfphiagpodaaa.PFnExactSum
