-- Lines of WInvWords that this claim uses.
import Derived.Test.YtndffnacbfdnoaaENWInv
import Derived.Test.YtndffnacbfdnoaaENWFootNe
namespace Go.Proofs.YtndffnacbfdnoaaW.PrintWords
open Go.RowKit
end Go.Proofs.YtndffnacbfdnoaaW.PrintWords
namespace Go.Proofs.YtndffnacbfdnoaaW.PrintLast
section
variable {ops : Array Oper} {a : Act} {o og : Oper} {g : Nat} {t : Tmp} {u : Bool}
end
end Go.Proofs.YtndffnacbfdnoaaW.PrintLast
