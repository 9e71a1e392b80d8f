-- Lines of WGuard that this claim uses.
import Derived.Test.YtndffnacbfdnoaaTTWWords
namespace Go.Proofs.YtndffnacbfdnoaaW.PrintWords
open Go.RowKit
section
variable {P : Program} {ops : Array Oper} {rest : List Oper} {o : Oper} {a : Act} {Q : Exit → Act → World → Prop} {W : World}
end
end Go.Proofs.YtndffnacbfdnoaaW.PrintWords
