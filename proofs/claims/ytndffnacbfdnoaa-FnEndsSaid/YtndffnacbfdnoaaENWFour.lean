-- Lines of WFour that this claim uses.
import Derived.Test.YtndffnacbfdnoaaENWTab
namespace Go.Proofs.YtndffnacbfdnoaaW.PrintLast
section
variable {P : Program} {ops : Array Oper} {Q : Exit → Act → World → Prop} {md : Region.Mode} {S : World → Prop} {ds : List Nat} {T : Bool × List (List Nat × List Nat)}
end
end Go.Proofs.YtndffnacbfdnoaaW.PrintLast
