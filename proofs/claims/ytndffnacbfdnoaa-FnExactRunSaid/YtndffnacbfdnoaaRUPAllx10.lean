-- Lines of PAllx10 that this claim uses.
import Derived.Test.YtndffnacbfdnoaaRUSqd
import Derived.Test.YtndffnacbfdnoaaRUSq
import Derived.Test.YtndffnacbfdnoaaRUPAllx0
namespace Go.Proofs.Ytndffnacbfdnoaa.PAll
open Go.RowKit Go.Proofs.YtndffnacbfdnoaaW.PrintWords Go.Proofs.YtndffnacbfdnoaaW.PrintLast Go.Proofs.YtndffnacbfdnoaaW.PrintMore
attribute [local go_sem] max2_int min2_int max_two min_two max_three min_three max_four min_four
set_option linter.unusedVariables false
set_option linter.unusedSimpArgs false
end Go.Proofs.Ytndffnacbfdnoaa.PAll
