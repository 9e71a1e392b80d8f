-- Lines of PAllx17 that this claim uses.
import Derived.Test.YtndffnacbfdnoaaCOSqd
import Derived.Test.YtndffnacbfdnoaaCOSqc
import Derived.Test.YtndffnacbfdnoaaCOSq
import Derived.Test.YtndffnacbfdnoaaCOPAllx0
import Derived.Test.YtndffnacbfdnoaaCOPAllx15
import Derived.Test.YtndffnacbfdnoaaCOPAllx16
namespace Go.Proofs.Ytndffnacbfdnoaa.PAll
open Go.RowKit Go.Proofs.YtndffnacbfdnoaaW.PrintWords Go.Proofs.YtndffnacbfdnoaaW.PrintLast Go.Proofs.YtndffnacbfdnoaaW.PrintMore
attribute [local go_sem] max2_int min2_int max_two min_two max_three min_three max_four min_four   -- for this text's walks alone
set_option linter.unusedVariables false
set_option linter.unusedSimpArgs false
end Go.Proofs.Ytndffnacbfdnoaa.PAll
