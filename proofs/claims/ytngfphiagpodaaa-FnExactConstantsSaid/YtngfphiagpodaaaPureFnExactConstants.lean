/- The law FnExactConstants: the printed function answers true. No conditions. -/
import Derived.Test.YtngfphiagpodaaaPFnExactConstantsx1
namespace Go.Proofs.Ytngfphiagpodaaa.Pure
open Go.RowKit Go.Proofs.Ytngfphiagpodaaa.PFnExactConstants Go.Proofs.YtngfphiagpodaaaW.PrintWords Go.Proofs.YtngfphiagpodaaaW.PrintLast

theorem FnExactConstants : laws_FnExactConstants.Pure := rfl

end Go.Proofs.Ytngfphiagpodaaa.Pure
