-- Lines of Sqc that this claim uses.
import Derived.Test.YtndffnacbfdnoaaCOSq
namespace Go.Proofs.Ytndffnacbfdnoaa.PAll
open Go.RowKit Go.Proofs.YtndffnacbfdnoaaW.PrintWords Go.Proofs.YtndffnacbfdnoaaW.PrintLast Go.Proofs.YtndffnacbfdnoaaW.PrintMore
theorem qk {w W W2 : World} {g : Nat} (h : Aside0 (KeepBut w W g none)) (q : KeepBut w W g none → KeepBut w W2 g none := by
    intro h_; repeat (first | (with_reducible first | exact h_ | apply KeepBut.set_ | apply keep_drewN | apply keep_drew | apply keep_alloc | refine keep_far ?_ (Aside0.out (by assumption)) _) | exact h_)) : KeepBut w W2 g none := q h.out
end Go.Proofs.Ytndffnacbfdnoaa.PAll
