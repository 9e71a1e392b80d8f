-- Lines of Pk that this claim uses.
import Derived.Test.YtndffnacbfdnoaaCOPAllx5
import Derived.Test.YtndffnacbfdnoaaCOPAllx7
import Derived.Test.YtndffnacbfdnoaaCOPAllx8
import Derived.Test.YtndffnacbfdnoaaCOPAllx9
import Derived.Test.YtndffnacbfdnoaaCOPAllx10
import Derived.Test.YtndffnacbfdnoaaCOPlain
namespace Go.Proofs.Ytndffnacbfdnoaa.Pure
open Go.RowKit Go.Proofs.YtndffnacbfdnoaaW.PrintWords Go.Proofs.YtndffnacbfdnoaaW.PrintLast Go.Proofs.Ytndffnacbfdnoaa.PAll Go.Proofs.Ytndffnacbfdnoaa.Plain
def conv (x : S99) : S60 := ⟨x.f0, x.f1, x.f2, x.f3⟩
theorem rd60 (L : List S60) (i : Nat) (h : i < L.length) : rd_T60 L (i : Int) = L[i] := by
  unfold rd_T60
  rw [Int.toNat_natCast]
  exact getD_at L z60 i h
def mk (i : Nat) : Nat → List S60
  | 0 => []
  | n + 1 => ⟨1 + 4 * (i : Int), 2 + 4 * (i : Int), 3 + 4 * (i : Int), 4 + 4 * (i : Int)⟩ :: mk (i + 1) n
end Go.Proofs.Ytndffnacbfdnoaa.Pure
