-- Lines of Plain that this claim uses.
import Derived.Test.YtndffnacbfdnoaaRUW
namespace Go.Proofs.Ytndffnacbfdnoaa.Plain
open Go.RowKit Go.Proofs.YtndffnacbfdnoaaW.PrintWords
theorem w64 {x : Int} (h0 : -9223372036854775808 ≤ x) (h1 : x ≤ 9223372036854775807) : wrap64 x = x := by
  unfold wrap64
  omega
theorem wn {i : Nat} (h : i < 9223372036854775807) : wrap64 ((i : Int) + 1) = ((i + 1 : Nat) : Int) := by
  rw [w64 (by omega) (by omega)]
  omega
theorem fill_step {α : Type} (L : List α) (z : α) (i : Nat) (h : i < L.length) : (L.take i ++ List.replicate (L.length - i) z).set i L[i] = L.take (i + 1) ++ List.replicate (L.length - (i + 1)) z := by
  have e : List.replicate (L.length - i) z = z :: List.replicate (L.length - (i + 1)) z := by
    rw [show L.length - i = (L.length - (i + 1)) + 1 by omega, List.replicate_succ]
  have hl : (L.take i).length = i := by simp; omega
  rw [e, List.set_append_right _ _ (by omega), hl, Nat.sub_self, List.set_cons_zero, List.take_succ_eq_append_getElem h, List.append_assoc]
  rfl
theorem getD_at {α : Type} (L : List α) (z : α) (i : Nat) (h : i < L.length) : L.getD i z = L[i] := by
  rw [List.getD_eq_getElem?_getD, List.getElem?_eq_getElem h]
  rfl
theorem rd_at (L : List Int) (i : Nat) (h : i < L.length) : rd L (i : Int) = L[i] := by
  unfold rd
  rw [Int.toNat_natCast]
  exact getD_at L 0 i h
end Go.Proofs.Ytndffnacbfdnoaa.Plain
