-- Lines of Pk that this claim uses.
import Derived.Test.YtndffnacbfdnoaaRUPAllx5
import Derived.Test.YtndffnacbfdnoaaRUPAllx7
import Derived.Test.YtndffnacbfdnoaaRUPAllx8
import Derived.Test.YtndffnacbfdnoaaRUPAllx9
import Derived.Test.YtndffnacbfdnoaaRUPAllx10
import Derived.Test.YtndffnacbfdnoaaRUPlain
namespace Go.Proofs.Ytndffnacbfdnoaa.Pure
open Go.RowKit Go.Proofs.YtndffnacbfdnoaaW.PrintWords Go.Proofs.YtndffnacbfdnoaaW.PrintLast Go.Proofs.Ytndffnacbfdnoaa.PAll Go.Proofs.Ytndffnacbfdnoaa.Plain
def conv (x : S99) : S60 := ⟨x.f0, x.f1, x.f2, x.f3⟩
theorem rd60 (L : List S60) (i : Nat) (h : i < L.length) : rd_T60 L (i : Int) = L[i] := by
  unfold rd_T60
  rw [Int.toNat_natCast]
  exact getD_at L z60 i h
def mk (i : Nat) : Nat → List S60
  | 0 => []
  | n + 1 => ⟨1 + 4 * (i : Int), 2 + 4 * (i : Int), 3 + 4 * (i : Int), 4 + 4 * (i : Int)⟩ :: mk (i + 1) n
theorem rules_same (a b c : Int) : ∃ r, spec_RulesOk.f a b c = some r ∧ impl_RulesOk.f a b c = some r := by
  simp only [spec_RulesOk.f, spec_l1in.f, impl_RulesOk.f]
  by_cases h1 : a ≥ 1 <;> by_cases h2 : a ≤ 1000 <;> by_cases h3 : b ≥ 1 <;> by_cases h4 : b ≤ 10000 <;> by_cases h5 : c ≥ 0 <;> simp [h1, h2, h3, h4, h5]
theorem pok_same (a b c d : Int) : ∃ r, spec_PacketOk.f a b c d = some r ∧ impl_PacketOk.f a b c d = some r := by
  simp only [spec_PacketOk.f, spec_l1in.f, impl_PacketOk.f]
  by_cases h1 : a = 1 <;> by_cases h2 : a = 2 <;> by_cases h3 : b ≥ 0 <;> by_cases h4 : b ≤ 1000000000 <;> by_cases h5 : d ≥ 0 <;> by_cases h6 : d ≤ 1000000000 <;> by_cases h7 : c = 0 <;> simp [h1, h2, h3, h4, h5, h6, h7] <;> omega
theorem pks_loop (t : Int) (l : List S60) (hl : l.length ≤ 1048576) (d : Nat) : ∀ (k i : Nat), l.length - i = d → i ≤ l.length → d < k →
    ∃ r, spec_l2packets.l0 k t l l (l.length : Int) (i : Int) = some (r && decide ((l.length : Int) ≤ 1000)) ∧ impl_packetsOk.l0 k t l (l.length : Int) (i : Int) = some r := by
  induction d with
  | zero =>
    intro k i hd hi hk
    obtain ⟨k, rfl⟩ : ∃ m, k = m + 1 := ⟨k - 1, by omega⟩
    simp only [spec_l2packets.l0, impl_packetsOk.l0]
    rw [if_neg (by omega), if_neg (by omega)]
    exact ⟨true, by simp, rfl⟩
  | succ d ih =>
    intro k i hd hi hk
    obtain ⟨k, rfl⟩ : ∃ m, k = m + 1 := ⟨k - 1, by omega⟩
    simp only [spec_l2packets.l0, impl_packetsOk.l0]
    obtain ⟨b, e1, e2⟩ := pok_same (rd_T60 l (i : Int)).f0 (rd_T60 l (i : Int)).f1 (rd_T60 l (i : Int)).f2 (rd_T60 l (i : Int)).f3
    obtain ⟨r, g1, g2⟩ := ih k (i + 1) (by omega) (by omega) (by omega)
    have c1 : (i : Int) < (l.length : Int) := by omega
    have c2 : (0 : Int) ≤ (i : Int) := by omega
    have c3 : wrap64 ((i : Int) + 1) = ((i + 1 : Nat) : Int) := wn (by omega)
    simp only [c1, c2, c3, if_true, e1, e2, g1, g2, Option.bind_some]
    by_cases hb : b = true
    · rw [if_pos hb, if_pos hb]
      by_cases hf : (rd_T60 l (i : Int)).f3 > t
      · rw [if_pos hf, if_pos hf]
        exact ⟨false, by simp, rfl⟩
      · rw [if_neg hf, if_neg hf]
        exact ⟨r, rfl, rfl⟩
    · rw [if_neg hb, if_neg hb]
      exact ⟨false, by simp, rfl⟩
theorem pks_same (t : Int) (l : List S60) (hl : l.length ≤ 1048576) (k : Nat) (hk : l.length < k) : ∃ r, spec_l2packets.f k t l = some r ∧ impl_packetsOk.f k t l = some r ∧ (r = true → l.length ≤ 1000) := by
  obtain ⟨r, g1, g2⟩ := pks_loop t l hl l.length k 0 (by omega) (by omega) hk
  refine ⟨r && decide ((l.length : Int) ≤ 1000), g1, ?_, fun h => by simp at h; omega⟩
  unfold impl_packetsOk.f
  by_cases h : (l.length : Int) > 1000
  · rw [if_pos h, decide_eq_false (by omega)]
    simp
  · rw [if_neg h, decide_eq_true (by omega)]
    simpa using g2
end Go.Proofs.Ytndffnacbfdnoaa.Pure
