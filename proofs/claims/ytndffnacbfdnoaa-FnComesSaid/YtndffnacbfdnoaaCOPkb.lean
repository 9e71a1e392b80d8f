-- Lines of Pkb that this claim uses.
import Derived.Test.YtndffnacbfdnoaaCOPk
import Derived.Test.YtndffnacbfdnoaaCOPAllx6
import Derived.Test.YtndffnacbfdnoaaCOPAllx8
set_option linter.unusedSimpArgs false
namespace Go.Proofs.Ytndffnacbfdnoaa.Pure
open Go.RowKit Go.Proofs.YtndffnacbfdnoaaW.PrintWords Go.Proofs.YtndffnacbfdnoaaW.PrintLast Go.Proofs.YtndffnacbfdnoaaW.PrintMore Go.Proofs.Ytndffnacbfdnoaa.PAll Go.Proofs.Ytndffnacbfdnoaa.Plain
def bStep (v : Int) (c : Int × Int) (p : S60) : Int × Int := if p.f0 = 2 ∧ p.f1 ≤ v then (mx c.1 p.f1, mx c.2 p.f3) else c
def vStep (c : Int × Int) (y : Int) : Int × Int := (wrap64 (c.1 + 1), y)
def bEnd (now every n v x a s h : Int) : Bool × Int × Int × Int × Int × Int × List S60 :=
  if n > 0 ∨ wrap64 (now - s) ≥ every then (true, v, x, a, now, h, [⟨1, v, x, now⟩]) else (true, v, x, a, s, h, [])
theorem rdi (L : List Int) (i : Nat) (h : i < L.length) : rd L (i : Int) = L[i] := rd_at L i h
theorem impl_l1loop (now r0 r1 r2 a s h : Int) (l3 : List Int) (hl : l3.length ≤ 1048576) (d : Nat) : ∀ (k i : Nat) (v x : Int), l3.length - i = d → i ≤ l3.length → d < k →
    impl_boxTick.l1 k now l3 l3 (l3.length : Int) (i : Int) r0 r1 r2 v x a s h = some (bEnd now r0 (l3.length : Int) ((l3.drop i).foldl vStep (v, x)).1 ((l3.drop i).foldl vStep (v, x)).2 a s h) := by
  induction d with
  | zero =>
    intro k i v x hd hi hk
    obtain ⟨k, rfl⟩ : ∃ m, k = m + 1 := ⟨k - 1, by omega⟩
    simp only [impl_boxTick.l1, bEnd]
    rw [if_neg (by omega), List.drop_of_length_le (by omega)]
    simp only [List.foldl_nil]
    by_cases h1 : (l3.length : Int) > 0 <;> by_cases h2 : wrap64 (now - s) ≥ r0 <;> simp only [h1, h2, true_or, or_true, or_self, or_false, false_or, if_true, if_false]
  | succ d ih =>
    intro k i v x hd hi hk
    obtain ⟨k, rfl⟩ : ∃ m, k = m + 1 := ⟨k - 1, by omega⟩
    have hlt : i < l3.length := by omega
    have c1 : (i : Int) < (l3.length : Int) := by omega
    have c2 : (0 : Int) ≤ (i : Int) := by omega
    have c3 : wrap64 ((i : Int) + 1) = ((i + 1 : Nat) : Int) := wn (by omega)
    rw [List.drop_eq_getElem_cons hlt, List.foldl_cons]
    simp only [impl_boxTick.l1, c1, c2, c3, if_true, rdi l3 i hlt]
    exact ih k (i + 1) _ _ (by omega) (by omega) (by omega)
def boxRes (now r0 v x a s h : Int) (l3 : List Int) (ps : List S60) : Bool × Int × Int × Int × Int × Int × List S60 :=
  bEnd now r0 (l3.length : Int) (l3.foldl vStep (v, x)).1 (l3.foldl vStep (v, x)).2 (ps.foldl (bStep v) (a, h)).1 s (ps.foldl (bStep v) (a, h)).2
theorem impl_bloop (now r0 r1 r2 v x s : Int) (l3 : List Int) (hl3 : l3.length ≤ 1048576) (l : List S60) (hl : l.length ≤ 1048576) (d : Nat) : ∀ (k i : Nat) (a h : Int), l.length - i = d → i ≤ l.length → d + l3.length + 2 < k →
    impl_boxTick.l0 k now l3 l (l.length : Int) (i : Int) r0 r1 r2 v x a s h = some (boxRes now r0 v x a s h l3 (l.drop i)) := by
  induction d with
  | zero =>
    intro k i a h hd hi hk
    obtain ⟨k, rfl⟩ : ∃ m, k = m + 1 := ⟨k - 1, by omega⟩
    simp only [impl_boxTick.l0]
    rw [if_neg (by omega), List.drop_of_length_le (by omega)]
    have := impl_l1loop now r0 r1 r2 a s h l3 hl3 l3.length k 0 v x (by omega) (by omega) (by omega)
    simpa [boxRes] using this
  | succ d ih =>
    intro k i a h hd hi hk
    obtain ⟨k, rfl⟩ : ∃ m, k = m + 1 := ⟨k - 1, by omega⟩
    have hlt : i < l.length := by omega
    have c1 : (i : Int) < (l.length : Int) := by omega
    have c2 : (0 : Int) ≤ (i : Int) := by omega
    have c3 : wrap64 ((i : Int) + 1) = ((i + 1 : Nat) : Int) := wn (by omega)
    rw [List.drop_eq_getElem_cons hlt]
    have hr : ∀ a h, boxRes now r0 v x a s h l3 (l[i] :: l.drop (i + 1)) = boxRes now r0 v x (bStep v (a, h) l[i]).1 s (bStep v (a, h) l[i]).2 l3 (l.drop (i + 1)) := fun a h => rfl
    rw [hr, ← ih k (i + 1) _ _ (by omega) (by omega) (by omega)]
    simp only [impl_boxTick.l0, c1, c2, c3, if_true, rd60 l i hlt, bStep]
    by_cases h1 : (l[i]).f0 = 2 <;> by_cases h2 : (l[i]).f1 ≤ v <;> simp [h1, h2]
theorem bend_len (now every n v x a s h : Int) : (bEnd now every n v x a s h).2.2.2.2.2.2.length ≤ 1 := by
  unfold bEnd
  split <;> simp
end Go.Proofs.Ytndffnacbfdnoaa.Pure
