-- Lines of Pkt that this claim uses.
import Derived.Test.YtndffnacbfdnoaaCOPk
import Derived.Test.YtndffnacbfdnoaaCOPAllx12
import Derived.Test.YtndffnacbfdnoaaCOPAllx13
namespace Go.Proofs.Ytndffnacbfdnoaa.Pure
open Go.RowKit Go.Proofs.YtndffnacbfdnoaaW.PrintWords Go.Proofs.YtndffnacbfdnoaaW.PrintLast Go.Proofs.Ytndffnacbfdnoaa.PAll Go.Proofs.Ytndffnacbfdnoaa.Plain
structure TSt where
  v : Int
  x : Int
  s : Int
  sent : List S60
  n : Int
def tStep (now age : Int) (c : TSt) (p : S60) : TSt :=
  if p.f0 = 1 ∧ wrap64 (now - p.f3) ≤ age ∧ p.f3 > c.s ∧ p.f1 ≥ c.v then ⟨p.f1, p.f2, p.f3, c.sent ++ [⟨2, p.f1, 0, p.f3⟩], wrap64 (c.n + 1)⟩ else c
theorem tstep_len (now age : Int) (c : TSt) (p : S60) : (tStep now age c p).sent.length ≤ c.sent.length + 1 := by
  unfold tStep
  split <;> simp
theorem tfold_len (now age : Int) (l : List S60) : ∀ c : TSt, (l.foldl (tStep now age) c).sent.length ≤ c.sent.length + l.length := by
  induction l with
  | nil => intro c; simp
  | cons p l ih =>
    intro c
    have h1 := ih (tStep now age c p)
    have h2 := tstep_len now age c p
    simp only [List.foldl_cons, List.length_cons]
    omega
theorem impl_tloop (now r0 r1 age z1 z2 z3 : Int) (l : List S60) (hl : l.length ≤ 1048576) (d : Nat) : ∀ (k i : Nat) (c : TSt), l.length - i = d → i ≤ l.length → d < k → c.sent.length ≤ i →
    impl_trainTick.l0 k now l (l.length : Int) (i : Int) r0 r1 age c.v c.x c.s true z1 z2 z3 c.sent c.n = some (true, ((l.drop i).foldl (tStep now age) c).v, ((l.drop i).foldl (tStep now age) c).x, ((l.drop i).foldl (tStep now age) c).s, ((l.drop i).foldl (tStep now age) c).sent, ((l.drop i).foldl (tStep now age) c).n) := by
  induction d with
  | zero =>
    intro k i c hd hi hk hc
    obtain ⟨k, rfl⟩ : ∃ m, k = m + 1 := ⟨k - 1, by omega⟩
    simp only [impl_trainTick.l0]
    rw [if_neg (by omega), List.drop_of_length_le (by omega)]
    rfl
  | succ d ih =>
    intro k i c hd hi hk hc
    obtain ⟨k, rfl⟩ : ∃ m, k = m + 1 := ⟨k - 1, by omega⟩
    have hlt : i < l.length := by omega
    have c1 : (i : Int) < (l.length : Int) := by omega
    have c2 : (0 : Int) ≤ (i : Int) := by omega
    have c3 : wrap64 ((i : Int) + 1) = ((i + 1 : Nat) : Int) := wn (by omega)
    have c4 : c.sent.length < 4398046511104 := by omega
    rw [List.drop_eq_getElem_cons hlt, List.foldl_cons]
    have hx := tstep_len now age c l[i]
    have h := ih k (i + 1) (tStep now age c l[i]) (by omega) (by omega) (by omega) (by omega)
    rw [← h]
    simp only [impl_trainTick.l0, c1, c2, c3, c4, if_true, rd60 l i hlt]
    unfold tStep
    by_cases h1 : (l[i]).f0 = 1 <;> by_cases h2 : wrap64 (now - (l[i]).f3) ≤ age <;> by_cases h3 : (l[i]).f3 > c.s <;> by_cases h4 : (l[i]).f1 ≥ c.v <;> simp [h1, h2, h3, h4]
end Go.Proofs.Ytndffnacbfdnoaa.Pure
