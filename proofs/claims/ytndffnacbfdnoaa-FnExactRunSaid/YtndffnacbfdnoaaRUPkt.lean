-- Lines of Pkt that this claim uses.
import Derived.Test.YtndffnacbfdnoaaRUPk
import Derived.Test.YtndffnacbfdnoaaRUPAllx12
import Derived.Test.YtndffnacbfdnoaaRUPAllx13
namespace Go.Proofs.Ytndffnacbfdnoaa.Pure
open Go.RowKit Go.Proofs.YtndffnacbfdnoaaW.PrintWords Go.Proofs.YtndffnacbfdnoaaW.PrintLast Go.Proofs.Ytndffnacbfdnoaa.PAll Go.Proofs.Ytndffnacbfdnoaa.Plain
structure TSt where
  v : Int
  x : Int
  s : Int
  sent : List S60
  n : Int
def tStep (now age : Int) (c : TSt) (p : S60) : TSt :=
  if p.f0 = 1 ∧ wrap64 (now - p.f3) ≤ age ∧ p.f3 > c.s ∧ p.f1 ≥ c.v then ⟨p.f1, p.f2, p.f3, c.sent ++ [⟨2, p.f1, 0, p.f3⟩], wrap64 (c.n + 1)⟩ else c
theorem tstep_len (now age : Int) (c : TSt) (p : S60) : (tStep now age c p).sent.length ≤ c.sent.length + 1 := by
  unfold tStep
  split <;> simp
theorem tfold_len (now age : Int) (l : List S60) : ∀ c : TSt, (l.foldl (tStep now age) c).sent.length ≤ c.sent.length + l.length := by
  induction l with
  | nil => intro c; simp
  | cons p l ih =>
    intro c
    have h1 := ih (tStep now age c p)
    have h2 := tstep_len now age c p
    simp only [List.foldl_cons, List.length_cons]
    omega
theorem spec_tloop (now r0 r1 age : Int) (l : List S60) (hl : l.length ≤ 1048576) (d : Nat) : ∀ (k i : Nat) (c : TSt), l.length - i = d → i ≤ l.length → d < k → c.sent.length ≤ i →
    spec_TrainTick.l0 k now l (l.length : Int) (i : Int) r0 r1 age true c.v c.x c.s c.sent c.n = some (true, ((l.drop i).foldl (tStep now age) c).v, ((l.drop i).foldl (tStep now age) c).x, ((l.drop i).foldl (tStep now age) c).s, ((l.drop i).foldl (tStep now age) c).sent, ((l.drop i).foldl (tStep now age) c).n) := by
  induction d with
  | zero =>
    intro k i c hd hi hk hc
    obtain ⟨k, rfl⟩ : ∃ m, k = m + 1 := ⟨k - 1, by omega⟩
    simp only [spec_TrainTick.l0]
    rw [if_neg (by omega), List.drop_of_length_le (by omega)]
    rfl
  | succ d ih =>
    intro k i c hd hi hk hc
    obtain ⟨k, rfl⟩ : ∃ m, k = m + 1 := ⟨k - 1, by omega⟩
    have hlt : i < l.length := by omega
    have c1 : (i : Int) < (l.length : Int) := by omega
    have c2 : (0 : Int) ≤ (i : Int) := by omega
    have c3 : wrap64 ((i : Int) + 1) = ((i + 1 : Nat) : Int) := wn (by omega)
    have c4 : c.sent.length < 4398046511104 := by omega
    rw [List.drop_eq_getElem_cons hlt, List.foldl_cons]
    have hx := tstep_len now age c l[i]
    have h := ih k (i + 1) (tStep now age c l[i]) (by omega) (by omega) (by omega) (by omega)
    rw [← h]
    simp only [spec_TrainTick.l0, c1, c2, c3, c4, if_true, rd60 l i hlt]
    unfold tStep
    by_cases h1 : (l[i]).f0 = 1
    · by_cases h2 : wrap64 (now - (l[i]).f3) > age
      · have h2' : ¬ wrap64 (now - (l[i]).f3) ≤ age := by omega
        simp [h1, h2, h2']
      · have h2' : wrap64 (now - (l[i]).f3) ≤ age := by omega
        by_cases h3 : (l[i]).f3 ≤ c.s
        · have h3' : ¬ c.s < (l[i]).f3 := by omega
          simp [h1, h2, h2', h3, h3']
        · have h3' : c.s < (l[i]).f3 := by omega
          by_cases h4 : (l[i]).f1 < c.v
          · have h4' : ¬ c.v ≤ (l[i]).f1 := by omega
            simp [h1, h2, h2', h3, h3', h4, h4']
          · have h4' : c.v ≤ (l[i]).f1 := by omega
            simp [h1, h2, h2', h3, h3', h4, h4']
    · simp [h1]
theorem impl_tloop (now r0 r1 age z1 z2 z3 : Int) (l : List S60) (hl : l.length ≤ 1048576) (d : Nat) : ∀ (k i : Nat) (c : TSt), l.length - i = d → i ≤ l.length → d < k → c.sent.length ≤ i →
    impl_trainTick.l0 k now l (l.length : Int) (i : Int) r0 r1 age c.v c.x c.s true z1 z2 z3 c.sent c.n = some (true, ((l.drop i).foldl (tStep now age) c).v, ((l.drop i).foldl (tStep now age) c).x, ((l.drop i).foldl (tStep now age) c).s, ((l.drop i).foldl (tStep now age) c).sent, ((l.drop i).foldl (tStep now age) c).n) := by
  induction d with
  | zero =>
    intro k i c hd hi hk hc
    obtain ⟨k, rfl⟩ : ∃ m, k = m + 1 := ⟨k - 1, by omega⟩
    simp only [impl_trainTick.l0]
    rw [if_neg (by omega), List.drop_of_length_le (by omega)]
    rfl
  | succ d ih =>
    intro k i c hd hi hk hc
    obtain ⟨k, rfl⟩ : ∃ m, k = m + 1 := ⟨k - 1, by omega⟩
    have hlt : i < l.length := by omega
    have c1 : (i : Int) < (l.length : Int) := by omega
    have c2 : (0 : Int) ≤ (i : Int) := by omega
    have c3 : wrap64 ((i : Int) + 1) = ((i + 1 : Nat) : Int) := wn (by omega)
    have c4 : c.sent.length < 4398046511104 := by omega
    rw [List.drop_eq_getElem_cons hlt, List.foldl_cons]
    have hx := tstep_len now age c l[i]
    have h := ih k (i + 1) (tStep now age c l[i]) (by omega) (by omega) (by omega) (by omega)
    rw [← h]
    simp only [impl_trainTick.l0, c1, c2, c3, c4, if_true, rd60 l i hlt]
    unfold tStep
    by_cases h1 : (l[i]).f0 = 1 <;> by_cases h2 : wrap64 (now - (l[i]).f3) ≤ age <;> by_cases h3 : (l[i]).f3 > c.s <;> by_cases h4 : (l[i]).f1 ≥ c.v <;> simp [h1, h2, h3, h4]
theorem tok_same (a b c d : Int) : ∃ r, spec_TrainOk.f a b c d = some r ∧ impl_TrainOk.f a b c d = some r := by
  simp only [spec_TrainOk.f, spec_l1in.f, impl_TrainOk.f, impl_in.f]
  by_cases h1 : a ≥ 0 <;> by_cases h2 : a ≤ 1000000000 <;> by_cases h3 : b ≥ 0 <;> by_cases h4 : b ≤ 1000000000 <;> by_cases h5 : d ≥ 0 <;> simp [h1, h2, h3, h4, h5]
theorem train_same (a0 a1 a2 now v x s : Int) (l : List S60) (hl : l.length ≤ 1048576) (k : Nat) (hk : l.length + 10 < k) :
    ∃ R : Bool × Int × Int × Int × List S60 × Int, spec_TrainTick.f k a0 a1 a2 now v x s l = some R ∧ impl_TrainTick.f k a0 a1 a2 now v x s l = some R ∧ R.2.2.2.2.1.length ≤ l.length := by
  obtain ⟨b1, e1, f1⟩ := rules_same a0 a1 a2
  obtain ⟨b2, e2, f2⟩ := tok_same now v x s
  obtain ⟨b3, e3, f3, -⟩ := pks_same now l hl k (by omega)
  obtain ⟨m, rfl⟩ : ∃ m, k = m + 1 := ⟨k - 1, by omega⟩
  have hs := spec_tloop now a0 a1 a2 l hl l.length m 0 ⟨v, x, s, [], 0⟩ (by omega) (by omega) (by omega) (by simp)
  have hi := impl_tloop now a0 a1 a2 0 0 0 l hl l.length (m + 1) 0 ⟨v, x, s, [], 0⟩ (by omega) (by omega) (by omega) (by simp)
  have hle := tfold_len now a2 l ⟨v, x, s, [], 0⟩
  simp only [List.drop_zero] at hs hi
  simp only [spec_TrainTick.f, impl_TrainTick.f, impl_trainTick.f, e1, e2, e3, f1, f2, f3, Option.bind_some, spec_TrainTick.j0]
  by_cases h1 : b1 = true <;> by_cases h2 : b2 = true <;> by_cases h3 : b3 = true
  case pos =>
    simp only [h1, h2, h3, if_true, Bool.not_true, Bool.false_eq_true, if_false]
    rw [show ((0 : Nat) : Int) = 0 from rfl] at hs hi
    rw [hs, hi]
    exact ⟨_, rfl, rfl, by simpa using hle⟩
  all_goals
    refine ⟨(false, 0, 0, 0, [], 0), ?_, ?_, by simp⟩ <;> simp [h1, h2, h3]
end Go.Proofs.Ytndffnacbfdnoaa.Pure
