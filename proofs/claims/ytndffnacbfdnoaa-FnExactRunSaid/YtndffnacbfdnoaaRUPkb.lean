-- Lines of Pkb that this claim uses.
import Derived.Test.YtndffnacbfdnoaaRUPk
import Derived.Test.YtndffnacbfdnoaaRUPAllx6
import Derived.Test.YtndffnacbfdnoaaRUPAllx8
set_option linter.unusedSimpArgs false
namespace Go.Proofs.Ytndffnacbfdnoaa.Pure
open Go.RowKit Go.Proofs.YtndffnacbfdnoaaW.PrintWords Go.Proofs.YtndffnacbfdnoaaW.PrintLast Go.Proofs.YtndffnacbfdnoaaW.PrintMore Go.Proofs.Ytndffnacbfdnoaa.PAll Go.Proofs.Ytndffnacbfdnoaa.Plain
def bStep (v : Int) (c : Int × Int) (p : S60) : Int × Int := if p.f0 = 2 ∧ p.f1 ≤ v then (mx c.1 p.f1, mx c.2 p.f3) else c
def vStep (c : Int × Int) (y : Int) : Int × Int := (wrap64 (c.1 + 1), y)
def bEnd (now every n v x a s h : Int) : Bool × Int × Int × Int × Int × Int × List S60 :=
  if n > 0 ∨ wrap64 (now - s) ≥ every then (true, v, x, a, now, h, [⟨1, v, x, now⟩]) else (true, v, x, a, s, h, [])
theorem rdi (L : List Int) (i : Nat) (h : i < L.length) : rd L (i : Int) = L[i] := rd_at L i h
theorem spec_l1loop (now r0 r1 r2 a s h : Int) (l3 : List Int) (hl : l3.length ≤ 1048576) (d : Nat) : ∀ (k i : Nat) (v x : Int), l3.length - i = d → i ≤ l3.length → d < k →
    spec_BoxTick.l1 k now l3 l3 (l3.length : Int) (i : Int) r0 r1 r2 true v x a s h = some (bEnd now r0 (l3.length : Int) ((l3.drop i).foldl vStep (v, x)).1 ((l3.drop i).foldl vStep (v, x)).2 a s h) := by
  induction d with
  | zero =>
    intro k i v x hd hi hk
    obtain ⟨k, rfl⟩ : ∃ m, k = m + 1 := ⟨k - 1, by omega⟩
    simp only [spec_BoxTick.l1, bEnd]
    rw [if_neg (by omega), List.drop_of_length_le (by omega)]
    simp only [List.foldl_nil]
    by_cases h1 : (l3.length : Int) > 0 <;> by_cases h2 : wrap64 (now - s) ≥ r0 <;> simp only [h1, h2, true_or, or_true, or_self, or_false, false_or, if_true, if_false]
  | succ d ih =>
    intro k i v x hd hi hk
    obtain ⟨k, rfl⟩ : ∃ m, k = m + 1 := ⟨k - 1, by omega⟩
    have hlt : i < l3.length := by omega
    have c1 : (i : Int) < (l3.length : Int) := by omega
    have c2 : (0 : Int) ≤ (i : Int) := by omega
    have c3 : wrap64 ((i : Int) + 1) = ((i + 1 : Nat) : Int) := wn (by omega)
    rw [List.drop_eq_getElem_cons hlt, List.foldl_cons]
    simp only [spec_BoxTick.l1, c1, c2, c3, if_true, rdi l3 i hlt]
    exact ih k (i + 1) _ _ (by omega) (by omega) (by omega)
theorem impl_l1loop (now r0 r1 r2 a s h : Int) (l3 : List Int) (hl : l3.length ≤ 1048576) (d : Nat) : ∀ (k i : Nat) (v x : Int), l3.length - i = d → i ≤ l3.length → d < k →
    impl_boxTick.l1 k now l3 l3 (l3.length : Int) (i : Int) r0 r1 r2 v x a s h = some (bEnd now r0 (l3.length : Int) ((l3.drop i).foldl vStep (v, x)).1 ((l3.drop i).foldl vStep (v, x)).2 a s h) := by
  induction d with
  | zero =>
    intro k i v x hd hi hk
    obtain ⟨k, rfl⟩ : ∃ m, k = m + 1 := ⟨k - 1, by omega⟩
    simp only [impl_boxTick.l1, bEnd]
    rw [if_neg (by omega), List.drop_of_length_le (by omega)]
    simp only [List.foldl_nil]
    by_cases h1 : (l3.length : Int) > 0 <;> by_cases h2 : wrap64 (now - s) ≥ r0 <;> simp only [h1, h2, true_or, or_true, or_self, or_false, false_or, if_true, if_false]
  | succ d ih =>
    intro k i v x hd hi hk
    obtain ⟨k, rfl⟩ : ∃ m, k = m + 1 := ⟨k - 1, by omega⟩
    have hlt : i < l3.length := by omega
    have c1 : (i : Int) < (l3.length : Int) := by omega
    have c2 : (0 : Int) ≤ (i : Int) := by omega
    have c3 : wrap64 ((i : Int) + 1) = ((i + 1 : Nat) : Int) := wn (by omega)
    rw [List.drop_eq_getElem_cons hlt, List.foldl_cons]
    simp only [impl_boxTick.l1, c1, c2, c3, if_true, rdi l3 i hlt]
    exact ih k (i + 1) _ _ (by omega) (by omega) (by omega)
def boxRes (now r0 v x a s h : Int) (l3 : List Int) (ps : List S60) : Bool × Int × Int × Int × Int × Int × List S60 :=
  bEnd now r0 (l3.length : Int) (l3.foldl vStep (v, x)).1 (l3.foldl vStep (v, x)).2 (ps.foldl (bStep v) (a, h)).1 s (ps.foldl (bStep v) (a, h)).2
theorem spec_bloop (now r0 r1 r2 v x s : Int) (l3 : List Int) (hl3 : l3.length ≤ 1048576) (l : List S60) (hl : l.length ≤ 1048576) (d : Nat) : ∀ (k i : Nat) (a h : Int), l.length - i = d → i ≤ l.length → 2 * d + l3.length + 2 < k →
    spec_BoxTick.l0 k now l3 l (l.length : Int) (i : Int) r0 r1 r2 true v x a s h = some (boxRes now r0 v x a s h l3 (l.drop i)) := by
  induction d with
  | zero =>
    intro k i a h hd hi hk
    obtain ⟨k, rfl⟩ : ∃ m, k = m + 1 := ⟨k - 1, by omega⟩
    simp only [spec_BoxTick.l0]
    rw [if_neg (by omega), List.drop_of_length_le (by omega)]
    have := spec_l1loop now r0 r1 r2 a s h l3 hl3 l3.length k 0 v x (by omega) (by omega) (by omega)
    simpa [boxRes] using this
  | succ d ih =>
    intro k i a h hd hi hk
    obtain ⟨k, rfl⟩ : ∃ m, k = m + 1 + 1 := ⟨k - 2, by omega⟩
    have hlt : i < l.length := by omega
    have c1 : (i : Int) < (l.length : Int) := by omega
    have c2 : (0 : Int) ≤ (i : Int) := by omega
    have c3 : wrap64 ((i : Int) + 1) = ((i + 1 : Nat) : Int) := wn (by omega)
    rw [List.drop_eq_getElem_cons hlt]
    have hr : ∀ a h, boxRes now r0 v x a s h l3 (l[i] :: l.drop (i + 1)) = boxRes now r0 v x (bStep v (a, h) l[i]).1 s (bStep v (a, h) l[i]).2 l3 (l.drop (i + 1)) := fun a h => rfl
    rw [hr, ← ih k (i + 1) _ _ (by omega) (by omega) (by omega)]
    simp only [spec_BoxTick.l0, spec_BoxTick.j2, c1, c2, c3, if_true, rd60 l i hlt, bStep]
    by_cases h1 : (l[i]).f0 = 2
    · by_cases h2 : (l[i]).f1 > v
      · have h2' : ¬ (l[i]).f1 ≤ v := by omega
        simp [h1, h2, h2']
      · have h2' : (l[i]).f1 ≤ v := by omega
        by_cases h3 : (l[i]).f1 > a <;> by_cases h4 : (l[i]).f3 > h <;> simp [h1, h2, h2', h3, h4, mx]
    · simp [h1]
theorem impl_bloop (now r0 r1 r2 v x s : Int) (l3 : List Int) (hl3 : l3.length ≤ 1048576) (l : List S60) (hl : l.length ≤ 1048576) (d : Nat) : ∀ (k i : Nat) (a h : Int), l.length - i = d → i ≤ l.length → d + l3.length + 2 < k →
    impl_boxTick.l0 k now l3 l (l.length : Int) (i : Int) r0 r1 r2 v x a s h = some (boxRes now r0 v x a s h l3 (l.drop i)) := by
  induction d with
  | zero =>
    intro k i a h hd hi hk
    obtain ⟨k, rfl⟩ : ∃ m, k = m + 1 := ⟨k - 1, by omega⟩
    simp only [impl_boxTick.l0]
    rw [if_neg (by omega), List.drop_of_length_le (by omega)]
    have := impl_l1loop now r0 r1 r2 a s h l3 hl3 l3.length k 0 v x (by omega) (by omega) (by omega)
    simpa [boxRes] using this
  | succ d ih =>
    intro k i a h hd hi hk
    obtain ⟨k, rfl⟩ : ∃ m, k = m + 1 := ⟨k - 1, by omega⟩
    have hlt : i < l.length := by omega
    have c1 : (i : Int) < (l.length : Int) := by omega
    have c2 : (0 : Int) ≤ (i : Int) := by omega
    have c3 : wrap64 ((i : Int) + 1) = ((i + 1 : Nat) : Int) := wn (by omega)
    rw [List.drop_eq_getElem_cons hlt]
    have hr : ∀ a h, boxRes now r0 v x a s h l3 (l[i] :: l.drop (i + 1)) = boxRes now r0 v x (bStep v (a, h) l[i]).1 s (bStep v (a, h) l[i]).2 l3 (l.drop (i + 1)) := fun a h => rfl
    rw [hr, ← ih k (i + 1) _ _ (by omega) (by omega) (by omega)]
    simp only [impl_boxTick.l0, c1, c2, c3, if_true, rd60 l i hlt, bStep]
    by_cases h1 : (l[i]).f0 = 2 <;> by_cases h2 : (l[i]).f1 ≤ v <;> simp [h1, h2]
theorem bok_same (t a b c d e : Int) : ∃ r, spec_BoxOk.f t a b c d e = some r ∧ impl_BoxOk.f t a b c d e = some r := by
  simp only [spec_BoxOk.f, spec_l1in.f, impl_BoxOk.f, impl_in.f]
  by_cases h1 : t ≥ 0 <;> by_cases h2 : t ≤ 1000000000 <;> by_cases h3 : a ≥ 0 <;> by_cases h4 : a ≤ 1000000000 <;> by_cases h5 : c ≥ 0 <;> by_cases h6 : c ≤ a <;> by_cases h7 : d ≥ 0 <;> by_cases h8 : d ≤ t <;> by_cases h9 : e ≥ 0 <;> simp [h1, h2, h3, h4, h5, h6, h7, h8, h9]
theorem bend_len (now every n v x a s h : Int) : (bEnd now every n v x a s h).2.2.2.2.2.2.length ≤ 1 := by
  unfold bEnd
  split <;> simp
theorem box_same (a0 a1 a2 now v x a s h : Int) (l3 : List Int) (hl3 : l3.length ≤ 1048576) (l : List S60) (hl : l.length ≤ 1048576) (k : Nat) (hk : 2 * l.length + l3.length + 20 < k) :
    ∃ R : Bool × Int × Int × Int × Int × Int × List S60, spec_BoxTick.f k a0 a1 a2 now v x a s h l3 l = some R ∧ impl_BoxTick.f k a0 a1 a2 now v x a s h l3 l = some R ∧ R.2.2.2.2.2.2.length ≤ 1 := by
  obtain ⟨b1, e1, f1⟩ := rules_same a0 a1 a2
  obtain ⟨b2, e2, f2⟩ := bok_same now v x a s h
  obtain ⟨b3, e3, f3, -⟩ := pks_same now l hl k (by omega)
  obtain ⟨m, rfl⟩ : ∃ m, k = m + 1 := ⟨k - 1, by omega⟩
  have hs := spec_bloop now a0 a1 a2 v x s l3 hl3 l hl l.length m 0 a h (by omega) (by omega) (by omega)
  have hi := impl_bloop now a0 a1 a2 v x s l3 hl3 l hl l.length (m + 1) 0 a h (by omega) (by omega) (by omega)
  simp only [List.drop_zero] at hs hi
  rw [show ((0 : Nat) : Int) = 0 from rfl] at hs hi
  simp only [spec_BoxTick.f, impl_BoxTick.f, impl_boxTick.f, e1, e2, e3, f1, f2, f3, Option.bind_some, spec_BoxTick.j0]
  by_cases h1 : b1 = true <;> by_cases h2 : b2 = true <;> by_cases h3 : b3 = true
  case pos =>
    simp only [h1, h2, h3, if_true]
    by_cases g1 : (l3.length : Int) > 100
    · simp only [g1, if_true]
      exact ⟨_, rfl, rfl, by simp⟩
    · by_cases g2 : wrap64 (v + (l3.length : Int)) > 1000000000
      · simp only [g1, g2, if_true, if_false, decide_true]
        exact ⟨_, rfl, rfl, by simp⟩
      · simp only [g1, g2, if_false, decide_false, Bool.false_eq_true]
        rw [hs, hi]
        exact ⟨_, rfl, rfl, bend_len _ _ _ _ _ _ _ _⟩
  all_goals
    refine ⟨(false, 0, 0, 0, 0, 0, []), ?_, ?_, by simp⟩ <;> simp [h1, h2, h3]
end Go.Proofs.Ytndffnacbfdnoaa.Pure
