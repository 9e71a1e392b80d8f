-- Lines of PureFnTrue that this claim uses.
import Derived.Test.YtndffnacbfdnoaaTRPki
import Derived.Test.YtndffnacbfdnoaaTRPAllx31
set_option linter.unusedSimpArgs false
set_option linter.unusedVariables false
namespace Go.Proofs.Ytndffnacbfdnoaa.Pure
open Go.RowKit Go.Proofs.YtndffnacbfdnoaaW.PrintWords Go.Proofs.YtndffnacbfdnoaaW.PrintLast Go.Proofs.Ytndffnacbfdnoaa.PAll Go.Proofs.Ytndffnacbfdnoaa.Plain
theorem istood_is (S : List S84) (v : Int) (hv : v ≤ 1000000) : impl_Stood.f S v = some (stood S v) := by
  unfold impl_Stood.f stood
  by_cases h1 : v < 1
  · rw [if_pos h1, if_neg (by omega)]
  · rw [if_neg h1]
    by_cases h2 : v > (S.length : Int)
    · rw [if_pos h2, if_neg (by omega)]
    · have w : wrap64 (v - 1) = v - 1 := w64 (by omega) (by omega)
      rw [if_neg h2, w, if_pos (by omega), if_pos (by omega), if_pos (by omega)]
theorem sstood_is (S : List S84) (v : Int) (h0 : -1000000 ≤ v) (hv : v ≤ 1000000) : spec_Stood.f S v = some (stood S v) := by
  unfold spec_Stood.f spec_l1in.f stood
  have w : wrap64 (v - 1) = v - 1 := w64 (by omega) (by omega)
  by_cases h1 : 1 ≤ v
  · by_cases h2 : v ≤ (S.length : Int)
    · simp only [ge_iff_le, h1, h2, if_true, decide_true, Option.bind_some, w, and_self]
      rw [if_pos (by omega), if_pos (by omega)]
    · simp [h1, h2]
  · simp [h1]
theorem true_loop {r0 r1 r2 : Int} {S : List S84} (hS : S.length ≤ 100) (M : List S86) (hM : M.length ≤ 2000) (d : Nat) : ∀ (k i : Nat) (b : S29) (t : S48) (z1 z2 : Int), M.length - i = d → i ≤ M.length → 3 * d + 3 < k → 0 ≤ t.f2 → chain (Good r0 r1 r2 S) ((i : Int) + 1) b t (M.drop i) →
    laws_FnTrue.l0 k S M (M.length : Int) (i : Int) r0 r1 r2 b.f0 b.f1 b.f2 b.f3 b.f4 t.f0 t.f1 t.f2 z1 z2 = some true := by
  induction d with
  | zero =>
    intro k i b t z1 z2 hd hi hk ht hc
    obtain ⟨k, rfl⟩ : ∃ q, k = q + 1 := ⟨k - 1, by omega⟩
    simp only [laws_FnTrue.l0]
    rw [if_neg (by omega)]
  | succ d ih =>
    intro k i b t z1 z2 hd hi hk ht hc
    obtain ⟨k, rfl⟩ : ∃ q, k = q + 1 + 1 + 1 := ⟨k - 3, by omega⟩
    have hlt : i < M.length := by omega
    rw [List.drop_eq_getElem_cons hlt] at hc
    obtain ⟨g, hc⟩ := hc
    have hnn : wrap64 ((i : Int) + 1) = ((i + 1 : Nat) : Int) := wn (by omega)
    have e1 := g.vb; have e2 := g.va; have e3 := g.v1; have e4 := g.t0; have e5 := g.a0; have e6 := g.st; have e7 := g.s0; have e8 := g.s1; have e9 := g.h0; have e10 := g.h1; have e11 := g.mt; have e12 := g.mb; have e13 := g.ma; have e14 := g.k0
    have h := ih k (i + 1) (M[i]).f0 (M[i]).f1 (M[i]).f2 (M[i]).f3 (by omega) (by omega) (by omega) e7 (by rw [show ((i + 1 : Nat) : Int) + 1 = (i : Int) + 1 + 1 by omega]; exact hc)
    have w2 : wrap64 (((i + 1 : Nat) : Int) - (M[i]).f1.f2) = ((i + 1 : Nat) : Int) - (M[i]).f1.f2 := w64 (by omega) (by omega)
    simp only [laws_FnTrue.l0, rd86 M i hlt]
    rw [if_pos (by omega), if_pos (by omega), if_pos (by omega), if_neg (by omega), if_neg (by omega), if_neg (by omega), if_neg (by omega), decide_eq_false (by omega)]
    simp only [laws_FnTrue.j1, laws_FnTrue.j2, istood_is S (M[i]).f1.f0 (by omega), istood_is S (M[i]).f0.f0 (by omega), sstood_is S (M[i]).f1.f0 (by omega) (by omega), Option.bind_some, g.xt, g.xb, if_true, bne_self_eq_false, Bool.false_eq_true, if_false, hnn, w2]
    rw [← g.xt, ← g.xb]
    by_cases h3 : (M[i]).f3 > 0
    · obtain ⟨q1, q2⟩ := g.some h3
      rw [if_pos h3, if_neg (by omega), if_neg (by omega), if_neg (by omega)]
      exact h
    · have h4 : (M[i]).f3 = 0 := by omega
      have q := g.none h4
      rw [if_neg h3, if_pos h4, if_neg (by rw [q]; simp)]
      exact h
theorem FnTrue (l0 : List Int) (_ : l0.length ≤ maxLen) (_ : l0.length * 1 ≤ 140737488351232) (hw : (∀ x ∈ l0, (Lit.int .u8 x).wf = true)) : ∃ k, laws_FnTrue.f k l0 = some true := by
  have hb : Bytes l0 := fun x hx => wf_byte (hw x hx)
  obtain ⟨r0, r1, r2, S, F, n, e, hd⟩ := drawn_any l0 hb 10000 (by omega)
  obtain ⟨M, e2, e3, e4⟩ := run_drawn hd
  refine ⟨10000, ?_⟩
  unfold laws_FnTrue.f
  split
  · rfl
  · rw [e, Option.bind_some]
    simp only
    rw [e2, Option.bind_some, if_pos e3]
    have := hd.h1; have := hd.hn; have := hd.hs
    have h := true_loop (S := S) (by omega) M (by omega) M.length 10000 0 z29 z48 0 0 (by omega) (by omega) (by omega) (by decide) (by simpa using e4)
    exact h
end Go.Proofs.Ytndffnacbfdnoaa.Pure
