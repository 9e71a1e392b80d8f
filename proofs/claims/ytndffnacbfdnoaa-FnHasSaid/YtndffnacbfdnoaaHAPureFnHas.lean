-- Lines of PureFnHas that this claim uses.
import Derived.Test.YtndffnacbfdnoaaHAPki
import Derived.Test.YtndffnacbfdnoaaHAPAllx29
set_option linter.unusedSimpArgs false
set_option linter.unusedVariables false
namespace Go.Proofs.Ytndffnacbfdnoaa.Pure
open Go.RowKit Go.Proofs.YtndffnacbfdnoaaW.PrintWords Go.Proofs.YtndffnacbfdnoaaW.PrintLast Go.Proofs.Ytndffnacbfdnoaa.PAll Go.Proofs.Ytndffnacbfdnoaa.Plain
theorem may_is (r0 r1 r2 : Int) (b : S29) (hr : rulesB r0 r1 r2 = true) (hb : boxB 1000000000 b = true) : impl_MayHave.f r0 r1 r2 b.f0 b.f1 b.f2 b.f3 b.f4 = some (b.f2, b.f0, wrap64 (b.f3 + r1)) := by
  simp only [impl_MayHave.f, rules_is, box_ok_is, hr, hb, Option.bind_some, if_true]
theorem tsil_is (r0 r1 r2 now : Int) (t : S48) (hr : rulesB r0 r1 r2 = true) (ht : trainB now t = true) : impl_TrainSilent.f r0 r1 r2 now t.f0 t.f1 t.f2 = some (decide (wrap64 (now - t.f2) > r1)) := by
  simp only [impl_TrainSilent.f, rules_is, train_ok_is, hr, ht, Option.bind_some, if_true]
theorem bsil_is (r0 r1 r2 now : Int) (b : S29) (hr : rulesB r0 r1 r2 = true) (hb : boxB now b = true) : impl_BoxSilent.f r0 r1 r2 now b.f0 b.f1 b.f2 b.f3 b.f4 = some (decide (wrap64 (now - b.f4) > r1)) := by
  simp only [impl_BoxSilent.f, rules_is, box_ok_is, hr, hb, Option.bind_some, if_true]
theorem good_box {r0 r1 r2 : Int} {S : List S84} {now : Int} {b : S29} {t : S48} {x : S86} (g : Good r0 r1 r2 S now b t x) (hS : S.length ≤ 100) (T : Int) (h1 : now ≤ T) (h2 : T ≤ 1000000000) : boxB T x.f0 = true := by
  have e1 := g.vb; have e2 := g.va; have e3 := g.v1; have e4 := g.t0; have e5 := g.a0; have e6 := g.st; have e7 := g.s0; have e8 := g.s1; have e9 := g.h0; have e10 := g.h1
  unfold boxB
  exact decide_eq_true ⟨by omega, by omega, by omega, by omega, by omega, by omega, by omega, by omega, by omega, by omega⟩
theorem good_train {r0 r1 r2 : Int} {S : List S84} {now : Int} {b : S29} {t : S48} {x : S86} (g : Good r0 r1 r2 S now b t x) (hS : S.length ≤ 100) (h0 : now ≤ 1000000000) : trainB now x.f1 = true := by
  have e1 := g.vb; have e2 := g.va; have e3 := g.v1; have e4 := g.t0; have e5 := g.a0; have e6 := g.st; have e7 := g.s0; have e8 := g.s1; have e9 := g.h0; have e10 := g.h1
  unfold trainB
  exact decide_eq_true ⟨by omega, by omega, by omega, by omega, by omega, by omega⟩
theorem has_loop {r0 r1 r2 : Int} {S : List S84} (hr : rulesB r0 r1 r2 = true) (h1 : 1 ≤ r1 ∧ r1 ≤ 10000) (hS : S.length ≤ 100) (M : List S86) (hM : M.length ≤ 2000) (d : Nat) : ∀ (k i : Nat) (b : S29) (t : S48), M.length - i = d → i ≤ M.length → 2 * d + 2 < k → chain (Good r0 r1 r2 S) ((i : Int) + 1) b t (M.drop i) → laws_FnHas.l0 k M (M.length : Int) (i : Int) r0 r1 r2 = some true := by
  induction d with
  | zero =>
    intro k i b t hd hi hk hc
    obtain ⟨k, rfl⟩ : ∃ q, k = q + 1 := ⟨k - 1, by omega⟩
    simp only [laws_FnHas.l0]
    rw [if_neg (by omega)]
  | succ d ih =>
    intro k i b t hd hi hk hc
    obtain ⟨k, rfl⟩ : ∃ q, k = q + 1 + 1 := ⟨k - 2, by omega⟩
    have hlt : i < M.length := by omega
    rw [List.drop_eq_getElem_cons hlt] at hc
    obtain ⟨g, hc⟩ := hc
    have hn : wrap64 ((i : Int) + 1) = (i : Int) + 1 := w64 (by omega) (by omega)
    have hnn : wrap64 ((i : Int) + 1) = ((i + 1 : Nat) : Int) := wn (by omega)
    have h := ih k (i + 1) _ _ (by omega) (by omega) (by omega) (by rw [show ((i + 1 : Nat) : Int) + 1 = (i : Int) + 1 + 1 by omega]; exact hc)
    have e1 := g.vb; have e2 := g.va; have e3 := g.v1; have e4 := g.t0; have e5 := g.a0; have e6 := g.st; have e7 := g.s0; have e8 := g.s1; have e9 := g.h0; have e10 := g.h1
    have hB := good_box g hS 1000000000 (by omega) (by omega)
    have hB2 := good_box g hS ((i : Int) + 1) (by omega) (by omega)
    have hT := good_train g hS (by omega)
    have w1 : wrap64 ((M[i]).f0.f3 + r1) = (M[i]).f0.f3 + r1 := w64 (by omega) (by omega)
    have w2 : wrap64 ((i : Int) + 1 - (M[i]).f1.f2) = (i : Int) + 1 - (M[i]).f1.f2 := w64 (by omega) (by omega)
    have w3 : wrap64 ((i : Int) + 1 - (M[i]).f0.f4) = (i : Int) + 1 - (M[i]).f0.f4 := w64 (by omega) (by omega)
    simp only [laws_FnHas.l0, rd86 M i hlt]
    rw [if_pos (by omega), if_pos (by omega), if_pos (by omega), may_is r0 r1 r2 _ hr hB, Option.bind_some]
    simp only
    rw [if_neg (by omega), if_neg (by omega)]
    simp only [laws_FnHas.j1, hn, w1, tsil_is r0 r1 r2 _ _ hr hT, bsil_is r0 r1 r2 _ _ hr hB2, w2, w3, Option.bind_some, bne_self_eq_false, Bool.false_eq_true, if_false]
    rw [show (i : Int) + 1 = ((i + 1 : Nat) : Int) by omega, h]
    by_cases hu : ((i + 1 : Nat) : Int) > (M[i]).f0.f3 + r1
    · have : ((i + 1 : Nat) : Int) - (M[i]).f1.f2 > r1 := by omega
      rw [if_pos hu, if_pos (decide_eq_true this)]
    · rw [if_neg hu]
theorem FnHas (l0 : List Int) (_ : l0.length ≤ maxLen) (_ : l0.length * 1 ≤ 140737488351232) (hw : (∀ x ∈ l0, (Lit.int .u8 x).wf = true)) : ∃ k, laws_FnHas.f k l0 = some true := by
  have hb : Bytes l0 := fun x hx => wf_byte (hw x hx)
  obtain ⟨r0, r1, r2, S, F, n, e, hd⟩ := drawn_any l0 hb 10000 (by omega)
  obtain ⟨M, e2, e3, e4⟩ := run_drawn hd
  refine ⟨10000, ?_⟩
  unfold laws_FnHas.f
  split
  · rfl
  · rw [e, Option.bind_some]
    simp only
    rw [e2, Option.bind_some, if_pos e3]
    have := hd.h1; have := hd.hn; have := hd.hs
    have h := has_loop (S := S) (drawn_good hd).rules (by omega) (by omega) M (by omega) M.length 10000 0 z29 z48 (by omega) (by omega) (by omega) (by simpa using e4)
    simpa using h
end Go.Proofs.Ytndffnacbfdnoaa.Pure
