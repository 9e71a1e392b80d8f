-- Lines of Pkd that this claim uses.
import Derived.Test.YtndffnacbfdnoaaCOPAllx15
import Derived.Test.YtndffnacbfdnoaaCOPAllx16
import Derived.Test.YtndffnacbfdnoaaCOPAllx17
import Derived.Test.YtndffnacbfdnoaaCOPAllx18
import Derived.Test.YtndffnacbfdnoaaCOPlain
import Derived.Laws.BitsLemmas
set_option linter.unusedSimpArgs false
set_option linter.unusedVariables false
namespace Go.Proofs.Ytndffnacbfdnoaa.Pure
open Go.RowKit Go.Proofs.YtndffnacbfdnoaaW.PrintWords Go.Proofs.YtndffnacbfdnoaaW.PrintLast Go.Proofs.Ytndffnacbfdnoaa.PAll Go.Proofs.Ytndffnacbfdnoaa.Plain
def Bytes (l : List Int) : Prop := ∀ x ∈ l, 0 ≤ x ∧ x ≤ 255
theorem next_some (l : List Int) (hb : Bytes l) (p u : Int) (h0 : 0 ≤ p) (h1 : p < 4611686018427387904) : ∃ v u', spec_l4Cur_next.f l p u = some (v, p + 1, u') ∧ 0 ≤ v ∧ v ≤ 255 := by
  unfold spec_l4Cur_next.f
  by_cases h : p < (l.length : Int)
  · rw [if_pos h, if_pos h0]
    obtain ⟨P, rfl⟩ := Int.eq_ofNat_of_zero_le h0
    have hP : P < l.length := by omega
    have hx := hb l[P] (List.getElem_mem hP)
    rw [rd_at l P hP, w64 (by omega) (by omega), w64 (by omega) (by omega)]
    exact ⟨_, _, rfl, hx⟩
  · rw [if_neg h, w64 (x := p + 1) (by omega) (by omega)]
    refine ⟨_, _, rfl, ?_⟩
    have hr : 0 ≤ IntKind.u64.wrap (IntKind.u64.wrap (u * 6364136223846793005) + 1442695040888963407) / 1099511627776 ∧ IntKind.u64.wrap (IntKind.u64.wrap (u * 6364136223846793005) + 1442695040888963407) / 1099511627776 < 2 ^ 64 := by
      rw [IntKind.wrap_u64]
      omega
    have := bits_mask .u64 64 (by decide) (fun n g0 g1 => by rw [IntKind.wrap_u64]; omega) 8 (by decide) _ hr.1 hr.2
    rw [show (2 : Int) ^ 8 - 1 = 255 from rfl, show (2 : Int) ^ 8 = 256 from rfl] at this
    rw [this, w64 (by omega) (by omega)]
    omega
theorem pick_any (l : List Int) (hb : Bytes l) (p u n : Int) (h0 : 0 ≤ p) (h1 : p < 2305843009213693952) : ∃ v p' u', spec_l4Cur_pick.f l p u n = some (v, p', u') ∧ p ≤ p' ∧ p' ≤ p + 2 ∧ (1 < n → n ≤ 200 → 0 ≤ v ∧ v < n) ∧ (n ≤ 1 → v = 0) ∧ (1 < n → n ≤ 1000000 → 0 ≤ v ∧ v < n) := by
  unfold spec_l4Cur_pick.f
  by_cases hn : n ≤ 1
  · rw [if_pos hn]
    exact ⟨0, p, u, rfl, Int.le_refl _, by omega, fun h => by omega, fun _ => rfl, fun h => by omega⟩
  obtain ⟨v1, u1, e1, r1⟩ := next_some l hb p u h0 (by omega)
  obtain ⟨v2, u2, e2, r2⟩ := next_some l hb (p + 1) u1 (by omega) (by omega)
  rw [if_neg hn, e1]
  simp only [Option.bind_some]
  by_cases hb' : n > 200
  · rw [if_pos hb', e2]
    simp only [Option.bind_some]
    rw [if_neg (by omega), w64 (x := v1 * 256) (by omega) (by omega), w64 (by omega) (by omega)]
    exact ⟨_, _, _, rfl, by omega, by omega, fun _ => by omega, fun _ => by omega, fun _ _ => ⟨Int.tmod_nonneg _ (by omega), Int.tmod_lt_of_pos _ (by omega)⟩⟩
  · rw [if_neg hb', if_neg (by omega)]
    exact ⟨_, _, _, rfl, by omega, by omega, fun _ _ => ⟨Int.tmod_nonneg _ r1.1, Int.tmod_lt_of_pos _ (by omega)⟩, fun _ => by omega, fun _ _ => ⟨Int.tmod_nonneg _ r1.1, Int.tmod_lt_of_pos _ (by omega)⟩⟩
theorem wr (x : Int) : -9223372036854775808 ≤ wrap64 x ∧ wrap64 x ≤ 9223372036854775807 := by
  unfold wrap64
  omega
theorem whole_any (l : List Int) (hb : Bytes l) (p u : Int) (h0 : 0 ≤ p) (h1 : p < 1000000000000) : ∃ v p' u', spec_l4Cur_whole.f l p u = some (v, p', u') ∧ p ≤ p' ∧ p' ≤ p + 4 ∧ -9223372036854775808 ≤ v ∧ v ≤ 9223372036854775807 := by
  obtain ⟨v1, p1, u1, e1, a1, b1, -⟩ := pick_any l hb p u 6 h0 (by omega)
  unfold spec_l4Cur_whole.f
  rw [e1]
  simp only [Option.bind_some]
  obtain ⟨v2, p2, u2, e2, a2, b2, -⟩ := pick_any l hb p1 u1 3 (by omega) (by omega)
  obtain ⟨v3, p3, u3, e3, a3, b3, -⟩ := pick_any l hb p1 u1 70000 (by omega) (by omega)
  obtain ⟨v4, p4, u4, e4, a4, b4, -⟩ := pick_any l hb p1 u1 12 (by omega) (by omega)
  by_cases c0 : v1 = 0
  · rw [if_pos c0, e2]
    simp only [Option.bind_some]
    exact ⟨_, _, _, rfl, by omega, by omega, wr _⟩
  · rw [if_neg c0]
    by_cases c1 : v1 = 1
    · rw [if_pos c1, e2]
      simp only [Option.bind_some]
      exact ⟨_, _, _, rfl, by omega, by omega, wr _⟩
    · rw [if_neg c1]
      by_cases c2 : v1 = 2
      · rw [if_pos c2, e3]
        simp only [Option.bind_some]
        exact ⟨_, _, _, rfl, by omega, by omega, wr _⟩
      · rw [if_neg c2, e4]
        simp only [Option.bind_some]
        exact ⟨_, _, _, rfl, by omega, by omega, wr _⟩
theorem rules_any (l : List Int) (hb : Bytes l) (p u : Int) (h0 : 0 ≤ p) (h1 : p < 1000000000000) : ∃ a b c p' u', spec_l4Cur_rules.f l p u = some (a, b, c, p', u') ∧ p ≤ p' ∧ p' ≤ p + 6 ∧ 1 ≤ a ∧ a ≤ 6 ∧ 1 ≤ b ∧ b ≤ 20 ∧ 0 ≤ c ∧ c ≤ b := by
  obtain ⟨v1, p1, u1, e1, a1, b1, r1, -⟩ := pick_any l hb p u 6 h0 (by omega)
  obtain ⟨v2, p2, u2, e2, a2, b2, r2, -⟩ := pick_any l hb p1 u1 20 (by omega) (by omega)
  have r1 := r1 (by decide) (by decide)
  have r2 := r2 (by decide) (by decide)
  have w1 : wrap64 (1 + v2) = 1 + v2 := w64 (by omega) (by omega)
  have w2 : wrap64 (1 + v2 + 1) = 1 + v2 + 1 := w64 (by omega) (by omega)
  have w3 : wrap64 (1 + v1) = 1 + v1 := w64 (by omega) (by omega)
  obtain ⟨v3, p3, u3, e3, a3, b3, r3, -⟩ := pick_any l hb p2 u2 (1 + v2 + 1) (by omega) (by omega)
  have r3 := r3 (by omega) (by omega)
  unfold spec_l4Cur_rules.f
  simp only [e1, Option.bind_some, e2, w1, w2, w3, e3]
  exact ⟨_, _, _, _, _, rfl, by omega, by omega, by omega, by omega, by omega, by omega, by omega, by omega⟩
end Go.Proofs.Ytndffnacbfdnoaa.Pure
