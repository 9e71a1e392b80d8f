-- Lines of Pkr that this claim uses.
import Derived.Test.YtndffnacbfdnoaaCOPkd
import Derived.Test.YtndffnacbfdnoaaCOPAllx26
import Derived.Test.YtndffnacbfdnoaaCORunI
set_option linter.unusedSimpArgs false
set_option linter.unusedVariables false
namespace Go.Proofs.Ytndffnacbfdnoaa.Pure
open Go.RowKit Go.Proofs.YtndffnacbfdnoaaW.PrintWords Go.Proofs.YtndffnacbfdnoaaW.PrintLast Go.Proofs.Ytndffnacbfdnoaa.PAll Go.Proofs.Ytndffnacbfdnoaa.Plain
structure DrawnOk (r0 r1 r2 : Int) (S : List S84) (F : List (List Int)) (n : Int) : Prop where
  h0 : 1 ≤ r0 ∧ r0 ≤ 6
  h1 : 1 ≤ r1 ∧ r1 ≤ 20
  h2 : 0 ≤ r2 ∧ r2 ≤ r1
  hn : 1 ≤ n ∧ n ≤ 90
  hs : S.length ≤ 7
  hrise : rising n 1 S
  hf : F.length < 60
  hfs : ∀ f, f ∈ F → f.length ≤ 6 ∧ ∀ d, d ∈ f → 1 ≤ d ∧ d ≤ 14
theorem rising_snoc (t : Int) (x : S84) (h2 : x.f0 ≤ t) : ∀ (L : List S84) (a : Int), rising t a L → a ≤ x.f0 → (∀ s, s ∈ L → s.f0 ≤ x.f0) → rising t a (L ++ [x])
  | [], a, _, h1, _ => ⟨h1, h2, trivial⟩
  | s :: r, a, h, h1, h3 => ⟨h.1, h.2.1, rising_snoc t x h2 r s.f0 h.2.2 (h3 s (by simp)) (fun q hq => h3 q (by simp [hq]))⟩
theorem sets_loop (l : List Int) (hb : Bytes l) (n : Int) (hn : n ≤ 90) (m : Nat) : ∀ (k : Nat) (L : List S84) (at_ p u : Int), m + 1 < k → 0 ≤ p → p + 20 * m < 1000000000 → L.length + m ≤ 7 → 1 ≤ at_ → at_ ≤ 90 → rising n 1 L → (∀ s, s ∈ L → s.f0 ≤ at_) →
    ∃ S p' u', spec_l4Cur_sets.l0 k n L at_ (m : Int) l p u = some (S, p', u') ∧ S.length ≤ 7 ∧ rising n 1 S ∧ p ≤ p' ∧ p' ≤ p + 20 * m := by
  induction m with
  | zero =>
    intro k L at_ p u hk h0 h1 hL ha ha2 hr hs
    obtain ⟨k, rfl⟩ : ∃ q, k = q + 1 := ⟨k - 1, by omega⟩
    simp only [spec_l4Cur_sets.l0]
    rw [if_neg (by omega)]
    exact ⟨L, p, u, rfl, by omega, hr, by omega, by omega⟩
  | succ m ih =>
    intro k L at_ p u hk h0 h1 hL ha ha2 hr hs
    obtain ⟨k, rfl⟩ : ∃ q, k = q + 1 := ⟨k - 1, by omega⟩
    obtain ⟨v, p1, u1, e1, a1, b1, r1, -⟩ := pick_any l hb p u 9 h0 (by omega)
    have r1 := r1 (by decide) (by decide)
    have w1 : wrap64 (at_ + v) = at_ + v := w64 (by omega) (by omega)
    simp only [spec_l4Cur_sets.l0]
    rw [if_pos (by omega), e1, Option.bind_some]
    simp only [w1]
    by_cases hgt : at_ + v > n
    · rw [if_pos hgt]
      exact ⟨L, p1, u1, rfl, by omega, hr, by omega, by omega⟩
    · rw [if_neg hgt]
      obtain ⟨x, p2, u2, e2, a2, b2, -⟩ := whole_any l hb p1 u1 (by omega) (by omega)
      rw [e2, Option.bind_some]
      simp only
      rw [if_pos (by omega), w64 (x := ((m + 1 : Nat) : Int) - 1) (by omega) (by omega), show ((m + 1 : Nat) : Int) - 1 = (m : Int) by omega]
      obtain ⟨S, p', u', e3, h3, h4, h5, h6⟩ := ih k (L ++ [⟨at_ + v, x⟩]) (at_ + v) p2 u2 (by omega) (by omega) (by omega) (by simp; omega) (by omega) (by omega) (rising_snoc n ⟨at_ + v, x⟩ (by show at_ + v ≤ n; omega) L 1 hr (by show 1 ≤ at_ + v; omega) (fun s h => by have := hs s h; show s.f0 ≤ at_ + v; omega)) (fun s h => by
        rcases List.mem_append.1 h with h | h
        · have := hs s h; omega
        · rw [List.mem_singleton.1 h]; exact Int.le_refl _)
      exact ⟨S, p', u', e3, h3, h4, by omega, by omega⟩
def fateOk (f : List Int) : Prop := f.length ≤ 6 ∧ ∀ d, d ∈ f → 1 ≤ d ∧ d ≤ 14
theorem fate_snoc {f : List Int} {j : Nat} {d : Int} (h : ∀ d, d ∈ f → 1 ≤ d ∧ d ≤ 14) (hd : 1 ≤ d ∧ d ≤ 14) : ∀ e, e ∈ f ++ [d] → 1 ≤ e ∧ e ≤ 14 := fun e he => by
  rcases List.mem_append.1 he with he | he
  · exact h e he
  · rw [List.mem_singleton.1 he]; exact hd
theorem fates_l1 (l : List Int) (hb : Bytes l) (lossy : Int) (m : Nat) (c : Int)
    (ih : ∀ (k : Nat) (L : List (List Int)) (p u : Int), 20 * m + 2 < k → 0 ≤ p → p + 40 * m < 1000000000 → L.length + m ≤ 59 → (∀ f, f ∈ L → fateOk f) → ∃ F p' u', spec_l4Cur_fates.l0 k L lossy (m : Int) l p u = some (F, p', u') ∧ F.length ≤ 59 ∧ (∀ f, f ∈ F → fateOk f) ∧ p ≤ p')
    (d : Nat) : ∀ (k j : Nat) (L : List (List Int)) (f : List Int) (p u : Int), 5 - j = d → j ≤ 5 → d + 1 + (20 * m + 2) < k → 0 ≤ p → p + 4 * d + 2 + 40 * m < 1000000000 → L.length + m + 1 ≤ 59 → (∀ f, f ∈ L → fateOk f) → f.length ≤ j + 1 → (∀ e, e ∈ f → 1 ≤ e ∧ e ≤ 14) →
      ∃ F p' u', spec_l4Cur_fates.l1 k L lossy ((m : Int) + 1) f (j : Int) l p u = some (F, p', u') ∧ F.length ≤ 59 ∧ (∀ f, f ∈ F → fateOk f) ∧ p ≤ p' := by
  induction d with
  | zero =>
    intro k j L f p u hd hj hk h0 h1 hL hF hf he
    obtain ⟨k, rfl⟩ : ∃ q, k = q + 1 := ⟨k - 1, by omega⟩
    simp only [spec_l4Cur_fates.l1]
    rw [if_neg (by omega), if_pos (by omega), w64 (x := (m : Int) + 1 - 1) (by omega) (by omega), show (m : Int) + 1 - 1 = (m : Int) by omega]
    exact ih k (L ++ [f]) p u (by omega) h0 (by omega) (by simp; omega) (fun g hg => by
      rcases List.mem_append.1 hg with hg | hg
      · exact hF g hg
      · rw [List.mem_singleton.1 hg]; exact ⟨by omega, he⟩)
  | succ d ihd =>
    intro k j L f p u hd hj hk h0 h1 hL hF hf he
    obtain ⟨k, rfl⟩ : ∃ q, k = q + 1 := ⟨k - 1, by omega⟩
    obtain ⟨v, p1, u1, e1, a1, b1, -, -⟩ := pick_any l hb p u 6 h0 (by omega)
    simp only [spec_l4Cur_fates.l1]
    rw [if_pos (by omega), e1, Option.bind_some]
    simp only
    by_cases hv : v = 0
    · rw [if_pos hv]
      obtain ⟨x, p2, u2, e2, a2, b2, r2, -⟩ := pick_any l hb p1 u1 14 (by omega) (by omega)
      have r2 := r2 (by decide) (by decide)
      rw [e2, Option.bind_some]
      simp only
      rw [if_pos (by omega), wn (by omega), w64 (x := 1 + x) (by omega) (by omega)]
      obtain ⟨F, p', u', e3, h3, h4, h5⟩ := ihd k (j + 1) L (f ++ [1 + x]) p2 u2 (by omega) (by omega) (by omega) (by omega) (by omega) hL hF (by simp; omega) (fate_snoc (j := 0) he (by omega))
      exact ⟨F, p', u', e3, h3, h4, by omega⟩
    · rw [if_neg hv, if_pos (by omega), w64 (x := (m : Int) + 1 - 1) (by omega) (by omega), show (m : Int) + 1 - 1 = (m : Int) by omega]
      obtain ⟨F, p', u', e3, h3, h4, h5⟩ := ih k (L ++ [f]) p1 u1 (by omega) (by omega) (by omega) (by simp; omega) (fun g hg => by
        rcases List.mem_append.1 hg with hg | hg
        · exact hF g hg
        · rw [List.mem_singleton.1 hg]; exact ⟨by omega, he⟩)
      exact ⟨F, p', u', e3, h3, h4, by omega⟩
theorem fates_loop (l : List Int) (hb : Bytes l) (lossy : Int) (m : Nat) : ∀ (k : Nat) (L : List (List Int)) (p u : Int), 20 * m + 2 < k → 0 ≤ p → p + 40 * m < 1000000000 → L.length + m ≤ 59 → (∀ f, f ∈ L → fateOk f) →
    ∃ F p' u', spec_l4Cur_fates.l0 k L lossy (m : Int) l p u = some (F, p', u') ∧ F.length ≤ 59 ∧ (∀ f, f ∈ F → fateOk f) ∧ p ≤ p' := by
  induction m with
  | zero =>
    intro k L p u hk h0 h1 hL hF
    obtain ⟨k, rfl⟩ : ∃ q, k = q + 1 := ⟨k - 1, by omega⟩
    simp only [spec_l4Cur_fates.l0]
    rw [if_neg (by omega)]
    exact ⟨L, p, u, rfl, by omega, hF, by omega⟩
  | succ m ih =>
    intro k L p u hk h0 h1 hL hF
    obtain ⟨k, rfl⟩ : ∃ q, k = q + 1 + 1 + 1 := ⟨k - 3, by omega⟩
    have hj : ∀ (x23 : Bool) (p u : Int), 0 ≤ p → p + 30 + 40 * m < 1000000000 → ∃ F p' u', spec_l4Cur_fates.j1 (k + 1 + 1) L lossy ((m : Int) + 1) [] x23 l p u = some (F, p', u') ∧ F.length ≤ 59 ∧ (∀ f, f ∈ F → fateOk f) ∧ p ≤ p' := by
      intro x23 p u h0 h1
      simp only [spec_l4Cur_fates.j1]
      cases x23 with
      | true =>
        rw [if_pos rfl]
        obtain ⟨v, p1, u1, e1, a1, b1, r1, -⟩ := pick_any l hb p u 4 h0 (by omega)
        have r1 := r1 (by decide) (by decide)
        rw [e1, Option.bind_some]
        simp only [spec_l4Cur_fates.j2]
        rw [if_pos (by simp), w64 (x := 1 + v) (by omega) (by omega)]
        obtain ⟨F, p', u', e3, h3, h4, h5⟩ := fates_l1 l hb lossy m 0 ih 5 k 0 L ([] ++ [1 + v]) p1 u1 (by omega) (by omega) (by omega) (by omega) (by omega) (by omega) hF (by simp) (fun e he => by simp at he; omega)
        exact ⟨F, p', u', e3, h3, h4, by omega⟩
      | false =>
        rw [if_neg (by decide)]
        simp only [spec_l4Cur_fates.j2]
        obtain ⟨F, p', u', e3, h3, h4, h5⟩ := fates_l1 l hb lossy m 0 ih 5 k 0 L [] p u (by omega) (by omega) (by omega) (by omega) (by omega) (by omega) hF (by simp) (fun e he => by simp at he)
        exact ⟨F, p', u', e3, h3, h4, by omega⟩
    rw [show ((m + 1 : Nat) : Int) = (m : Int) + 1 by omega]
    simp only [spec_l4Cur_fates.l0]
    rw [if_pos (by omega)]
    by_cases hl : lossy = 0
    · rw [if_pos hl]
      exact hj true p u h0 (by omega)
    · rw [if_neg hl]
      obtain ⟨v, p1, u1, e1, a1, b1, -, -⟩ := pick_any l hb p u 4 h0 (by omega)
      rw [e1, Option.bind_some]
      simp only
      obtain ⟨F, p', u', e3, h3, h4, h5⟩ := hj (decide (v > lossy)) p1 u1 (by omega) (by omega)
      exact ⟨F, p', u', e3, h3, h4, by omega⟩
theorem drawn_any (l : List Int) (hb : Bytes l) (k : Nat) (hk : 2000 < k) : ∃ r0 r1 r2 S F n, spec_Drawn.f k l = some (r0, r1, r2, S, F, n) ∧ DrawnOk r0 r1 r2 S F n := by
  obtain ⟨a, b, c, p1, u1, e1, q1, q2, ha, ha2, hb1, hb2, hc, hc2⟩ := rules_any l hb 0 0 (by omega) (by omega)
  obtain ⟨v, p2, u2, e2, a2, b2, r2, -⟩ := pick_any l hb p1 u1 90 (by omega) (by omega)
  have r2 := r2 (by decide) (by decide)
  have w1 : wrap64 (1 + v) = 1 + v := w64 (by omega) (by omega)
  obtain ⟨m, p3, u3, e3, a3, b3, r3, -⟩ := pick_any l hb p2 u2 8 (by omega) (by omega)
  have r3 := r3 (by decide) (by decide)
  obtain ⟨mn, rfl⟩ : ∃ q : Nat, m = (q : Int) := ⟨m.toNat, by omega⟩
  obtain ⟨S, p4, u4, e4, hS, hr, a4, b4⟩ := sets_loop l hb (1 + v) (by omega) mn k [] 1 p3 u3 (by omega) (by omega) (by omega) (by simp; omega) (by omega) (by omega) trivial (fun s h => by simp at h)
  obtain ⟨lo, p5, u5, e5, a5, b5, -, -⟩ := pick_any l hb p4 u4 3 (by omega) (by omega)
  obtain ⟨c2, p6, u6, e6, a6, b6, r6, -⟩ := pick_any l hb p5 u5 60 (by omega) (by omega)
  have r6 := r6 (by decide) (by decide)
  obtain ⟨cn, rfl⟩ : ∃ q : Nat, c2 = (q : Int) := ⟨c2.toNat, by omega⟩
  obtain ⟨F, p7, u7, e7, hF, hf, -⟩ := fates_loop l hb lo cn k [] p6 u6 (by omega) (by omega) (by omega) (by simp; omega) (fun s h => by simp at h)
  refine ⟨a, b, c, S, F, 1 + v, ?_, ⟨⟨ha, ha2⟩, ⟨hb1, hb2⟩, ⟨hc, hc2⟩, ⟨by omega, by omega⟩, hS, hr, by omega, hf⟩⟩
  simp only [spec_Drawn.f, spec_l4Cur_sets.f, spec_l4Cur_fates.f, e1, e2, e3, e4, e5, e6, e7, w1, Option.bind_some]
end Go.Proofs.Ytndffnacbfdnoaa.Pure
