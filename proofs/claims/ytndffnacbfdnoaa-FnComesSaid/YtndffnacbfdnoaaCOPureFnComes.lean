-- Lines of PureFnComes that this claim uses.
import Derived.Test.YtndffnacbfdnoaaCOPkc
import Derived.Test.YtndffnacbfdnoaaCOPAllx27
set_option linter.unusedSimpArgs false
set_option linter.unusedVariables false
namespace Go.Proofs.Ytndffnacbfdnoaa.Pure
open Go.RowKit Go.Proofs.YtndffnacbfdnoaaW.PrintWords Go.Proofs.YtndffnacbfdnoaaW.PrintLast Go.Proofs.Ytndffnacbfdnoaa.PAll Go.Proofs.Ytndffnacbfdnoaa.Plain
theorem tsil_c (r0 r1 r2 now : Int) (t : S48) (hr : rulesB r0 r1 r2 = true) (ht : trainB now t = true) : impl_TrainSilent.f r0 r1 r2 now t.f0 t.f1 t.f2 = some (decide (wrap64 (now - t.f2) > r1)) := by
  simp only [impl_TrainSilent.f, rules_is, train_ok_is, hr, ht, Option.bind_some, if_true]
theorem bsil_c (r0 r1 r2 now : Int) (b : S29) (hr : rulesB r0 r1 r2 = true) (hb : boxB now b = true) : impl_BoxSilent.f r0 r1 r2 now b.f0 b.f1 b.f2 b.f3 b.f4 = some (decide (wrap64 (now - b.f4) > r1)) := by
  simp only [impl_BoxSilent.f, rules_is, box_ok_is, hr, hb, Option.bind_some, if_true]
theorem gbox_c {r0 r1 r2 : Int} {S : List S84} {now : Int} {b : S29} {t : S48} {x : S86} (g : Good r0 r1 r2 S now b t x) (hS : S.length ≤ 100) (h2 : now ≤ 1000000000) : boxB now x.f0 = true := by
  have e1 := g.vb; have e2 := g.va; have e3 := g.v1; have e4 := g.t0; have e5 := g.a0; have e6 := g.st; have e7 := g.s0; have e8 := g.s1; have e9 := g.h0; have e10 := g.h1
  unfold boxB
  exact decide_eq_true ⟨by omega, by omega, by omega, by omega, by omega, by omega, by omega, by omega, by omega, by omega⟩
theorem gtrain_c {r0 r1 r2 : Int} {S : List S84} {now : Int} {b : S29} {t : S48} {x : S86} (g : Good r0 r1 r2 S now b t x) (hS : S.length ≤ 100) (h0 : now ≤ 1000000000) : trainB now x.f1 = true := by
  have e1 := g.vb; have e2 := g.va; have e3 := g.v1; have e4 := g.t0; have e5 := g.a0; have e6 := g.st; have e7 := g.s0; have e8 := g.s1; have e9 := g.h0; have e10 := g.h1
  unfold trainB
  exact decide_eq_true ⟨by omega, by omega, by omega, by omega, by omega, by omega⟩
theorem wb_any (l : List Int) (hb : Bytes l) (hl : l.length ≤ 1048576) (a : Int) (h0 : 0 ≤ a) : ∃ v, laws_wByte.f l a = some v ∧ 0 ≤ v ∧ v ≤ 255 := by
  unfold laws_wByte.f
  by_cases h : (l.length : Int) = 0
  · rw [if_pos h]; exact ⟨0, rfl, by omega, by omega⟩
  · have h1 := Int.tmod_nonneg (l.length : Int) h0
    have h2 := Int.tmod_lt_of_pos a (show (0 : Int) < (l.length : Int) by omega)
    rw [if_neg h, if_pos h1, if_pos h2]
    have h3 : (Int.tmod a (l.length : Int)).toNat < l.length := by omega
    have h4 : rd l (Int.tmod a (l.length : Int)) = l[(Int.tmod a (l.length : Int)).toNat] := by simp [rd, List.getD_eq_getElem?_getD, h3]
    have h5 := hb _ (List.getElem_mem h3)
    rw [h4, w64 (by omega) (by omega)]
    exact ⟨_, rfl, h5⟩
theorem ss1 {a i e : Nat} (h : a - i = e + 1) : a - (i + 1) = e := by omega
theorem ss2 {a i e : Nat} (h : a - i = e + 1) : i < a := by omega
theorem ss3 {a i e k : Nat} (h : a - i = e + 1) (hk : 2 * (e + 1) + 2 < k) : ∃ q, k = q + 1 + 1 ∧ 2 * e + 2 < q := ⟨k - 2, by omega, by omega⟩
theorem ss4 {a i : Nat} (h : i < a) (ha : a ≤ 2000) : (0 : Int) ≤ (i : Int) ∧ (i : Int) < (a : Int) ∧ 1 ≤ (i : Int) + 1 ∧ (i : Int) + 1 ≤ 2000 ∧ wrap64 ((i : Int) + 1) = (i : Int) + 1 ∧ ((i + 1 : Nat) : Int) = (i : Int) + 1 := ⟨by omega, by omega, by omega, by omega, w64 (by omega) (by omega), by omega⟩
theorem wb1 {a b c : Int} (h : 0 ≤ a ∧ a ≤ 1000) (hb : 1 ≤ b ∧ b ≤ 6) : wrap64 (a + b) = a + b ∧ wrap64 (2 * b) = 2 * b ∧ wrap64 (a + 2 * b) = a + 2 * b := ⟨w64 (by omega) (by omega), w64 (by omega) (by omega), w64 (by omega) (by omega)⟩
theorem wb2 {n f : Int} (hn : 1 ≤ n ∧ n ≤ 2000) (h0 : 0 ≤ f) (h1 : f ≤ n) : wrap64 (n - f) = n - f := w64 (by omega) (by omega)
theorem wb3 {n f c r1 : Int} (h : n - f < c) (h1 : c ≤ r1) : decide (n - f > r1) = false := decide_eq_false (by omega)
theorem wb4 {a d r1 : Int} (h1 : a + 2 * d ≤ r1) (hd : 1 ≤ d ∧ d ≤ 6) : a + d ≤ r1 := by omega
theorem wb5 {n l d : Int} (hd : 1 ≤ d ∧ d ≤ 6) (h : ¬ n ≥ l + d) : ¬ n ≥ l + 2 * d := by omega
theorem wb6 {a n : Int} (h0 : 1 ≤ a ∧ a ≤ 6) : 0 ≤ a ∧ a ≤ 1000 := ⟨by omega, by omega⟩
theorem com_fin {r0 r1 r2 d last now z : Int} {S : List S84} {M : List S86} {x : S86} {b : S29} {t : S48} {k : Nat} {i : Int} (hr : rulesB r0 r1 r2 = true) (h0 : 1 ≤ r0 ∧ r0 ≤ 6) (h1 : r0 + 2 * d ≤ r1) (hd : 1 ≤ d ∧ d ≤ 6) (hS : S.length ≤ 100) (hn : 1 ≤ now ∧ now ≤ 2000)
    (g : Good r0 r1 r2 S now b t x) (gc : CG S d r0 now x) (h : laws_FnComes.l1 k S d last M z (wrap64 (i + 1)) r0 r1 r2 = some true) : laws_FnComes.j6 (k + 1) S d last now M z i false r0 r1 r2 x.f0.f0 x.f0.f1 x.f0.f2 x.f0.f3 x.f0.f4 x.f1.f0 x.f1.f1 x.f1.f2 x.f2 x.f3 = some true := by
  have hB := gbox_c g hS (by omega)
  have hTr := gtrain_c g hS (by omega)
  obtain ⟨-, w2, w4⟩ := wb1 (c := 0) (wb6 (n := 0) h0) hd
  have w5 := wb2 hn g.s0 (Int.le_trans g.st g.s1)
  have w6 := wb2 hn g.h0 g.h1
  simp only [laws_FnComes.j6, Bool.false_eq_true, if_false, w2, w4]
  by_cases q : now > r0 + 2 * d
  · have q3 := gc.c3 q
    have q4 := gc.c4 q
    rw [if_pos q, tsil_c r0 r1 r2 _ _ hr hTr, Option.bind_some, w5, wb3 q3 (wb4 h1 hd), if_neg (by decide), bsil_c r0 r1 r2 _ _ hr hB, Option.bind_some, w6, wb3 q4 h1, if_neg (by decide)]
    exact h
  · rw [if_neg q]
    exact h
theorem com_loop {r0 r1 r2 d last : Int} {S : List S84} (hr : rulesB r0 r1 r2 = true) (h0 : 1 ≤ r0 ∧ r0 ≤ 6) (h1 : r0 + 2 * d ≤ r1) (hd : 1 ≤ d ∧ d ≤ 6) (hS : S.length ≤ 100) (hl : 0 ≤ last ∧ last ≤ 1000) (hT : ∀ s, s ∈ S → s.f0 ≤ last) (hS1 : S = [] ∨ 1 ≤ last) (M : List S86) (hM : M.length ≤ 2000) (e : Nat) : ∀ (k i : Nat) (b : S29) (t : S48), M.length - i = e → i ≤ M.length → 2 * e + 2 < k → chain (fun now b t x => Good r0 r1 r2 S now b t x ∧ CG S d r0 now x) ((i : Int) + 1) b t (M.drop i) →
    laws_FnComes.l1 k S d last M (M.length : Int) (i : Int) r0 r1 r2 = some true := by
  have HS1 := Aside0.mk hS1
  clear hS1
  induction e with
  | zero =>
    intro k i b t he hi hk hc
    clear hl hd h1 h0 hS
    obtain ⟨k, rfl⟩ : ∃ q, k = q + 1 := ⟨k - 1, by omega⟩
    have c1 : ¬ (i : Int) < (M.length : Int) := by omega
    simp only [laws_FnComes.l1]
    rw [if_neg c1]
  | succ e ih =>
    intro k i b t he hi hk hc
    obtain ⟨k, rfl, o3⟩ := ss3 he hk
    have hlt := ss2 he
    have o1 := ss1 he
    obtain ⟨p0, p1, p2, p3, hnn, hce⟩ := ss4 hlt hM
    rw [List.drop_eq_getElem_cons hlt] at hc
    obtain ⟨⟨g, gc⟩, hc⟩ := hc
    have hc2 : chain (fun now b t x => Good r0 r1 r2 S now b t x ∧ CG S d r0 now x) (((i + 1 : Nat) : Int) + 1) (M[i]).f0 (M[i]).f1 (M.drop (i + 1)) := hce ▸ hc
    have h := ih k (i + 1) (M[i]).f0 (M[i]).f1 o1 hlt o3 hc2
    rw [hce, ← hnn] at h
    obtain ⟨w1, w2, w3⟩ := wb1 (c := 0) hl hd
    have fin := com_fin hr h0 h1 hd hS ⟨p2, p3⟩ g gc h
    simp only [laws_FnComes.l1, rd86 M i hlt]
    rw [if_pos p1, if_pos p0, if_pos p1, hnn, w1, w2, w3]
    by_cases q1 : (i : Int) + 1 ≥ last + d
    · have c1 := gc.c1 last hT hl.1 q1 HS1.out
      rw [if_pos q1, if_pos c1]
      by_cases q2 : (i : Int) + 1 ≥ last + 2 * d
      · have c2 := gc.c2 last hT hl.1 q2 HS1.out
        have c3 : ((M[i]).f0.f2 != (S.length : Int)) = false := by rw [c2]; exact bne_self_eq_false _
        rw [if_pos q2, c3]
        exact fin
      · rw [if_neg q2]
        exact fin
    · rw [if_neg q1, if_neg (wb5 hd q1)]
      exact fin
theorem fates_set (l1 : List Int) (hb : Bytes l1) (hl1 : l1.length ≤ 1048576) (S : List S84) (n d r0 r1 r2 : Int) (hd : 1 ≤ d ∧ d ≤ 6) (R : Option Bool) (C : Nat)
    (hend : ∀ (k : Nat) (F : List (List Int)), C < k → F.length = 400 → Fate d F → laws_FnComes.l0 k l1 S n d F 400 400 r0 r1 r2 = R) (e : Nat) :
    ∀ (k i : Nat) (F : List (List Int)), 400 - i = e → i ≤ 400 → e + C < k → F.length = 400 → (∀ j (h : j < F.length), j < i → ∃ δ, F[j] = [δ] ∧ 1 ≤ δ ∧ δ ≤ d) → laws_FnComes.l0 k l1 S n d F 400 (i : Int) r0 r1 r2 = R := by
  induction e with
  | zero =>
    intro k i F he hi hk hF hj
    have : i = 400 := by omega
    subst this
    exact hend k F (by omega) hF (fun f hf => by
      obtain ⟨j, hlt, rfl⟩ := List.getElem_of_mem hf
      exact hj j hlt (by omega))
  | succ e ih =>
    intro k i F he hi hk hF hj
    obtain ⟨k, rfl⟩ : ∃ q, k = q + 1 := ⟨k - 1, by omega⟩
    obtain ⟨v, e1, v0, v1⟩ := wb_any l1 hb hl1 (i : Int) (by omega)
    have t1 := Int.tmod_nonneg d v0
    have t2 := Int.tmod_lt_of_pos v (show (0 : Int) < d by omega)
    have w1 : wrap64 (1 + Int.tmod v d) = 1 + Int.tmod v d := w64 (by omega) (by omega)
    simp only [laws_FnComes.l0]
    rw [if_pos (by omega), e1, Option.bind_some, if_neg (by omega), if_pos (by omega), if_pos (by omega), w1, wn (by omega), Int.toNat_natCast]
    refine ih k (i + 1) (F.set i [1 + Int.tmod v d]) (by omega) (by omega) (by omega) (by simpa using hF) (fun j h hji => ?_)
    by_cases hjj : j = i
    · subst hjj
      rw [List.getElem_set_self]
      exact ⟨_, rfl, by omega, by omega⟩
    · rw [List.getElem_set_ne (fun hh => hjj hh.symm)]
      exact hj j (by simpa using h) (by omega)
theorem rising_ge (t : Int) : ∀ (S : List S84) (a : Int), rising t a S → ∀ s, s ∈ S → a ≤ s.f0 ∧ s.f0 ≤ t
  | [], _, _, s, h => by simp at h
  | x :: r, a, h, s, hs => by
    rcases List.mem_cons.1 hs with hs | hs
    · rw [hs]; exact ⟨h.1, h.2.1⟩
    · have := rising_ge t r x.f0 h.2.2 s hs
      exact ⟨by have := h.1; omega, this.2⟩
theorem rising_last (t : Int) : ∀ (S : List S84) (a : Int) (h : 0 < S.length), rising t a S → ∀ s, s ∈ S → s.f0 ≤ (S[S.length - 1]'(by omega)).f0
  | [], _, h, _, _, _ => by simp at h
  | [x], a, _, h, s, hs => by simp at hs; rw [hs]; simp
  | x :: y :: r, a, _, h, s, hs => by
    have ih := rising_last t (y :: r) x.f0 (by simp) h.2.2
    have e : ((x :: y :: r)[(x :: y :: r).length - 1]'(by simp)) = ((y :: r)[(y :: r).length - 1]'(by simp)) := by simp
    rw [e]
    rcases List.mem_cons.1 hs with hs | hs
    · rw [hs]
      have h1 := ih y (by simp)
      have h2 := h.2.2.1
      omega
    · exact ih s hs
theorem ci_start (S : List S84) (F : List (List Int)) (D ev ticks : Int) (hr : rising ticks 1 S) (h0 : 0 ≤ ticks) (hev : 1 ≤ ev) : CI S F D ev ticks 1 z29 z48 (List.replicate (ticks + 1).toNat []) (List.replicate (ticks + 1).toNat []) 0 (fun _ => 0) (fun _ => 0) := by
  have hz : cv 0 S = 0 := cv_low (T := 0) (a := 1) (by omega) S hr
  refine ⟨by simp; omega, by simp; omega, by show (0 : Int) = _; rw [show (1 : Int) - 1 = 0 by omega, hz]; rfl, by show (0 : Int) = _; show (0 : Int) = (cv 0 S : Int); rw [hz]; rfl, by show (0 : Int) = (cv 0 S : Int); rw [hz]; rfl, by decide, by show (1 : Int) - 1 - 0 < ev; omega, .inl ⟨rfl, rfl, rfl⟩, fun i c hc => ?_, fun τ h1 h2 => by omega, fun τ h1 h2 => by omega, fun τ h1 h2 => by omega, fun τ h1 h2 => ?_⟩
  · obtain ⟨r, e1, e2⟩ := getD_mem _ i c hc
    rw [List.eq_of_mem_replicate e1] at e2
    simp at e2
  · exact Int.le_refl _
theorem FnComes (l0 : List Int) (l1 : List Int) (_ : l0.length ≤ maxLen) (_ : l0.length * 1 ≤ 140737488351232) (hw : (∀ x ∈ l0, (Lit.int .u8 x).wf = true)) (_ : l1.length ≤ maxLen) (_ : l1.length * 1 ≤ 140737488351232) (hw1 : (∀ x ∈ l1, (Lit.int .u8 x).wf = true)) : ∃ k, laws_FnComes.f k l0 l1 = some true := by
  have hb : Bytes l0 := fun x hx => wf_byte (hw x hx)
  have hb1 : Bytes l1 := fun x hx => wf_byte (hw1 x hx)
  obtain ⟨K, hK⟩ : ∃ K, 20000 < K := ⟨20001, by omega⟩
  refine ⟨K + 1 + 1 + 1, ?_⟩
  unfold laws_FnComes.f
  split
  · simp only [laws_FnComes.j0, if_true]
  · by_cases hl1 : (l1.length : Int) > 1048576
    · rw [decide_eq_true hl1]
      simp only [laws_FnComes.j0, if_true]
    · rw [decide_eq_false hl1]
      simp only [laws_FnComes.j0, Bool.false_eq_true, if_false]
      obtain ⟨r0, r1, r2, S, F0, n, e, hd⟩ := drawn_any l0 hb (K + 1 + 1) (by omega)
      obtain ⟨v, ev, v0, v1⟩ := wb_any l1 hb1 (by omega) 0 (by omega)
      have t1 := Int.tmod_nonneg 6 v0
      have t2 := Int.tmod_lt_of_pos v (show (0 : Int) < 6 by omega)
      obtain ⟨d, hdd⟩ : ∃ d, d = 1 + Int.tmod v 6 := ⟨_, rfl⟩
      have w1 : wrap64 (1 + Int.tmod v 6) = d := by rw [hdd]; exact w64 (by omega) (by omega)
      have q0 := hd.h0; have q1 := hd.h1; have q2 := hd.h2; have q3 := hd.hn; have q4 := hd.hs; have q5 := hd.hrise
      have w2 : wrap64 (2 * d) = 2 * d := w64 (by omega) (by omega)
      have w3 : wrap64 (r0 + 2 * d) = r0 + 2 * d := w64 (by omega) (by omega)
      -- the law behind the choice of rules
      have main : ∀ r1' r2' : Int, r0 + 2 * d ≤ r1' → r1' ≤ 100 → d ≤ r2' → r2' ≤ r1' → laws_FnComes.j2 (K + 1) l1 S n d r0 r1' r2' = some true := by
        intro r1' r2' p1 p2 p3 p4
        rw [laws_FnComes.j2, if_pos (by omega), Option.bind_some, List.length_replicate]
        have hl := fates_set l1 hb1 (by omega) S n d r0 r1' r2' (by omega) (some true) 10000 (fun k F hk hF hFa => ?_) 400 K 0 (List.replicate 400 []) (by omega) (by omega) (by omega) List.length_replicate (fun j h hj => by omega)
        · exact hl
        · obtain ⟨k, rfl⟩ : ∃ q, k = q + 1 + 1 := ⟨k - 2, by omega⟩
          have hrb : rulesB r0 r1' r2' = true := by unfold rulesB; exact decide_eq_true ⟨by omega, by omega, by omega, by omega, by omega, by omega⟩
          have gG : RunGood r0 r1' r2' S F n := ⟨hrb, by omega, by omega, by omega, by omega, q5, fun f hf => by
            obtain ⟨δ, e1, e2, e3⟩ := hFa f hf
            rw [e1]
            exact ⟨by simp, fun x hx => by rw [List.mem_singleton.1 hx]; omega⟩⟩
          obtain ⟨M, m1, m2, m3⟩ := run_comes (r0 := r0) (r1 := r1') (r2 := r2') (S := S) (F := F) (m := 1) (ticks := n) (D := d) hrb (by omega) (fun f hf => by obtain ⟨δ, e1, -, -⟩ := hFa f hf; rw [e1]; simp) (by omega) (by omega) q5 hFa (by omega) (by omega) p3 (by omega) n.toNat 1 z29 z48 (List.replicate (n + 1).toNat []) (List.replicate (n + 1).toNat []) 0 S [] (fun _ => 0) (fun _ => 0) (by omega) (inv_start _ _ _ _ _ _ _ _) (ci_start S F d r0 n q5 (by omega) (by omega))
          have hrun : impl_Run.f r0 r1' r2' S F n = some M := by unfold impl_Run.f; rw [if_pos (good_to gG), m1]; rfl
          simp only [laws_FnComes.l0]
          rw [if_neg (by omega), hrun, Option.bind_some, if_pos (by omega)]
          by_cases hS : (S.length : Int) > 0
          · have hlast : wrap64 ((S.length : Int) - 1) = ((S.length - 1 : Nat) : Int) := by rw [w64 (by omega) (by omega)]; omega
            have hrd : rd_T84 S ((S.length - 1 : Nat) : Int) = S[S.length - 1]'(by omega) := by simp [rd_T84, List.getD_eq_getElem?_getD, show S.length - 1 < S.length by omega]
            have hrl := rising_last n S 1 (by omega) q5
            have hge := rising_ge n S 1 q5 (S[S.length - 1]'(by omega)) (List.getElem_mem _)
            rw [if_pos hS, hlast, if_pos (by omega), if_pos (by omega), hrd]
            simp only [laws_FnComes.j4]
            have h := com_loop (r0 := r0) (r1 := r1') (r2 := r2') (d := d) (last := (S[S.length - 1]'(by omega)).f0) (S := S) hrb q0 p1 (by omega) (by omega) (by omega) hrl (.inr hge.1) M (by omega) M.length k 0 z29 z48 (by omega) (by omega) (by omega) (by simpa using m3)
            simpa using h
          · have hnil : S = [] := List.length_eq_zero_iff.1 (by omega)
            rw [if_neg hS]
            simp only [laws_FnComes.j4]
            have h := com_loop (r0 := r0) (r1 := r1') (r2 := r2') (d := d) (last := 0) (S := S) hrb q0 p1 (by omega) (by omega) (by omega) (fun s hs => by rw [hnil] at hs; simp at hs) (.inl hnil) M (by omega) M.length k 0 z29 z48 (by omega) (by omega) (by omega) (by simpa using m3)
            simpa using h
      have main1 : ∀ r2' : Int, d ≤ r2' → r2' ≤ 20 → (r2' ≤ r1 ∨ r2' = d) → laws_FnComes.j1 (K + 1 + 1) l1 S n d r0 r1 r2' = some true := by
        intro r2' p1 p2 p3
        simp only [laws_FnComes.j1]
        rw [w2, w3]
        by_cases h : r1 < r0 + 2 * d
        · rw [if_pos h]; exact main _ _ (by omega) (by omega) p1 (by omega)
        · rw [if_neg h]; exact main _ _ (by omega) (by omega) p1 (by omega)
      rw [e, Option.bind_some]
      simp only
      rw [ev, Option.bind_some, w1]
      by_cases h : r2 < d
      · rw [if_pos h]; exact main1 d (by omega) (by omega) (.inr rfl)
      · rw [if_neg h]; exact main1 r2 (by omega) (by omega) (.inl (by omega))
end Go.Proofs.Ytndffnacbfdnoaa.Pure
