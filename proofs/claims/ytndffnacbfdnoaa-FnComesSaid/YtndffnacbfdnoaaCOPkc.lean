-- Lines of Pkc that this claim uses.
import Derived.Test.YtndffnacbfdnoaaCOPki
set_option linter.unusedSimpArgs false
set_option linter.unusedVariables false
namespace Go.Proofs.Ytndffnacbfdnoaa.Pure
open Go.RowKit Go.Proofs.YtndffnacbfdnoaaW.PrintWords Go.Proofs.YtndffnacbfdnoaaW.PrintLast Go.Proofs.Ytndffnacbfdnoaa.PAll Go.Proofs.Ytndffnacbfdnoaa.Plain
def cv (T : Int) : List S84 → Nat
  | [] => 0
  | s :: r => if s.f0 ≤ T then cv T r + 1 else 0
theorem cv_mono {T T' : Int} (h : T ≤ T') : ∀ S : List S84, cv T S ≤ cv T' S
  | [] => Nat.le_refl _
  | s :: r => by
    unfold cv
    have := cv_mono h r
    by_cases h1 : s.f0 ≤ T
    · rw [if_pos h1, if_pos (by omega)]; omega
    · rw [if_neg h1]; omega
theorem cv_le (T : Int) : ∀ S : List S84, cv T S ≤ S.length
  | [] => Nat.le_refl _
  | s :: r => by
    unfold cv
    have := cv_le T r
    split <;> simp <;> omega
theorem cv_low {t a T : Int} (h : T < a) : ∀ S : List S84, rising t a S → cv T S = 0
  | [], _ => rfl
  | s :: r, hr => by
    unfold cv
    rw [if_neg (by have := hr.1; omega)]
theorem cv_all {T : Int} : ∀ S : List S84, (∀ s, s ∈ S → s.f0 ≤ T) → cv T S = S.length
  | [], _ => rfl
  | s :: r, h => by
    unfold cv
    rw [if_pos (h s (by simp)), cv_all r (fun q hq => h q (by simp [hq]))]
    rfl
theorem cv_vals {t now : Int} : ∀ (L : List S84) (a : Int), rising t a L → now ≤ a → cv now L = (vals now L).1.length
  | [], _, _, _ => rfl
  | s :: r, a, h, ha => by
    unfold cv vals
    have h1 := h.1
    by_cases hs : s.f0 = now
    · rw [if_pos (by omega), if_pos hs, cv_vals r s.f0 h.2.2 (by omega)]
      rfl
    · rw [if_neg (by omega), if_neg hs]
      rfl
theorem cv_step {t now : Int} : ∀ (S : List S84) (a : Int), rising t a S → cv now S = cv (now - 1) S + (vals now (S.drop (cv (now - 1) S))).1.length
  | [], _, _ => rfl
  | s :: r, a, h => by
    by_cases hs : s.f0 ≤ now - 1
    · have e1 : cv (now - 1) (s :: r) = cv (now - 1) r + 1 := by
        conv => lhs; unfold cv
        rw [if_pos hs]
      have e2 : cv now (s :: r) = cv now r + 1 := by
        conv => lhs; unfold cv
        rw [if_pos (by omega)]
      rw [e1, e2, List.drop_succ_cons, cv_step r s.f0 h.2.2]
      omega
    · have e1 : cv (now - 1) (s :: r) = 0 := by
        conv => lhs; unfold cv
        rw [if_neg hs]
      rw [e1, List.drop_zero, cv_vals (s :: r) s.f0 ⟨Int.le_refl _, h.2.1, h.2.2⟩ (by omega), Nat.zero_add]
structure TC (S : List S84) (s0 v0 : Int) (c : TSt) : Prop where
  v : c.v = (cv c.s S : Int)
  le : s0 ≤ c.s
  len : (c.sent.length : Int) ≤ c.s - s0
  ack : c.s = s0 ∨ ∃ p, p ∈ c.sent ∧ p.f3 = c.s ∧ p.f1 = c.v
theorem comes_fold {S : List S84} {now age s0 v0 : Int} (hn : now ≤ 1000000) : ∀ (ps : List S60) (c : TSt), (∀ p, p ∈ ps → p.f0 = 1 ∧ p.f1 = (cv p.f3 S : Int) ∧ now - p.f3 ≤ age ∧ 0 ≤ p.f3 ∧ p.f3 ≤ now) → TC S s0 v0 c → TC S s0 v0 (ps.foldl (tStep now age) c) ∧ c.s ≤ (ps.foldl (tStep now age) c).s ∧ ∀ p, p ∈ ps → p.f3 ≤ (ps.foldl (tStep now age) c).s
  | [], c, _, h => ⟨h, Int.le_refl _, fun p hp => by simp at hp⟩
  | p :: ps, c, hp, h => by
    obtain ⟨h1, h2, h3, h4, h5⟩ := hp p (by simp)
    have w1 : wrap64 (now - p.f3) = now - p.f3 := w64 (by omega) (by omega)
    have hst : TC S s0 v0 (tStep now age c p) ∧ c.s ≤ (tStep now age c p).s ∧ p.f3 ≤ (tStep now age c p).s := by
      by_cases hs : p.f3 > c.s
      · have hv : p.f1 ≥ c.v := by have := cv_mono (T := c.s) (T' := p.f3) (by omega) S; have := h.v; omega
        have e : tStep now age c p = ⟨p.f1, p.f2, p.f3, c.sent ++ [⟨2, p.f1, 0, p.f3⟩], wrap64 (c.n + 1)⟩ := by unfold tStep; rw [w1, if_pos ⟨h1, h3, hs, hv⟩]
        rw [e]
        have := h.le; have := h.len
        exact ⟨⟨h2, by show s0 ≤ p.f3; omega, by rw [List.length_append]; show ((c.sent.length + 1 : Nat) : Int) ≤ p.f3 - s0; omega, .inr ⟨⟨2, p.f1, 0, p.f3⟩, List.mem_append_right _ (List.mem_singleton.2 rfl), rfl, rfl⟩⟩, by show c.s ≤ p.f3; omega, Int.le_refl _⟩
      · have e : tStep now age c p = c := by unfold tStep; rw [if_neg (fun hh => hs hh.2.2.1)]
        rw [e]
        exact ⟨h, Int.le_refl _, by omega⟩
    obtain ⟨a1, a2, a3⟩ := hst
    rw [List.foldl_cons]
    obtain ⟨b1, b2, b3⟩ := comes_fold hn ps (tStep now age c p) (fun q hq => hp q (by simp [hq])) a1
    refine ⟨b1, by omega, fun q hq => ?_⟩
    rcases List.mem_cons.1 hq with hq | hq
    · rw [hq]; omega
    · exact b3 q hq
theorem acks_all (v : Int) : ∀ (ps : List S60) (a h : Int), (∀ p, p ∈ ps → p.f0 = 2 ∧ p.f1 ≤ v) → a ≤ (ps.foldl (bStep v) (a, h)).1 ∧ h ≤ (ps.foldl (bStep v) (a, h)).2 ∧ ∀ p, p ∈ ps → p.f1 ≤ (ps.foldl (bStep v) (a, h)).1 ∧ p.f3 ≤ (ps.foldl (bStep v) (a, h)).2
  | [], a, h, _ => ⟨Int.le_refl _, Int.le_refl _, fun p hp => by simp at hp⟩
  | p :: ps, a, h, hp => by
    have e : ∃ a' h', bStep v (a, h) p = (a', h') ∧ a ≤ a' ∧ h ≤ h' ∧ p.f1 ≤ a' ∧ p.f3 ≤ h' := by
      unfold bStep mx
      rw [if_pos (hp p (by simp))]
      refine ⟨_, _, rfl, ?_, ?_, ?_, ?_⟩ <;> split <;> omega
    obtain ⟨a', h', e, b1, b2, b3, b4⟩ := e
    rw [List.foldl_cons, e]
    obtain ⟨c1, c2, c3⟩ := acks_all v ps a' h' (fun q hq => hp q (by simp [hq]))
    refine ⟨by omega, by omega, fun q hq => ?_⟩
    rcases List.mem_cons.1 hq with hq | hq
    · rw [hq]; exact ⟨by omega, by omega⟩
    · exact c3 q hq
theorem put_getD (rows : List (List S133)) (j i : Nat) (x : S133) : (put133 rows j x).getD i [] = if i = j ∧ j < rows.length then rows.getD i [] ++ [x] else rows.getD i [] := by
  unfold put133
  by_cases h : i = j
  · subst h
    by_cases h2 : i < rows.length
    · rw [if_pos ⟨rfl, h2⟩, List.getD_eq_getElem?_getD, List.getElem?_set_self h2]
      rfl
    · rw [if_neg (fun hh => h2 hh.2), List.getD_eq_getElem?_getD, List.getD_eq_getElem?_getD, List.getElem?_eq_none (by simp; omega), List.getElem?_eq_none (by omega)]
  · rw [if_neg (fun hh => h hh.1), List.getD_eq_getElem?_getD, List.getElem?_set_ne (fun hh => h hh.symm), ← List.getD_eq_getElem?_getD]
def Fate (D : Int) (F : List (List Int)) : Prop := ∀ f, f ∈ F → ∃ δ, f = [δ] ∧ 1 ≤ δ ∧ δ ≤ D
theorem send_one {D : Int} {F : List (List Int)} (hF : Fate D F) (n : Int) (h0 : 0 ≤ n) (h1 : n < (F.length : Int)) : ∃ δ, rd_L5 F n = [δ] ∧ 1 ≤ δ ∧ δ ≤ D := by
  have h3 : n.toNat < F.length := by omega
  rw [show rd_L5 F n = F[n.toNat] by simp [rd_L5, List.getD_eq_getElem?_getD, h3]]
  exact hF _ (List.getElem_mem h3)
theorem one_getD (now ticks δ : Int) (x : S133) (rows : List (List S133)) (i : Nat) : (sendP now ticks x [δ] rows).getD i [] = if now + δ ≤ ticks ∧ i = (now + δ).toNat ∧ (now + δ).toNat < rows.length then rows.getD i [] ++ [x] else rows.getD i [] := by
  unfold sendP
  unfold sendP
  by_cases h : now + δ ≤ ticks
  · rw [if_pos h, put_getD]
    by_cases h2 : i = (now + δ).toNat ∧ (now + δ).toNat < rows.length
    · rw [if_pos h2, if_pos ⟨h, h2⟩]
    · rw [if_neg h2, if_neg (fun hh => h2 hh.2)]
  · rw [if_neg h, if_neg (fun hh => h hh.1)]
theorem sendL_grow {D : Int} {F : List (List Int)} (hF : Fate D F) (now ticks : Int) (i : Nat) (c : S133) : ∀ (l : List S60) (n : Int) (rows : List (List S133)), 0 ≤ n → c ∈ rows.getD i [] → c ∈ (sendL F now ticks l n rows).1.getD i []
  | [], n, rows, _, h => h
  | p :: l, n, rows, h0, h => by
    unfold sendL
    refine sendL_grow hF now ticks i c l (n + 1) _ (by omega) ?_
    by_cases hn : n < (F.length : Int)
    · obtain ⟨δ, e, -, -⟩ := send_one hF n h0 hn
      rw [if_pos hn, e, one_getD]
      split
      · exact List.mem_append_left _ h
      · exact h
    · rw [if_neg hn]; exact h
theorem sendL_put {D : Int} {F : List (List Int)} (hF : Fate D F) (now ticks : Int) (hnow : 0 ≤ now) (p : S60) : ∀ (l : List S60) (n : Int) (rows : List (List S133)), 0 ≤ n → n + l.length ≤ (F.length : Int) → (rows.length : Int) = ticks + 1 → p ∈ l → ∃ δ, 1 ≤ δ ∧ δ ≤ D ∧ (now + δ ≤ ticks → ∃ c, c ∈ (sendL F now ticks l n rows).1.getD (now + δ).toNat [] ∧ c.f0 = p)
  | [], n, rows, _, _, _, h => by simp at h
  | q :: l, n, rows, h0, h1, hl, h => by
    simp only [List.length_cons] at h1
    have hn : n < (F.length : Int) := by omega
    unfold sendL
    rw [if_pos hn]
    obtain ⟨δ, e, d1, d2⟩ := send_one hF n h0 hn
    rcases List.mem_cons.1 h with h | h
    · refine ⟨δ, d1, d2, fun ht => ⟨⟨p, n⟩, ?_, rfl⟩⟩
      refine sendL_grow hF now ticks _ _ l (n + 1) _ (by omega) ?_
      rw [e, one_getD, if_pos ⟨ht, rfl, by omega⟩, h]
      simp
    · exact sendL_put hF now ticks hnow p l (n + 1) _ (by omega) (by omega) (by rw [sendP_len]; exact hl) h
theorem sendL_new {D : Int} {F : List (List Int)} (hF : Fate D F) (now ticks : Int) (hnow : 0 ≤ now) (i : Nat) (c : S133) : ∀ (l : List S60) (n : Int) (rows : List (List S133)), 0 ≤ n → c ∈ (sendL F now ticks l n rows).1.getD i [] → c ∈ rows.getD i [] ∨ c.f0 ∈ l ∧ (i : Int) ≤ now + D
  | [], n, rows, _, h => .inl h
  | p :: l, n, rows, h0, h => by
    unfold sendL at h
    rcases sendL_new hF now ticks hnow i c l (n + 1) _ (by omega) h with h2 | h2
    · by_cases hn : n < (F.length : Int)
      · obtain ⟨δ, e, d1, d2⟩ := send_one hF n h0 hn
        rw [if_pos hn, e, one_getD] at h2
        split at h2
        · rename_i hc
          rcases List.mem_append.1 h2 with h3 | h3
          · exact .inl h3
          · rw [List.mem_singleton.1 h3]
            exact .inr ⟨by simp, by omega⟩
        · exact .inl h2
      · rw [if_neg hn] at h2; exact .inl h2
    · exact .inr ⟨by simp [h2.1], h2.2⟩
structure CI (S : List S84) (F : List (List Int)) (D ev ticks now : Int) (b : S29) (t : S48) (rB rT : List (List S133)) (n : Int) (hb hs : Int → Int) : Prop where
  lB : (rB.length : Int) = ticks + 1
  lT : (rT.length : Int) = ticks + 1
  bv : b.f0 = (cv (now - 1) S : Int)
  bs : b.f0 = (cv b.f3 S : Int)
  tv : t.f0 = (cv t.f2 S : Int)
  num : n ≤ (now - 1) + t.f2
  s3 : now - 1 - b.f3 < ev
  cur : now = 1 ∧ b.f3 = 0 ∧ t.f2 = 0 ∨ 1 < now ∧ hb (now - 1) = b.f3 ∧ hs (now - 1) = t.f2
  k1 : ∀ (i : Nat) c, c ∈ rT.getD i [] → (i : Int) - c.f0.f3 ≤ D ∧ c.f0.f1 = (cv c.f0.f3 S : Int)
  j1 : ∀ τ, 1 ≤ τ → τ < now → hb τ ≤ t.f2 ∨ ticks < τ + D ∨ ∃ i : Nat, now ≤ (i : Int) ∧ (i : Int) ≤ τ + D ∧ ∃ c, c ∈ rT.getD i [] ∧ c.f0.f3 = hb τ
  j2 : ∀ τ, 1 ≤ τ → τ < now → hs τ ≤ b.f4 ∧ (cv (hs τ) S : Int) ≤ b.f2 ∨ ticks < τ + D ∨ ∃ i : Nat, now ≤ (i : Int) ∧ (i : Int) ≤ τ + D ∧ ∃ c, c ∈ rB.getD i [] ∧ c.f0.f3 = hs τ ∧ c.f0.f1 = (cv (hs τ) S : Int)
  j3 : ∀ τ, 1 ≤ τ → τ < now → τ - hb τ < ev ∧ cv (hb τ) S = cv τ S
  j4 : ∀ τ, 1 ≤ τ → τ + D < now → hb τ ≤ hs (τ + D)
structure CG (S : List S84) (D ev now : Int) (x : S86) : Prop where
  c1 : ∀ T, (∀ s, s ∈ S → s.f0 ≤ T) → 0 ≤ T → now ≥ T + D → (S = [] ∨ 1 ≤ T) → x.f1.f0 = (S.length : Int)
  c2 : ∀ T, (∀ s, s ∈ S → s.f0 ≤ T) → 0 ≤ T → now ≥ T + 2 * D → (S = [] ∨ 1 ≤ T) → x.f0.f2 = (S.length : Int)
  c3 : ev + 2 * D < now → now - x.f1.f2 < ev + D
  c4 : ev + 2 * D < now → now - x.f0.f4 < ev + 2 * D
theorem boxF_t {a0 a1 a2 now : Int} {b : S29} {vs : List Int} {ps : List S60} (h : (boxF a0 a1 a2 now b vs ps).1 = true) : boxF a0 a1 a2 now b vs ps = boxRes now a0 b.f0 b.f1 b.f2 b.f3 b.f4 vs ps := by
  unfold boxF at h ⊢
  split
  · rfl
  · rename_i hc; rw [if_neg hc] at h; exact absurd h (by decide)
theorem trainF_t {a0 a1 a2 now : Int} {t : S48} {ps : List S60} (h : (trainF a0 a1 a2 now t ps).1 = true) : trainF a0 a1 a2 now t ps = (true, (ps.foldl (tStep now a2) ⟨t.f0, t.f1, t.f2, [], 0⟩).v, (ps.foldl (tStep now a2) ⟨t.f0, t.f1, t.f2, [], 0⟩).x, (ps.foldl (tStep now a2) ⟨t.f0, t.f1, t.f2, [], 0⟩).s, (ps.foldl (tStep now a2) ⟨t.f0, t.f1, t.f2, [], 0⟩).sent, (ps.foldl (tStep now a2) ⟨t.f0, t.f1, t.f2, [], 0⟩).n) := by
  unfold trainF at h ⊢
  split
  · rfl
  · rename_i hc; rw [if_neg hc] at h; exact absurd h (by decide)
theorem bEnd_ah (now e n v x a s h : Int) : (bEnd now e n v x a s h).2.2.2.1 = a ∧ (bEnd now e n v x a s h).2.2.2.2.2.1 = h := by
  unfold bEnd
  split <;> exact ⟨rfl, rfl⟩
theorem pks_at {rows : List (List S133)} {i : Nat} {c : S133} (h : c ∈ rows.getD i []) : c.f0 ∈ pks (rows.getD i []) := List.mem_map_of_mem h
theorem comes_step {r0 r1 r2 : Int} {S : List S84} {F : List (List Int)} {m : Nat} {ticks now D : Int} {b : S29} {t : S48} {rB rT : List (List S133)} {n : Int} {sets : List S84} {hb hs : Int → Int} {x2 x3 x4 x5 x6 y2 y3 y4 y6 : Int} {xs ys : List S60}
    (hris : rising ticks 1 S) (hF : Fate D F) (hFl : 200 ≤ F.length) (hD : 1 ≤ D) (hage : D ≤ r2) (hn : now ≤ 90) (hnt : now ≤ ticks) (h : Inv r0 r1 r2 S F m ticks now b t rB rT n sets) (hc : CI S F D r0 ticks now b t rB rT n hb hs) (hr0 : 1 ≤ r0)
    (h1 : boxF r0 r1 r2 now b (vals now sets).1 (pks (rB.getD now.toNat [])) = (true, x2, x3, x4, x5, x6, xs)) (h2 : trainF r0 r1 r2 now t (pks ((sendL F now ticks xs n rT).1.getD now.toNat [])) = (true, y2, y3, y4, ys, y6))
    (h3 : Inv r0 r1 r2 S F m ticks (now + 1) ⟨x2, x3, x4, x5, x6⟩ ⟨y2, y3, y4⟩ (sendL F now ticks ys (sendL F now ticks xs n rT).2 rB).1 (sendL F now ticks xs n rT).1 (sendL F now ticks ys (sendL F now ticks xs n rT).2 rB).2 (vals now sets).2)
    (h5 : xs = [⟨1, x2, x3, now⟩] ∧ x5 = now ∨ xs = [] ∧ x5 = b.f3 ∧ (vals now sets).1 = [] ∧ now - b.f3 < r0) :
    CI S F D r0 ticks (now + 1) ⟨x2, x3, x4, x5, x6⟩ ⟨y2, y3, y4⟩ (sendL F now ticks ys (sendL F now ticks xs n rT).2 rB).1 (sendL F now ticks xs n rT).1 (sendL F now ticks ys (sendL F now ticks xs n rT).2 rB).2 (fun τ => if τ = now then x5 else hb τ) (fun τ => if τ = now then y4 else hs τ) := by
  have hnow := h.now1
  -- the version
  obtain ⟨v, hv1, hv2, hv3⟩ := h.v
  obtain ⟨v', hw1, hw2, hw3⟩ := h3.v
  have hvc : v = cv (now - 1) S := by have := hc.bv; omega
  have hstep := cv_step (now := now) S 1 hris
  rw [← hvc, ← hv3] at hstep
  have hlen := vals_len now sets
  have hx2 : x2 = (cv now S : Int) := by
    have e1 : sets.length = S.length - v := by rw [hv3]; simp
    have e2 : (vals now sets).2.length = S.length - v' := by rw [hw3]; simp
    have hw2 : x2 = (v' : Int) := hw2
    omega
  -- the box's acks
  have hbr := boxF_t (by rw [h1] : (boxF r0 r1 r2 now b (vals now sets).1 (pks (rB.getD now.toNat []))).1 = true)
  rw [h1] at hbr
  have hah := bEnd_ah now r0 ((vals now sets).1.length : Int) ((vals now sets).1.foldl vStep (b.f0, b.f1)).1 ((vals now sets).1.foldl vStep (b.f0, b.f1)).2 ((pks (rB.getD now.toNat [])).foldl (bStep b.f0) (b.f2, b.f4)).1 b.f3 ((pks (rB.getD now.toNat [])).foldl (bStep b.f0) (b.f2, b.f4)).2
  unfold boxRes at hbr
  rw [← hbr] at hah
  obtain ⟨ha, hh⟩ := hah
  have ha : x4 = _ := ha
  have hh : x6 = _ := hh
  have hacks := acks_all b.f0 (pks (rB.getD now.toNat [])) b.f2 b.f4 (fun p hp => by
    obtain ⟨c, hcm, rfl⟩ := List.mem_map.1 hp
    obtain ⟨r, e1, e2⟩ := getD_mem rB now.toNat c hcm
    have := h.acks r e1 c e2
    have := h.tb
    exact ⟨by omega, by omega⟩)
  rw [← ha, ← hh] at hacks
  obtain ⟨ha1, ha2, ha3⟩ := hacks
  -- the box's stamp
  have hs5 : b.f3 ≤ x5 ∧ x5 ≤ now ∧ now - x5 < r0 ∧ (cv x5 S : Int) = x2 := by
    have := h.s1
    rcases h5 with ⟨e1, e2⟩ | ⟨e1, e2, e3, e4⟩
    · rw [e2]; exact ⟨by omega, by omega, by omega, hx2.symm⟩
    · refine ⟨by omega, by omega, by omega, ?_⟩
      rw [e2, ← hc.bs]
      rw [e3] at hstep
      simp at hstep
      have := hc.bv
      omega
  have hxl : xs.length ≤ 1 := by rcases h5 with ⟨e1, _⟩ | ⟨e1, _⟩ <;> rw [e1] <;> simp
  have hxp : ∀ p, p ∈ xs → p.f3 = now ∧ p.f1 = x2 := fun p hp => by
    rcases h5 with ⟨e1, _⟩ | ⟨e1, _⟩
    · rw [e1] at hp; rw [List.mem_singleton.1 hp]; exact ⟨rfl, rfl⟩
    · rw [e1] at hp; simp at hp
  have hts := h.ts; have hs1 := h.s1; have hts0 := h.ts0; have hn0 := h.n0; have hnum := hc.num
  -- the train's row
  have hk1 : ∀ (i : Nat) c, c ∈ (sendL F now ticks xs n rT).1.getD i [] → (i : Int) - c.f0.f3 ≤ D ∧ c.f0.f1 = (cv c.f0.f3 S : Int) := fun i c hcm => by
    rcases sendL_new hF now ticks (by omega) i c xs n rT hn0 hcm with e | ⟨e1, e2⟩
    · exact hc.k1 i c e
    · obtain ⟨q1, q2⟩ := hxp _ e1
      rw [q1, q2]
      exact ⟨by omega, hx2⟩
  have htr := trainF_t (by rw [h2] : (trainF r0 r1 r2 now t (pks ((sendL F now ticks xs n rT).1.getD now.toNat []))).1 = true)
  rw [h2] at htr
  simp only [Prod.mk.injEq, true_and] at htr
  obtain ⟨e2, e3, e4, eys, e6⟩ := htr
  have hfold := comes_fold (S := S) (now := now) (age := r2) (s0 := t.f2) (v0 := t.f0) (by omega) (pks ((sendL F now ticks xs n rT).1.getD now.toNat [])) ⟨t.f0, t.f1, t.f2, [], 0⟩ (fun p hp => by
    obtain ⟨c, hcm, rfl⟩ := List.mem_map.1 hp
    obtain ⟨q1, q2⟩ := hk1 _ c hcm
    obtain ⟨r, g1, g2⟩ := getD_mem _ now.toNat c hcm
    have g := h3.data r g1 c g2
    have : c.f0.f3 ≤ x5 := g.2.2.2.2.2
    exact ⟨g.1, q2, by omega, g.2.2.2.2.1, by omega⟩) ⟨hc.tv, Int.le_refl _, by simp, .inl rfl⟩
  obtain ⟨f1, f2, f3⟩ := hfold
  have g1 := f1.v; have g2 := f1.le; have g3 := f1.len; have g4 := f1.ack
  rw [← e2, ← e4] at g1
  rw [← e4] at g2
  rw [← eys, ← e4] at g3
  rw [← e4, ← eys, ← e2] at g4
  have f3' : ∀ p, p ∈ pks ((sendL F now ticks xs n rT).1.getD now.toNat []) → p.f3 ≤ y4 := by rw [e4]; exact f3
  have hn2 : (sendL F now ticks xs n rT).2 = n + xs.length := sendL_n F now ticks xs n rT
  have hgT : ∀ (i : Nat) c, c ∈ rT.getD i [] → c ∈ (sendL F now ticks xs n rT).1.getD i [] := fun i c hcm => sendL_grow hF now ticks i c xs n rT hn0 hcm
  have hgB : ∀ (i : Nat) c, c ∈ rB.getD i [] → c ∈ (sendL F now ticks ys (sendL F now ticks xs n rT).2 rB).1.getD i [] := fun i c hcm => sendL_grow hF now ticks i c ys _ rB (by rw [hn2]; omega) hcm
  have hy4 : y4 ≤ x5 := h3.ts
  -- old stamps
  have old1 : ∀ τ, 1 ≤ τ → τ < now → hb τ ≤ y4 ∨ ticks < τ + D ∨ ∃ i : Nat, now + 1 ≤ (i : Int) ∧ (i : Int) ≤ τ + D ∧ ∃ c, c ∈ (sendL F now ticks xs n rT).1.getD i [] ∧ c.f0.f3 = hb τ := fun τ q1 q2 => by
    rcases hc.j1 τ q1 q2 with q | q | ⟨i, q3, q4, c, q5, q6⟩
    · exact .inl (by omega)
    · exact .inr (.inl q)
    · by_cases hi : (i : Int) = now
      · refine .inl ?_
        rw [← q6]
        have hi : i = now.toNat := by omega
        rw [hi] at q5
        exact f3' _ (pks_at (hgT _ c q5))
      · exact .inr (.inr ⟨i, by omega, q4, c, hgT i c q5, q6⟩)
  have old2 : ∀ τ, 1 ≤ τ → τ < now → hs τ ≤ x6 ∧ (cv (hs τ) S : Int) ≤ x4 ∨ ticks < τ + D ∨ ∃ i : Nat, now + 1 ≤ (i : Int) ∧ (i : Int) ≤ τ + D ∧ ∃ c, c ∈ (sendL F now ticks ys (sendL F now ticks xs n rT).2 rB).1.getD i [] ∧ c.f0.f3 = hs τ ∧ c.f0.f1 = (cv (hs τ) S : Int) := fun τ q1 q2 => by
    rcases hc.j2 τ q1 q2 with q | q | ⟨i, q3, q4, c, q5, q6, q7⟩
    · exact .inl ⟨by omega, by omega⟩
    · exact .inr (.inl q)
    · by_cases hi : (i : Int) = now
      · have hi : i = now.toNat := by omega
        rw [hi] at q5
        obtain ⟨p1, p2⟩ := ha3 _ (pks_at q5)
        exact .inl ⟨by omega, by omega⟩
      · exact .inr (.inr ⟨i, by omega, q4, c, hgB i c q5, q6, q7⟩)
  have new1 : x5 ≤ y4 ∨ ticks < now + D ∨ ∃ i : Nat, now + 1 ≤ (i : Int) ∧ (i : Int) ≤ now + D ∧ ∃ c, c ∈ (sendL F now ticks xs n rT).1.getD i [] ∧ c.f0.f3 = x5 := by
    rcases h5 with ⟨q1, q2⟩ | ⟨q1, q2, -, -⟩
    · obtain ⟨δ, d1, d2, d3⟩ := sendL_put hF now ticks (by omega) ⟨1, x2, x3, now⟩ xs n rT hn0 (by omega) hc.lT (by rw [q1]; simp)
      by_cases hd : now + δ ≤ ticks
      · obtain ⟨c, c1, c2⟩ := d3 hd
        exact .inr (.inr ⟨(now + δ).toNat, by omega, by omega, c, c1, by rw [c2, q2]⟩)
      · exact .inr (.inl (by omega))
    · rcases hc.cur with ⟨p1, p2, p3⟩ | ⟨p1, p2, p3⟩
      · exact .inl (by omega)
      · rcases old1 (now - 1) (by omega) (by omega) with q | q | ⟨i, q3, q4, c, q5, q6⟩
        · exact .inl (by omega)
        · exact .inr (.inl (by omega))
        · exact .inr (.inr ⟨i, q3, by omega, c, q5, by omega⟩)
  have new2 : y4 ≤ x6 ∧ (cv y4 S : Int) ≤ x4 ∨ ticks < now + D ∨ ∃ i : Nat, now + 1 ≤ (i : Int) ∧ (i : Int) ≤ now + D ∧ ∃ c, c ∈ (sendL F now ticks ys (sendL F now ticks xs n rT).2 rB).1.getD i [] ∧ c.f0.f3 = y4 ∧ c.f0.f1 = (cv y4 S : Int) := by
    rcases g4 with q | ⟨p, q1, q2, q3⟩
    · have q : y4 = t.f2 := q
      rcases hc.cur with ⟨p1, p2, p3⟩ | ⟨p1, p2, p3⟩
      · have := h3.h0
        have : 0 ≤ x6 := this
        have e : cv y4 S = 0 := cv_low (T := y4) (a := 1) (by omega) S hris
        have h4 : 0 ≤ x4 := h3.a0
        exact .inl ⟨by omega, by omega⟩
      · rcases old2 (now - 1) (by omega) (by omega) with r | r | ⟨i, r3, r4, c, r5, r6, r7⟩
        · rw [p3, ← q] at r; exact .inl r
        · exact .inr (.inl (by omega))
        · rw [p3, ← q] at r6 r7; exact .inr (.inr ⟨i, r3, by omega, c, r5, r6, r7⟩)
    · obtain ⟨δ, d1, d2, d3⟩ := sendL_put hF now ticks (by omega) p ys (sendL F now ticks xs n rT).2 rB (by rw [hn2]; omega) (by rw [hn2]; omega) hc.lB q1
      by_cases hd : now + δ ≤ ticks
      · obtain ⟨c, c1, c2⟩ := d3 hd
        exact .inr (.inr ⟨(now + δ).toNat, by omega, by omega, c, c1, by rw [c2]; exact q2, by rw [c2, q3]; exact g1⟩)
      · exact .inr (.inl (by omega))
  refine ⟨by rw [sendL_len]; exact hc.lB, by rw [sendL_len]; exact hc.lT, by show x2 = _; rw [hx2, show now + 1 - 1 = now by omega], hs5.2.2.2.symm, g1, ?_, by show now + 1 - 1 - x5 < r0; omega, .inr ⟨by omega, by show (if now + 1 - 1 = now then x5 else _) = x5; rw [if_pos (by omega)], by show (if now + 1 - 1 = now then y4 else _) = y4; rw [if_pos (by omega)]⟩, hk1, ?_, ?_, ?_, ?_⟩
  · show _ ≤ now + 1 - 1 + y4
    rw [sendL_n, hn2]
    omega
  · intro τ q1 q2
    by_cases hτ : τ = now
    · simp only [if_pos hτ]; rw [hτ]; exact new1
    · simp only [if_neg hτ]; exact old1 τ q1 (by omega)
  · intro τ q1 q2
    by_cases hτ : τ = now
    · simp only [if_pos hτ]; rw [hτ]; exact new2
    · simp only [if_neg hτ]; exact old2 τ q1 (by omega)
  · intro τ q1 q2
    by_cases hτ : τ = now
    · simp only [if_pos hτ]; rw [hτ]; exact ⟨by omega, by have := hs5.2.2.2; omega⟩
    · simp only [if_neg hτ]; exact hc.j3 τ q1 (by omega)
  · intro τ q1 q2
    by_cases hτ : τ + D = now
    · simp only [if_neg (show ¬ τ = now by omega), if_pos hτ]
      rcases old1 τ q1 (by omega) with q | q | ⟨i, q3, q4, -⟩
      · exact q
      · omega
      · omega
    · simp only [if_neg (show ¬ τ = now by omega), if_neg hτ]; exact hc.j4 τ q1 (by omega)
theorem comes_good {r0 r1 r2 : Int} {S : List S84} {F : List (List Int)} {m : Nat} {ticks now D : Int} {b : S29} {t : S48} {rB rT : List (List S133)} {n z1 z2 : Int} {sets : List S84} {hb hs : Int → Int}
    (hris : rising ticks 1 S) (hD : 1 ≤ D) (hnt : now ≤ ticks) (h : Inv r0 r1 r2 S F m ticks (now + 1) b t rB rT n sets) (hc : CI S F D r0 ticks (now + 1) b t rB rT n hb hs) (hr0 : 1 ≤ r0) : CG S D r0 now ⟨b, t, z1, z2⟩ := by
  have hst : ∀ τ, 1 ≤ τ → τ + D ≤ now → hb τ ≤ t.f2 := fun τ q1 q2 => by
    rcases hc.j1 τ q1 (by omega) with q | q | ⟨i, q3, q4, -⟩
    · exact q
    · omega
    · omega
  have hhr : ∀ τ, 1 ≤ τ → τ + D ≤ now → hs τ ≤ b.f4 ∧ (cv (hs τ) S : Int) ≤ b.f2 := fun τ q1 q2 => by
    rcases hc.j2 τ q1 (by omega) with q | q | ⟨i, q3, q4, -⟩
    · exact q
    · omega
    · omega
  have hle := cv_le t.f2 S
  have htv := hc.tv
  have hbv := hc.bv
  have hcb := cv_le (now + 1 - 1) S
  have htb := h.tb; have hat := h.at_; have ha0 := h.a0; have ht0 := h.t0
  refine ⟨fun T hT h0 hg hS => ?_, fun T hT h0 hg hS => ?_, fun hg => ?_, fun hg => ?_⟩
  · show t.f0 = _
    rcases hS with hS | hS
    · subst hS
      have z1 : cv t.f2 [] = 0 := rfl
      have z2 : ([] : List S84).length = 0 := rfl
      omega
    · have q := hst (now - D) (by omega) (by omega)
      have q2 := (hc.j3 (now - D) (by omega) (by omega)).2
      have q3 : cv (now - D) S = S.length := cv_all S (fun s hs => by have := hT s hs; omega)
      have q4 := cv_mono q S
      omega
  · show b.f2 = _
    rcases hS with hS | hS
    · subst hS
      have z1 : cv t.f2 [] = 0 := rfl
      have z2 : ([] : List S84).length = 0 := rfl
      omega
    · have q := (hhr (now - D) (by omega) (by omega)).2
      have q1 := hc.j4 (now - D - D) (by omega) (by omega)
      rw [show now - D - D + D = now - D by omega] at q1
      have q2 := (hc.j3 (now - D - D) (by omega) (by omega)).2
      have q3 : cv (now - D - D) S = S.length := cv_all S (fun s hs => by have := hT s hs; omega)
      have q4 := cv_mono q1 S
      have q5 := cv_le (hs (now - D)) S
      omega
  · show now - t.f2 < _
    have q := hst (now - D) (by omega) (by omega)
    have q2 := (hc.j3 (now - D) (by omega) (by omega)).1
    omega
  · show now - b.f4 < _
    have q := (hhr (now - D) (by omega) (by omega)).1
    have q1 := hc.j4 (now - D - D) (by omega) (by omega)
    rw [show now - D - D + D = now - D by omega] at q1
    have q2 := (hc.j3 (now - D - D) (by omega) (by omega)).1
    omega
theorem run_comes {r0 r1 r2 : Int} {S : List S84} {F : List (List Int)} {m : Nat} {ticks D : Int} (hr : rulesB r0 r1 r2 = true) (hS : S.length ≤ 100) (hFm : ∀ f, f ∈ F → f.length ≤ m) (hm : m * F.length ≤ 1000) (ht : ticks ≤ 90) (hris : rising ticks 1 S) (hF : Fate D F) (hFl : 200 ≤ F.length) (hD : 1 ≤ D) (hage : D ≤ r2) (hr0 : 1 ≤ r0) :
    ∀ (k : Nat) (now : Int) (b : S29) (t : S48) (rB rT : List (List S133)) (n : Int) (sets : List S84) (out : List S86) (hb hs : Int → Int), now + k = ticks + 1 → Inv r0 r1 r2 S F m ticks now b t rB rT n sets → CI S F D r0 ticks now b t rB rT n hb hs →
      ∃ tail, runLoop r0 r1 r2 F ticks k now b t rB rT n sets out = out ++ tail ∧ tail.length = k ∧ chain (fun now b t x => Good r0 r1 r2 S now b t x ∧ CG S D r0 now x) now b t tail := by
  intro k
  induction k with
  | zero => intro now b t rB rT n sets out hb hs hk h hc; exact ⟨[], by simp [runLoop], rfl, trivial⟩
  | succ k ih =>
    intro now b t rB rT n sets out hb hs hk h hc
    obtain ⟨x2, x3, x4, x5, x6, xs, y2, y3, y4, ys, y6, h1, h2, h3, h4, h5⟩ := tick_inv hr hS hFm hm (by omega) h
    have hc2 := comes_step hris hF hFl hD hage (by omega) (by omega) h hc hr0 h1 h2 h3 h5
    rw [run_ok h1 h2]
    obtain ⟨tail, e1, e2, e3⟩ := ih (now + 1) _ _ _ _ _ _ (out ++ [⟨⟨x2, x3, x4, x5, x6⟩, ⟨y2, y3, y4⟩, (xs.length : Int) + (ys.length : Int), y6⟩]) _ _ (by omega) h3 hc2
    exact ⟨⟨⟨x2, x3, x4, x5, x6⟩, ⟨y2, y3, y4⟩, (xs.length : Int) + (ys.length : Int), y6⟩ :: tail, by rw [e1]; simp, by simp [e2], ⟨h4, comes_good hris hD (by omega) h3 hc2 hr0⟩, e3⟩
end Go.Proofs.Ytndffnacbfdnoaa.Pure
