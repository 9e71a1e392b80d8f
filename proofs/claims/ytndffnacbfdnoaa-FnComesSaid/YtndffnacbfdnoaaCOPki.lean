-- Lines of Pki that this claim uses.
import Derived.Test.YtndffnacbfdnoaaCOPkr
set_option linter.unusedSimpArgs false
set_option linter.unusedVariables false
namespace Go.Proofs.Ytndffnacbfdnoaa.Pure
open Go.RowKit Go.Proofs.YtndffnacbfdnoaaW.PrintWords Go.Proofs.YtndffnacbfdnoaaW.PrintLast Go.Proofs.Ytndffnacbfdnoaa.PAll Go.Proofs.Ytndffnacbfdnoaa.Plain
def stood (S : List S84) (v : Int) : Int := if 1 ≤ v ∧ v ≤ (S.length : Int) then (rd_T84 S (v - 1)).f1 else 0
theorem stood_at (S : List S84) (i : Nat) (h : i < S.length) : stood S ((i : Int) + 1) = S[i].f1 := by
  unfold stood
  rw [if_pos (by omega)]
  have : ((i : Int) + 1 - 1).toNat = i := by omega
  simp [rd_T84, this, List.getD_eq_getElem?_getD, h]
theorem vals_len (now : Int) : ∀ s : List S84, (vals now s).1.length + (vals now s).2.length = s.length
  | [] => rfl
  | a :: r => by
    unfold vals
    split
    · have := vals_len now r
      simp only [List.length_cons]
      omega
    · simp
theorem vals_fold (S : List S84) (hS : S.length ≤ 1000) (now : Int) : ∀ (d v : Nat), S.length - v = d → v ≤ S.length →
    ∃ v' : Nat, v ≤ v' ∧ v' ≤ S.length ∧ (vals now (S.drop v)).2 = S.drop v' ∧ (vals now (S.drop v)).1.length = v' - v ∧ (vals now (S.drop v)).1.foldl vStep ((v : Int), stood S v) = ((v' : Int), stood S v') := by
  intro d
  induction d with
  | zero =>
    intro v hd hv
    rw [List.drop_of_length_le (by omega)]
    exact ⟨v, by omega, hv, by rw [List.drop_of_length_le (by omega)]; rfl, by simp [vals], rfl⟩
  | succ d ih =>
    intro v hd hv
    have hlt : v < S.length := by omega
    rw [List.drop_eq_getElem_cons hlt]
    unfold vals
    by_cases h : S[v].f0 = now
    · rw [if_pos h]
      obtain ⟨v', a, b, c, e, f⟩ := ih (v + 1) (by omega) (by omega)
      refine ⟨v', by omega, b, c, by simp only [List.length_cons]; omega, ?_⟩
      rw [List.foldl_cons]
      have : vStep ((v : Int), stood S v) S[v].f1 = (((v + 1 : Nat) : Int), stood S ((v + 1 : Nat) : Int)) := by
        unfold vStep
        rw [wn (by omega), show ((v + 1 : Nat) : Int) = (v : Int) + 1 by omega, stood_at S v hlt]
      rw [this]
      exact f
    · rw [if_neg h]
      exact ⟨v, by omega, hv, by rw [List.drop_eq_getElem_cons hlt], by simp, rfl⟩
theorem put_mem {rows : List (List S133)} {i : Nat} {x c : S133} {r : List S133} (hr : r ∈ put133 rows i x) (hc : c ∈ r) : (∃ r0, r0 ∈ rows ∧ c ∈ r0) ∨ c = x := by
  rcases List.mem_or_eq_of_mem_set hr with h | h
  · exact .inl ⟨r, h, hc⟩
  · subst h
    rcases List.mem_append.1 hc with h | h
    · rw [List.getD_eq_getElem?_getD] at h
      cases hi : rows[i]? with
      | none => rw [hi] at h; simp at h
      | some q => rw [hi] at h; exact .inl ⟨q, List.mem_of_getElem? hi, h⟩
    · exact .inr (List.mem_singleton.1 h)
theorem sendP_in (now ticks : Int) (x : S133) : ∀ (f : List Int) (rows : List (List S133)) (r : List S133) (c : S133), r ∈ sendP now ticks x f rows → c ∈ r → (∃ r0, r0 ∈ rows ∧ c ∈ r0) ∨ c = x
  | [], rows, r, c, hr, hc => .inl ⟨r, hr, hc⟩
  | d :: f, rows, r, c, hr, hc => by
    unfold sendP at hr
    rcases sendP_in now ticks x f _ r c hr hc with ⟨r0, h1, h2⟩ | h
    · split at h1
      · exact put_mem h1 h2
      · exact .inl ⟨r0, h1, h2⟩
    · exact .inr h
theorem sendL_in (fa : List (List Int)) (now ticks : Int) : ∀ (l : List S60) (n : Int) (rows : List (List S133)) (r : List S133) (c : S133), r ∈ (sendL fa now ticks l n rows).1 → c ∈ r → (∃ r0, r0 ∈ rows ∧ c ∈ r0) ∨ c.f0 ∈ l
  | [], n, rows, r, c, hr, hc => .inl ⟨r, hr, hc⟩
  | p :: l, n, rows, r, c, hr, hc => by
    unfold sendL at hr
    rcases sendL_in fa now ticks l (n + 1) _ r c hr hc with ⟨r0, h1, h2⟩ | h
    · split at h1
      · rcases sendP_in _ _ _ _ _ _ _ h1 h2 with h3 | h3
        · exact .inl h3
        · exact .inr (by rw [h3]; simp)
      · exact .inl ⟨r0, h1, h2⟩
    · exact .inr (by simp [h])
theorem sendL_max (m : Nat) (fa : List (List Int)) (hfa : ∀ f, f ∈ fa → f.length ≤ m) (now ticks : Int) : ∀ (l : List S60) (n : Int) (rows : List (List S133)), 0 ≤ n → (∀ q, q ∈ rows → q.length ≤ m * min n.toNat fa.length) → ∀ q, q ∈ (sendL fa now ticks l n rows).1 → q.length ≤ m * min (n + l.length).toNat fa.length
  | [], n, rows, _, hM, q, hq => by simpa using hM q hq
  | p :: l, n, rows, h0, hM, q, hq => by
    unfold sendL at hq
    have h := sendL_max m fa hfa now ticks l (n + 1) _ (by omega) (fun r hr => ?_) q hq
    · rw [show n + ((p :: l).length : Int) = n + 1 + (l.length : Int) by simp; omega]
      exact h
    · by_cases hn : n < (fa.length : Int)
      · rw [if_pos hn] at hr
        have h1 := sendP_mem now ticks ⟨p, n⟩ (rd_L5 fa n) rows (m * min n.toNat fa.length) hM r hr
        have h2 : (rd_L5 fa n).length ≤ m := by
          have h3 : n.toNat < fa.length := by omega
          rw [show rd_L5 fa n = fa[n.toNat] by simp [rd_L5, List.getD_eq_getElem?_getD, h3]]
          exact hfa _ (List.getElem_mem h3)
        rw [show min (n + 1).toNat fa.length = min n.toNat fa.length + 1 by omega, Nat.mul_succ]
        omega
      · rw [if_neg hn] at hr
        have h1 := hM r hr
        rw [show min (n + 1).toNat fa.length = min n.toNat fa.length by omega]
        exact h1
theorem acks_fold (v T H : Int) : ∀ (ps : List S60) (a h : Int), (∀ p, p ∈ ps → p.f1 ≤ T ∧ p.f3 ≤ H) → a ≤ T → h ≤ H → a ≤ (ps.foldl (bStep v) (a, h)).1 ∧ (ps.foldl (bStep v) (a, h)).1 ≤ T ∧ h ≤ (ps.foldl (bStep v) (a, h)).2 ∧ (ps.foldl (bStep v) (a, h)).2 ≤ H
  | [], a, h, _, ha, hh => ⟨Int.le_refl _, ha, Int.le_refl _, hh⟩
  | p :: ps, a, h, hp, ha, hh => by
    obtain ⟨h1, h2⟩ := hp p (by simp)
    rw [List.foldl_cons]
    have hb : ∃ a' h', bStep v (a, h) p = (a', h') ∧ a ≤ a' ∧ a' ≤ T ∧ h ≤ h' ∧ h' ≤ H := by
      unfold bStep mx
      split
      · refine ⟨_, _, rfl, ?_, ?_, ?_, ?_⟩ <;> split <;> omega
      · exact ⟨a, h, rfl, by omega, ha, by omega, hh⟩
    obtain ⟨a', h', e, b1, b2, b3, b4⟩ := hb
    rw [e]
    have := acks_fold v T H ps a' h' (fun q hq => hp q (by simp [hq])) b2 b4
    exact ⟨by omega, this.2.1, by omega, this.2.2.2⟩
structure TI (S : List S84) (V now age v0 x0 s0 B : Int) (c : TSt) : Prop where
  x : c.x = stood S c.v
  lo : v0 ≤ c.v
  hi : c.v ≤ V
  s1 : s0 ≤ c.s
  s2 : c.s ≤ B
  n0 : 0 ≤ c.n
  n1 : c.n = (c.sent.length : Int)
  none : c.n = 0 → c.v = v0 ∧ c.x = x0 ∧ c.s = s0
  some : 0 < c.n → now - c.s ≤ age ∧ s0 < c.s
  sent : ∀ p, p ∈ c.sent → p.f0 = 2 ∧ p.f2 = 0 ∧ 0 ≤ p.f1 ∧ p.f1 ≤ c.v ∧ 0 ≤ p.f3 ∧ p.f3 ≤ c.s
theorem train_step {S : List S84} {V now age v0 x0 s0 B : Int} {c : TSt} (h : TI S V now age v0 x0 s0 B c) (p : S60) (hp : p.f0 = 1 ∧ p.f2 = stood S p.f1 ∧ 0 ≤ p.f1 ∧ p.f1 ≤ V ∧ 0 ≤ p.f3 ∧ p.f3 ≤ B) (hB : B ≤ now) (hn : now ≤ 1000000) (hl : c.sent.length ≤ 1000000) : TI S V now age v0 x0 s0 B (tStep now age c p) := by
  obtain ⟨h1, h2, h3, h4, h5, h6⟩ := hp
  have w1 : wrap64 (now - p.f3) = now - p.f3 := w64 (by omega) (by omega)
  have w2 : wrap64 (c.n + 1) = c.n + 1 := w64 (by have := h.n1; omega) (by have := h.n1; omega)
  unfold tStep
  rw [w1, w2]
  split
  · rename_i hc
    obtain ⟨-, c2, c3, c4⟩ := hc
    have e1 := h.s1
    have e2 := h.lo
    have e3 := h.n0
    have e4 := h.n1
    exact ⟨h2, by show v0 ≤ p.f1; omega, h4, by show s0 ≤ p.f3; omega, h6, by show 0 ≤ c.n + 1; omega, by show c.n + 1 = _; simp; omega, fun h0 => by have h0 : c.n + 1 = 0 := h0; omega, fun _ => ⟨c2, by show s0 < p.f3; omega⟩, fun q hq => by
      rcases List.mem_append.1 hq with hq | hq
      · obtain ⟨g1, g2, g3, g4, g5, g6⟩ := h.sent q hq
        exact ⟨g1, g2, g3, by show q.f1 ≤ p.f1; omega, g5, by show q.f3 ≤ p.f3; omega⟩
      · rw [List.mem_singleton.1 hq]
        exact ⟨rfl, rfl, h3, Int.le_refl _, h5, Int.le_refl _⟩⟩
  · exact h
theorem train_fold {S : List S84} {V now age v0 x0 s0 B : Int} (hB : B ≤ now) (hn : now ≤ 1000000) : ∀ (ps : List S60) (c : TSt), (∀ p, p ∈ ps → p.f0 = 1 ∧ p.f2 = stood S p.f1 ∧ 0 ≤ p.f1 ∧ p.f1 ≤ V ∧ 0 ≤ p.f3 ∧ p.f3 ≤ B) → c.sent.length + ps.length ≤ 1000000 → TI S V now age v0 x0 s0 B c → TI S V now age v0 x0 s0 B (ps.foldl (tStep now age) c)
  | [], c, _, _, h => h
  | p :: ps, c, hp, hl, h => by
    rw [List.foldl_cons]
    simp only [List.length_cons] at hl
    exact train_fold hB hn ps _ (fun q hq => hp q (by simp [hq])) (by have := tstep_len now age c p; omega) (train_step h p (hp p (by simp)) hB hn (by omega))
structure Inv (r0 r1 r2 : Int) (S : List S84) (F : List (List Int)) (m : Nat) (ticks now : Int) (b : S29) (t : S48) (rB rT : List (List S133)) (n : Int) (sets : List S84) : Prop where
  now1 : 1 ≤ now
  v : ∃ v : Nat, v ≤ S.length ∧ b.f0 = (v : Int) ∧ sets = S.drop v
  bx : b.f1 = stood S b.f0
  tx : t.f1 = stood S t.f0
  t0 : 0 ≤ t.f0
  tb : t.f0 ≤ b.f0
  ts0 : 0 ≤ t.f2
  ts : t.f2 ≤ b.f3
  a0 : 0 ≤ b.f2
  at_ : b.f2 ≤ t.f0
  s0 : 0 ≤ b.f3
  s1 : b.f3 < now
  h0 : 0 ≤ b.f4
  h1 : b.f4 ≤ t.f2
  n0 : 0 ≤ n
  data : ∀ r, r ∈ rT → ∀ c, c ∈ r → c.f0.f0 = 1 ∧ c.f0.f2 = stood S c.f0.f1 ∧ 0 ≤ c.f0.f1 ∧ c.f0.f1 ≤ b.f0 ∧ 0 ≤ c.f0.f3 ∧ c.f0.f3 ≤ b.f3
  acks : ∀ r, r ∈ rB → ∀ c, c ∈ r → c.f0.f0 = 2 ∧ c.f0.f2 = 0 ∧ 0 ≤ c.f0.f1 ∧ c.f0.f1 ≤ t.f0 ∧ 0 ≤ c.f0.f3 ∧ c.f0.f3 ≤ t.f2
  lB : ∀ q, q ∈ rB → q.length ≤ m * min n.toNat F.length
  lT : ∀ q, q ∈ rT → q.length ≤ m * min n.toNat F.length
structure Good (r0 r1 r2 : Int) (S : List S84) (now : Int) (b : S29) (t : S48) (x : S86) : Prop where
  vb : x.f1.f0 ≤ x.f0.f0
  va : x.f0.f2 ≤ x.f1.f0
  mt : t.f0 ≤ x.f1.f0
  mb : b.f0 ≤ x.f0.f0
  ma : b.f2 ≤ x.f0.f2
  xt : x.f1.f1 = stood S x.f1.f0
  xb : x.f0.f1 = stood S x.f0.f0
  v1 : x.f0.f0 ≤ (S.length : Int)
  t0 : 0 ≤ x.f1.f0
  a0 : 0 ≤ x.f0.f2
  k0 : 0 ≤ x.f3
  some : 0 < x.f3 → now - x.f1.f2 ≤ r2 ∧ t.f2 < x.f1.f2
  none : x.f3 = 0 → x.f1 = t
  st : x.f1.f2 ≤ x.f0.f3
  s0 : 0 ≤ x.f1.f2
  s1 : x.f0.f3 ≤ now
  h0 : 0 ≤ x.f0.f4
  h1 : x.f0.f4 ≤ now
def chain (G : Int → S29 → S48 → S86 → Prop) : Int → S29 → S48 → List S86 → Prop
  | _, _, _, [] => True
  | now, b, t, x :: r => G now b t x ∧ chain G (now + 1) x.f0 x.f1 r
theorem getD_mem {α : Type} (L : List (List α)) (i : Nat) (c : α) (h : c ∈ L.getD i []) : ∃ r, r ∈ L ∧ c ∈ r := by
  rw [List.getD_eq_getElem?_getD] at h
  cases hi : L[i]? with
  | none => rw [hi] at h; simp at h
  | some q => rw [hi] at h; exact ⟨q, List.mem_of_getElem? hi, h⟩
theorem getD_len {α : Type} (L : List (List α)) (i M : Nat) (h : ∀ q, q ∈ L → q.length ≤ M) : (L.getD i []).length ≤ M := by
  rw [List.getD_eq_getElem?_getD]
  cases hi : L[i]? with
  | none => simp
  | some q => exact h q (List.mem_of_getElem? hi)
theorem tick_inv {r0 r1 r2 : Int} {S : List S84} {F : List (List Int)} {m : Nat} {ticks now : Int} {b : S29} {t : S48} {rB rT : List (List S133)} {n : Int} {sets : List S84}
    (hr : rulesB r0 r1 r2 = true) (hS : S.length ≤ 100) (hF : ∀ f, f ∈ F → f.length ≤ m) (hm : m * F.length ≤ 1000) (hn : now ≤ 2000) (h : Inv r0 r1 r2 S F m ticks now b t rB rT n sets) :
    ∃ x2 x3 x4 x5 x6 xs y2 y3 y4 ys y6, boxF r0 r1 r2 now b (vals now sets).1 (pks (rB.getD now.toNat [])) = (true, x2, x3, x4, x5, x6, xs) ∧ trainF r0 r1 r2 now t (pks ((sendL F now ticks xs n rT).1.getD now.toNat [])) = (true, y2, y3, y4, ys, y6) ∧
      Inv r0 r1 r2 S F m ticks (now + 1) ⟨x2, x3, x4, x5, x6⟩ ⟨y2, y3, y4⟩ (sendL F now ticks ys (sendL F now ticks xs n rT).2 rB).1 (sendL F now ticks xs n rT).1 (sendL F now ticks ys (sendL F now ticks xs n rT).2 rB).2 (vals now sets).2 ∧
      Good r0 r1 r2 S now b t ⟨⟨x2, x3, x4, x5, x6⟩, ⟨y2, y3, y4⟩, (xs.length : Int) + (ys.length : Int), y6⟩ ∧
      (xs = [⟨1, x2, x3, now⟩] ∧ x5 = now ∨ xs = [] ∧ x5 = b.f3 ∧ (vals now sets).1 = [] ∧ now - b.f3 < r0) := by
  obtain ⟨v, hv1, hv2, hv3⟩ := h.v
  have hnow := h.now1
  obtain ⟨v', w1, w2, w3, w4, w5⟩ := vals_fold S (by omega) now (S.length - v) v rfl hv1
  rw [← hv3] at w3 w4 w5
  have hfm : ∀ k : Nat, m * min k F.length ≤ 1000 := fun k => Nat.le_trans (Nat.mul_le_mul_left m (Nat.min_le_right _ _)) hm
  -- the acks
  have hA : ∀ p, p ∈ pks (rB.getD now.toNat []) → p.f0 = 2 ∧ p.f2 = 0 ∧ 0 ≤ p.f1 ∧ p.f1 ≤ t.f0 ∧ 0 ≤ p.f3 ∧ p.f3 ≤ t.f2 := fun p hp => by
    obtain ⟨c, hc, rfl⟩ := List.mem_map.1 hp
    obtain ⟨r, h1, h2⟩ := getD_mem rB now.toNat c hc
    exact h.acks r h1 c h2
  have hAl : (pks (rB.getD now.toNat [])).length ≤ 1000 := by
    have := getD_len rB now.toNat _ h.lB
    have := hfm n.toNat
    simp only [pks, List.length_map]
    omega
  have hbk : pksB now (pks (rB.getD now.toNat [])) = true := by
    unfold pksB
    simp only [Bool.and_eq_true, decide_eq_true_eq, List.all_eq_true]
    refine ⟨hAl, fun p hp => ?_⟩
    obtain ⟨g1, g2, g3, g4, g5, g6⟩ := hA p hp
    have := h.tb; have := h.ts; have := h.s1
    unfold pkB
    exact decide_eq_true ⟨.inr ⟨g1, g2⟩, by omega, by omega, by omega, by omega, by omega⟩
  have hbb : boxB now b = true := by
    have := h.a0; have := h.at_; have := h.tb; have := h.s0; have := h.s1; have := h.h0; have := h.h1; have := h.ts
    unfold boxB
    exact decide_eq_true ⟨by omega, by omega, by omega, by omega, by omega, by omega, by omega, by omega, by omega, by omega⟩
  have hbox : boxF r0 r1 r2 now b (vals now sets).1 (pks (rB.getD now.toNat [])) = boxRes now r0 b.f0 b.f1 b.f2 b.f3 b.f4 (vals now sets).1 (pks (rB.getD now.toNat [])) := by
    unfold boxF
    rw [hr, hbb, hbk, decide_eq_true (show (vals now sets).1.length ≤ 100 by omega), w64 (by omega) (by omega), decide_eq_true (by omega)]
    rfl
  obtain ⟨fa, fa2, fa3, fa4⟩ := acks_fold b.f0 t.f0 t.f2 (pks (rB.getD now.toNat [])) b.f2 b.f4 (fun p hp => ⟨(hA p hp).2.2.2.1, (hA p hp).2.2.2.2.2⟩) h.at_ h.h1
  obtain ⟨a', ha'⟩ : ∃ x, x = ((pks (rB.getD now.toNat [])).foldl (bStep b.f0) (b.f2, b.f4)).1 := ⟨_, rfl⟩
  obtain ⟨h', hh'⟩ : ∃ x, x = ((pks (rB.getD now.toNat [])).foldl (bStep b.f0) (b.f2, b.f4)).2 := ⟨_, rfl⟩
  rw [← ha'] at fa fa2
  rw [← hh'] at fa3 fa4
  have hws : wrap64 (now - b.f3) = now - b.f3 := w64 (by have := h.s0; have := h.s1; omega) (by have := h.s0; have := h.s1; omega)
  have hres : ∃ x5 xs, boxF r0 r1 r2 now b (vals now sets).1 (pks (rB.getD now.toNat [])) = (true, (v' : Int), stood S v', a', x5, h', xs) ∧ b.f3 ≤ x5 ∧ x5 ≤ now ∧ (xs = [⟨1, (v' : Int), stood S v', now⟩] ∧ x5 = now ∨ xs = [] ∧ x5 = b.f3 ∧ (vals now sets).1 = [] ∧ now - b.f3 < r0) := by
    rw [hbox]
    unfold boxRes
    rw [hv2, show b.f1 = stood S (v : Int) by rw [h.bx, hv2], w5, ← hv2, ← ha', ← hh']
    unfold bEnd
    rw [hws]
    split
    · exact ⟨now, _, rfl, by have := h.s1; omega, by omega, .inl ⟨rfl, rfl⟩⟩
    · rename_i hc
      refine ⟨b.f3, [], rfl, by omega, by have := h.s1; omega, .inr ⟨rfl, rfl, ?_, by omega⟩⟩
      have : (vals now sets).1.length = 0 := by omega
      exact List.length_eq_zero_iff.1 this
  obtain ⟨x5, xs, hb1, hb2, hb3, hb4⟩ := hres
  have hxs : ∀ p, p ∈ xs → p = ⟨1, (v' : Int), stood S v', now⟩ ∧ x5 = now := fun p hp => by
    rcases hb4 with ⟨e1, e2⟩ | ⟨e1, _⟩
    · rw [e1] at hp; exact ⟨List.mem_singleton.1 hp, e2⟩
    · rw [e1] at hp; simp at hp
  have hxl : xs.length ≤ 1 := by
    rcases hb4 with ⟨e1, _⟩ | ⟨e1, _⟩ <;> rw [e1] <;> simp
  -- the train
  have hD : ∀ r, r ∈ (sendL F now ticks xs n rT).1 → ∀ c, c ∈ r → c.f0.f0 = 1 ∧ c.f0.f2 = stood S c.f0.f1 ∧ 0 ≤ c.f0.f1 ∧ c.f0.f1 ≤ (v' : Int) ∧ 0 ≤ c.f0.f3 ∧ c.f0.f3 ≤ x5 := fun r hr c hc => by
    rcases sendL_in F now ticks xs n rT r c hr hc with ⟨r0, e1, e2⟩ | e
    · obtain ⟨g1, g2, g3, g4, g5, g6⟩ := h.data r0 e1 c e2
      exact ⟨g1, g2, g3, by omega, g5, by omega⟩
    · obtain ⟨e1, e2⟩ := hxs _ e
      rw [e1]
      exact ⟨rfl, rfl, by show (0 : Int) ≤ (v' : Int); omega, Int.le_refl _, by show 0 ≤ now; omega, by show now ≤ x5; omega⟩
  have hLT := sendL_max m F hF now ticks xs n rT h.n0 h.lT
  have hP : ∀ p, p ∈ pks ((sendL F now ticks xs n rT).1.getD now.toNat []) → p.f0 = 1 ∧ p.f2 = stood S p.f1 ∧ 0 ≤ p.f1 ∧ p.f1 ≤ (v' : Int) ∧ 0 ≤ p.f3 ∧ p.f3 ≤ x5 := fun p hp => by
    obtain ⟨c, hc, rfl⟩ := List.mem_map.1 hp
    obtain ⟨r, h1, h2⟩ := getD_mem _ now.toNat c hc
    exact hD r h1 c h2
  have hPl : (pks ((sendL F now ticks xs n rT).1.getD now.toNat [])).length ≤ 1000 := by
    have := getD_len (sendL F now ticks xs n rT).1 now.toNat _ hLT
    have := hfm (n + xs.length).toNat
    simp only [pks, List.length_map]
    omega
  have htk : pksB now (pks ((sendL F now ticks xs n rT).1.getD now.toNat [])) = true := by
    unfold pksB
    simp only [Bool.and_eq_true, decide_eq_true_eq, List.all_eq_true]
    refine ⟨hPl, fun p hp => ?_⟩
    obtain ⟨g1, g2, g3, g4, g5, g6⟩ := hP p hp
    unfold pkB
    exact decide_eq_true ⟨.inl g1, by omega, by omega, by omega, by omega, by omega⟩
  have htb : trainB now t = true := by
    have := h.t0; have := h.tb; have := h.ts0; have := h.ts; have := h.s1
    unfold trainB
    exact decide_eq_true ⟨by omega, by omega, by omega, by omega, by omega, by omega⟩
  have hti := train_fold (S := S) (V := (v' : Int)) (now := now) (age := r2) (v0 := t.f0) (x0 := t.f1) (s0 := t.f2) (B := x5) hb3 (by omega) (pks ((sendL F now ticks xs n rT).1.getD now.toNat [])) ⟨t.f0, t.f1, t.f2, [], 0⟩ hP (by have := hPl; show 0 + (pks ((sendL F now ticks xs n rT).1.getD now.toNat [])).length ≤ 1000000; omega)
    ⟨h.tx, Int.le_refl _, by show t.f0 ≤ (v' : Int); have := h.tb; omega, Int.le_refl _, by show t.f2 ≤ x5; have := h.ts; omega, Int.le_refl _, rfl, fun _ => ⟨rfl, rfl, rfl⟩, fun h => absurd (show (0 : Int) < 0 from h) (by decide), fun p hp => by simp at hp⟩
  have htr : trainF r0 r1 r2 now t (pks ((sendL F now ticks xs n rT).1.getD now.toNat [])) = (true, ((pks ((sendL F now ticks xs n rT).1.getD now.toNat [])).foldl (tStep now r2) ⟨t.f0, t.f1, t.f2, [], 0⟩).v, ((pks ((sendL F now ticks xs n rT).1.getD now.toNat [])).foldl (tStep now r2) ⟨t.f0, t.f1, t.f2, [], 0⟩).x, ((pks ((sendL F now ticks xs n rT).1.getD now.toNat [])).foldl (tStep now r2) ⟨t.f0, t.f1, t.f2, [], 0⟩).s, ((pks ((sendL F now ticks xs n rT).1.getD now.toNat [])).foldl (tStep now r2) ⟨t.f0, t.f1, t.f2, [], 0⟩).sent, ((pks ((sendL F now ticks xs n rT).1.getD now.toNat [])).foldl (tStep now r2) ⟨t.f0, t.f1, t.f2, [], 0⟩).n) := by
    unfold trainF
    rw [hr, htb, htk]
    rfl
  obtain ⟨c, hc⟩ : ∃ x, x = (pks ((sendL F now ticks xs n rT).1.getD now.toNat [])).foldl (tStep now r2) ⟨t.f0, t.f1, t.f2, [], 0⟩ := ⟨_, rfl⟩
  rw [← hc] at hti htr
  have q1 := hti.lo; have q2 := hti.hi; have q3 := hti.s1; have q4 := hti.s2; have q5 := h.t0; have q6 := h.ts0; have q7 := h.a0; have q8 := h.h0; have q9 := h.ts; have q10 := h.s0; have q11 := h.at_; have q12 := h.tb
  have hsn : (sendL F now ticks xs n rT).2 = n + xs.length := sendL_n F now ticks xs n rT
  refine ⟨_, _, _, _, _, xs, _, _, _, _, _, hb1, htr, ?_, ?_, hb4⟩
  · refine ⟨by omega, ⟨v', w2, rfl, w3⟩, rfl, hti.x, by show 0 ≤ c.v; omega, q2, by show 0 ≤ c.s; omega, q4, by show 0 ≤ a'; omega, by show a' ≤ c.v; omega, by show 0 ≤ x5; omega, by show x5 < now + 1; omega, by show 0 ≤ h'; omega, by show h' ≤ c.s; omega, by rw [sendL_n, hsn]; have := h.n0; omega, hD, fun r hr c2 hc2 => ?_, ?_, ?_⟩
    · rcases sendL_in F now ticks c.sent _ rB r c2 hr hc2 with ⟨r0, e1, e2⟩ | e
      · obtain ⟨g1, g2, g3, g4, g5, g6⟩ := h.acks r0 e1 c2 e2
        exact ⟨g1, g2, g3, by show c2.f0.f1 ≤ c.v; omega, g5, by show c2.f0.f3 ≤ c.s; omega⟩
      · exact hti.sent _ e
    · intro q hq
      rw [sendL_n]
      refine sendL_max m F hF now ticks c.sent _ rB (by rw [hsn]; have := h.n0; omega) (fun q hq => ?_) q hq
      refine Nat.le_trans (h.lB q hq) (Nat.mul_le_mul_left m ?_)
      rw [hsn]
      have := h.n0
      omega
    · intro q hq
      rw [sendL_n, hsn]
      refine Nat.le_trans (hLT q hq) (Nat.mul_le_mul_left m ?_)
      have := h.n0
      omega
  · exact ⟨q2, by show a' ≤ c.v; omega, q1, by show b.f0 ≤ (v' : Int); omega, fa, hti.x, rfl, by show (v' : Int) ≤ _; omega, by show 0 ≤ c.v; omega, by show 0 ≤ a'; omega, hti.n0, hti.some, fun h0 => by
      obtain ⟨e1, e2, e3⟩ := hti.none h0
      show (⟨c.v, c.x, c.s⟩ : S48) = t
      rw [e1, e2, e3], q4, by show 0 ≤ c.s; omega, hb3, by show 0 ≤ h'; omega, by show h' ≤ now; omega⟩
theorem inv_start (r0 r1 r2 : Int) (S : List S84) (F : List (List Int)) (m : Nat) (ticks : Int) (j : Nat) : Inv r0 r1 r2 S F m ticks 1 z29 z48 (List.replicate j []) (List.replicate j []) 0 S := by
  have hz : stood S 0 = 0 := by unfold stood; rw [if_neg (by omega)]
  refine ⟨by decide, ⟨0, by omega, rfl, rfl⟩, hz.symm, hz.symm, by decide, by decide, by decide, by decide, by decide, by decide, by decide, by decide, by decide, by decide, by decide, ?_, ?_, ?_, ?_⟩
  · intro r hr c hc; rw [List.eq_of_mem_replicate hr] at hc; simp at hc
  · intro r hr c hc; rw [List.eq_of_mem_replicate hr] at hc; simp at hc
  · intro q hq; rw [List.eq_of_mem_replicate hq]; simp
  · intro q hq; rw [List.eq_of_mem_replicate hq]; simp
theorem rd86 (M : List S86) (i : Nat) (h : i < M.length) : rd_T86 M (i : Int) = M[i] := by simp [rd_T86, List.getD_eq_getElem?_getD, h]
end Go.Proofs.Ytndffnacbfdnoaa.Pure
