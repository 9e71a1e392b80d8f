-- Lines of PureFnTwice that this claim uses.
import Derived.Test.YtndffnacbfdnoaaTWPki
import Derived.Test.YtndffnacbfdnoaaTWPAllx32
set_option linter.unusedSimpArgs false
set_option linter.unusedVariables false
namespace Go.Proofs.Ytndffnacbfdnoaa.Pure
open Go.RowKit Go.Proofs.YtndffnacbfdnoaaW.PrintWords Go.Proofs.YtndffnacbfdnoaaW.PrintLast Go.Proofs.Ytndffnacbfdnoaa.PAll Go.Proofs.Ytndffnacbfdnoaa.Plain
theorem tidem (now age : Int) (c : TSt) (p : S60) : tStep now age (tStep now age c p) p = tStep now age c p := by
  by_cases h : p.f0 = 1 ∧ wrap64 (now - p.f3) ≤ age ∧ p.f3 > c.s ∧ p.f1 ≥ c.v
  · have e : tStep now age c p = ⟨p.f1, p.f2, p.f3, c.sent ++ [⟨2, p.f1, 0, p.f3⟩], wrap64 (c.n + 1)⟩ := by unfold tStep; rw [if_pos h]
    rw [e]
    unfold tStep
    rw [if_neg (fun h2 => by have := h2.2.2.1; exact absurd this (Int.lt_irrefl _))]
  · have e : tStep now age c p = c := by unfold tStep; rw [if_neg h]
    rw [e, e]
theorem mx_idem (a b : Int) : mx (mx a b) b = mx a b := by
  unfold mx
  by_cases h : b > a <;> simp [h]
theorem bidem (v : Int) (c : Int × Int) (p : S60) : bStep v (bStep v c p) p = bStep v c p := by
  by_cases h : p.f0 = 2 ∧ p.f1 ≤ v
  · unfold bStep
    simp only [if_pos h, mx_idem]
  · have e : bStep v c p = c := by unfold bStep; rw [if_neg h]
    rw [e, e]
theorem fold_rep {α β : Type} (f : α → β → α) (p : β) (hi : ∀ c, f (f c p) p = f c p) : ∀ (n : Nat) (c : α), (List.replicate (n + 1) p).foldl f c = f c p
  | 0, c => rfl
  | n + 1, c => by
    rw [List.replicate_succ, List.foldl_cons, fold_rep f p hi n, hi]
structure Eqv (a b : List S133) : Prop where
  t : ∀ now age c, (pks a).foldl (tStep now age) c = (pks b).foldl (tStep now age) c
  b : ∀ v c, (pks a).foldl (bStep v) c = (pks b).foldl (bStep v) c
theorem Eqv.refl (a : List S133) : Eqv a a := ⟨fun _ _ _ => rfl, fun _ _ => rfl⟩
theorem Eqv.app {a b : List S133} (h : Eqv a b) (x : S133) (n m : Nat) (hnm : n = 0 ↔ m = 0) : Eqv (a ++ List.replicate n x) (b ++ List.replicate m x) := by
  have e : ∀ (l : List S133) (j : Nat), pks (l ++ List.replicate j x) = pks l ++ List.replicate j x.f0 := fun l j => by simp [pks]
  refine ⟨fun now age c => ?_, fun v c => ?_⟩
  · rw [e, e, List.foldl_append, List.foldl_append, h.t]
    rcases n with _ | n
    · rw [hnm.1 rfl]
    · rcases m with _ | m
      · have := hnm.2 rfl; omega
      · rw [fold_rep _ _ (fun c => tidem now age c x.f0), fold_rep _ _ (fun c => tidem now age c x.f0)]
  · rw [e, e, List.foldl_append, List.foldl_append, h.b]
    rcases n with _ | n
    · rw [hnm.1 rfl]
    · rcases m with _ | m
      · have := hnm.2 rfl; omega
      · rw [fold_rep _ _ (fun c => bidem v c x.f0), fold_rep _ _ (fun c => bidem v c x.f0)]
def cnt (now ticks : Int) (i : Nat) : List Int → Nat
  | [] => 0
  | d :: f => (if now + d ≤ ticks ∧ (now + d).toNat = i then 1 else 0) + cnt now ticks i f
theorem cnt_zero (now ticks : Int) (i : Nat) : ∀ f : List Int, cnt now ticks i f = 0 ↔ ∀ d, d ∈ f → ¬ (now + d ≤ ticks ∧ (now + d).toNat = i)
  | [] => by simp [cnt]
  | d :: f => by
    unfold cnt
    have ih := cnt_zero now ticks i f
    by_cases h : now + d ≤ ticks ∧ (now + d).toNat = i
    · rw [if_pos h]
      constructor
      · intro h2; omega
      · intro h2; exact absurd h (h2 d (by simp))
    · rw [if_neg h, Nat.zero_add, ih]
      constructor
      · intro h2 e he
        rcases List.mem_cons.1 he with he | he
        · rw [he]; exact h
        · exact h2 e he
      · intro h2 e he
        exact h2 e (by simp [he])
theorem sendP_row (now ticks : Int) (x : S133) (i : Nat) : ∀ (f : List Int) (rows : List (List S133)), (rows.length : Int) = ticks + 1 → 0 ≤ now → (∀ d, d ∈ f → 1 ≤ d) → i < rows.length → (sendP now ticks x f rows).getD i [] = rows.getD i [] ++ List.replicate (cnt now ticks i f) x
  | [], rows, _, _, _, _ => by simp [sendP, cnt]
  | d :: f, rows, hl, h0, hd, hi => by
    have h1 := hd d (by simp)
    unfold sendP cnt
    by_cases h : now + d ≤ ticks
    · rw [if_pos h, sendP_row now ticks x i f _ (by simpa [put133] using hl) h0 (fun e he => hd e (by simp [he])) (by simpa [put133] using hi)]
      by_cases hj : (now + d).toNat = i
      · rw [if_pos ⟨h, hj⟩]
        subst hj
        unfold put133
        rw [List.getD_eq_getElem?_getD, List.getElem?_set_self hi, Option.getD_some, Nat.add_comm 1, List.replicate_succ, List.append_assoc]
        rfl
      · rw [if_neg (fun hh => hj hh.2), Nat.zero_add]
        unfold put133
        rw [List.getD_eq_getElem?_getD, List.getElem?_set_ne hj, ← List.getD_eq_getElem?_getD]
    · rw [if_neg h, if_neg (fun hh => h hh.1), Nat.zero_add]
      exact sendP_row now ticks x i f rows hl h0 (fun e he => hd e (by simp [he])) hi
def Same (F G : List (List Int)) : Prop := F.length = G.length ∧ ∀ i d, d ∈ rd_L5 F i ↔ d ∈ rd_L5 G i
def RowsEq (r r' : List (List S133)) : Prop := r.length = r'.length ∧ ∀ i, Eqv (r.getD i []) (r'.getD i [])
theorem rd_mem {F : List (List Int)} (hF : ∀ f, f ∈ F → ∀ d, d ∈ f → 1 ≤ d) (i : Int) : ∀ d, d ∈ rd_L5 F i → 1 ≤ d := fun d hd => by
  unfold rd_L5 at hd
  obtain ⟨r, h1, h2⟩ := getD_mem F i.toNat d hd
  exact hF r h1 d h2
theorem sendL_same {F G : List (List Int)} (hs : Same F G) (hF : ∀ f, f ∈ F → ∀ d, d ∈ f → 1 ≤ d) (hG : ∀ f, f ∈ G → ∀ d, d ∈ f → 1 ≤ d) (now ticks : Int) (h0 : 0 ≤ now) : ∀ (l : List S60) (n : Int) (r r' : List (List S133)), (r.length : Int) = ticks + 1 → RowsEq r r' →
    RowsEq (sendL F now ticks l n r).1 (sendL G now ticks l n r').1 ∧ (sendL F now ticks l n r).2 = (sendL G now ticks l n r').2
  | [], n, r, r', hl, h => ⟨h, rfl⟩
  | p :: l, n, r, r', hl, h => by
    unfold sendL
    rw [← hs.1]
    by_cases hn : n < (F.length : Int)
    · rw [if_pos hn, if_pos hn]
      refine sendL_same hs hF hG now ticks h0 l (n + 1) _ _ (by rw [sendP_len]; exact hl) ⟨by rw [sendP_len, sendP_len]; exact h.1, fun i => ?_⟩
      by_cases hi : i < r.length
      · rw [sendP_row now ticks _ i _ r hl h0 (rd_mem hF n) hi, sendP_row now ticks _ i _ r' (by rw [← h.1]; exact hl) h0 (rd_mem hG n) (by rw [← h.1]; exact hi)]
        refine Eqv.app (h.2 i) _ _ _ ?_
        rw [cnt_zero, cnt_zero]
        exact ⟨fun h2 d hd => h2 d ((hs.2 n d).2 hd), fun h2 d hd => h2 d ((hs.2 n d).1 hd)⟩
      · have e1 : (sendP now ticks ⟨p, n⟩ (rd_L5 F n) r).getD i [] = [] := by rw [List.getD_eq_getElem?_getD, List.getElem?_eq_none (by rw [sendP_len]; omega)]; rfl
        have e2 : (sendP now ticks ⟨p, n⟩ (rd_L5 G n) r').getD i [] = [] := by rw [List.getD_eq_getElem?_getD, List.getElem?_eq_none (by rw [sendP_len, ← h.1]; omega)]; rfl
        rw [e1, e2]
        exact Eqv.refl _
    · rw [if_neg hn, if_neg hn]
      exact sendL_same hs hF hG now ticks h0 l (n + 1) r r' hl h
theorem boxF_true {a0 a1 a2 now : Int} {b : S29} {vs : List Int} {ps : List S60} (h : (boxF a0 a1 a2 now b vs ps).1 = true) : boxF a0 a1 a2 now b vs ps = boxRes now a0 b.f0 b.f1 b.f2 b.f3 b.f4 vs ps := by
  unfold boxF at h ⊢
  split
  · rfl
  · rename_i hc; rw [if_neg hc] at h; exact absurd h (by decide)
theorem trainF_true {a0 a1 a2 now : Int} {t : S48} {ps : List S60} (h : (trainF a0 a1 a2 now t ps).1 = true) : trainF a0 a1 a2 now t ps = (true, (ps.foldl (tStep now a2) ⟨t.f0, t.f1, t.f2, [], 0⟩).v, (ps.foldl (tStep now a2) ⟨t.f0, t.f1, t.f2, [], 0⟩).x, (ps.foldl (tStep now a2) ⟨t.f0, t.f1, t.f2, [], 0⟩).s, (ps.foldl (tStep now a2) ⟨t.f0, t.f1, t.f2, [], 0⟩).sent, (ps.foldl (tStep now a2) ⟨t.f0, t.f1, t.f2, [], 0⟩).n) := by
  unfold trainF at h ⊢
  split
  · rfl
  · rename_i hc; rw [if_neg hc] at h; exact absurd h (by decide)
theorem run_same {r0 r1 r2 : Int} {S : List S84} {F G : List (List Int)} {m : Nat} {ticks : Int} (hr : rulesB r0 r1 r2 = true) (hS : S.length ≤ 100) (hF : ∀ f, f ∈ F → f.length ≤ m) (hm : m * F.length ≤ 1000) (hG : ∀ f, f ∈ G → f.length ≤ m) (hm2 : m * G.length ≤ 1000) (ht : ticks ≤ 2000)
    (hs : Same F G) (hF1 : ∀ f, f ∈ F → ∀ d, d ∈ f → 1 ≤ d) (hG1 : ∀ f, f ∈ G → ∀ d, d ∈ f → 1 ≤ d) :
    ∀ (k : Nat) (now : Int) (b : S29) (t : S48) (rB rT rB' rT' : List (List S133)) (n : Int) (sets : List S84) (out : List S86), now + k = ticks + 1 → Inv r0 r1 r2 S F m ticks now b t rB rT n sets → Inv r0 r1 r2 S G m ticks now b t rB' rT' n sets →
      (rB.length : Int) = ticks + 1 → (rT.length : Int) = ticks + 1 → RowsEq rB rB' → RowsEq rT rT' → runLoop r0 r1 r2 F ticks k now b t rB rT n sets out = runLoop r0 r1 r2 G ticks k now b t rB' rT' n sets out := by
  intro k
  induction k with
  | zero => intro now b t rB rT rB' rT' n sets out hk h h' lB lT eB eT; rfl
  | succ k ih =>
    intro now b t rB rT rB' rT' n sets out hk h h' lB lT eB eT
    have hnow := h.now1
    obtain ⟨x2, x3, x4, x5, x6, xs, y2, y3, y4, ys, y6, h1, h2, h3, -, -⟩ := tick_inv hr hS hF hm (by omega) h
    obtain ⟨x2', x3', x4', x5', x6', xs', y2', y3', y4', ys', y6', h1', h2', h3', -, -⟩ := tick_inv hr hS hG hm2 (by omega) h'
    have e1 : boxF r0 r1 r2 now b (vals now sets).1 (pks (rB'.getD now.toNat [])) = boxF r0 r1 r2 now b (vals now sets).1 (pks (rB.getD now.toNat [])) := by
      rw [boxF_true (by rw [h1']), boxF_true (by rw [h1])]
      unfold boxRes
      rw [(eB.2 now.toNat).b]
    rw [h1, h1'] at e1
    simp only [Prod.mk.injEq, true_and] at e1
    obtain ⟨rfl, rfl, rfl, rfl, rfl, rfl⟩ := e1
    obtain ⟨eT2, en⟩ := sendL_same hs hF1 hG1 now ticks (by omega) xs' n rT rT' lT eT
    have e2 : trainF r0 r1 r2 now t (pks ((sendL G now ticks xs' n rT').1.getD now.toNat [])) = trainF r0 r1 r2 now t (pks ((sendL F now ticks xs' n rT).1.getD now.toNat [])) := by
      rw [trainF_true (by rw [h2']), trainF_true (by rw [h2]), (eT2.2 now.toNat).t]
    rw [h2, h2'] at e2
    simp only [Prod.mk.injEq, true_and] at e2
    obtain ⟨rfl, rfl, rfl, rfl, rfl⟩ := e2
    rw [run_ok h1 h2, run_ok h1' h2']
    rw [← en] at h3' ⊢
    obtain ⟨eB2, en2⟩ := sendL_same hs hF1 hG1 now ticks (by omega) ys' (sendL F now ticks xs' n rT).2 rB rB' lB eB
    rw [← en2] at h3' ⊢
    exact ih (now + 1) _ _ _ _ _ _ _ _ _ (by omega) h3 h3' (by rw [sendL_len]; exact lB) (by rw [sendL_len]; exact lT) eB2 eT2
theorem wm_loop (M : List S86) (hM : M.length ≤ 2000) (d : Nat) : ∀ (k i : Nat), M.length - i = d → i ≤ M.length → d < k → laws_wMoments.l0 k M M (M.length : Int) (i : Int) = some true := by
  induction d with
  | zero =>
    intro k i hd hi hk
    obtain ⟨k, rfl⟩ : ∃ q, k = q + 1 := ⟨k - 1, by omega⟩
    simp only [laws_wMoments.l0]
    rw [if_neg (by omega)]
  | succ d ih =>
    intro k i hd hi hk
    obtain ⟨k, rfl⟩ : ∃ q, k = q + 1 := ⟨k - 1, by omega⟩
    have c1 : (i : Int) < (M.length : Int) := by omega
    have c2 : (0 : Int) ≤ (i : Int) := by omega
    simp only [laws_wMoments.l0, c1, c2, if_true]
    rw [if_neg (by simp), wn (by omega)]
    exact ih k (i + 1) (by omega) (by omega) (by omega)
theorem wm_is (M : List S86) (hM : M.length ≤ 2000) (k : Nat) (hk : M.length < k) : laws_wMoments.f k M M = some true := by
  unfold laws_wMoments.f
  rw [if_pos rfl]
  have := wm_loop M hM M.length k 0 (by omega) (by omega) hk
  simpa using this
theorem wbyte_any (l : List Int) (hb : Bytes l) (hl : l.length ≤ 1048576) (a : Int) (h0 : 0 ≤ a) : ∃ v, laws_wByte.f l a = some v ∧ 0 ≤ v ∧ v ≤ 255 := by
  unfold laws_wByte.f
  by_cases h : (l.length : Int) = 0
  · rw [if_pos h]; exact ⟨0, rfl, by omega, by omega⟩
  · have h1 := Int.tmod_nonneg (l.length : Int) h0
    have h2 := Int.tmod_lt_of_pos a (show (0 : Int) < (l.length : Int) by omega)
    rw [if_neg h, if_pos h1, if_pos h2]
    have h3 : (Int.tmod a (l.length : Int)).toNat < l.length := by omega
    have h4 : rd l (Int.tmod a (l.length : Int)) = l[(Int.tmod a (l.length : Int)).toNat] := by simp [rd, List.getD_eq_getElem?_getD, h3]
    have h5 := hb _ (List.getElem_mem h3)
    rw [h4, w64 (by omega) (by omega)]
    exact ⟨_, rfl, h5⟩
theorem twice_l1 (l1 : List Int) (hb : Bytes l1) (hl1 : l1.length ≤ 1048576) (S : List S84) (F : List (List Int)) (n : Int) (r0 r1 r2 : Int) (G : List (List Int)) (hG : G.length < 1000) (i : Nat) (hi : i < 1000) (x : List Int) (hx : x.length ≤ 6) (K : Nat) (R : Option Bool)
    (hn : ∀ (k : Nat) (y : List Int), K < k → y.length ≤ 10 → (∀ d, d ∈ x ↔ d ∈ y) → laws_FnTwice.l0 k l1 S F n (G ++ [y]) F (F.length : Int) ((i + 1 : Nat) : Int) r0 r1 r2 = R) (d : Nat) :
    ∀ (k j : Nat) (y : List Int), x.length - j = d → j ≤ x.length → d + 1 + K < k → y.length ≤ 10 → (∀ d, d ∈ x ↔ d ∈ y) → laws_FnTwice.l1 k l1 S F n G (i : Int) x y F (F.length : Int) (i : Int) (x.length : Int) (j : Int) r0 r1 r2 = R := by
  induction d with
  | zero =>
    intro k j y hd hj hk hy hxy
    obtain ⟨k, rfl⟩ : ∃ q, k = q + 1 := ⟨k - 1, by omega⟩
    simp only [laws_FnTwice.l1]
    rw [if_neg (by omega), if_pos (by omega), wn (by omega)]
    exact hn k y (by omega) hy hxy
  | succ d ih =>
    intro k j y hd hj hk hy hxy
    obtain ⟨k, rfl⟩ : ∃ q, k = q + 1 := ⟨k - 1, by omega⟩
    have hlt : j < x.length := by omega
    obtain ⟨v, e, -, -⟩ := wbyte_any l1 hb hl1 ((i : Int) + (j : Int)) (by omega)
    simp only [laws_FnTwice.l1]
    rw [if_pos (by omega), w64 (x := (i : Int) + (j : Int)) (by omega) (by omega), e, Option.bind_some, wn (by omega)]
    have go := ih k (j + 1) y (by omega) (by omega) (by omega) hy hxy
    by_cases h1 : Int.tmod v 2 = 0
    · rw [if_pos h1]
      by_cases h2 : (y.length : Int) < 10
      · rw [if_pos h2, if_pos (by omega), if_pos (by omega), if_pos (by omega)]
        have h3 : rd x (j : Int) = x[j] := rd_at x j hlt
        refine ih k (j + 1) (y ++ [rd x (j : Int)]) (by omega) (by omega) (by omega) (by simp; omega) (fun d => ?_)
        rw [h3, List.mem_append, List.mem_singleton]
        constructor
        · intro h; exact .inl ((hxy d).1 h)
        · rintro (h | h)
          · exact (hxy d).2 h
          · rw [h]; exact List.getElem_mem hlt
      · rw [if_neg h2]; exact go
    · rw [if_neg h1]; exact go
theorem twice_l0 (l1 : List Int) (hb : Bytes l1) (hl1 : l1.length ≤ 1048576) (S : List S84) (F : List (List Int)) (n : Int) (r0 r1 r2 : Int) (hF : ∀ f, f ∈ F → f.length ≤ 6) (hFl : F.length < 60) (R : Bool) (C : Nat)
    (hend : ∀ (k : Nat) (G : List (List Int)), C < k → G.length = F.length → (∀ i (h : i < F.length), ∀ (h2 : i < G.length), (G[i]).length ≤ 10 ∧ ∀ d, d ∈ F[i] ↔ d ∈ G[i]) → laws_FnTwice.l0 k l1 S F n G F (F.length : Int) (F.length : Int) r0 r1 r2 = some R) (d : Nat) :
    ∀ (k i : Nat) (G : List (List Int)), F.length - i = d → i ≤ F.length → 20 * d + C < k → G.length = i → (∀ j (h : j < F.length), ∀ (h2 : j < G.length), (G[j]).length ≤ 10 ∧ ∀ d, d ∈ F[j] ↔ d ∈ G[j]) → laws_FnTwice.l0 k l1 S F n G F (F.length : Int) (i : Int) r0 r1 r2 = some R := by
  induction d with
  | zero =>
    intro k i G hd hi hk hG hr
    have : i = F.length := by omega
    subst this
    exact hend k G (by omega) hG hr
  | succ d ih =>
    intro k i G hd hi hk hG hr
    obtain ⟨k, rfl⟩ : ∃ q, k = q + 1 := ⟨k - 1, by omega⟩
    have hlt : i < F.length := by omega
    have hx : rd_L5 F (i : Int) = F[i] := by simp [rd_L5, List.getD_eq_getElem?_getD, hlt]
    have hxl := hF _ (List.getElem_mem hlt)
    simp only [laws_FnTwice.l0]
    rw [if_pos (by omega), if_pos (by omega), if_pos (by omega), Option.bind_some, if_pos (by rw [hx]; simp; omega), hx]
    have h := twice_l1 l1 hb hl1 S F n r0 r1 r2 G (by omega) i (by omega) F[i] hxl (20 * d + C) (some R) (fun k' y hk' hy hxy => by
      refine ih k' (i + 1) (G ++ [y]) (by omega) (by omega) (by omega) (by simp [hG]) (fun j h h2 => ?_)
      by_cases hj : j < G.length
      · rw [List.getElem_append_left hj]; exact hr j h hj
      · have : j = i := by simp at h2; omega
        subst this
        rw [List.getElem_append_right (by omega)]
        simp only [hG, Nat.sub_self, List.getElem_cons_zero]
        exact ⟨hy, hxy⟩) F[i].length k 0 ([] ++ F[i]) (by omega) (by omega) (by omega) (by simp; omega) (fun d => by simp)
    simpa using h
theorem FnTwice (l0 : List Int) (l1 : List Int) (_ : l0.length ≤ maxLen) (_ : l0.length * 1 ≤ 140737488351232) (hw : (∀ x ∈ l0, (Lit.int .u8 x).wf = true)) (_ : l1.length ≤ maxLen) (_ : l1.length * 1 ≤ 140737488351232) (hw1 : (∀ x ∈ l1, (Lit.int .u8 x).wf = true)) : ∃ k, laws_FnTwice.f k l0 l1 = some true := by
  have hb : Bytes l0 := fun x hx => wf_byte (hw x hx)
  have hb1 : Bytes l1 := fun x hx => wf_byte (hw1 x hx)
  obtain ⟨K, hK⟩ : ∃ K, 20000 < K := ⟨20001, by omega⟩
  refine ⟨K + 1, ?_⟩
  unfold laws_FnTwice.f
  split
  · simp only [laws_FnTwice.j0, if_true]
  · by_cases hl1 : (l1.length : Int) > 1048576
    · rw [decide_eq_true hl1]
      simp only [laws_FnTwice.j0, if_true]
    · rw [decide_eq_false hl1]
      simp only [laws_FnTwice.j0, Bool.false_eq_true, if_false]
      obtain ⟨r0, r1, r2, S, F, n, e, hd⟩ := drawn_any l0 hb K (by omega)
      obtain ⟨M, e2, e3, -⟩ := run_drawn hd
      rw [e, Option.bind_some]
      simp only
      have hq0 := hd.hn; have hq1 := hd.hs; have hq2 := hd.hf
      have h := twice_l0 l1 hb1 (by omega) S F n r0 r1 r2 (fun f hf => (hd.hfs f hf).1) hq2 true 10000 (fun k G hk hG hr => ?_) F.length K 0 [] (by omega) (by omega) (by omega) rfl (fun j h h2 => by simp at h2)
      · simpa using h
      · obtain ⟨k, rfl⟩ : ∃ q, k = q + 1 := ⟨k - 1, by omega⟩
        have hGm : ∀ g, g ∈ G → g.length ≤ 10 ∧ ∀ d, d ∈ g → 1 ≤ d ∧ d ≤ 14 := fun g hg => by
          obtain ⟨j, hj, rfl⟩ := List.getElem_of_mem hg
          obtain ⟨q1, q2⟩ := hr j (by omega) hj
          exact ⟨q1, fun d hdg => (hd.hfs _ (List.getElem_mem (by omega))).2 d ((q2 d).2 hdg)⟩
        have gF := drawn_good hd
        have gG : RunGood r0 r1 r2 S G n := { gF with n2 := by omega, fa := fun f hf => ⟨(hGm f hf).1, fun d hdf => by have := (hGm f hf).2 d hdf; omega⟩ }
        have hsame : Same F G := ⟨hG.symm, fun i d => by
          unfold rd_L5
          by_cases hi : i.toNat < F.length
          · rw [List.getD_eq_getElem?_getD, List.getD_eq_getElem?_getD, List.getElem?_eq_getElem hi, List.getElem?_eq_getElem (by omega)]
            exact (hr i.toNat hi (by omega)).2 d
          · rw [List.getD_eq_getElem?_getD, List.getD_eq_getElem?_getD, List.getElem?_eq_none (by omega), List.getElem?_eq_none (by omega)]⟩
        have hrun := run_same (r0 := r0) (r1 := r1) (r2 := r2) (S := S) (F := F) (G := G) (m := 10) (ticks := n) gF.rules (by omega) (fun f hf => by have := (hd.hfs f hf).1; omega) (by omega) (fun f hf => (hGm f hf).1) (by omega) (by omega) hsame (fun f hf d h => ((hd.hfs f hf).2 d h).1) (fun f hf d h => ((hGm f hf).2 d h).1) n.toNat 1 z29 z48 (List.replicate (n + 1).toNat []) (List.replicate (n + 1).toNat []) (List.replicate (n + 1).toNat []) (List.replicate (n + 1).toNat []) 0 S [] (by omega) (inv_start _ _ _ _ _ _ _ _) (inv_start _ _ _ _ _ _ _ _) (by simp; omega) (by simp; omega) ⟨rfl, fun i => Eqv.refl _⟩ ⟨rfl, fun i => Eqv.refl _⟩
        have e4 : impl_Run.f r0 r1 r2 S G n = some M := by
          rw [← e2]
          unfold impl_Run.f
          rw [if_pos (good_to gF), if_pos (good_to gG), hrun]
        simp only [laws_FnTwice.l0]
        rw [if_neg (by omega), e2, Option.bind_some, e4, Option.bind_some, wm_is M (by omega) k (by omega), Option.bind_some, if_pos rfl]
        simp [e3]
end Go.Proofs.Ytndffnacbfdnoaa.Pure
