-- Lines of RunI that this claim uses.
import Derived.Test.YtndffnacbfdnoaaRURunM
import Derived.Test.YtndffnacbfdnoaaRUPAllx8
import Derived.Test.YtndffnacbfdnoaaRUPAllx13
set_option linter.unusedSimpArgs false
set_option linter.unusedVariables false
namespace Go.Proofs.Ytndffnacbfdnoaa.PAll
open Go.RowKit Go.Proofs.YtndffnacbfdnoaaW.PrintWords Go.Proofs.YtndffnacbfdnoaaW.PrintLast Go.Proofs.YtndffnacbfdnoaaW.PrintMore
structure RI (w0 W : World) (N : Nat) (ex okB okT okO : Nat → Prop) (gB cB gT cT len : Nat) (rB rT : List (List S133)) (vO : Value) (out : List S86) : Prop where
  hB : Kd.S kc133 131 W w0.heap.size okB (.slice (some ⟨gB, 0, none⟩) len cB) rB
  hT : Kd.S kc133 131 W w0.heap.size okT (.slice (some ⟨gT, 0, none⟩) len cT) rT
  hO : Kd.R k86 86 W w0.heap.size okO vO out
  dBT : ∀ k, okB k → ¬ okT k
  dBO : ∀ k, okB k → ¬ okO k
  dTO : ∀ k, okT k → ¬ okO k
  bB : ∀ k, okB k → k < N ∧ ¬ ex k
  bT : ∀ k, okT k → k < N ∧ ¬ ex k
  bO : ∀ k, okO k → k < N ∧ ¬ ex k
  hN : N ≤ W.heap.size
  base : w0.heap.size ≤ N
  exg : ∀ k, ex k → w0.heap.size ≤ k
  exN : ∀ k, ex k → k < W.heap.size
  lB : rB.length = len
  lT : rT.length = len
  below : Below w0.heap.size w0 W
section
variable {w0 W W2 : World} {N : Nat} {ex ex2 okB okT okO ok : Nat → Prop} {gB cB gT cT len gn : Nat} {rB rT rB2 rT2 : List (List S133)} {vO vO2 : Value} {out out2 : List S86}
theorem RI.size (h : RI w0 W N ex okB okT okO gB cB gT cT len rB rT vO out) : w0.heap.size ≤ W.heap.size := Nat.le_trans h.base h.hN
theorem RI.go (h : RI w0 W N ex okB okT okO gB cB gT cT len rB rT vO out) (hb : Below W.heap.size W W2) : RI w0 W2 N ex okB okT okO gB cB gT cT len rB rT vO out :=
  { h with hB := Kd.S_below h.hB hb, hT := Kd.S_below h.hT hb, hO := Kd.R_below h.hO hb, hN := Nat.le_trans h.hN hb.size, exN := fun k hk => Nat.lt_of_lt_of_le (h.exN k hk) hb.size, below := below_step h.below hb }
theorem RI.drew (h : RI w0 W N ex okB okT okO gB cB gT cT len rB rT vO out) : RI w0 W.drew N ex okB okT okO gB cB gT cT len rB rT vO out := h.go (below_drew (Below.refl _ _))
theorem RI.set (h : RI w0 W N ex okB okT okO gB cB gT cT len rB rT vO out) {g j : Nat} (hp : ex g ∨ N ≤ g) (u : Value) : RI w0 (W.setCell ⟨g, j, none⟩ u) N ex okB okT okO gB cB gT cT len rB rT vO out :=
  { h with
    hB := Kd.S_far h.hB (fun k hk e => by have := h.bB k hk; have e : k = g := e; subst e; rcases hp with hp | hp; exact this.2 hp; omega) u
    hT := Kd.S_far h.hT (fun k hk e => by have := h.bT k hk; have e : k = g := e; subst e; rcases hp with hp | hp; exact this.2 hp; omega) u
    hO := Kd.R_far h.hO (fun k hk e => by have := h.bO k hk; have e : k = g := e; subst e; rcases hp with hp | hp; exact this.2 hp; omega) u
    hN := by have := h.hN; simpa [World.setCell] using this
    exN := fun k hk => by have := h.exN k hk; simpa [World.setCell] using this
    below := below_set h.below (by rcases hp with hp | hp; exact h.exg _ hp; exact Nat.le_trans h.base hp) }
theorem RI.grown (h : RI w0 W N ex okB okT okO gB cB gT cT len rB rT vO out) {row : Option Nat} (hg : W.grownBy W2 row) (hr : ∀ k, row = some k → N ≤ k) (hb : Below w0.heap.size w0 W2) : RI w0 W2 N ex okB okT okO gB cB gT cT len rB rT vO out :=
  { h with
    hB := Kd.S_grown h.hB hg (fun k hk e => by have := h.bB k hk; have := hr k e.symm; omega)
    hT := Kd.S_grown h.hT hg (fun k hk e => by have := h.bT k hk; have := hr k e.symm; omega)
    hO := Kd.R_grown h.hO hg (fun k hk e => by have := h.bO k hk; have := hr k e.symm; omega)
    hN := Nat.le_trans h.hN hg.size
    exN := fun k hk => Nat.lt_of_lt_of_le (h.exN k hk) hg.size
    below := hb }
theorem RI.wide (h : RI w0 W N ex okB okT okO gB cB gT cT len rB rT vO out) : RI w0 W W.heap.size (fun k => ex k ∨ (N ≤ k ∧ k < W.heap.size)) okB okT okO gB cB gT cT len rB rT vO out :=
  { h with
    bB := fun k hk => by have := h.bB k hk; have := h.hN; exact ⟨by omega, fun hh => hh.elim (h.bB k hk).2 (fun h2 => by omega)⟩
    bT := fun k hk => by have := h.bT k hk; have := h.hN; exact ⟨by omega, fun hh => hh.elim (h.bT k hk).2 (fun h2 => by omega)⟩
    bO := fun k hk => by have := h.bO k hk; have := h.hN; exact ⟨by omega, fun hh => hh.elim (h.bO k hk).2 (fun h2 => by omega)⟩
    hN := Nat.le_refl _
    base := h.size
    exg := fun k hk => hk.elim (h.exg k) (fun h2 => Nat.le_trans h.base h2.1)
    exN := fun k hk => hk.elim (h.exN k) (fun h2 => h2.2) }
theorem RI.less (h : RI w0 W N ex okB okT okO gB cB gT cT len rB rT vO out) (he : ∀ k, ex2 k → ex k) : RI w0 W N ex2 okB okT okO gB cB gT cT len rB rT vO out :=
  { h with bB := fun k hk => ⟨(h.bB k hk).1, fun h2 => (h.bB k hk).2 (he k h2)⟩, bT := fun k hk => ⟨(h.bT k hk).1, fun h2 => (h.bT k hk).2 (he k h2)⟩, bO := fun k hk => ⟨(h.bO k hk).1, fun h2 => (h.bO k hk).2 (he k h2)⟩, exg := fun k hk => h.exg k (he k hk), exN := fun k hk => h.exN k (he k hk) }
theorem RI.sentT (h : RI w0 W N ex okB okT okO gB cB gT cT len rB rT vO out) (hS : Kd.S kc133 131 W2 w0.heap.size (fun k => okT k ∨ W.heap.size ≤ k) (.slice (some ⟨gT, 0, none⟩) len cT) rT2)
    (hk : Kept W W2 (fun k => (okT k ∨ W.heap.size ≤ k) ∨ k = gn)) (hgn : ex gn) (hb : Below w0.heap.size w0 W2) (hl : rT2.length = len) :
    RI w0 W2 W2.heap.size (fun k => ex k ∨ (N ≤ k ∧ k < W.heap.size)) okB (fun k => (okT k ∨ W.heap.size ≤ k) ∧ k < W2.heap.size) okO gB cB gT cT len rB rT2 vO out :=
  have hsz := hk.1
  { hB := Kd.S_kept h.hB hk (fun k hk h2 => by
      have h3 := h.bB k hk; have h4 := h.hN
      rcases h2 with (h2 | h2) | h2
      · exact h.dBT k hk h2
      · omega
      · exact h3.2 (h2 ▸ hgn))
    hT := Kd.S_mono (Kd.S_bound hS) (fun k hk => ⟨hk.1, hk.2.2.1⟩)
    hO := Kd.R_kept h.hO hk (fun k hk h2 => by
      have h3 := h.bO k hk; have h4 := h.hN
      rcases h2 with (h2 | h2) | h2
      · exact h.dTO k h2 hk
      · omega
      · exact h3.2 (h2 ▸ hgn))
    dBT := fun k hk h2 => by have h3 := h.bB k hk; have h4 := h.hN; rcases h2.1 with h2 | h2; exact h.dBT k hk h2; omega
    dBO := h.dBO
    dTO := fun k hk h2 => by have h3 := h.bO k h2; have h4 := h.hN; rcases hk.1 with hk | hk; exact h.dTO k hk h2; omega
    bB := fun k hk => by have h3 := h.bB k hk; have h4 := h.hN; have h5 := hk; exact ⟨by have := hsz; omega, fun h6 => h6.elim h3.2 (fun h7 => by omega)⟩
    bT := fun k hk => ⟨hk.2, fun h6 => by
      have h4 := h.hN
      rcases hk.1 with hk1 | hk1
      · have h3 := h.bT k hk1; exact h6.elim h3.2 (fun h7 => by omega)
      · rcases h6 with h6 | h6
        · exact absurd hk1 (by have := h.exN k h6; omega)
        · omega⟩
    bO := fun k hk => by have h3 := h.bO k hk; have h4 := h.hN; exact ⟨by have := hsz; omega, fun h6 => h6.elim h3.2 (fun h7 => by omega)⟩
    hN := Nat.le_refl _
    base := Nat.le_trans h.size hk.1
    exg := fun k hk => hk.elim (h.exg k) (fun h2 => Nat.le_trans h.base h2.1)
    exN := fun k hh => Nat.lt_of_lt_of_le (hh.elim (h.exN k) (fun h2 => h2.2)) hk.1
    lB := h.lB
    lT := hl
    below := hb }
theorem RI.sentB (h : RI w0 W N ex okB okT okO gB cB gT cT len rB rT vO out) (hS : Kd.S kc133 131 W2 w0.heap.size (fun k => okB k ∨ W.heap.size ≤ k) (.slice (some ⟨gB, 0, none⟩) len cB) rB2)
    (hk : Kept W W2 (fun k => (okB k ∨ W.heap.size ≤ k) ∨ k = gn)) (hgn : ex gn) (hb : Below w0.heap.size w0 W2) (hl : rB2.length = len) :
    RI w0 W2 W2.heap.size (fun k => ex k ∨ (N ≤ k ∧ k < W.heap.size)) (fun k => (okB k ∨ W.heap.size ≤ k) ∧ k < W2.heap.size) okT okO gB cB gT cT len rB2 rT vO out :=
  have hsz := hk.1
  { hT := Kd.S_kept h.hT hk (fun k hk h2 => by
      have h3 := h.bT k hk; have h4 := h.hN
      rcases h2 with (h2 | h2) | h2
      · exact h.dBT k h2 hk
      · omega
      · exact h3.2 (h2 ▸ hgn))
    hB := Kd.S_mono (Kd.S_bound hS) (fun k hk => ⟨hk.1, hk.2.2.1⟩)
    hO := Kd.R_kept h.hO hk (fun k hk h2 => by
      have h3 := h.bO k hk; have h4 := h.hN
      rcases h2 with (h2 | h2) | h2
      · exact h.dBO k h2 hk
      · omega
      · exact h3.2 (h2 ▸ hgn))
    dBT := fun k h2 hk => by have h3 := h.bT k hk; have h4 := h.hN; rcases h2.1 with h2 | h2; exact h.dBT k h2 hk; omega
    dBO := fun k hk h2 => by have h3 := h.bO k h2; have h4 := h.hN; rcases hk.1 with hk | hk; exact h.dBO k hk h2; omega
    dTO := h.dTO
    bT := fun k hk => by have h3 := h.bT k hk; have h4 := h.hN; have h5 := hk; exact ⟨by have := hsz; omega, fun h6 => h6.elim h3.2 (fun h7 => by omega)⟩
    bB := fun k hk => ⟨hk.2, fun h6 => by
      have h4 := h.hN
      rcases hk.1 with hk1 | hk1
      · have h3 := h.bB k hk1; exact h6.elim h3.2 (fun h7 => by omega)
      · rcases h6 with h6 | h6
        · exact absurd hk1 (by have := h.exN k h6; omega)
        · omega⟩
    bO := fun k hk => by have h3 := h.bO k hk; have h4 := h.hN; exact ⟨by have := hsz; omega, fun h6 => h6.elim h3.2 (fun h7 => by omega)⟩
    hN := Nat.le_refl _
    base := Nat.le_trans h.size hk.1
    exg := fun k hk => hk.elim (h.exg k) (fun h2 => Nat.le_trans h.base h2.1)
    exN := fun k hh => Nat.lt_of_lt_of_le (hh.elim (h.exN k) (fun h2 => h2.2)) hk.1
    lB := hl
    lT := h.lT
    below := hb }
theorem RI.outs (h : RI w0 W N ex okB okT okO gB cB gT cT len rB rT vO out) (hO : Kd.R k86 86 W2 w0.heap.size (fun k => okO k ∨ W.heap.size ≤ k) vO2 out2) (hg : W.grownBy W2 vO.ownBlock) (hb : Below w0.heap.size w0 W2) :
    RI w0 W2 W2.heap.size (fun k => ex k ∨ (N ≤ k ∧ k < W.heap.size)) okB okT (fun k => (okO k ∨ W.heap.size ≤ k) ∧ k < W2.heap.size) gB cB gT cT len rB rT vO2 out2 :=
  have hsz := hg.size
  { hB := Kd.S_grown h.hB hg (fun k hk e => h.dBO k hk (h.hO.1 k e.symm))
    hT := Kd.S_grown h.hT hg (fun k hk e => h.dTO k hk (h.hO.1 k e.symm))
    hO := Kd.R_mono (Kd.R_bound hO) (fun k hk => ⟨hk.1, hk.2.2.1⟩)
    dBT := h.dBT
    dBO := fun k hk h2 => by have h3 := h.bB k hk; have h4 := h.hN; rcases h2.1 with h2 | h2; exact h.dBO k hk h2; omega
    dTO := fun k hk h2 => by have h3 := h.bT k hk; have h4 := h.hN; rcases h2.1 with h2 | h2; exact h.dTO k hk h2; omega
    bB := fun k hk => by have h3 := h.bB k hk; have h4 := h.hN; exact ⟨by omega, fun h6 => h6.elim h3.2 (fun h7 => by omega)⟩
    bT := fun k hk => by have h3 := h.bT k hk; have h4 := h.hN; exact ⟨by omega, fun h6 => h6.elim h3.2 (fun h7 => by omega)⟩
    bO := fun k hk => ⟨hk.2, fun h6 => by
      have h4 := h.hN
      rcases hk.1 with hk1 | hk1
      · have h3 := h.bO k hk1; exact h6.elim h3.2 (fun h7 => by omega)
      · rcases h6 with h6 | h6
        · exact absurd hk1 (by have := h.exN k h6; omega)
        · omega⟩
    hN := Nat.le_refl _
    base := Nat.le_trans h.size hsz
    exg := fun k hk => hk.elim (h.exg k) (fun h2 => Nat.le_trans h.base h2.1)
    exN := fun k hh => Nat.lt_of_lt_of_le (hh.elim (h.exN k) (fun h2 => h2.2)) hsz
    lB := h.lB
    lT := h.lT
    below := hb }
theorem sendL_len (fa : List (List Int)) (now ticks : Int) : ∀ (l : List S60) (n : Int) (rows : List (List S133)), (sendL fa now ticks l n rows).1.length = rows.length
  | [], _, _ => rfl
  | p :: l, n, rows => by
    unfold sendL
    rw [sendL_len fa now ticks l]
    split
    · exact sendP_len _ _ _ _ _
    · rfl
theorem sendL_n (fa : List (List Int)) (now ticks : Int) : ∀ (l : List S60) (n : Int) (rows : List (List S133)), (sendL fa now ticks l n rows).2 = n + l.length
  | [], n, _ => by simp [sendL]
  | p :: l, n, rows => by
    unfold sendL
    rw [sendL_n fa now ticks l]
    simp
    omega
theorem sendL_mem (fa : List (List Int)) (hfa : ∀ f, f ∈ fa → f.length ≤ 10) (now ticks : Int) : ∀ (l : List S60) (n : Int) (rows : List (List S133)), 0 ≤ n → (∀ q, q ∈ rows → q.length ≤ 10 * min n.toNat fa.length) → ∀ q, q ∈ (sendL fa now ticks l n rows).1 → q.length ≤ 10 * min (n + l.length).toNat fa.length
  | [], n, rows, _, hM, q, hq => by simpa using hM q hq
  | p :: l, n, rows, h0, hM, q, hq => by
    unfold sendL at hq
    have h := sendL_mem fa hfa now ticks l (n + 1) _ (by omega) (fun r hr => ?_) q hq
    · rw [show n + ((p :: l).length : Int) = n + 1 + (l.length : Int) by simp; omega]
      exact h
    · by_cases hn : n < (fa.length : Int)
      · rw [if_pos hn] at hr
        have h1 := sendP_mem now ticks ⟨p, n⟩ (rd_L5 fa n) rows (10 * min n.toNat fa.length) hM r hr
        have h2 : (rd_L5 fa n).length ≤ 10 := by
          have h3 : n.toNat < fa.length := by omega
          rw [show rd_L5 fa n = fa[n.toNat] by simp [rd_L5, List.getD_eq_getElem?_getD, h3]]
          exact hfa _ (List.getElem_mem h3)
        omega
      · rw [if_neg hn] at hr
        have h1 := hM r hr
        omega
theorem run_box {a0 a1 a2 ticks now n x2 x3 x4 x5 x6 : Int} {fa : List (List Int)} {k : Nat} {b : S29} {t : S48} {rB rT : List (List S133)} {sets : List S84} {out : List S86} {xs : List S60} (h : boxF a0 a1 a2 now b (vals now sets).1 (pks (rB.getD now.toNat [])) = (false, x2, x3, x4, x5, x6, xs)) : runLoop a0 a1 a2 fa ticks (k + 1) now b t rB rT n sets out = [] := by
  unfold runLoop
  simp only [h]
  rfl
theorem run_train {a0 a1 a2 ticks now n x2 x3 x4 x5 x6 y2 y3 y4 y6 : Int} {fa : List (List Int)} {k : Nat} {b : S29} {t : S48} {rB rT : List (List S133)} {sets : List S84} {out : List S86} {xs ys : List S60} (h : boxF a0 a1 a2 now b (vals now sets).1 (pks (rB.getD now.toNat [])) = (true, x2, x3, x4, x5, x6, xs))
    (hy : trainF a0 a1 a2 now t (pks ((sendL fa now ticks xs n rT).1.getD now.toNat [])) = (false, y2, y3, y4, ys, y6)) : runLoop a0 a1 a2 fa ticks (k + 1) now b t rB rT n sets out = [] := by
  unfold runLoop
  simp only [h, hy]
  rfl
theorem run_ok {a0 a1 a2 ticks now n x2 x3 x4 x5 x6 y2 y3 y4 y6 : Int} {fa : List (List Int)} {k : Nat} {b : S29} {t : S48} {rB rT : List (List S133)} {sets : List S84} {out : List S86} {xs ys : List S60} (h : boxF a0 a1 a2 now b (vals now sets).1 (pks (rB.getD now.toNat [])) = (true, x2, x3, x4, x5, x6, xs))
    (hy : trainF a0 a1 a2 now t (pks ((sendL fa now ticks xs n rT).1.getD now.toNat [])) = (true, y2, y3, y4, ys, y6)) : runLoop a0 a1 a2 fa ticks (k + 1) now b t rB rT n sets out = runLoop a0 a1 a2 fa ticks k (now + 1) ⟨x2, x3, x4, x5, x6⟩ ⟨y2, y3, y4⟩ (sendL fa now ticks ys (sendL fa now ticks xs n rT).2 rB).1 (sendL fa now ticks xs n rT).1 (sendL fa now ticks ys (sendL fa now ticks xs n rT).2 rB).2 (vals now sets).2 (out ++ [⟨⟨x2, x3, x4, x5, x6⟩, ⟨y2, y3, y4⟩, (xs.length : Int) + (ys.length : Int), y6⟩]) := by
  conv => lhs; unfold runLoop
  simp only [h, hy]
  rfl
theorem box_sent {a0 a1 a2 now x2 x3 x4 x5 x6 : Int} {b : S29} {vs : List Int} {ps xs : List S60} {x1 : Bool} (h : (x1, x2, x3, x4, x5, x6, xs) = boxF a0 a1 a2 now b vs ps) : xs.length ≤ 1 := by
  have h2 : xs = (boxF a0 a1 a2 now b vs ps).2.2.2.2.2.2 := by rw [← h]
  rw [h2]
  unfold boxF
  split
  · exact Pure.bend_len _ _ _ _ _ _ _ _
  · simp
theorem train_sent {a0 a1 a2 now y2 y3 y4 y6 : Int} {t : S48} {ps ys : List S60} (h : (true, y2, y3, y4, ys, y6) = trainF a0 a1 a2 now t ps) : ys.length ≤ 1000 := by
  have h2 : ys = (trainF a0 a1 a2 now t ps).2.2.2.2.1 := by rw [← h]
  have h1 : (trainF a0 a1 a2 now t ps).1 = true := by rw [← h]
  rw [h2]
  unfold trainF at h1 ⊢
  split
  · rename_i hc
    have h3 := Pure.tfold_len now a2 ps ⟨t.f0, t.f1, t.f2, [], 0⟩
    have h4 : ps.length ≤ 1000 := by
      simp only [Bool.and_eq_true] at hc
      have := hc.2
      unfold pksB at this
      simp only [Bool.and_eq_true, decide_eq_true_eq] at this
      exact this.1
    simp only [List.length_nil, Nat.zero_add] at h3
    exact Nat.le_trans h3 h4
  · simp
theorem vals_cons {now : Int} {s : List S84} (h0 : 0 < s.length) (h : (rd_T84 s 0).f0 = now) : vals now s = ((rd_T84 s 0).f1 :: (vals now (s.drop 1)).1, (vals now (s.drop 1)).2) := by
  rcases s with _ | ⟨a, r⟩
  · simp at h0
  · have h : a.f0 = now := h
    show vals now (a :: r) = (a.f1 :: (vals now r).1, (vals now r).2)
    conv => lhs; unfold vals
    rw [if_pos h]
theorem vals_end {now : Int} {s : List S84} (h : ¬ (0 < s.length ∧ (rd_T84 s 0).f0 = now)) : vals now s = ([], s) := by
  rcases s with _ | ⟨a, r⟩
  · rfl
  · have h2 : ¬ a.f0 = now := fun h3 => h ⟨by simp, h3⟩
    unfold vals
    rw [if_neg h2]
theorem add2_ (a : Addr) : a.add (1 * 2) = ⟨a.block, a.off + 2, none⟩ := by simp [Addr.add]
theorem add0_ (a : Addr) : a.add 0 = a := by simp [Addr.add]
theorem at_L133 {w : World} {A : Option Addr} {n : Nat} {xs : List (List S133)} (h : Kd.C kc133 w A n xs) (i : Int) (h0 : 0 ≤ i) (h1 : i < n) : ∃ ad A0 c0, A = some ad ∧ w.cell? (ad.add i.toNat) = some (.slice A0 (xs.getD i.toNat []).length c0) ∧ (xs.getD i.toNat []).length ≤ c0 ∧ Kd.C k133 w A0 (xs.getD i.toNat []).length (xs.getD i.toNat []) := by
  obtain ⟨ad, c, e, _, hK, hc0⟩ := Kd.C_get h ([] : List S133) i h0 h1
  have hc : ∀ j u, c[j]? = some u → w.cell? (ad.add (i.toNat * 1 + j)) = some u := hc0
  obtain ⟨A0, c0, rfl, l0, g0⟩ := hK
  exact ⟨ad, A0, c0, e, by have hq := hc 0 _ rfl; rwa [Nat.mul_one, Nat.add_zero] at hq, l0, g0⟩
theorem enterL {P : Program} {ops : Array Oper} {Q : Exit → Act → World → Prop} {rest : List Oper} {oi : Oper} {a : Act} {w : World} (N : Option Tmp) (hd : oi.dst = N) (f : FuncId) (args : Array Value) (hg : oi.guard = none) (hrun : (execOp a.eval oi).run P w = .ok (.enter f args) w)
    (h : Calls P f args w fun e w' => ∃ v, e = .returned v ∧ wpList P ops Q rest (a.put N v) w') : wpList P ops Q (oi :: rest) a w := by
  refine wpList_plain hg fun K hK => ?_
  unfold Oper.wp
  rw [hrun, Oper.upon_enter]
  refine h.mono fun e w'' hh => ?_
  obtain ⟨v, rfl, hk⟩ := hh
  subst hd
  exact hK _ _ hk
end
end Go.Proofs.Ytndffnacbfdnoaa.PAll
