-- Lines of SpecI that this claim uses.
import Derived.Test.YtndffnacbfdnoaaRUSpecSend
namespace Go.Proofs.Ytndffnacbfdnoaa.PAll
open Go.RowKit Go.Proofs.YtndffnacbfdnoaaW.PrintWords Go.Proofs.YtndffnacbfdnoaaW.PrintLast Go.Proofs.YtndffnacbfdnoaaW.PrintMore
set_option linter.unusedSimpArgs false
set_option linter.unusedVariables false
structure SI (w0 W : World) (N : Nat) (ex okD okU okO : Nat → Prop) (vD vU vO : Value) (dn up : List S146) (out : List S86) : Prop where
  hD : Kd.R k146 146 W w0.heap.size okD vD dn
  hU : Kd.R k146 146 W w0.heap.size okU vU up
  hO : Kd.R k86 86 W w0.heap.size okO vO out
  dDU : ∀ k, okD k → ¬ okU k
  dDO : ∀ k, okD k → ¬ okO k
  dUO : ∀ k, okU k → ¬ okO k
  bD : ∀ k, okD k → k < N ∧ ¬ ex k
  bU : ∀ k, okU k → k < N ∧ ¬ ex k
  bO : ∀ k, okO k → k < N ∧ ¬ ex k
  hN : N ≤ W.heap.size
  base : w0.heap.size ≤ N
  exg : ∀ k, ex k → w0.heap.size ≤ k
  exN : ∀ k, ex k → k < W.heap.size
  below : Below w0.heap.size w0 W
section
variable {w0 W W2 : World} {N : Nat} {ex ex2 okD okU okO ok : Nat → Prop} {ga : Nat} {dn up dn2 up2 : List S146} {vD vU vO vD2 vU2 vO2 : Value} {out out2 : List S86}
theorem SI.size (h : SI w0 W N ex okD okU okO vD vU vO dn up out) : w0.heap.size ≤ W.heap.size := Nat.le_trans h.base h.hN
theorem SI.go (h : SI w0 W N ex okD okU okO vD vU vO dn up out) (hb : Below W.heap.size W W2) : SI w0 W2 N ex okD okU okO vD vU vO dn up out :=
  { h with hD := Kd.R_below h.hD hb, hU := Kd.R_below h.hU hb, hO := Kd.R_below h.hO hb, hN := Nat.le_trans h.hN hb.size, exN := fun k hk => Nat.lt_of_lt_of_le (h.exN k hk) hb.size, below := below_step h.below hb }
theorem SI.drew (h : SI w0 W N ex okD okU okO vD vU vO dn up out) : SI w0 W.drew N ex okD okU okO vD vU vO dn up out := h.go (below_drew (Below.refl _ _))
theorem SI.set (h : SI w0 W N ex okD okU okO vD vU vO dn up out) {g j : Nat} (hp : ex g ∨ N ≤ g) (u : Value) : SI w0 (W.setCell ⟨g, j, none⟩ u) N ex okD okU okO vD vU vO dn up out :=
  { h with
    hD := Kd.R_far h.hD (fun k hk e => by have := h.bD k hk; have e : k = g := e; subst e; rcases hp with hp | hp; exact this.2 hp; omega) u
    hU := Kd.R_far h.hU (fun k hk e => by have := h.bU k hk; have e : k = g := e; subst e; rcases hp with hp | hp; exact this.2 hp; omega) u
    hO := Kd.R_far h.hO (fun k hk e => by have := h.bO k hk; have e : k = g := e; subst e; rcases hp with hp | hp; exact this.2 hp; omega) u
    hN := by have := h.hN; simpa [World.setCell] using this
    exN := fun k hk => by have := h.exN k hk; simpa [World.setCell] using this
    below := below_set h.below (by rcases hp with hp | hp; exact h.exg _ hp; exact Nat.le_trans h.base hp) }
theorem SI.grown (h : SI w0 W N ex okD okU okO vD vU vO dn up out) {row : Option Nat} (hg : W.grownBy W2 row) (hr : ∀ k, row = some k → N ≤ k) (hb : Below w0.heap.size w0 W2) : SI w0 W2 N ex okD okU okO vD vU vO dn up out :=
  { h with
    hD := Kd.R_grown h.hD hg (fun k hk e => by have := h.bD k hk; have := hr k e.symm; omega)
    hU := Kd.R_grown h.hU hg (fun k hk e => by have := h.bU k hk; have := hr k e.symm; omega)
    hO := Kd.R_grown h.hO hg (fun k hk e => by have := h.bO k hk; have := hr k e.symm; omega)
    hN := Nat.le_trans h.hN hg.size
    exN := fun k hk => Nat.lt_of_lt_of_le (h.exN k hk) hg.size
    below := hb }
theorem SI.wide (h : SI w0 W N ex okD okU okO vD vU vO dn up out) : SI w0 W W.heap.size (fun k => ex k ∨ (N ≤ k ∧ k < W.heap.size)) okD okU okO vD vU vO dn up out :=
  { h with
    bD := fun k hk => by have := h.bD k hk; have := h.hN; exact ⟨by omega, fun hh => hh.elim (h.bD k hk).2 (fun h2 => by omega)⟩
    bU := fun k hk => by have := h.bU k hk; have := h.hN; exact ⟨by omega, fun hh => hh.elim (h.bU k hk).2 (fun h2 => by omega)⟩
    bO := fun k hk => by have := h.bO k hk; have := h.hN; exact ⟨by omega, fun hh => hh.elim (h.bO k hk).2 (fun h2 => by omega)⟩
    hN := Nat.le_refl _
    base := h.size
    exg := fun k hk => hk.elim (h.exg k) (fun h2 => Nat.le_trans h.base h2.1)
    exN := fun k hk => hk.elim (h.exN k) (fun h2 => h2.2) }
theorem SI.less (h : SI w0 W N ex okD okU okO vD vU vO dn up out) (he : ∀ k, ex2 k → ex k) : SI w0 W N ex2 okD okU okO vD vU vO dn up out :=
  { h with bD := fun k hk => ⟨(h.bD k hk).1, fun h2 => (h.bD k hk).2 (he k h2)⟩, bU := fun k hk => ⟨(h.bU k hk).1, fun h2 => (h.bU k hk).2 (he k h2)⟩, bO := fun k hk => ⟨(h.bO k hk).1, fun h2 => (h.bO k hk).2 (he k h2)⟩, exg := fun k hk => h.exg k (he k hk), exN := fun k hk => h.exN k (he k hk) }
theorem SI.sentD (h : SI w0 W N ex okD okU okO vD vU vO dn up out) (hS : Kd.R k146 146 W2 w0.heap.size (fun k => okD k ∨ W.heap.size ≤ k) vD2 dn2)
    (hk : Kept W W2 (fun k => okD k ∨ k = ga)) (hgn : ex ga) (hb : Below w0.heap.size w0 W2) :
    SI w0 W2 W2.heap.size (fun k => ex k ∨ (N ≤ k ∧ k < W.heap.size)) (fun k => (okD k ∨ W.heap.size ≤ k) ∧ k < W2.heap.size) okU okO vD2 vU vO dn2 up out :=
  have hsz := hk.1
  { hU := Kd.R_kept h.hU hk (fun k hk h2 => by
      have h3 := h.bU k hk; have h4 := h.hN
      rcases h2 with h2 | h2
      · exact h.dDU k h2 hk
      · exact h3.2 (h2 ▸ hgn))
    hD := Kd.R_mono (Kd.R_bound hS) (fun k hk => ⟨hk.1, hk.2.2.1⟩)
    hO := Kd.R_kept h.hO hk (fun k hk h2 => by
      have h3 := h.bO k hk; have h4 := h.hN
      rcases h2 with h2 | h2
      · exact h.dDO k h2 hk
      · exact h3.2 (h2 ▸ hgn))
    dDU := fun k hk h2 => by have h3 := h.bU k h2; have h4 := h.hN; rcases hk.1 with hk | hk; exact h.dDU k hk h2; omega
    dUO := h.dUO
    dDO := fun k hk h2 => by have h3 := h.bO k h2; have h4 := h.hN; rcases hk.1 with hk | hk; exact h.dDO k hk h2; omega
    bU := fun k hk => by have h3 := h.bU k hk; have h4 := h.hN; have h5 := hk; exact ⟨by have := hsz; omega, fun h6 => h6.elim h3.2 (fun h7 => by omega)⟩
    bD := fun k hk => ⟨hk.2, fun h6 => by
      have h4 := h.hN
      rcases hk.1 with hk1 | hk1
      · have h3 := h.bD k hk1; exact h6.elim h3.2 (fun h7 => by omega)
      · rcases h6 with h6 | h6
        · exact absurd hk1 (by have := h.exN k h6; omega)
        · omega⟩
    bO := fun k hk => by have h3 := h.bO k hk; have h4 := h.hN; exact ⟨by have := hsz; omega, fun h6 => h6.elim h3.2 (fun h7 => by omega)⟩
    hN := Nat.le_refl _
    base := Nat.le_trans h.size hk.1
    exg := fun k hk => hk.elim (h.exg k) (fun h2 => Nat.le_trans h.base h2.1)
    exN := fun k hh => Nat.lt_of_lt_of_le (hh.elim (h.exN k) (fun h2 => h2.2)) hk.1
    below := hb }
theorem SI.sentU (h : SI w0 W N ex okD okU okO vD vU vO dn up out) (hS : Kd.R k146 146 W2 w0.heap.size (fun k => okU k ∨ W.heap.size ≤ k) vU2 up2)
    (hk : Kept W W2 (fun k => okU k ∨ k = ga)) (hgn : ex ga) (hb : Below w0.heap.size w0 W2) :
    SI w0 W2 W2.heap.size (fun k => ex k ∨ (N ≤ k ∧ k < W.heap.size)) okD (fun k => (okU k ∨ W.heap.size ≤ k) ∧ k < W2.heap.size) okO vD vU2 vO dn up2 out :=
  have hsz := hk.1
  { hD := Kd.R_kept h.hD hk (fun k hk h2 => by
      have h3 := h.bD k hk; have h4 := h.hN
      rcases h2 with h2 | h2
      · exact h.dDU k hk h2
      · exact h3.2 (h2 ▸ hgn))
    hU := Kd.R_mono (Kd.R_bound hS) (fun k hk => ⟨hk.1, hk.2.2.1⟩)
    hO := Kd.R_kept h.hO hk (fun k hk h2 => by
      have h3 := h.bO k hk; have h4 := h.hN
      rcases h2 with h2 | h2
      · exact h.dUO k h2 hk
      · exact h3.2 (h2 ▸ hgn))
    dDU := fun k h2 hk => by have h3 := h.bD k h2; have h4 := h.hN; rcases hk.1 with hk | hk; exact h.dDU k h2 hk; omega
    dDO := h.dDO
    dUO := fun k hk h2 => by have h3 := h.bO k h2; have h4 := h.hN; rcases hk.1 with hk | hk; exact h.dUO k hk h2; omega
    bD := fun k hk => by have h3 := h.bD k hk; have h4 := h.hN; have h5 := hk; exact ⟨by have := hsz; omega, fun h6 => h6.elim h3.2 (fun h7 => by omega)⟩
    bU := fun k hk => ⟨hk.2, fun h6 => by
      have h4 := h.hN
      rcases hk.1 with hk1 | hk1
      · have h3 := h.bU k hk1; exact h6.elim h3.2 (fun h7 => by omega)
      · rcases h6 with h6 | h6
        · exact absurd hk1 (by have := h.exN k h6; omega)
        · omega⟩
    bO := fun k hk => by have h3 := h.bO k hk; have h4 := h.hN; exact ⟨by have := hsz; omega, fun h6 => h6.elim h3.2 (fun h7 => by omega)⟩
    hN := Nat.le_refl _
    base := Nat.le_trans h.size hk.1
    exg := fun k hk => hk.elim (h.exg k) (fun h2 => Nat.le_trans h.base h2.1)
    exN := fun k hh => Nat.lt_of_lt_of_le (hh.elim (h.exN k) (fun h2 => h2.2)) hk.1
    below := hb }
theorem SI.outs (h : SI w0 W N ex okD okU okO vD vU vO dn up out) (hO : Kd.R k86 86 W2 w0.heap.size (fun k => okO k ∨ W.heap.size ≤ k) vO2 out2) (hg : W.grownBy W2 vO.ownBlock) (hb : Below w0.heap.size w0 W2) :
    SI w0 W2 W2.heap.size (fun k => ex k ∨ (N ≤ k ∧ k < W.heap.size)) okD okU (fun k => (okO k ∨ W.heap.size ≤ k) ∧ k < W2.heap.size) vD vU vO2 dn up out2 :=
  have hsz := hg.size
  { hD := Kd.R_grown h.hD hg (fun k hk e => h.dDO k hk (h.hO.1 k e.symm))
    hU := Kd.R_grown h.hU hg (fun k hk e => h.dUO k hk (h.hO.1 k e.symm))
    hO := Kd.R_mono (Kd.R_bound hO) (fun k hk => ⟨hk.1, hk.2.2.1⟩)
    dDU := h.dDU
    dDO := fun k hk h2 => by have h3 := h.bD k hk; have h4 := h.hN; rcases h2.1 with h2 | h2; exact h.dDO k hk h2; omega
    dUO := fun k hk h2 => by have h3 := h.bU k hk; have h4 := h.hN; rcases h2.1 with h2 | h2; exact h.dUO k hk h2; omega
    bD := fun k hk => by have h3 := h.bD k hk; have h4 := h.hN; exact ⟨by omega, fun h6 => h6.elim h3.2 (fun h7 => by omega)⟩
    bU := fun k hk => by have h3 := h.bU k hk; have h4 := h.hN; exact ⟨by omega, fun h6 => h6.elim h3.2 (fun h7 => by omega)⟩
    bO := fun k hk => ⟨hk.2, fun h6 => by
      have h4 := h.hN
      rcases hk.1 with hk1 | hk1
      · have h3 := h.bO k hk1; exact h6.elim h3.2 (fun h7 => by omega)
      · rcases h6 with h6 | h6
        · exact absurd hk1 (by have := h.exN k h6; omega)
        · omega⟩
    hN := Nat.le_refl _
    base := Nat.le_trans h.size hsz
    exg := fun k hk => hk.elim (h.exg k) (fun h2 => Nat.le_trans h.base h2.1)
    exN := fun k hh => Nat.lt_of_lt_of_le (hh.elim (h.exN k) (fun h2 => h2.2)) hsz
    below := hb }
end
end Go.Proofs.Ytndffnacbfdnoaa.PAll
