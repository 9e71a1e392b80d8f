-- Lines of PureFnExactBoxTick that this claim uses.
import Derived.Test.YtndffnacbfdnoaaBTPAllx11
import Derived.Test.YtndffnacbfdnoaaBTPkb
namespace Go.Proofs.Ytndffnacbfdnoaa.Pure
open Go.RowKit Go.Proofs.YtndffnacbfdnoaaW.PrintWords Go.Proofs.YtndffnacbfdnoaaW.PrintLast Go.Proofs.Ytndffnacbfdnoaa.PAll Go.Proofs.Ytndffnacbfdnoaa.Plain
theorem eqbx_self (k : Nat) (b : Bool) (v x a t h : Int) (l : List S60) (hl : l.length ≤ 1048576) (hk : l.length < k) : laws_eqBoxed.f k b v x a t h l b v x a t h l = some true := by
  simp [laws_eqBoxed.f, laws_eqBox.f, eq_some l hl k hk]
theorem FnExactBoxTick (a0_0 a0_1 a0_2 : Int) (a1 : Int) (a2_0 a2_1 a2_2 a2_3 a2_4 : Int) (l3 : List Int) (l4 : List S99) (_ : (Lit.int .i64 a0_0).wf = true) (_ : (Lit.int .i64 a0_1).wf = true) (_ : (Lit.int .i64 a0_2).wf = true) (_ : (Lit.int .i64 a1).wf = true) (_ : (Lit.int .i64 a2_0).wf = true) (_ : (Lit.int .i64 a2_1).wf = true) (_ : (Lit.int .i64 a2_2).wf = true) (_ : (Lit.int .i64 a2_3).wf = true) (_ : (Lit.int .i64 a2_4).wf = true) (_ : l3.length ≤ maxLen) (_ : l3.length * 8 ≤ 140737488351232) (_ : (∀ x ∈ l3, (Lit.int .i64 x).wf = true)) (_ : l4.length ≤ 9223372036854775807) (_ : (∀ x ∈ l4, (Lit.int .i64 x.f0).wf = true ∧ (Lit.int .i64 x.f1).wf = true ∧ (Lit.int .i64 x.f2).wf = true ∧ (Lit.int .i64 x.f3).wf = true)) : ∃ k, laws_FnExactBoxTick.f k a0_0 a0_1 a0_2 a1 a2_0 a2_1 a2_2 a2_3 a2_4 l3 l4 = some true := by
  refine ⟨2 * l4.length + l3.length + 40, ?_⟩
  simp only [laws_FnExactBoxTick.f, laws_szPacketS.f]
  by_cases hl3 : l3.length ≤ 1048576
  · rw [if_neg (by omega)]
    by_cases hl : l4.length ≤ 1048576
    · have hw : wrap64 (1048576 - (l4.length : Int)) = 1048576 - (l4.length : Int) := w64 (by omega) (by omega)
      have hm : (l4.map conv).length = l4.length := by simp
      obtain ⟨R, g1, g2, g3⟩ := box_same a0_0 a0_1 a0_2 a1 a2_0 a2_1 a2_2 a2_3 a2_4 l3 hl3 (l4.map conv) (by omega) (2 * l4.length + l3.length + 40) (by omega)
      obtain ⟨ok, v, x, a, t, h, snt⟩ := R
      simp only at g3
      rw [hw, if_neg (by omega), Option.bind_some, if_neg (by omega)]
      have t1 := to_some l4 hl (2 * l4.length + l3.length + 40) (by omega)
      have i1 := toi_some l3 hl3 (2 * l4.length + l3.length + 40) (by omega)
      have q1 := eqbx_self (2 * l4.length + l3.length + 40) ok v x a t h snt (by omega) (by omega)
      have q2 := eq_some (l4.map conv) (by omega) (2 * l4.length + l3.length + 40) (by omega)
      have q4 := eqi_some l3 hl3 (2 * l4.length + l3.length + 40) (by omega)
      obtain ⟨M1, n1⟩ := marki_some l3 hl3 (2 * l4.length + l3.length + 40) (by omega)
      obtain ⟨M2, n2⟩ := markp_some (l4.map conv) (1 + (l3.length : Int)) (by omega) (by omega) (by omega) (2 * l4.length + l3.length + 40) (by omega)
      have m2 := mark_some snt (by omega) (2 * l4.length + l3.length + 39) (by omega)
      have m3 := held_some snt.length (by omega) (2 * l4.length + l3.length + 39) (by omega)
      have t2 := to_some l4 hl (2 * l4.length + l3.length + 39) (by omega)
      have i2 := toi_some l3 hl3 (2 * l4.length + l3.length + 39) (by omega)
      have q3 := eqbx_self (2 * l4.length + l3.length + 39) ok v x a t h snt (by omega) (by omega)
      obtain ⟨R', r1, r2, r3⟩ := box_same a0_0 a0_1 a0_2 a1 a2_0 a2_1 a2_2 a2_3 a2_4 l3 hl3 (l4.map conv) (by omega) (2 * l4.length + l3.length + 39) (by omega)
      have hR : R' = (ok, v, x, a, t, h, snt) := by
        have := impl_BoxTick.mono a0_0 a0_1 a0_2 a1 a2_0 a2_1 a2_2 a2_3 a2_4 l3 (l4.map conv) (2 * l4.length + l3.length + 39) R' r2
        rw [show 2 * l4.length + l3.length + 39 + 1 = 2 * l4.length + l3.length + 40 from rfl, g2] at this
        exact (Option.some.inj this).symm
      rw [hR] at r2
      have p1 : ¬ (1 + (l3.length : Int) + 4 * (((l4.map conv).length : Nat) : Int) < 0) := by omega
      have p2 : ¬ (1 + 4 * ((snt.length : Nat) : Int) < 0) := by omega
      simp only [laws_toRules.f, laws_toBox.f, Option.bind_some, t1, i1, g1, g2, q1, q2, q4, n1, n2, if_true, p1, if_false, Bool.not_true]
      rw [show 2 * l4.length + l3.length + 40 = (2 * l4.length + l3.length + 39) + 1 from rfl]
      simp only [laws_FnExactBoxTick.j0, laws_markBoxed.f, laws_heldBoxed.f, laws_toRules.f, laws_toBox.f, Option.bind_some, m2, m3, t2, i2, r2, q3, if_true, p2, if_false, Bool.false_eq_true]
    · have hw : wrap64 (1048576 - (l4.length : Int)) < 0 := by
        rw [w64 (by omega) (by omega)]
        omega
      rw [if_pos hw, Option.bind_some, if_pos (by omega)]
  · rw [if_pos (by omega)]
end Go.Proofs.Ytndffnacbfdnoaa.Pure
