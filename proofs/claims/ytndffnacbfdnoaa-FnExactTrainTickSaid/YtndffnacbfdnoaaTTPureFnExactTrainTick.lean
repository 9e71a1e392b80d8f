-- Lines of PureFnExactTrainTick that this claim uses.
import Derived.Test.YtndffnacbfdnoaaTTPAllx14
import Derived.Test.YtndffnacbfdnoaaTTPkt
namespace Go.Proofs.Ytndffnacbfdnoaa.Pure
open Go.RowKit Go.Proofs.YtndffnacbfdnoaaW.PrintWords Go.Proofs.YtndffnacbfdnoaaW.PrintLast Go.Proofs.Ytndffnacbfdnoaa.PAll Go.Proofs.Ytndffnacbfdnoaa.Plain
theorem eqtr_self (k : Nat) (b : Bool) (v x s n : Int) (l : List S60) (hl : l.length ≤ 1048576) (hk : l.length < k) : laws_eqTrained.f k b v x s l n b v x s l n = some true := by
  simp [laws_eqTrained.f, laws_eqTrain.f, eq_some l hl k hk]
theorem FnExactTrainTick (a0_0 a0_1 a0_2 : Int) (a1 : Int) (a2_0 a2_1 a2_2 : Int) (l3 : List S99) (_ : (Lit.int .i64 a0_0).wf = true) (_ : (Lit.int .i64 a0_1).wf = true) (_ : (Lit.int .i64 a0_2).wf = true) (_ : (Lit.int .i64 a1).wf = true) (_ : (Lit.int .i64 a2_0).wf = true) (_ : (Lit.int .i64 a2_1).wf = true) (_ : (Lit.int .i64 a2_2).wf = true) (_ : l3.length ≤ 9223372036854775807) (_ : (∀ x ∈ l3, (Lit.int .i64 x.f0).wf = true ∧ (Lit.int .i64 x.f1).wf = true ∧ (Lit.int .i64 x.f2).wf = true ∧ (Lit.int .i64 x.f3).wf = true)) : ∃ k, laws_FnExactTrainTick.f k a0_0 a0_1 a0_2 a1 a2_0 a2_1 a2_2 l3 = some true := by
  refine ⟨l3.length + 20, ?_⟩
  simp only [laws_FnExactTrainTick.f, laws_szPacketS.f]
  by_cases hl : l3.length ≤ 1048576
  · have hw : wrap64 (1048576 - (l3.length : Int)) = 1048576 - (l3.length : Int) := w64 (by omega) (by omega)
    have hm : (l3.map conv).length = l3.length := by simp
    obtain ⟨R, g1, g2, g3⟩ := train_same a0_0 a0_1 a0_2 a1 a2_0 a2_1 a2_2 (l3.map conv) (by omega) (l3.length + 20) (by omega)
    obtain ⟨ok, v, x, s, snt, n⟩ := R
    simp only at g3
    rw [hm] at g3
    rw [hw, if_neg (by omega), Option.bind_some, if_neg (by omega)]
    have t1 := to_some l3 hl (l3.length + 20) (by omega)
    have q1 := eqtr_self (l3.length + 20) ok v x s n snt (by omega) (by omega)
    have q2 := eq_some (l3.map conv) (by omega) (l3.length + 20) (by omega)
    have m1 := mark_some (l3.map conv) (by omega) (l3.length + 20) (by omega)
    have m2 := mark_some snt (by omega) (l3.length + 19) (by omega)
    have m3 := held_some snt.length (by omega) (l3.length + 19) (by omega)
    have t2 := to_some l3 hl (l3.length + 19) (by omega)
    have q3 := eqtr_self (l3.length + 19) ok v x s n snt (by omega) (by omega)
    obtain ⟨R', r1, r2, r3⟩ := train_same a0_0 a0_1 a0_2 a1 a2_0 a2_1 a2_2 (l3.map conv) (by omega) (l3.length + 19) (by omega)
    have hR : R' = (ok, v, x, s, snt, n) := by
      have := impl_TrainTick.mono a0_0 a0_1 a0_2 a1 a2_0 a2_1 a2_2 (l3.map conv) (l3.length + 19) R' r2
      rw [show l3.length + 19 + 1 = l3.length + 20 from rfl, g2] at this
      exact (Option.some.inj this).symm
    rw [hR] at r2
    have p1 : ¬ (1 + 4 * (((l3.map conv).length : Nat) : Int) < 0) := by omega
    have p2 : ¬ (1 + 4 * ((snt.length : Nat) : Int) < 0) := by omega
    simp only [laws_toRules.f, laws_toTrain.f, Option.bind_some, t1, g1, g2, q1, q2, m1, if_true, p1, if_false, Bool.not_true]
    rw [show l3.length + 20 = (l3.length + 19) + 1 from rfl]
    simp only [laws_FnExactTrainTick.j0, laws_markTrained.f, laws_heldTrained.f, laws_toRules.f, laws_toTrain.f, Option.bind_some, m2, m3, t2, r2, q3, if_true, p2, if_false, Bool.false_eq_true]
  · have hw : wrap64 (1048576 - (l3.length : Int)) < 0 := by
      rw [w64 (by omega) (by omega)]
      omega
    rw [if_pos hw, Option.bind_some, if_pos (by omega)]
end Go.Proofs.Ytndffnacbfdnoaa.Pure
