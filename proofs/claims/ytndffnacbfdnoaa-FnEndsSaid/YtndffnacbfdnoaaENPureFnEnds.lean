-- Lines of PureFnEnds that this claim uses.
import Derived.Test.YtndffnacbfdnoaaENPAllx19
import Derived.Test.YtndffnacbfdnoaaENPkb
import Derived.Test.YtndffnacbfdnoaaENPkt
import Derived.Test.YtndffnacbfdnoaaENPkd
set_option linter.unusedSimpArgs false
set_option linter.unusedVariables false
namespace Go.Proofs.Ytndffnacbfdnoaa.Pure
open Go.RowKit Go.Proofs.YtndffnacbfdnoaaW.PrintWords Go.Proofs.YtndffnacbfdnoaaW.PrintLast Go.Proofs.Ytndffnacbfdnoaa.PAll Go.Proofs.Ytndffnacbfdnoaa.Plain
theorem ends_l1 (b : Bool) (v x s n : Int) (P : List S60) (hP : P.length ≤ 1048576) (d : Nat) : ∀ (k i : Nat), P.length - i = d → i ≤ P.length → d < k →
    laws_FnEnds.l1 k (P.length : Int) (i : Int) b v x s P n b v x s P n = some true := by
  induction d with
  | zero =>
    intro k i hd hi hk
    obtain ⟨k, rfl⟩ : ∃ q, k = q + 1 := ⟨k - 1, by omega⟩
    simp only [laws_FnEnds.l1]
    rw [if_neg (by omega)]
  | succ d ih =>
    intro k i hd hi hk
    obtain ⟨k, rfl⟩ : ∃ q, k = q + 1 := ⟨k - 1, by omega⟩
    have c1 : (i : Int) < (P.length : Int) := by omega
    have c2 : (0 : Int) ≤ (i : Int) := by omega
    have c3 : wrap64 ((i : Int) + 1) = ((i + 1 : Nat) : Int) := wn (by omega)
    simp only [laws_FnEnds.l1, c1, c2, c3, if_true, beq_self_eq_true, Bool.not_true, Bool.or_self, Bool.false_eq_true, if_false]
    exact ih k (i + 1) (by omega) (by omega) (by omega)
theorem ends_l0 (l : List Int) (hb : Bytes l) (b : Bool) (v x a s h : Int) (P : List S60) (hP : P.length ≤ 1048576) (d : Nat) : ∀ (k i : Nat), P.length - i = d → i ≤ P.length → 10000 + d < k →
    laws_FnEnds.l0 k l (P.length : Int) (i : Int) b v x a s h P b v x a s h P = some true := by
  induction d with
  | zero =>
    intro k i hd hi hk
    obtain ⟨k, rfl⟩ : ∃ q, k = q + 1 + 1 := ⟨k - 2, by omega⟩
    obtain ⟨r0, r1, r2, y, b0, b1, b2, Q, e1, f1⟩ := drawtrain_any l hb (k + 1) (by omega)
    obtain ⟨⟨ok, v', x', s', snt, n'⟩, g1, g2, g3⟩ := train_same r0 r1 r2 y b0 b1 b2 Q (by omega) (k + 1) (by omega)
    simp only at g3
    have t := ends_l1 ok v' x' s' n' snt (by omega) snt.length k 0 (by omega) (by omega) (by omega)
    simp only [laws_FnEnds.l0]
    rw [if_neg (by omega)]
    simp only [e1, Option.bind_some, g1, g2, bne_self_eq_false, Bool.false_eq_true, if_false, beq_self_eq_true, Bool.not_true, Bool.or_self, if_true, laws_FnEnds.j2]
    exact t
  | succ d ih =>
    intro k i hd hi hk
    obtain ⟨k, rfl⟩ : ∃ q, k = q + 1 := ⟨k - 1, by omega⟩
    have c1 : (i : Int) < (P.length : Int) := by omega
    have c2 : (0 : Int) ≤ (i : Int) := by omega
    have c3 : wrap64 ((i : Int) + 1) = ((i + 1 : Nat) : Int) := wn (by omega)
    simp only [laws_FnEnds.l0, c1, c2, c3, if_true, beq_self_eq_true, Bool.not_true, Bool.or_self, Bool.false_eq_true, if_false]
    exact ih k (i + 1) (by omega) (by omega) (by omega)
theorem FnEnds (l0 : List Int) (_ : l0.length ≤ maxLen) (_ : l0.length * 1 ≤ 140737488351232) (hw : (∀ x ∈ l0, (Lit.int .u8 x).wf = true)) : ∃ k, laws_FnEnds.f k l0 = some true := by
  refine ⟨20001, ?_⟩
  have hb : Bytes l0 := fun x hx => wf_byte (hw x hx)
  unfold laws_FnEnds.f
  by_cases hl : (l0.length : Int) > 1048576
  · rw [if_pos hl]
  rw [if_neg hl]
  obtain ⟨r0, r1, r2, y, b0, b1, b2, b3, b4, R, P, e1, f1, f2⟩ := drawbox_any l0 hb 20001 (by omega)
  obtain ⟨⟨ok, v, x, a, s, h, snt⟩, g1, g2, g3⟩ := box_same r0 r1 r2 y b0 b1 b2 b3 b4 R (by omega) P (by omega) 20001 (by omega)
  simp only at g3
  have t := ends_l0 l0 hb ok v x a s h snt (by omega) snt.length 20000 0 (by omega) (by omega) (by omega)
  simp only [e1, Option.bind_some, g1, g2, bne_self_eq_false, Bool.false_eq_true, if_false, beq_self_eq_true, Bool.not_true, Bool.or_self, if_true]
  rw [show (20001 : Nat) = 20000 + 1 from rfl]
  simp only [laws_FnEnds.j0, Bool.false_eq_true, if_false]
  exact t
end Go.Proofs.Ytndffnacbfdnoaa.Pure
