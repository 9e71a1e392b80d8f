/- The law FnExactBoxOk of numbers alone: for all whole numbers the printed function answers true. No conditions are used. -/
import Derived.Test.YtngfphiagpodaaaPFnExactBoxOkx1
namespace Go.Proofs.Ytngfphiagpodaaa.Pure
open Go.RowKit Go.Proofs.YtngfphiagpodaaaW.PrintWords Go.Proofs.YtngfphiagpodaaaW.PrintLast Go.Proofs.Ytngfphiagpodaaa.PFnExactBoxOk

theorem l1in (x lo hi : Int) : spec_l1in.f x lo hi = some (decide (lo ≤ x ∧ x ≤ hi)) := by
  unfold spec_l1in.f
  by_cases h : x ≥ lo
  · rw [if_pos h]
    simp [show lo ≤ x from h]
  · rw [if_neg h]
    simp [show ¬ lo ≤ x from h]
theorem in_ (x lo hi : Int) : impl_in.f x lo hi = some (decide (lo ≤ x ∧ x ≤ hi)) := l1in x lo hi
theorem box_eq (n a b c d e : Int) : spec_BoxOk.f n a b c d e = impl_BoxOk.f n a b c d e := rfl
theorem box_some (n a b c d e : Int) : ∃ r, impl_BoxOk.f n a b c d e = some r := by
  simp only [impl_BoxOk.f, in_, Option.bind_some]
  repeat' split
  all_goals exact ⟨_, rfl⟩

theorem FnExactBoxOk (a0 : Int) (a1_0 a1_1 a1_2 a1_3 a1_4 : Int) (_ : (Lit.int .i64 a0).wf = true) (_ : (Lit.int .i64 a1_0).wf = true) (_ : (Lit.int .i64 a1_1).wf = true) (_ : (Lit.int .i64 a1_2).wf = true) (_ : (Lit.int .i64 a1_3).wf = true) (_ : (Lit.int .i64 a1_4).wf = true) : laws_FnExactBoxOk.f a0 a1_0 a1_1 a1_2 a1_3 a1_4 = some true := by
  obtain ⟨r, hr⟩ := box_some a0 a1_0 a1_1 a1_2 a1_3 a1_4
  simp only [laws_FnExactBoxOk.f, laws_toBox.f, Option.bind_some, box_eq, hr]
  simp

end Go.Proofs.Ytngfphiagpodaaa.Pure
