/- The law FnExactTrainOk of numbers alone: for all whole numbers the printed function answers true. No conditions are used. -/
import Derived.Test.YtngfphiagpodaaaPFnExactTrainOkx1
namespace Go.Proofs.Ytngfphiagpodaaa.Pure
open Go.RowKit Go.Proofs.YtngfphiagpodaaaW.PrintWords Go.Proofs.YtngfphiagpodaaaW.PrintLast Go.Proofs.Ytngfphiagpodaaa.PFnExactTrainOk

theorem l1in (x lo hi : Int) : spec_l1in.f x lo hi = some (decide (lo ≤ x ∧ x ≤ hi)) := by
  unfold spec_l1in.f
  by_cases h : x ≥ lo
  · rw [if_pos h]
    simp [show lo ≤ x from h]
  · rw [if_neg h]
    simp [show ¬ lo ≤ x from h]
theorem in_ (x lo hi : Int) : impl_in.f x lo hi = some (decide (lo ≤ x ∧ x ≤ hi)) := l1in x lo hi
theorem train_eq (n a b c : Int) : spec_TrainOk.f n a b c = impl_TrainOk.f n a b c := rfl
theorem train_some (n a b c : Int) : ∃ r, impl_TrainOk.f n a b c = some r := by
  simp only [impl_TrainOk.f, in_, Option.bind_some]
  repeat' split
  all_goals exact ⟨_, rfl⟩

theorem FnExactTrainOk (a0 : Int) (a1_0 a1_1 a1_2 : Int) (_ : (Lit.int .i64 a0).wf = true) (_ : (Lit.int .i64 a1_0).wf = true) (_ : (Lit.int .i64 a1_1).wf = true) (_ : (Lit.int .i64 a1_2).wf = true) : laws_FnExactTrainOk.f a0 a1_0 a1_1 a1_2 = some true := by
  obtain ⟨r, hr⟩ := train_some a0 a1_0 a1_1 a1_2
  simp only [laws_FnExactTrainOk.f, laws_toTrain.f, Option.bind_some, train_eq, hr]
  simp

end Go.Proofs.Ytngfphiagpodaaa.Pure
