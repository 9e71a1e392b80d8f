/- The law FnExactMayHave of numbers alone: for all whole numbers the printed function answers true. No conditions are used. -/
import Derived.Test.YtngfphiagpodaaaPFnExactMayHavex2
namespace Go.Proofs.Ytngfphiagpodaaa.Pure
open Go.RowKit Go.Proofs.YtngfphiagpodaaaW.PrintWords Go.Proofs.YtngfphiagpodaaaW.PrintLast Go.Proofs.Ytngfphiagpodaaa.PFnExactMayHave

theorem l1in (x lo hi : Int) : spec_l1in.f x lo hi = some (decide (lo ≤ x ∧ x ≤ hi)) := by
  unfold spec_l1in.f
  by_cases h : x ≥ lo
  · rw [if_pos h]
    simp [show lo ≤ x from h]
  · rw [if_neg h]
    simp [show ¬ lo ≤ x from h]
theorem rules_spec (a b c : Int) : spec_RulesOk.f a b c = some (decide ((1 ≤ a ∧ a ≤ 1000) ∧ (1 ≤ b ∧ b ≤ 10000) ∧ (0 ≤ c ∧ c ≤ b))) := by
  simp only [spec_RulesOk.f, l1in, Option.bind_some]
  by_cases h1 : (1 ≤ a ∧ a ≤ 1000) <;> by_cases h2 : (1 ≤ b ∧ b ≤ 10000) <;> simp [h1, h2]
theorem rules_impl (a b c : Int) : impl_RulesOk.f a b c = some (decide ((1 ≤ a ∧ a ≤ 1000) ∧ (1 ≤ b ∧ b ≤ 10000) ∧ (0 ≤ c ∧ c ≤ b))) := by
  simp only [impl_RulesOk.f]
  by_cases h1 : 1 ≤ a <;> by_cases h2 : a ≤ 1000 <;> by_cases h3 : 1 ≤ b <;> by_cases h4 : b ≤ 10000 <;> by_cases h5 : 0 ≤ c <;> simp [h1, h2, h3, h4, h5]
theorem in_ (x lo hi : Int) : impl_in.f x lo hi = some (decide (lo ≤ x ∧ x ≤ hi)) := l1in x lo hi
theorem box_eq (n a b c d e : Int) : spec_BoxOk.f n a b c d e = impl_BoxOk.f n a b c d e := rfl
theorem box_some (n a b c d e : Int) : ∃ r, impl_BoxOk.f n a b c d e = some r := by
  simp only [impl_BoxOk.f, in_, Option.bind_some]
  repeat' split
  all_goals exact ⟨_, rfl⟩
theorem may_eq (a b c d e f g h : Int) : spec_MayHave.f a b c d e f g h = impl_MayHave.f a b c d e f g h := by
  simp only [spec_MayHave.f, impl_MayHave.f, rules_spec, rules_impl, box_eq]
theorem may_some (a b c d e f g h : Int) : ∃ r, impl_MayHave.f a b c d e f g h = some r := by
  obtain ⟨r, hr⟩ := box_some 1000000000 d e f g h
  simp only [impl_MayHave.f, rules_impl, hr, Option.bind_some]
  repeat' split
  all_goals exact ⟨_, rfl⟩

theorem FnExactMayHave (a0_0 a0_1 a0_2 : Int) (a1_0 a1_1 a1_2 a1_3 a1_4 : Int) (_ : (Lit.int .i64 a0_0).wf = true) (_ : (Lit.int .i64 a0_1).wf = true) (_ : (Lit.int .i64 a0_2).wf = true) (_ : (Lit.int .i64 a1_0).wf = true) (_ : (Lit.int .i64 a1_1).wf = true) (_ : (Lit.int .i64 a1_2).wf = true) (_ : (Lit.int .i64 a1_3).wf = true) (_ : (Lit.int .i64 a1_4).wf = true) : laws_FnExactMayHave.f a0_0 a0_1 a0_2 a1_0 a1_1 a1_2 a1_3 a1_4 = some true := by
  obtain ⟨r, hr⟩ := may_some a0_0 a0_1 a0_2 a1_0 a1_1 a1_2 a1_3 a1_4
  simp only [laws_FnExactMayHave.f, laws_toRules.f, laws_toBox.f, Option.bind_some, may_eq, hr, laws_eqHas.f]
  simp

end Go.Proofs.Ytngfphiagpodaaa.Pure
