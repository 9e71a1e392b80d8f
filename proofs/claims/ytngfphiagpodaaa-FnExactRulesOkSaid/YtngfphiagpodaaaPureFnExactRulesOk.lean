/- The law FnExactRulesOk of numbers alone: for all whole numbers the printed function answers true. No conditions are used. -/
import Derived.Test.YtngfphiagpodaaaPFnExactRulesOkx1
namespace Go.Proofs.Ytngfphiagpodaaa.Pure
open Go.RowKit Go.Proofs.YtngfphiagpodaaaW.PrintWords Go.Proofs.YtngfphiagpodaaaW.PrintLast Go.Proofs.Ytngfphiagpodaaa.PFnExactRulesOk

theorem l1in (x lo hi : Int) : spec_l1in.f x lo hi = some (decide (lo ≤ x ∧ x ≤ hi)) := by
  unfold spec_l1in.f
  by_cases h : x ≥ lo
  · rw [if_pos h]
    simp [show lo ≤ x from h]
  · rw [if_neg h]
    simp [show ¬ lo ≤ x from h]
theorem rules_spec (a b c : Int) : spec_RulesOk.f a b c = some (decide ((1 ≤ a ∧ a ≤ 1000) ∧ (1 ≤ b ∧ b ≤ 10000) ∧ (0 ≤ c ∧ c ≤ b))) := by
  simp only [spec_RulesOk.f, l1in, Option.bind_some]
  by_cases h1 : (1 ≤ a ∧ a ≤ 1000) <;> by_cases h2 : (1 ≤ b ∧ b ≤ 10000) <;> simp [h1, h2]
theorem rules_impl (a b c : Int) : impl_RulesOk.f a b c = some (decide ((1 ≤ a ∧ a ≤ 1000) ∧ (1 ≤ b ∧ b ≤ 10000) ∧ (0 ≤ c ∧ c ≤ b))) := by
  simp only [impl_RulesOk.f]
  by_cases h1 : 1 ≤ a <;> by_cases h2 : a ≤ 1000 <;> by_cases h3 : 1 ≤ b <;> by_cases h4 : b ≤ 10000 <;> by_cases h5 : 0 ≤ c <;> simp [h1, h2, h3, h4, h5]

theorem FnExactRulesOk (a0_0 a0_1 a0_2 : Int) (_ : (Lit.int .i64 a0_0).wf = true) (_ : (Lit.int .i64 a0_1).wf = true) (_ : (Lit.int .i64 a0_2).wf = true) : laws_FnExactRulesOk.f a0_0 a0_1 a0_2 = some true := by
  simp only [laws_FnExactRulesOk.f, laws_toRules.f, Option.bind_some, rules_spec, rules_impl]
  simp

end Go.Proofs.Ytngfphiagpodaaa.Pure
