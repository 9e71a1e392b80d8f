/- The law FnExactPacketOk of numbers alone: for all whole numbers the printed function answers true. No conditions are used. -/
import Derived.Test.YtngfphiagpodaaaPFnExactPacketOkx1
namespace Go.Proofs.Ytngfphiagpodaaa.Pure
open Go.RowKit Go.Proofs.YtngfphiagpodaaaW.PrintWords Go.Proofs.YtngfphiagpodaaaW.PrintLast Go.Proofs.Ytngfphiagpodaaa.PFnExactPacketOk

theorem l1in (x lo hi : Int) : spec_l1in.f x lo hi = some (decide (lo ≤ x ∧ x ≤ hi)) := by
  unfold spec_l1in.f
  by_cases h : x ≥ lo
  · rw [if_pos h]
    simp [show lo ≤ x from h]
  · rw [if_neg h]
    simp [show ¬ lo ≤ x from h]
theorem packet_spec (k v x s : Int) : spec_PacketOk.f k v x s = some (decide ((k = 1 ∨ k = 2 ∧ x = 0) ∧ (0 ≤ v ∧ v ≤ 1000000000) ∧ (0 ≤ s ∧ s ≤ 1000000000))) := by
  simp only [spec_PacketOk.f, l1in, Option.bind_some]
  by_cases h4 : k = 1
  · subst h4
    by_cases h1 : (0 ≤ v ∧ v ≤ 1000000000) <;> by_cases h2 : (0 ≤ s ∧ s ≤ 1000000000) <;> simp [h1, h2]
  · by_cases h5 : k = 2
    · subst h5
      by_cases h1 : (0 ≤ v ∧ v ≤ 1000000000) <;> by_cases h2 : (0 ≤ s ∧ s ≤ 1000000000) <;> by_cases h7 : x = 0 <;> simp [h1, h2, h7]
    · by_cases h1 : (0 ≤ v ∧ v ≤ 1000000000) <;> by_cases h2 : (0 ≤ s ∧ s ≤ 1000000000) <;> simp [h1, h2, h4, h5]
theorem packet_impl (k v x s : Int) : impl_PacketOk.f k v x s = some (decide ((k = 1 ∨ k = 2 ∧ x = 0) ∧ (0 ≤ v ∧ v ≤ 1000000000) ∧ (0 ≤ s ∧ s ≤ 1000000000))) := by
  simp only [impl_PacketOk.f]
  by_cases h4 : k = 1
  · subst h4
    by_cases h1 : 0 ≤ v <;> by_cases h2 : v ≤ 1000000000 <;> by_cases h3 : 0 ≤ s <;> simp [h1, h2, h3]
  · by_cases h5 : k = 2
    · subst h5
      by_cases h1 : 0 ≤ v <;> by_cases h2 : v ≤ 1000000000 <;> by_cases h3 : 0 ≤ s <;> by_cases h7 : x = 0 <;> simp [h1, h2, h3, h7]
    · simp [h4, h5]

theorem FnExactPacketOk (a0_0 a0_1 a0_2 a0_3 : Int) (_ : (Lit.int .i64 a0_0).wf = true) (_ : (Lit.int .i64 a0_1).wf = true) (_ : (Lit.int .i64 a0_2).wf = true) (_ : (Lit.int .i64 a0_3).wf = true) : laws_FnExactPacketOk.f a0_0 a0_1 a0_2 a0_3 = some true := by
  simp only [laws_FnExactPacketOk.f, laws_toPacket.f, Option.bind_some, packet_spec, packet_impl]
  simp

end Go.Proofs.Ytngfphiagpodaaa.Pure
