-- Lines of RunA that this claim uses.
import Derived.Test.YtndffnacbfdnoaaRURun
import Derived.Test.YtndffnacbfdnoaaRURunNo
import Derived.Test.YtndffnacbfdnoaaRUPkq
namespace Go.Proofs.Ytndffnacbfdnoaa.PAll
open Go.RowKit Go.Proofs.YtndffnacbfdnoaaW.PrintWords Go.Proofs.YtndffnacbfdnoaaW.PrintLast Go.Proofs.YtndffnacbfdnoaaW.PrintMore
theorem impl_RunA.calls (a0_0 : Int) (a0_1 : Int) (a0_2 : Int) (A1 : Option Addr) (c1 : Nat) (l1 : List (S84)) (A2 : Option Addr) (c2 : Nat) (l2 : List (List Int)) (a3 : Int) (r : List (S86)) (w : World) (hr1 : Kd.C k84 w A1 l1.length l1) (hc1 : l1.length ≤ c1) (hr2 : Kd.C (Kd.slice 3 (Kd.int .i64)) w A2 l2.length l2) (hc2 : l2.length ≤ c2) (h : impl_RunA.f a0_0 a0_1 a0_2 l1 l2 a3 = some r) :
    Calls Try.prog 38 #[.agg #[.int .i64 a0_0, .int .i64 a0_1, .int .i64 a0_2], .slice A1 l1.length c1, .slice A2 l2.length c2, .int .i64 a3] w fun e w' => ∃ v0_ : Value, e = .returned v0_ ∧ Kd.R k86 86 w' w.heap.size (fun _ => True) v0_ r ∧ Below w.heap.size w w' := by
  unfold impl_RunA.f at h
  by_cases hz : sized l1 l2 = true
  · rw [if_pos hz] at h
    have h := Option.some.inj h
    unfold runAll at h
    by_cases hg : goodB a0_0 a0_1 a0_2 l1 l2 a3 = true
    · refine impl_Run.calls a0_0 a0_1 a0_2 A1 c1 l1 A2 c2 l2 a3 r w hr1 hc1 hr2 hc2 ?_
      unfold impl_Run.f
      rw [if_pos hg]
      rw [if_pos hg] at h
      rw [h]
    · rw [if_neg hg] at h
      have hf := runOk_all a0_0 a0_1 a0_2 l1 l2 a3 110001 (by omega)
      rw [Bool.eq_false_iff.2 hg] at hf
      refine (impl_Run.no 110001 a0_0 a0_1 a0_2 A1 c1 l1 A2 c2 l2 a3 w hr1 hc1 hr2 hc2 hf).mono ?_
      rintro e w' ⟨rfl, hb⟩
      exact ⟨_, rfl, by rw [← h]; exact Kd.R_nil _ _ _ _ _, hb⟩
  · rw [if_neg hz] at h
    exact absurd h (by simp)
end Go.Proofs.Ytndffnacbfdnoaa.PAll
