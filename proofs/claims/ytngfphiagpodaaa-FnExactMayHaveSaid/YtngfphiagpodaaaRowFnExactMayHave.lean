/- The law FnExactMayHave: for every input the call returns true and each argument reads behind the call as it read before. No conditions beyond the row's own. -/
import Derived.Test.YtngfphiagpodaaaRows
import Derived.Test.YtngfphiagpodaaaPFnExactMayHavex2
import Derived.Test.YtngfphiagpodaaaPureFnExactMayHave
import Derived.Test.YtngfphiagpodaaaOpen
import Derived.WalkKit
import Derived.ProofKit
import Derived.OpenShut
import Derived.ShutString
import Derived.ChangeOld
import Derived.Below
import Derived.SizedLaws
namespace Go.Proofs.Ytngfphiagpodaaa.fnExactMayHave
open Go.ChangeShapes Go.WideShapes Go.ChangeAt Go.RowKit Go.Proofs.YtngfphiagpodaaaW.PrintWords
set_option linter.unusedVariables false
theorem own : ownKnob Try.prog.godebug = none := by kernel_rfl
theorem laidOut : laidOutB Try.prog = true := by kernel_rfl
set_option maxRecDepth 100000 in
theorem lifted (os : Os) (started : os.Started) (H : Type) (enc : TypeId × Value → H) :
    ReturnsInHanded {} Try.checked os 12 .any (Rows.fnExactMayHaveSpec.pre6 enc Try.prog Try.f12 Rows.fnExactMayHaveRow.domain false) (Rows.fnExactMayHaveSpec.post enc Try.prog Try.f12 false true false false) := by
  refine returnsInHanded_of_change_sized (C := Try.checked) own started (by kernel_rfl) Try.func12
    (ChangeSpec.witness6 (enc := enc) (C := Try.checked) false ⟨#[], #[.agg #[.int .i64 0, .int .i64 0, .int .i64 0], .agg #[.int .i64 0, .int .i64 0, .int .i64 0, .int .i64 0, .int .i64 0]], []⟩ 8 (by kernel_rfl) (by kernel_rfl) (by kernel_rfl) (by kernel_rfl)) ?_
  intro W base args ds gs before hval0 hW hcnd hsz0 _
  have hsz : (DataW.weightsEach Try.prog (Try.f12.params.toList ++ Rows.fnExactMayHaveSpec.plain.varTypes Try.prog) (ds ++ gs)).all (· ≤ reachBytes) = true := hsz0
  have hval : ∀ (j : Nat) t v, Try.f12.params[j]? = some t → args[j]? = some v → Value.okWide Try.prog W .any base t v := hval0
  have hW' := hW
  obtain ⟨p, q, hA0, hV, rfl, hfz, hnd⟩ := hW
  have hA : DataW.TrodAll enc Try.prog W 0 (fun _ => true) true Try.f12.params.toList args.toList ds p := hA0
  rw [Try.params12] at hA hval hsz
  obtain ⟨v0, vs0, d0, ds0, p0, q0, hargs, rfl, rfl, h0, r0⟩ := trodAll_cons hA
  obtain ⟨v1, vs1, d1, ds1, p1, q1, rfl, rfl, rfl, h1, r1⟩ := trodAll_cons r0
  obtain ⟨rfl, rfl, rfl⟩ := trodAll_nil r1
  obtain rfl : args = #[v0, v1] := by cases args; simp_all
  obtain ⟨rfl, rfl⟩ := trodVars_none hV
  have k0 := h0
  have lt0 : ∀ x ∈ p0, x.block < W.heap.size := by obtain ⟨m, hm⟩ := k0; exact DataW.trod_lt m _ _ _ hm
  obtain ⟨xs0, xl0, xe0, xw0⟩ := Open.agg_i64 (m := 3) Try.underlying24 (by kernel_rfl) (by kernel_rfl) rfl (by intro j f hj; rcases j with _ | _ | _ | _ | _ | _ | j <;> simp at hj <;> subst hj <;> first | exact Try.underlying2 | exact Try.underlying3) (hval 0 24 v0 rfl rfl) h0
  obtain ⟨a0_0, a0_1, a0_2, rfl⟩ : ∃ a0_0 a0_1 a0_2, xs0 = [a0_0, a0_1, a0_2] := by
    match xs0, xl0 with
    | [a0_0, a0_1, a0_2], _ => exact ⟨_, _, _, rfl⟩
  simp only [List.map_cons, List.map_nil] at xe0
  subst xe0
  have w0_0 := xw0 a0_0 (by simp)
  have w0_1 := xw0 a0_1 (by simp)
  have w0_2 := xw0 a0_2 (by simp)
  have k1 := h1
  have lt1 : ∀ x ∈ p1, x.block < W.heap.size := by obtain ⟨m, hm⟩ := k1; exact DataW.trod_lt m _ _ _ hm
  obtain ⟨xs1, xl1, xe1, xw1⟩ := Open.agg_i64 (m := 5) Try.underlying36 (by kernel_rfl) (by kernel_rfl) rfl (by intro j f hj; rcases j with _ | _ | _ | _ | _ | _ | j <;> simp at hj <;> subst hj <;> first | exact Try.underlying2 | exact Try.underlying3) (hval 1 36 v1 rfl rfl) h1
  obtain ⟨a1_0, a1_1, a1_2, a1_3, a1_4, rfl⟩ : ∃ a1_0 a1_1 a1_2 a1_3 a1_4, xs1 = [a1_0, a1_1, a1_2, a1_3, a1_4] := by
    match xs1, xl1 with
    | [a1_0, a1_1, a1_2, a1_3, a1_4], _ => exact ⟨_, _, _, _, _, rfl⟩
  simp only [List.map_cons, List.map_nil] at xe1
  subst xe1
  have w1_0 := xw1 a1_0 (by simp)
  have w1_1 := xw1 a1_1 (by simp)
  have w1_2 := xw1 a1_2 (by simp)
  have w1_3 := xw1 a1_3 (by simp)
  have w1_4 := xw1 a1_4 (by simp)
  clear hA0 hval0 hsz0 hsz
  have hk := Pure.FnExactMayHave a0_0 a0_1 a0_2 a1_0 a1_1 a1_2 a1_3 a1_4 w0_0 w0_1 w0_2 w1_0 w1_1 w1_2 w1_3 w1_4
  refine (PFnExactMayHave.laws_FnExactMayHave.calls a0_0 a0_1 a0_2 a1_0 a1_1 a1_2 a1_3 a1_4 true W hk).mono fun e W' ⟨he, bel⟩ => ?_
  subst he
  exact ⟨_, rfl, _, _, _, [], _, [], hW', trodAll_mk1 (shut_bool Try.underlying4 _), (trodAll_cons_mk (Below.trod laidOut (by kernel_rfl) (of_decide_eq_true (by kernel_rfl)) k0 bel lt0) (trodAll_cons_mk (Below.trod laidOut (by kernel_rfl) (of_decide_eq_true (by kernel_rfl)) k1 bel lt1) trodAll_mk0)), rfl, bel.frame _, fun h => by cases h⟩
theorem over : Rows.fnExactMayHaveRow.holds Try.pinned (OpenSpec.ofChange Rows.fnExactMayHaveSpec) :=
  OpenClaim.holds_of_wide 12 Try.f12 rfl rfl rfl rfl rfl rfl rfl ⟨rfl, rfl, rfl, rfl, rfl⟩ rfl rfl rfl rfl rfl (by kernel_rfl) Try.func12 (by kernel_rfl)
    (of_decide_eq_true (by kernel_rfl)) (by unfold Func.isWrapper; first | (rw [if_pos (by decide +kernel)]; kernel_rfl) | (rw [if_neg (by decide +kernel)]; exact ⟨rfl, rfl⟩))
    (fun os started H enc _ => lifted os started H enc)
theorem proved : Rows.FnExactMayHaveSaid := over
#print axioms proved
end Go.Proofs.Ytngfphiagpodaaa.fnExactMayHave
namespace Go.Proofs.Ytngfphiagpodaaa
/-- The row, under a short name, for the claim. -/
theorem fnExactMayHave_holds : Rows.FnExactMayHaveSaid := fnExactMayHave.proved
end Go.Proofs.Ytngfphiagpodaaa
