/- The law FnExactPacketOk: for every input the call returns true and each argument reads behind the call as it read before. No conditions beyond the row's own. -/
import Derived.Test.YtngfphiagpodaaaRows
import Derived.Test.YtngfphiagpodaaaPFnExactPacketOkx1
import Derived.Test.YtngfphiagpodaaaPureFnExactPacketOk
import Derived.Test.YtngfphiagpodaaaOpen
import Derived.WalkKit
import Derived.ProofKit
import Derived.OpenShut
import Derived.ShutString
import Derived.ChangeOld
import Derived.Below
import Derived.SizedLaws
namespace Go.Proofs.Ytngfphiagpodaaa.fnExactPacketOk
open Go.ChangeShapes Go.WideShapes Go.ChangeAt Go.RowKit Go.Proofs.YtngfphiagpodaaaW.PrintWords
set_option linter.unusedVariables false
theorem own : ownKnob Try.prog.godebug = none := by kernel_rfl
theorem laidOut : laidOutB Try.prog = true := by kernel_rfl
set_option maxRecDepth 100000 in
theorem lifted (os : Os) (started : os.Started) (H : Type) (enc : TypeId × Value → H) :
    ReturnsInHanded {} Try.checked os 7 .any (Rows.fnExactPacketOkSpec.pre6 enc Try.prog Try.f7 Rows.fnExactPacketOkRow.domain false) (Rows.fnExactPacketOkSpec.post enc Try.prog Try.f7 false true false false) := by
  refine returnsInHanded_of_change_sized (C := Try.checked) own started (by kernel_rfl) Try.func7
    (ChangeSpec.witness6 (enc := enc) (C := Try.checked) false ⟨#[], #[.agg #[.int .i64 0, .int .i64 0, .int .i64 0, .int .i64 0]], []⟩ 8 (by kernel_rfl) (by kernel_rfl) (by kernel_rfl) (by kernel_rfl)) ?_
  intro W base args ds gs before hval0 hW hcnd hsz0 _
  have hsz : (DataW.weightsEach Try.prog (Try.f7.params.toList ++ Rows.fnExactPacketOkSpec.plain.varTypes Try.prog) (ds ++ gs)).all (· ≤ reachBytes) = true := hsz0
  have hval : ∀ (j : Nat) t v, Try.f7.params[j]? = some t → args[j]? = some v → Value.okWide Try.prog W .any base t v := hval0
  have hW' := hW
  obtain ⟨p, q, hA0, hV, rfl, hfz, hnd⟩ := hW
  have hA : DataW.TrodAll enc Try.prog W 0 (fun _ => true) true Try.f7.params.toList args.toList ds p := hA0
  rw [Try.params7] at hA hval hsz
  obtain ⟨v0, vs0, d0, ds0, p0, q0, hargs, rfl, rfl, h0, r0⟩ := trodAll_cons hA
  obtain ⟨rfl, rfl, rfl⟩ := trodAll_nil r0
  obtain rfl : args = #[v0] := by cases args; simp_all
  obtain ⟨rfl, rfl⟩ := trodVars_none hV
  have k0 := h0
  have lt0 : ∀ x ∈ p0, x.block < W.heap.size := by obtain ⟨m, hm⟩ := k0; exact DataW.trod_lt m _ _ _ hm
  obtain ⟨xs0, xl0, xe0, xw0⟩ := Open.agg_i64 (m := 4) Try.underlying42 (by kernel_rfl) (by kernel_rfl) rfl (by intro j f hj; rcases j with _ | _ | _ | _ | _ | _ | j <;> simp at hj <;> subst hj <;> first | exact Try.underlying2 | exact Try.underlying3) (hval 0 42 v0 rfl rfl) h0
  obtain ⟨a0_0, a0_1, a0_2, a0_3, rfl⟩ : ∃ a0_0 a0_1 a0_2 a0_3, xs0 = [a0_0, a0_1, a0_2, a0_3] := by
    match xs0, xl0 with
    | [a0_0, a0_1, a0_2, a0_3], _ => exact ⟨_, _, _, _, rfl⟩
  simp only [List.map_cons, List.map_nil] at xe0
  subst xe0
  have w0_0 := xw0 a0_0 (by simp)
  have w0_1 := xw0 a0_1 (by simp)
  have w0_2 := xw0 a0_2 (by simp)
  have w0_3 := xw0 a0_3 (by simp)
  clear hA0 hval0 hsz0 hsz
  have hk := Pure.FnExactPacketOk a0_0 a0_1 a0_2 a0_3 w0_0 w0_1 w0_2 w0_3
  refine (PFnExactPacketOk.laws_FnExactPacketOk.calls a0_0 a0_1 a0_2 a0_3 true W hk).mono fun e W' ⟨he, bel⟩ => ?_
  subst he
  exact ⟨_, rfl, _, _, _, [], _, [], hW', trodAll_mk1 (shut_bool Try.underlying4 _), (trodAll_cons_mk (Below.trod laidOut (by kernel_rfl) (of_decide_eq_true (by kernel_rfl)) k0 bel lt0) trodAll_mk0), rfl, bel.frame _, fun h => by cases h⟩
theorem over : Rows.fnExactPacketOkRow.holds Try.pinned (OpenSpec.ofChange Rows.fnExactPacketOkSpec) :=
  OpenClaim.holds_of_wide 7 Try.f7 rfl rfl rfl rfl rfl rfl rfl ⟨rfl, rfl, rfl, rfl, rfl⟩ rfl rfl rfl rfl rfl (by kernel_rfl) Try.func7 (by kernel_rfl)
    (of_decide_eq_true (by kernel_rfl)) (by unfold Func.isWrapper; first | (rw [if_pos (by decide +kernel)]; kernel_rfl) | (rw [if_neg (by decide +kernel)]; exact ⟨rfl, rfl⟩))
    (fun os started H enc _ => lifted os started H enc)
theorem proved : Rows.FnExactPacketOkSaid := over
#print axioms proved
end Go.Proofs.Ytngfphiagpodaaa.fnExactPacketOk
namespace Go.Proofs.Ytngfphiagpodaaa
/-- The row, under a short name, for the claim. -/
theorem fnExactPacketOk_holds : Rows.FnExactPacketOkSaid := fnExactPacketOk.proved
end Go.Proofs.Ytngfphiagpodaaa
