/- The law FnExactStood: for every input the call returns true and each argument reads behind the call as it read before. No conditions beyond the row's own. -/
import Derived.Test.YtngfphiagpodaaaRows
import Derived.Test.YtngfphiagpodaaaPFnExactStoodx1
import Derived.Test.YtngfphiagpodaaaPureFnExactStood
import Derived.Test.YtngfphiagpodaaaOpen
import Derived.WalkKit
import Derived.ProofKit
import Derived.OpenShut
import Derived.ShutString
import Derived.ChangeOld
import Derived.Below
import Derived.SizedLaws
namespace Go.Proofs.Ytngfphiagpodaaa.fnExactStood
open Go.ChangeShapes Go.WideShapes Go.ChangeAt Go.RowKit Go.Proofs.YtngfphiagpodaaaW.PrintWords
set_option linter.unusedVariables false
theorem own : ownKnob Try.prog.godebug = none := by kernel_rfl
theorem laidOut : laidOutB Try.prog = true := by kernel_rfl
set_option maxRecDepth 100000 in
theorem lifted (os : Os) (started : os.Started) (H : Type) (enc : TypeId × Value → H) :
    ReturnsInHanded {} Try.checked os 11 .any (Rows.fnExactStoodSpec.pre6 enc Try.prog Try.f11 Rows.fnExactStoodRow.domain false) (Rows.fnExactStoodSpec.post enc Try.prog Try.f11 false true false false) := by
  refine returnsInHanded_of_change_sized (C := Try.checked) own started (by kernel_rfl) Try.func11
    (ChangeSpec.witness6 (enc := enc) (C := Try.checked) false ⟨#[], #[.slice none 0 0, .int .i64 0], []⟩ 8 (by kernel_rfl) (by kernel_rfl) (by kernel_rfl) (by kernel_rfl)) ?_
  intro W base args ds gs before hval0 hW hcnd hsz0 _
  have hsz : (DataW.weightsEach Try.prog (Try.f11.params.toList ++ Rows.fnExactStoodSpec.plain.varTypes Try.prog) (ds ++ gs)).all (· ≤ reachBytes) = true := hsz0
  have hval : ∀ (j : Nat) t v, Try.f11.params[j]? = some t → args[j]? = some v → Value.okWide Try.prog W .any base t v := hval0
  have hW' := hW
  obtain ⟨p, q, hA0, hV, rfl, hfz, hnd⟩ := hW
  have hA : DataW.TrodAll enc Try.prog W 0 (fun _ => true) true Try.f11.params.toList args.toList ds p := hA0
  rw [Try.params11] at hA hval hsz
  obtain ⟨v0, vs0, d0, ds0, p0, q0, hargs, rfl, rfl, h0, r0⟩ := trodAll_cons hA
  obtain ⟨v1, vs1, d1, ds1, p1, q1, rfl, rfl, rfl, h1, r1⟩ := trodAll_cons r0
  obtain ⟨rfl, rfl, rfl⟩ := trodAll_nil r1
  obtain rfl : args = #[v0, v1] := by cases args; simp_all
  obtain ⟨rfl, rfl⟩ := trodVars_none hV
  obtain ⟨A0, len0, cap0, rfl⟩ := okWide_slice Try.underlying56 (hval 0 56 v0 rfl rfl)
  have k0 := h0
  have lt0 : ∀ x ∈ p0, x.block < W.heap.size := by obtain ⟨m, hm⟩ := k0; exact DataW.trod_lt m _ _ _ hm
  obtain ⟨l0, el0, rd0, rc0, rm0, rw0⟩ : ∃ l : List PFnExactStood.S74, len0 = l.length ∧ Kd.C PFnExactStood.k74 W A0 l.length l ∧ l.length ≤ cap0 ∧ l.length ≤ 9223372036854775807 ∧ ∀ x ∈ l, (Lit.int .i64 x.f0).wf = true ∧ (Lit.int .i64 x.f1).wf = true := by
    obtain ⟨fuel, hf⟩ := h0
    obtain ⟨rows, g1, g2, g3, g4, g5⟩ := Open.rows_i64 (m := 2) Try.underlying56 Try.underlying74 (by kernel_rfl) (by kernel_rfl) rfl (by intro j f hj; rcases j with _ | _ | _ | _ | _ | _ | j <;> simp at hj <;> subst hj <;> first | exact Try.underlying2 | exact Try.underlying3) hf
    exact Open.C_two PFnExactStood.k74 (fun x y => (⟨x, y⟩ : PFnExactStood.S74)) (fun x : PFnExactStood.S74 => x.f0) (fun x : PFnExactStood.S74 => x.f1) rfl (fun w x y => PFnExactStood.k74_mk w ⟨x, y⟩) (fun _ _ => ⟨rfl, rfl⟩) g1 g2 g3 g4 g5
  subst el0
  obtain ⟨a1, rfl, rfl, rfl, w1⟩ := open_int Try.underlying3 (hval 1 3 v1 rfl rfl) h1
  clear hA0 hval0 hsz0 hsz
  obtain ⟨k, hk⟩ := Pure.FnExactStood l0 a1 rm0 rw0 w1
  refine (PFnExactStood.laws_FnExactStood.calls k _ _ l0 a1 true W rd0 rc0 hk).mono fun e W' ⟨he, bel⟩ => ?_
  subst he
  exact ⟨_, rfl, _, _, _, [], _, [], hW', trodAll_mk1 (shut_bool Try.underlying4 _), (trodAll_cons_mk (Below.trod laidOut (by kernel_rfl) (of_decide_eq_true (by kernel_rfl)) k0 bel lt0) (trodAll_cons_mk (shut_int Try.underlying3 w1) trodAll_mk0)), rfl, bel.frame _, fun h => by cases h⟩
theorem over : Rows.fnExactStoodRow.holds Try.pinned (OpenSpec.ofChange Rows.fnExactStoodSpec) :=
  OpenClaim.holds_of_wide 11 Try.f11 rfl rfl rfl rfl rfl rfl rfl ⟨rfl, rfl, rfl, rfl, rfl⟩ rfl rfl rfl rfl rfl (by kernel_rfl) Try.func11 (by kernel_rfl)
    (of_decide_eq_true (by kernel_rfl)) (by unfold Func.isWrapper; first | (rw [if_pos (by decide +kernel)]; kernel_rfl) | (rw [if_neg (by decide +kernel)]; exact ⟨rfl, rfl⟩))
    (fun os started H enc _ => lifted os started H enc)
theorem proved : Rows.FnExactStoodSaid := over
#print axioms proved
end Go.Proofs.Ytngfphiagpodaaa.fnExactStood
namespace Go.Proofs.Ytngfphiagpodaaa
/-- The row, under a short name, for the claim. -/
theorem fnExactStood_holds : Rows.FnExactStoodSaid := fnExactStood.proved
end Go.Proofs.Ytngfphiagpodaaa
