/- The law FnExactBoxTick: for every input the call returns true and each argument reads behind the call as it read before. No conditions beyond the row's own. -/
import Derived.Test.YtndffnacbfdnoaaRows
import Derived.Test.YtndffnacbfdnoaaBTPAllx11
import Derived.Test.YtndffnacbfdnoaaBTPureFnExactBoxTick
import Derived.Test.YtndffnacbfdnoaaBTOpen
import Derived.WalkKit
import Derived.ProofKit
import Derived.OpenShut
import Derived.ShutString
import Derived.ChangeOld
import Derived.Below
import Derived.SizedLaws
import Derived.Test.YtndffnacbfdnoaaBTWSized
namespace Go.Proofs.Ytndffnacbfdnoaa.fnExactBoxTick
open Go.ChangeShapes Go.WideShapes Go.ChangeAt Go.RowKit Go.Proofs.YtndffnacbfdnoaaW.PrintWords
set_option linter.unusedVariables false
theorem own : ownKnob Try.prog.godebug = none := by kernel_rfl
theorem laidOut : laidOutB Try.prog = true := by kernel_rfl
set_option maxRecDepth 100000 in
theorem lifted (os : Os) (started : os.Started) (H : Type) (enc : TypeId × Value → H) :
    ReturnsInHanded {} Try.checked os 3 .any (Rows.fnExactBoxTickSpec.pre6 enc Try.prog Try.f3 Rows.fnExactBoxTickRow.domain false) (Rows.fnExactBoxTickSpec.post enc Try.prog Try.f3 false true false false) := by
  refine returnsInHanded_of_change_sized (C := Try.checked) own started (by kernel_rfl) Try.func3
    (ChangeSpec.witness6 (enc := enc) (C := Try.checked) false ⟨#[], #[.agg #[.int .i64 0, .int .i64 0, .int .i64 0], .int .i64 0, .agg #[.int .i64 0, .int .i64 0, .int .i64 0, .int .i64 0, .int .i64 0], .slice none 0 0, .slice none 0 0], []⟩ 8 (by kernel_rfl) (by kernel_rfl) (by kernel_rfl) (by kernel_rfl)) ?_
  intro W base args ds gs before hval0 hW hcnd hsz0 _
  have hsz : (DataW.weightsEach Try.prog (Try.f3.params.toList ++ Rows.fnExactBoxTickSpec.plain.varTypes Try.prog) (ds ++ gs)).all (· ≤ reachBytes) = true := hsz0
  have hval : ∀ (j : Nat) t v, Try.f3.params[j]? = some t → args[j]? = some v → Value.okWide Try.prog W .any base t v := hval0
  have hW' := hW
  obtain ⟨p, q, hA0, hV, rfl, hfz, hnd⟩ := hW
  have hA : DataW.TrodAll enc Try.prog W 0 (fun _ => true) true Try.f3.params.toList args.toList ds p := hA0
  rw [Try.params3] at hA hval hsz
  obtain ⟨v0, vs0, d0, ds0, p0, q0, hargs, rfl, rfl, h0, r0⟩ := trodAll_cons hA
  obtain ⟨v1, vs1, d1, ds1, p1, q1, rfl, rfl, rfl, h1, r1⟩ := trodAll_cons r0
  obtain ⟨v2, vs2, d2, ds2, p2, q2, rfl, rfl, rfl, h2, r2⟩ := trodAll_cons r1
  obtain ⟨v3, vs3, d3, ds3, p3, q3, rfl, rfl, rfl, h3, r3⟩ := trodAll_cons r2
  obtain ⟨v4, vs4, d4, ds4, p4, q4, rfl, rfl, rfl, h4, r4⟩ := trodAll_cons r3
  obtain ⟨rfl, rfl, rfl⟩ := trodAll_nil r4
  obtain rfl : args = #[v0, v1, v2, v3, v4] := by cases args; simp_all
  obtain ⟨rfl, rfl⟩ := trodVars_none hV
  have k0 := h0
  have lt0 : ∀ x ∈ p0, x.block < W.heap.size := by obtain ⟨m, hm⟩ := k0; exact DataW.trod_lt m _ _ _ hm
  obtain ⟨xs0, xl0, xe0, xw0⟩ := Open.agg_i64 (m := 3) Try.underlying23 (by kernel_rfl) (by kernel_rfl) rfl (by intro j f hj; rcases j with _ | _ | _ | _ | _ | _ | j <;> simp at hj <;> subst hj <;> first | exact Try.underlying2 | exact Try.underlying3) (hval 0 23 v0 rfl rfl) h0
  obtain ⟨a0_0, a0_1, a0_2, rfl⟩ : ∃ a0_0 a0_1 a0_2, xs0 = [a0_0, a0_1, a0_2] := by
    match xs0, xl0 with
    | [a0_0, a0_1, a0_2], _ => exact ⟨_, _, _, rfl⟩
  simp only [List.map_cons, List.map_nil] at xe0
  subst xe0
  have w0_0 := xw0 a0_0 (by simp)
  have w0_1 := xw0 a0_1 (by simp)
  have w0_2 := xw0 a0_2 (by simp)
  obtain ⟨a1, rfl, rfl, rfl, w1⟩ := open_int Try.underlying3 (hval 1 3 v1 rfl rfl) h1
  have k2 := h2
  have lt2 : ∀ x ∈ p2, x.block < W.heap.size := by obtain ⟨m, hm⟩ := k2; exact DataW.trod_lt m _ _ _ hm
  obtain ⟨xs2, xl2, xe2, xw2⟩ := Open.agg_i64 (m := 5) Try.underlying25 (by kernel_rfl) (by kernel_rfl) rfl (by intro j f hj; rcases j with _ | _ | _ | _ | _ | _ | j <;> simp at hj <;> subst hj <;> first | exact Try.underlying2 | exact Try.underlying3) (hval 2 25 v2 rfl rfl) h2
  obtain ⟨a2_0, a2_1, a2_2, a2_3, a2_4, rfl⟩ : ∃ a2_0 a2_1 a2_2 a2_3 a2_4, xs2 = [a2_0, a2_1, a2_2, a2_3, a2_4] := by
    match xs2, xl2 with
    | [a2_0, a2_1, a2_2, a2_3, a2_4], _ => exact ⟨_, _, _, _, _, rfl⟩
  simp only [List.map_cons, List.map_nil] at xe2
  subst xe2
  have w2_0 := xw2 a2_0 (by simp)
  have w2_1 := xw2 a2_1 (by simp)
  have w2_2 := xw2 a2_2 (by simp)
  have w2_3 := xw2 a2_3 (by simp)
  have w2_4 := xw2 a2_4 (by simp)
  obtain ⟨A3, len3, cap3, rfl⟩ := okWide_slice Try.underlying26 (hval 3 26 v3 rfl rfl)
  have k3 := h3
  have lt3 : ∀ x ∈ p3, x.block < W.heap.size := by obtain ⟨m, hm⟩ := k3; exact DataW.trod_lt m _ _ _ hm
  obtain ⟨l3, el3, rd3, rm3, rw3, rc3⟩ : ∃ l : List Int, len3 = l.length ∧ ReadsInt W .i64 A3 l.length l ∧ l.length ≤ maxLen ∧ (∀ x ∈ l, (Lit.int .i64 x).wf = true) ∧ l.length ≤ cap3 := by
    obtain ⟨fuel, hf⟩ := h3
    have hr := open_ints Try.underlying26 Try.underlying2 (by kernel_rfl) hf
    obtain ⟨z, hz⟩ : ∃ zs, (A3 = none ∧ len3 = 0 ∧ cap3 = 0 ∧ zs = []) ∨ ∃ x, A3 = some x ∧ len3 ≤ cap3 ∧ cap3 ≤ maxLen ∧ zs.length = cap3 ∧ (∀ i, i < zs.length → W.cell? (x.add i) = some (.int .i64 (zs.getD i 0))) ∧ ∀ n ∈ zs, (Lit.int .i64 n).wf = true := by
      rcases hr with ⟨hcs, _⟩ | ⟨x, l, c, zs, hcs, _, hl, hm, hz, _, hcell, hwz⟩
      · simp [Value.cells] at hcs
        obtain ⟨rfl, rfl, rfl⟩ := hcs
        exact ⟨[], .inl ⟨rfl, rfl, rfl, rfl⟩⟩
      · simp [Value.cells] at hcs
        obtain ⟨rfl, rfl, rfl⟩ := hcs
        exact ⟨zs, .inr ⟨_, rfl, hl, hm, by simpa using hz, hcell, hwz⟩⟩
    exact ReadsInt.ofRowC hz
  have y3 : len3 * 8 ≤ 140737488351232 := Go.Proofs.YtndffnacbfdnoaaW.PrintWords.sized_ints hsz (j := 3) (t := 26) rfl rfl Try.underlying26 Try.underlying2 (by kernel_rfl) (by kernel_rfl) h3
  subst el3
  obtain ⟨A4, len4, cap4, rfl⟩ := okWide_slice Try.underlying27 (hval 4 27 v4 rfl rfl)
  have k4 := h4
  have lt4 : ∀ x ∈ p4, x.block < W.heap.size := by obtain ⟨m, hm⟩ := k4; exact DataW.trod_lt m _ _ _ hm
  obtain ⟨l4, el4, rd4, rc4, rm4, rw4⟩ : ∃ l : List PAll.S99, len4 = l.length ∧ Kd.C PAll.k99 W A4 l.length l ∧ l.length ≤ cap4 ∧ l.length ≤ 9223372036854775807 ∧ ∀ x ∈ l, (Lit.int .i64 x.f0).wf = true ∧ (Lit.int .i64 x.f1).wf = true ∧ (Lit.int .i64 x.f2).wf = true ∧ (Lit.int .i64 x.f3).wf = true := by
    obtain ⟨fuel, hf⟩ := h4
    obtain ⟨rows, g1, g2, g3, g4, g5⟩ := Open.rows_i64 (m := 4) Try.underlying27 Try.underlying99 (by kernel_rfl) (by kernel_rfl) rfl (by intro j f hj; rcases j with _ | _ | _ | _ | _ | _ | j <;> simp at hj <;> subst hj <;> first | exact Try.underlying2 | exact Try.underlying3) hf
    exact Open.C_four PAll.k99 (fun x y z v => (⟨x, y, z, v⟩ : PAll.S99)) (fun x : PAll.S99 => x.f0) (fun x : PAll.S99 => x.f1) (fun x : PAll.S99 => x.f2) (fun x : PAll.S99 => x.f3) rfl (fun w x y z v => PAll.k99_mk w ⟨x, y, z, v⟩) (fun _ _ _ _ => ⟨rfl, rfl, rfl, rfl⟩) g1 g2 g3 g4 g5
  subst el4
  clear hA0 hval0 hsz0 hsz
  obtain ⟨k, hk⟩ := Pure.FnExactBoxTick a0_0 a0_1 a0_2 a1 a2_0 a2_1 a2_2 a2_3 a2_4 l3 l4 w0_0 w0_1 w0_2 w1 w2_0 w2_1 w2_2 w2_3 w2_4 rm3 y3 rw3 rm4 rw4
  refine (PAll.laws_FnExactBoxTick.calls k a0_0 a0_1 a0_2 a1 a2_0 a2_1 a2_2 a2_3 a2_4 _ _ l3 _ _ l4 W (Kd.C_of_reads (d := (0 : Int)) (h1 := fun _ => rfl) rd3) rc3 rd4 rc4 hk).mono fun e W' ⟨he, bel⟩ => ?_
  subst he
  exact ⟨_, rfl, _, _, _, [], _, [], hW', trodAll_mk1 (shut_bool Try.underlying4 _), (trodAll_cons_mk (Below.trod laidOut (by kernel_rfl) (of_decide_eq_true (by kernel_rfl)) k0 bel lt0) (trodAll_cons_mk (shut_int Try.underlying3 w1) (trodAll_cons_mk (Below.trod laidOut (by kernel_rfl) (of_decide_eq_true (by kernel_rfl)) k2 bel lt2) (trodAll_cons_mk (Below.trod laidOut (by kernel_rfl) (of_decide_eq_true (by kernel_rfl)) k3 bel lt3) (trodAll_cons_mk (Below.trod laidOut (by kernel_rfl) (of_decide_eq_true (by kernel_rfl)) k4 bel lt4) trodAll_mk0))))), rfl, bel.frame _, fun h => by cases h⟩
theorem over : Rows.fnExactBoxTickRow.holds Try.pinned (OpenSpec.ofChange Rows.fnExactBoxTickSpec) :=
  OpenClaim.holds_of_wide 3 Try.f3 rfl rfl rfl rfl rfl rfl rfl ⟨rfl, rfl, rfl, rfl, rfl⟩ rfl rfl rfl rfl rfl (by kernel_rfl) Try.func3 (by kernel_rfl)
    (of_decide_eq_true (by kernel_rfl)) (by unfold Func.isWrapper; first | (rw [if_pos (by decide +kernel)]; kernel_rfl) | (rw [if_neg (by decide +kernel)]; exact ⟨rfl, rfl⟩))
    (fun os started H enc _ => lifted os started H enc)
theorem proved : Rows.FnExactBoxTickSaid := over
#print axioms proved
end Go.Proofs.Ytndffnacbfdnoaa.fnExactBoxTick
namespace Go.Proofs.Ytndffnacbfdnoaa
theorem fnExactBoxTick_holds : Rows.FnExactBoxTickSaid := fnExactBoxTick.proved
end Go.Proofs.Ytndffnacbfdnoaa
