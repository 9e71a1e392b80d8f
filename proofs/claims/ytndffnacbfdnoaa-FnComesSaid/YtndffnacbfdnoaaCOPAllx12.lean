-- Lines of PAllx12 that this claim uses.
import Derived.Test.YtndffnacbfdnoaaCOSqd
import Derived.Test.YtndffnacbfdnoaaCOSq
import Derived.Test.YtndffnacbfdnoaaCOPAllx0
import Derived.Test.YtndffnacbfdnoaaCOPAllx5
import Derived.Test.YtndffnacbfdnoaaCOPAllx7
namespace Go.Proofs.Ytndffnacbfdnoaa.PAll
open Go.RowKit Go.Proofs.YtndffnacbfdnoaaW.PrintWords Go.Proofs.YtndffnacbfdnoaaW.PrintLast Go.Proofs.YtndffnacbfdnoaaW.PrintMore
attribute [local go_sem] max2_int min2_int max_two min_two max_three min_three max_four min_four   -- for this text's walks alone
set_option linter.unusedVariables false
set_option linter.unusedSimpArgs false
def impl_TrainOk.f (a0 : Int) (a1_0 : Int) (a1_1 : Int) (a1_2 : Int) : Option (Bool) := (impl_in.f a0 0 1000000000).bind fun t336 => (if t336 = true then ((impl_in.f a1_0 0 1000000000).bind fun t337 => (if t337 = true then ((impl_in.f a1_2 0 a0).bind fun t338 => (some t338)) else (some false))) else (some false))
set_option maxHeartbeats 8000000 in
set_option maxRecDepth 100000 in
theorem impl_TrainOk.calls (a0 : Int) (a1_0 : Int) (a1_1 : Int) (a1_2 : Int) (r : Bool) (w : World) (h : impl_TrainOk.f a0 a1_0 a1_1 a1_2 = some r) :
  Calls Try.prog 66 #[.int .i64 a0, .agg #[.int .i64 a1_0, .int .i64 a1_1, .int .i64 a1_2]] w fun e w' => e = .returned (.bool r) ∧ Below w.heap.size w w' := by
 have hu48 := Try.underlying48
 have HB := Aside0.mk (Below.refl w.heap.size w)
 have H : ((impl_in.f a0 0 1000000000).bind fun t336 => (if t336 = true then ((impl_in.f a1_0 0 1000000000).bind fun t337 => (if t337 = true then ((impl_in.f a1_2 0 a0).bind fun t338 => (some t338)) else (some false))) else (some false))) = some r := h
 clear h
 replace H := Option.bind_eq_some_iff.mp H
 obtain ⟨t336, A30, H⟩ := H
 replace H : (if t336 = true then ((impl_in.f a1_0 0 1000000000).bind fun t337 => (if t337 = true then ((impl_in.f a1_2 0 a0).bind fun t338 => (some t338)) else (some false))) else (some false)) = some r := H
 have A3 := Aside0.mk A30
 clear A30
 by_cases c4 : t336 = true
 ·subst c4
  have H1 : ((impl_in.f a1_0 0 1000000000).bind fun t337 => (if t337 = true then ((impl_in.f a1_2 0 a0).bind fun t338 => (some t338)) else (some false))) = some r := by rw [if_pos rfl] at H; exact H
  clear H; have H := H1; clear H1
  replace H := Option.bind_eq_some_iff.mp H
  obtain ⟨t337, A50, H⟩ := H
  replace H : (if t337 = true then ((impl_in.f a1_2 0 a0).bind fun t338 => (some t338)) else (some false)) = some r := H
  have A5 := Aside0.mk A50
  clear A50
  by_cases c6 : t337 = true
  ·subst c6
   have H1 : ((impl_in.f a1_2 0 a0).bind fun t338 => (some t338)) = some r := by rw [if_pos rfl] at H; exact H
   clear H; have H := H1; clear H1
   replace H := Option.bind_eq_some_iff.mp H
   obtain ⟨t338, A70, H⟩ := H
   replace H : (some t338) = some r := H
   have A7 := Aside0.mk A70
   clear A70
   obtain rfl := Option.some.inj H
   go_enter Try.func66, Try.ntmps66
   go_wp2_with (first | ((with_reducible refine gate_dst (N := 3) rfl ?_); refine boxA #[.int .i64 a1_0, .int .i64 a1_1, .int .i64 a1_2] 48 ?_; intro gb335 hg w8 hbox hb; have BK335 := Aside0.mk (hbox); have GW335 := nge HB hg; have GE335 := nge HB hg; replace HB := bst HB hb; clear hb hbox hg) | ((with_reducible refine gate_callee (f := 95) rfl ?_); refine goesLA (some 6) rfl Try.func95 #[.int .i64 a0, .int .i64 0, .int .i64 1000000000] ?_; (with_reducible refine (impl_in.calls a0 0 1000000000 true _ A3.out).mono ?_); rintro e w' ⟨rfl, ⟨nd, rfl⟩⟩; refine ⟨_, rfl, ?_⟩; have hcz9_0 := b0 BK335; have hcz9_1 := b1 BK335; have hcz9_2 := b2 BK335; have hfz9_0 := blk_frozen BK335.out 0; have hfz9_1 := blk_frozen BK335.out 1; have hfz9_2 := blk_frozen BK335.out 2) | (go_at_call 95; (with_reducible refine (impl_in.calls a1_0 0 1000000000 true _ A5.out).mono ?_); rintro e w' ⟨rfl, ⟨nd, rfl⟩⟩) | (go_at_call 95; (with_reducible refine (impl_in.calls a1_2 0 a0 t338 _ A7.out).mono ?_); rintro e w' ⟨rfl, ⟨nd, rfl⟩⟩))
   go_ret
   exact ⟨by first | rfl | (simp [errW_none, errW_some] <;> rfl) | (simp [*, errW_none, errW_some] <;> rfl), (qs HB)⟩
  replace c6 := Bool.eq_false_iff.mpr c6
  subst c6
  have H1 : (some false) = some r := by rw [if_neg (show ¬ (false = true) by decide)] at H; exact H
  clear H; have H := H1; clear H1
  obtain rfl := Option.some.inj H
  go_enter Try.func66, Try.ntmps66
  go_wp2_with (first | ((with_reducible refine gate_dst (N := 3) rfl ?_); refine boxA #[.int .i64 a1_0, .int .i64 a1_1, .int .i64 a1_2] 48 ?_; intro gb335 hg w10 hbox hb; have BK335 := Aside0.mk (hbox); have GW335 := nge HB hg; have GE335 := nge HB hg; replace HB := bst HB hb; clear hb hbox hg) | ((with_reducible refine gate_callee (f := 95) rfl ?_); refine goesLA (some 6) rfl Try.func95 #[.int .i64 a0, .int .i64 0, .int .i64 1000000000] ?_; (with_reducible refine (impl_in.calls a0 0 1000000000 true _ A3.out).mono ?_); rintro e w' ⟨rfl, ⟨nd, rfl⟩⟩; refine ⟨_, rfl, ?_⟩; have hcz11_0 := b0 BK335; have hcz11_1 := b1 BK335; have hcz11_2 := b2 BK335; have hfz11_0 := blk_frozen BK335.out 0; have hfz11_1 := blk_frozen BK335.out 1; have hfz11_2 := blk_frozen BK335.out 2) | (go_at_call 95; (with_reducible refine (impl_in.calls a1_0 0 1000000000 false _ A5.out).mono ?_); rintro e w' ⟨rfl, ⟨nd, rfl⟩⟩))
  go_ret
  exact ⟨by first | rfl | (simp [errW_none, errW_some] <;> rfl) | (simp [*, errW_none, errW_some] <;> rfl), (qs HB)⟩
 replace c4 := Bool.eq_false_iff.mpr c4
 subst c4
 have H1 : (some false) = some r := by rw [if_neg (show ¬ (false = true) by decide)] at H; exact H
 clear H; have H := H1; clear H1
 obtain rfl := Option.some.inj H
 go_enter Try.func66, Try.ntmps66
 go_wp2_with (first | ((with_reducible refine gate_dst (N := 3) rfl ?_); refine boxA #[.int .i64 a1_0, .int .i64 a1_1, .int .i64 a1_2] 48 ?_; intro gb335 hg w12 hbox hb; have BK335 := Aside0.mk (hbox); have GW335 := nge HB hg; have GE335 := nge HB hg; replace HB := bst HB hb; clear hb hbox hg) | ((with_reducible refine gate_callee (f := 95) rfl ?_); refine goesLA (some 6) rfl Try.func95 #[.int .i64 a0, .int .i64 0, .int .i64 1000000000] ?_; (with_reducible refine (impl_in.calls a0 0 1000000000 false _ A3.out).mono ?_); rintro e w' ⟨rfl, ⟨nd, rfl⟩⟩; refine ⟨_, rfl, ?_⟩))
 go_ret
 exact ⟨by first | rfl | (simp [errW_none, errW_some] <;> rfl) | (simp [*, errW_none, errW_some] <;> rfl), (qs HB)⟩
end Go.Proofs.Ytndffnacbfdnoaa.PAll
