-- Lines of PAllx5 that this claim uses.
import Derived.Test.YtndffnacbfdnoaaRUSqd
import Derived.Test.YtndffnacbfdnoaaRUSq
import Derived.Test.YtndffnacbfdnoaaRUPAllx0
namespace Go.Proofs.Ytndffnacbfdnoaa.PAll
open Go.RowKit Go.Proofs.YtndffnacbfdnoaaW.PrintWords Go.Proofs.YtndffnacbfdnoaaW.PrintLast Go.Proofs.YtndffnacbfdnoaaW.PrintMore
attribute [local go_sem] max2_int min2_int max_two min_two max_three min_three max_four min_four
set_option linter.unusedVariables false
set_option linter.unusedSimpArgs false
def spec_l1in.f (a0 : Int) (a1 : Int) (a2 : Int) : Option (Bool) := if a0 ≥ a1 then (some (decide (a0 ≤ a2))) else (some false)
set_option maxHeartbeats 8000000 in
set_option maxRecDepth 100000 in
theorem spec_l1in.calls (a0 : Int) (a1 : Int) (a2 : Int) (r : Bool) (w : World) (h : spec_l1in.f a0 a1 a2 = some r) :
  Calls Try.prog 77 #[.int .i64 a0, .int .i64 a1, .int .i64 a2] w fun e w' => e = .returned (.bool r) ∧ Drawn0 w w' := by
 have H : (if a0 ≥ a1 then (some (decide (a0 ≤ a2))) else (some false)) = some r := h
 clear h
 by_cases c4 : a0 ≥ a1
 ·rw [if_pos c4] at H
  have c4b0 : decide (a1 ≤ a0) = true := decide_eq_true c4
  clear c4
  obtain rfl := Option.some.inj H
  go_enter Try.func77, Try.ntmps77
  go_wp2
  go_ret
  exact ⟨by first | rfl | (simp; done) | (simp [*]; done), by repeat (first | exact Drawn0.refl _ | apply Drawn0.step)⟩
 rw [if_neg c4] at H
 have c4b0 : decide (a1 ≤ a0) = false := decide_eq_false c4
 clear c4
 obtain rfl := Option.some.inj H
 go_enter Try.func77, Try.ntmps77
 go_wp2
 go_ret
 exact ⟨by first | rfl | (simp; done) | (simp [*]; done), by repeat (first | exact Drawn0.refl _ | apply Drawn0.step)⟩
def spec_RulesOk.f (a0_0 : Int) (a0_1 : Int) (a0_2 : Int) : Option (Bool) := (spec_l1in.f a0_0 1 1000).bind fun t102 => (if t102 = true then ((spec_l1in.f a0_1 1 10000).bind fun t103 => (if t103 = true then ((spec_l1in.f a0_2 0 a0_1).bind fun t104 => (some t104)) else (some false))) else (some false))
set_option maxHeartbeats 8000000 in
set_option maxRecDepth 100000 in
theorem spec_RulesOk.calls (a0_0 : Int) (a0_1 : Int) (a0_2 : Int) (r : Bool) (w : World) (h : spec_RulesOk.f a0_0 a0_1 a0_2 = some r) :
  Calls Try.prog 54 #[.agg #[.int .i64 a0_0, .int .i64 a0_1, .int .i64 a0_2]] w fun e w' => e = .returned (.bool r) ∧ Below w.heap.size w w' := by
 have hu34 := Try.underlying34
 have HB := Aside0.mk (Below.refl w.heap.size w)
 have H : ((spec_l1in.f a0_0 1 1000).bind fun t102 => (if t102 = true then ((spec_l1in.f a0_1 1 10000).bind fun t103 => (if t103 = true then ((spec_l1in.f a0_2 0 a0_1).bind fun t104 => (some t104)) else (some false))) else (some false))) = some r := h
 clear h
 replace H := Option.bind_eq_some_iff.mp H
 obtain ⟨t102, A20, H⟩ := H
 replace H : (if t102 = true then ((spec_l1in.f a0_1 1 10000).bind fun t103 => (if t103 = true then ((spec_l1in.f a0_2 0 a0_1).bind fun t104 => (some t104)) else (some false))) else (some false)) = some r := H
 have A2 := Aside0.mk A20
 clear A20
 by_cases c3 : t102 = true
 ·subst c3
  have H1 : ((spec_l1in.f a0_1 1 10000).bind fun t103 => (if t103 = true then ((spec_l1in.f a0_2 0 a0_1).bind fun t104 => (some t104)) else (some false))) = some r := by rw [if_pos rfl] at H; exact H
  clear H; have H := H1; clear H1
  replace H := Option.bind_eq_some_iff.mp H
  obtain ⟨t103, A40, H⟩ := H
  replace H : (if t103 = true then ((spec_l1in.f a0_2 0 a0_1).bind fun t104 => (some t104)) else (some false)) = some r := H
  have A4 := Aside0.mk A40
  clear A40
  by_cases c5 : t103 = true
  ·subst c5
   have H1 : ((spec_l1in.f a0_2 0 a0_1).bind fun t104 => (some t104)) = some r := by rw [if_pos rfl] at H; exact H
   clear H; have H := H1; clear H1
   replace H := Option.bind_eq_some_iff.mp H
   obtain ⟨t104, A60, H⟩ := H
   replace H : (some t104) = some r := H
   have A6 := Aside0.mk A60
   clear A60
   obtain rfl := Option.some.inj H
   go_enter Try.func54, Try.ntmps54
   go_wp2_with (first | ((with_reducible refine gate_dst (N := 1) rfl ?_); refine boxA #[.int .i64 a0_0, .int .i64 a0_1, .int .i64 a0_2] 34 ?_; intro gb101 hg w7 hbox hb; have BK101 := Aside0.mk (hbox); have GW101 := nge HB hg; have GE101 := nge HB hg; replace HB := bst HB hb; clear hb hbox hg; have hcz8_0 := b0 BK101; have hcz8_1 := b1 BK101; have hcz8_2 := b2 BK101; have hfz8_0 := blk_frozen BK101.out 0; have hfz8_1 := blk_frozen BK101.out 1; have hfz8_2 := blk_frozen BK101.out 2) | ((with_reducible refine gate_callee (f := 77) rfl ?_); refine goesLA (some 5) rfl Try.func77 #[.int .i64 a0_0, .int .i64 1, .int .i64 1000] ?_; (with_reducible refine (spec_l1in.calls a0_0 1 1000 true _ A2.out).mono ?_); rintro e w' ⟨rfl, ⟨nd, rfl⟩⟩; refine ⟨_, rfl, ?_⟩) | (go_at_call 77; (with_reducible refine (spec_l1in.calls a0_1 1 10000 true _ A4.out).mono ?_); rintro e w' ⟨rfl, ⟨nd, rfl⟩⟩) | (go_at_call 77; (with_reducible refine (spec_l1in.calls a0_2 0 a0_1 t104 _ A6.out).mono ?_); rintro e w' ⟨rfl, ⟨nd, rfl⟩⟩))
   go_ret
   exact ⟨by first | rfl | (simp [*, errW_none, errW_some] <;> rfl), (qs HB)⟩
  replace c5 := Bool.eq_false_iff.mpr c5
  subst c5
  have H1 : (some false) = some r := by rw [if_neg (show ¬ (false = true) by decide)] at H; exact H
  clear H; have H := H1; clear H1
  obtain rfl := Option.some.inj H
  go_enter Try.func54, Try.ntmps54
  go_wp2_with (first | ((with_reducible refine gate_dst (N := 1) rfl ?_); refine boxA #[.int .i64 a0_0, .int .i64 a0_1, .int .i64 a0_2] 34 ?_; intro gb101 hg w9 hbox hb; have BK101 := Aside0.mk (hbox); have GW101 := nge HB hg; have GE101 := nge HB hg; replace HB := bst HB hb; clear hb hbox hg; have hcz10_0 := b0 BK101; have hcz10_1 := b1 BK101; have hcz10_2 := b2 BK101; have hfz10_0 := blk_frozen BK101.out 0; have hfz10_1 := blk_frozen BK101.out 1; have hfz10_2 := blk_frozen BK101.out 2) | ((with_reducible refine gate_callee (f := 77) rfl ?_); refine goesLA (some 5) rfl Try.func77 #[.int .i64 a0_0, .int .i64 1, .int .i64 1000] ?_; (with_reducible refine (spec_l1in.calls a0_0 1 1000 true _ A2.out).mono ?_); rintro e w' ⟨rfl, ⟨nd, rfl⟩⟩; refine ⟨_, rfl, ?_⟩) | (go_at_call 77; (with_reducible refine (spec_l1in.calls a0_1 1 10000 false _ A4.out).mono ?_); rintro e w' ⟨rfl, ⟨nd, rfl⟩⟩))
  go_ret
  exact ⟨by first | rfl | (simp [*, errW_none, errW_some] <;> rfl), (qs HB)⟩
 replace c3 := Bool.eq_false_iff.mpr c3
 subst c3
 have H1 : (some false) = some r := by rw [if_neg (show ¬ (false = true) by decide)] at H; exact H
 clear H; have H := H1; clear H1
 obtain rfl := Option.some.inj H
 go_enter Try.func54, Try.ntmps54
 go_wp2_with (first | ((with_reducible refine gate_dst (N := 1) rfl ?_); refine boxA #[.int .i64 a0_0, .int .i64 a0_1, .int .i64 a0_2] 34 ?_; intro gb101 hg w11 hbox hb; have BK101 := Aside0.mk (hbox); have GW101 := nge HB hg; have GE101 := nge HB hg; replace HB := bst HB hb; clear hb hbox hg; have hcz12_0 := b0 BK101; have hcz12_1 := b1 BK101; have hcz12_2 := b2 BK101; have hfz12_0 := blk_frozen BK101.out 0; have hfz12_1 := blk_frozen BK101.out 1; have hfz12_2 := blk_frozen BK101.out 2) | ((with_reducible refine gate_callee (f := 77) rfl ?_); refine goesLA (some 5) rfl Try.func77 #[.int .i64 a0_0, .int .i64 1, .int .i64 1000] ?_; (with_reducible refine (spec_l1in.calls a0_0 1 1000 false _ A2.out).mono ?_); rintro e w' ⟨rfl, ⟨nd, rfl⟩⟩; refine ⟨_, rfl, ?_⟩))
 go_ret
 exact ⟨by first | rfl | (simp [*, errW_none, errW_some] <;> rfl), (qs HB)⟩
def spec_BoxOk.f (a0 : Int) (a1_0 : Int) (a1_1 : Int) (a1_2 : Int) (a1_3 : Int) (a1_4 : Int) : Option (Bool) := (spec_l1in.f a0 0 1000000000).bind fun t106 => (if t106 = true then ((spec_l1in.f a1_0 0 1000000000).bind fun t107 => (if t107 = true then ((spec_l1in.f a1_2 0 a1_0).bind fun t108 => (if t108 = true then ((spec_l1in.f a1_3 0 a0).bind fun t109 => (if t109 = true then ((spec_l1in.f a1_4 0 a0).bind fun t110 => (some t110)) else (some false))) else (some false))) else (some false))) else (some false))
set_option maxHeartbeats 8000000 in
set_option maxRecDepth 100000 in
theorem spec_BoxOk.calls (a0 : Int) (a1_0 : Int) (a1_1 : Int) (a1_2 : Int) (a1_3 : Int) (a1_4 : Int) (r : Bool) (w : World) (h : spec_BoxOk.f a0 a1_0 a1_1 a1_2 a1_3 a1_4 = some r) :
  Calls Try.prog 55 #[.int .i64 a0, .agg #[.int .i64 a1_0, .int .i64 a1_1, .int .i64 a1_2, .int .i64 a1_3, .int .i64 a1_4]] w fun e w' => e = .returned (.bool r) ∧ Below w.heap.size w w' := by
 have hu29 := Try.underlying29
 have HB := Aside0.mk (Below.refl w.heap.size w)
 have H : ((spec_l1in.f a0 0 1000000000).bind fun t106 => (if t106 = true then ((spec_l1in.f a1_0 0 1000000000).bind fun t107 => (if t107 = true then ((spec_l1in.f a1_2 0 a1_0).bind fun t108 => (if t108 = true then ((spec_l1in.f a1_3 0 a0).bind fun t109 => (if t109 = true then ((spec_l1in.f a1_4 0 a0).bind fun t110 => (some t110)) else (some false))) else (some false))) else (some false))) else (some false))) = some r := h
 clear h
 replace H := Option.bind_eq_some_iff.mp H
 obtain ⟨t106, A30, H⟩ := H
 replace H : (if t106 = true then ((spec_l1in.f a1_0 0 1000000000).bind fun t107 => (if t107 = true then ((spec_l1in.f a1_2 0 a1_0).bind fun t108 => (if t108 = true then ((spec_l1in.f a1_3 0 a0).bind fun t109 => (if t109 = true then ((spec_l1in.f a1_4 0 a0).bind fun t110 => (some t110)) else (some false))) else (some false))) else (some false))) else (some false)) = some r := H
 have A3 := Aside0.mk A30
 clear A30
 by_cases c4 : t106 = true
 ·subst c4
  have H1 : ((spec_l1in.f a1_0 0 1000000000).bind fun t107 => (if t107 = true then ((spec_l1in.f a1_2 0 a1_0).bind fun t108 => (if t108 = true then ((spec_l1in.f a1_3 0 a0).bind fun t109 => (if t109 = true then ((spec_l1in.f a1_4 0 a0).bind fun t110 => (some t110)) else (some false))) else (some false))) else (some false))) = some r := by rw [if_pos rfl] at H; exact H
  clear H; have H := H1; clear H1
  replace H := Option.bind_eq_some_iff.mp H
  obtain ⟨t107, A50, H⟩ := H
  replace H : (if t107 = true then ((spec_l1in.f a1_2 0 a1_0).bind fun t108 => (if t108 = true then ((spec_l1in.f a1_3 0 a0).bind fun t109 => (if t109 = true then ((spec_l1in.f a1_4 0 a0).bind fun t110 => (some t110)) else (some false))) else (some false))) else (some false)) = some r := H
  have A5 := Aside0.mk A50
  clear A50
  by_cases c6 : t107 = true
  ·subst c6
   have H1 : ((spec_l1in.f a1_2 0 a1_0).bind fun t108 => (if t108 = true then ((spec_l1in.f a1_3 0 a0).bind fun t109 => (if t109 = true then ((spec_l1in.f a1_4 0 a0).bind fun t110 => (some t110)) else (some false))) else (some false))) = some r := by rw [if_pos rfl] at H; exact H
   clear H; have H := H1; clear H1
   replace H := Option.bind_eq_some_iff.mp H
   obtain ⟨t108, A70, H⟩ := H
   replace H : (if t108 = true then ((spec_l1in.f a1_3 0 a0).bind fun t109 => (if t109 = true then ((spec_l1in.f a1_4 0 a0).bind fun t110 => (some t110)) else (some false))) else (some false)) = some r := H
   have A7 := Aside0.mk A70
   clear A70
   by_cases c8 : t108 = true
   ·subst c8
    have H1 : ((spec_l1in.f a1_3 0 a0).bind fun t109 => (if t109 = true then ((spec_l1in.f a1_4 0 a0).bind fun t110 => (some t110)) else (some false))) = some r := by rw [if_pos rfl] at H; exact H
    clear H; have H := H1; clear H1
    replace H := Option.bind_eq_some_iff.mp H
    obtain ⟨t109, A90, H⟩ := H
    replace H : (if t109 = true then ((spec_l1in.f a1_4 0 a0).bind fun t110 => (some t110)) else (some false)) = some r := H
    have A9 := Aside0.mk A90
    clear A90
    by_cases c10 : t109 = true
    ·subst c10
     have H1 : ((spec_l1in.f a1_4 0 a0).bind fun t110 => (some t110)) = some r := by rw [if_pos rfl] at H; exact H
     clear H; have H := H1; clear H1
     replace H := Option.bind_eq_some_iff.mp H
     obtain ⟨t110, A110, H⟩ := H
     replace H : (some t110) = some r := H
     have A11 := Aside0.mk A110
     clear A110
     obtain rfl := Option.some.inj H
     go_enter Try.func55, Try.ntmps55
     go_wp2_with (first | ((with_reducible refine gate_dst (N := 3) rfl ?_); refine boxA #[.int .i64 a1_0, .int .i64 a1_1, .int .i64 a1_2, .int .i64 a1_3, .int .i64 a1_4] 29 ?_; intro gb105 hg w12 hbox hb; have BK105 := Aside0.mk (hbox); have GW105 := nge HB hg; have GE105 := nge HB hg; replace HB := bst HB hb; clear hb hbox hg) | ((with_reducible refine gate_callee (f := 77) rfl ?_); refine goesLA (some 6) rfl Try.func77 #[.int .i64 a0, .int .i64 0, .int .i64 1000000000] ?_; (with_reducible refine (spec_l1in.calls a0 0 1000000000 true _ A3.out).mono ?_); rintro e w' ⟨rfl, ⟨nd, rfl⟩⟩; refine ⟨_, rfl, ?_⟩; have hcz13_0 := b0 BK105; have hcz13_1 := b1 BK105; have hcz13_2 := b2 BK105; have hcz13_3 := b3 BK105; have hcz13_4 := b4 BK105; have hfz13_0 := blk_frozen BK105.out 0; have hfz13_1 := blk_frozen BK105.out 1; have hfz13_2 := blk_frozen BK105.out 2; have hfz13_3 := blk_frozen BK105.out 3; have hfz13_4 := blk_frozen BK105.out 4) | (go_at_call 77; (with_reducible refine (spec_l1in.calls a1_0 0 1000000000 true _ A5.out).mono ?_); rintro e w' ⟨rfl, ⟨nd, rfl⟩⟩) | (go_at_call 77; (with_reducible refine (spec_l1in.calls a1_2 0 a1_0 true _ A7.out).mono ?_); rintro e w' ⟨rfl, ⟨nd, rfl⟩⟩) | (go_at_call 77; (with_reducible refine (spec_l1in.calls a1_3 0 a0 true _ A9.out).mono ?_); rintro e w' ⟨rfl, ⟨nd, rfl⟩⟩) | (go_at_call 77; (with_reducible refine (spec_l1in.calls a1_4 0 a0 t110 _ A11.out).mono ?_); rintro e w' ⟨rfl, ⟨nd, rfl⟩⟩))
     go_ret
     exact ⟨by first | rfl | (simp [*, errW_none, errW_some] <;> rfl), (qs HB)⟩
    replace c10 := Bool.eq_false_iff.mpr c10
    subst c10
    have H1 : (some false) = some r := by rw [if_neg (show ¬ (false = true) by decide)] at H; exact H
    clear H; have H := H1; clear H1
    obtain rfl := Option.some.inj H
    go_enter Try.func55, Try.ntmps55
    go_wp2_with (first | ((with_reducible refine gate_dst (N := 3) rfl ?_); refine boxA #[.int .i64 a1_0, .int .i64 a1_1, .int .i64 a1_2, .int .i64 a1_3, .int .i64 a1_4] 29 ?_; intro gb105 hg w14 hbox hb; have BK105 := Aside0.mk (hbox); have GW105 := nge HB hg; have GE105 := nge HB hg; replace HB := bst HB hb; clear hb hbox hg) | ((with_reducible refine gate_callee (f := 77) rfl ?_); refine goesLA (some 6) rfl Try.func77 #[.int .i64 a0, .int .i64 0, .int .i64 1000000000] ?_; (with_reducible refine (spec_l1in.calls a0 0 1000000000 true _ A3.out).mono ?_); rintro e w' ⟨rfl, ⟨nd, rfl⟩⟩; refine ⟨_, rfl, ?_⟩; have hcz15_0 := b0 BK105; have hcz15_1 := b1 BK105; have hcz15_2 := b2 BK105; have hcz15_3 := b3 BK105; have hcz15_4 := b4 BK105; have hfz15_0 := blk_frozen BK105.out 0; have hfz15_1 := blk_frozen BK105.out 1; have hfz15_2 := blk_frozen BK105.out 2; have hfz15_3 := blk_frozen BK105.out 3; have hfz15_4 := blk_frozen BK105.out 4) | (go_at_call 77; (with_reducible refine (spec_l1in.calls a1_0 0 1000000000 true _ A5.out).mono ?_); rintro e w' ⟨rfl, ⟨nd, rfl⟩⟩) | (go_at_call 77; (with_reducible refine (spec_l1in.calls a1_2 0 a1_0 true _ A7.out).mono ?_); rintro e w' ⟨rfl, ⟨nd, rfl⟩⟩) | (go_at_call 77; (with_reducible refine (spec_l1in.calls a1_3 0 a0 false _ A9.out).mono ?_); rintro e w' ⟨rfl, ⟨nd, rfl⟩⟩))
    go_ret
    exact ⟨by first | rfl | (simp [*, errW_none, errW_some] <;> rfl), (qs HB)⟩
   replace c8 := Bool.eq_false_iff.mpr c8
   subst c8
   have H1 : (some false) = some r := by rw [if_neg (show ¬ (false = true) by decide)] at H; exact H
   clear H; have H := H1; clear H1
   obtain rfl := Option.some.inj H
   go_enter Try.func55, Try.ntmps55
   go_wp2_with (first | ((with_reducible refine gate_dst (N := 3) rfl ?_); refine boxA #[.int .i64 a1_0, .int .i64 a1_1, .int .i64 a1_2, .int .i64 a1_3, .int .i64 a1_4] 29 ?_; intro gb105 hg w16 hbox hb; have BK105 := Aside0.mk (hbox); have GW105 := nge HB hg; have GE105 := nge HB hg; replace HB := bst HB hb; clear hb hbox hg) | ((with_reducible refine gate_callee (f := 77) rfl ?_); refine goesLA (some 6) rfl Try.func77 #[.int .i64 a0, .int .i64 0, .int .i64 1000000000] ?_; (with_reducible refine (spec_l1in.calls a0 0 1000000000 true _ A3.out).mono ?_); rintro e w' ⟨rfl, ⟨nd, rfl⟩⟩; refine ⟨_, rfl, ?_⟩; have hcz17_0 := b0 BK105; have hcz17_1 := b1 BK105; have hcz17_2 := b2 BK105; have hcz17_3 := b3 BK105; have hcz17_4 := b4 BK105; have hfz17_0 := blk_frozen BK105.out 0; have hfz17_1 := blk_frozen BK105.out 1; have hfz17_2 := blk_frozen BK105.out 2; have hfz17_3 := blk_frozen BK105.out 3; have hfz17_4 := blk_frozen BK105.out 4) | (go_at_call 77; (with_reducible refine (spec_l1in.calls a1_0 0 1000000000 true _ A5.out).mono ?_); rintro e w' ⟨rfl, ⟨nd, rfl⟩⟩) | (go_at_call 77; (with_reducible refine (spec_l1in.calls a1_2 0 a1_0 false _ A7.out).mono ?_); rintro e w' ⟨rfl, ⟨nd, rfl⟩⟩))
   go_ret
   exact ⟨by first | rfl | (simp [*, errW_none, errW_some] <;> rfl), (qs HB)⟩
  replace c6 := Bool.eq_false_iff.mpr c6
  subst c6
  have H1 : (some false) = some r := by rw [if_neg (show ¬ (false = true) by decide)] at H; exact H
  clear H; have H := H1; clear H1
  obtain rfl := Option.some.inj H
  go_enter Try.func55, Try.ntmps55
  go_wp2_with (first | ((with_reducible refine gate_dst (N := 3) rfl ?_); refine boxA #[.int .i64 a1_0, .int .i64 a1_1, .int .i64 a1_2, .int .i64 a1_3, .int .i64 a1_4] 29 ?_; intro gb105 hg w18 hbox hb; have BK105 := Aside0.mk (hbox); have GW105 := nge HB hg; have GE105 := nge HB hg; replace HB := bst HB hb; clear hb hbox hg) | ((with_reducible refine gate_callee (f := 77) rfl ?_); refine goesLA (some 6) rfl Try.func77 #[.int .i64 a0, .int .i64 0, .int .i64 1000000000] ?_; (with_reducible refine (spec_l1in.calls a0 0 1000000000 true _ A3.out).mono ?_); rintro e w' ⟨rfl, ⟨nd, rfl⟩⟩; refine ⟨_, rfl, ?_⟩; have hcz19_0 := b0 BK105; have hcz19_1 := b1 BK105; have hcz19_2 := b2 BK105; have hcz19_3 := b3 BK105; have hcz19_4 := b4 BK105; have hfz19_0 := blk_frozen BK105.out 0; have hfz19_1 := blk_frozen BK105.out 1; have hfz19_2 := blk_frozen BK105.out 2; have hfz19_3 := blk_frozen BK105.out 3; have hfz19_4 := blk_frozen BK105.out 4) | (go_at_call 77; (with_reducible refine (spec_l1in.calls a1_0 0 1000000000 false _ A5.out).mono ?_); rintro e w' ⟨rfl, ⟨nd, rfl⟩⟩))
  go_ret
  exact ⟨by first | rfl | (simp [*, errW_none, errW_some] <;> rfl), (qs HB)⟩
 replace c4 := Bool.eq_false_iff.mpr c4
 subst c4
 have H1 : (some false) = some r := by rw [if_neg (show ¬ (false = true) by decide)] at H; exact H
 clear H; have H := H1; clear H1
 obtain rfl := Option.some.inj H
 go_enter Try.func55, Try.ntmps55
 go_wp2_with (first | ((with_reducible refine gate_dst (N := 3) rfl ?_); refine boxA #[.int .i64 a1_0, .int .i64 a1_1, .int .i64 a1_2, .int .i64 a1_3, .int .i64 a1_4] 29 ?_; intro gb105 hg w20 hbox hb; have BK105 := Aside0.mk (hbox); have GW105 := nge HB hg; have GE105 := nge HB hg; replace HB := bst HB hb; clear hb hbox hg) | ((with_reducible refine gate_callee (f := 77) rfl ?_); refine goesLA (some 6) rfl Try.func77 #[.int .i64 a0, .int .i64 0, .int .i64 1000000000] ?_; (with_reducible refine (spec_l1in.calls a0 0 1000000000 false _ A3.out).mono ?_); rintro e w' ⟨rfl, ⟨nd, rfl⟩⟩; refine ⟨_, rfl, ?_⟩))
 go_ret
 exact ⟨by first | rfl | (simp [*, errW_none, errW_some] <;> rfl), (qs HB)⟩
def spec_PacketOk.f (a0_0 : Int) (a0_1 : Int) (a0_2 : Int) (a0_3 : Int) : Option (Bool) := (spec_l1in.f a0_1 0 1000000000).bind fun t112 => (if t112 = true then ((spec_l1in.f a0_3 0 1000000000).bind fun t113 => (if t113 = true then (if a0_0 = 1 then (some true) else (if a0_0 = 2 then (some (a0_2 == 0)) else (some false))) else (some false))) else (some false))
set_option maxHeartbeats 8000000 in
set_option maxRecDepth 100000 in
theorem spec_PacketOk.calls (a0_0 : Int) (a0_1 : Int) (a0_2 : Int) (a0_3 : Int) (r : Bool) (w : World) (h : spec_PacketOk.f a0_0 a0_1 a0_2 a0_3 = some r) :
  Calls Try.prog 94 #[.agg #[.int .i64 a0_0, .int .i64 a0_1, .int .i64 a0_2, .int .i64 a0_3]] w fun e w' => e = .returned (.bool r) ∧ Below w.heap.size w w' := by
 have hu60 := Try.underlying60
 have HB := Aside0.mk (Below.refl w.heap.size w)
 have H : ((spec_l1in.f a0_1 0 1000000000).bind fun t112 => (if t112 = true then ((spec_l1in.f a0_3 0 1000000000).bind fun t113 => (if t113 = true then (if a0_0 = 1 then (some true) else (if a0_0 = 2 then (some (a0_2 == 0)) else (some false))) else (some false))) else (some false))) = some r := h
 clear h
 replace H := Option.bind_eq_some_iff.mp H
 obtain ⟨t112, A20, H⟩ := H
 replace H : (if t112 = true then ((spec_l1in.f a0_3 0 1000000000).bind fun t113 => (if t113 = true then (if a0_0 = 1 then (some true) else (if a0_0 = 2 then (some (a0_2 == 0)) else (some false))) else (some false))) else (some false)) = some r := H
 have A2 := Aside0.mk A20
 clear A20
 by_cases c3 : t112 = true
 ·subst c3
  have H1 : ((spec_l1in.f a0_3 0 1000000000).bind fun t113 => (if t113 = true then (if a0_0 = 1 then (some true) else (if a0_0 = 2 then (some (a0_2 == 0)) else (some false))) else (some false))) = some r := by rw [if_pos rfl] at H; exact H
  clear H; have H := H1; clear H1
  replace H := Option.bind_eq_some_iff.mp H
  obtain ⟨t113, A40, H⟩ := H
  replace H : (if t113 = true then (if a0_0 = 1 then (some true) else (if a0_0 = 2 then (some (a0_2 == 0)) else (some false))) else (some false)) = some r := H
  have A4 := Aside0.mk A40
  clear A40
  by_cases c5 : t113 = true
  ·subst c5
   have H1 : (if a0_0 = 1 then (some true) else (if a0_0 = 2 then (some (a0_2 == 0)) else (some false))) = some r := by rw [if_pos rfl] at H; exact H
   clear H; have H := H1; clear H1
   by_cases c6 : a0_0 = 1
   ·rw [if_pos c6] at H
    have c6b0 : (a0_0 == 1) = true := beq_iff_eq.mpr c6
    have c6b1 : (a0_0 != 1) = false := bne_eq_false_iff_eq.mpr c6
    clear c6
    obtain rfl := Option.some.inj H
    go_enter Try.func94, Try.ntmps94
    go_wp2_with (first | ((with_reducible refine gate_dst (N := 1) rfl ?_); refine boxA #[.int .i64 a0_0, .int .i64 a0_1, .int .i64 a0_2, .int .i64 a0_3] 60 ?_; intro gb111 hg w7 hbox hb; have BK111 := Aside0.mk (hbox); have GW111 := nge HB hg; have GE111 := nge HB hg; replace HB := bst HB hb; clear hb hbox hg; have hcz8_0 := b0 BK111; have hcz8_1 := b1 BK111; have hcz8_2 := b2 BK111; have hcz8_3 := b3 BK111; have hfz8_0 := blk_frozen BK111.out 0; have hfz8_1 := blk_frozen BK111.out 1; have hfz8_2 := blk_frozen BK111.out 2; have hfz8_3 := blk_frozen BK111.out 3) | ((with_reducible refine gate_callee (f := 77) rfl ?_); refine goesLA (some 5) rfl Try.func77 #[.int .i64 a0_1, .int .i64 0, .int .i64 1000000000] ?_; (with_reducible refine (spec_l1in.calls a0_1 0 1000000000 true _ A2.out).mono ?_); rintro e w' ⟨rfl, ⟨nd, rfl⟩⟩; refine ⟨_, rfl, ?_⟩) | (go_at_call 77; (with_reducible refine (spec_l1in.calls a0_3 0 1000000000 true _ A4.out).mono ?_); rintro e w' ⟨rfl, ⟨nd, rfl⟩⟩))
    go_ret
    exact ⟨by first | rfl | (simp [*, errW_none, errW_some] <;> rfl), (qs HB)⟩
   rw [if_neg c6] at H
   have c6b0 : (a0_0 == 1) = false := beq_eq_false_iff_ne.mpr c6
   have c6b1 : (a0_0 != 1) = true := bne_iff_ne.mpr c6
   by_cases c9 : a0_0 = 2
   ·rw [if_pos c9] at H
    have c9b0 : (a0_0 == 2) = true := beq_iff_eq.mpr c9
    have c9b1 : (a0_0 != 2) = false := bne_eq_false_iff_eq.mpr c9
    clear c9
    obtain rfl := Option.some.inj H
    go_enter Try.func94, Try.ntmps94
    go_wp2_with (first | ((with_reducible refine gate_dst (N := 1) rfl ?_); refine boxA #[.int .i64 a0_0, .int .i64 a0_1, .int .i64 a0_2, .int .i64 a0_3] 60 ?_; intro gb111 hg w10 hbox hb; have BK111 := Aside0.mk (hbox); have GW111 := nge HB hg; have GE111 := nge HB hg; replace HB := bst HB hb; clear hb hbox hg; have hcz11_0 := b0 BK111; have hcz11_1 := b1 BK111; have hcz11_2 := b2 BK111; have hcz11_3 := b3 BK111; have hfz11_0 := blk_frozen BK111.out 0; have hfz11_1 := blk_frozen BK111.out 1; have hfz11_2 := blk_frozen BK111.out 2; have hfz11_3 := blk_frozen BK111.out 3) | ((with_reducible refine gate_callee (f := 77) rfl ?_); refine goesLA (some 5) rfl Try.func77 #[.int .i64 a0_1, .int .i64 0, .int .i64 1000000000] ?_; (with_reducible refine (spec_l1in.calls a0_1 0 1000000000 true _ A2.out).mono ?_); rintro e w' ⟨rfl, ⟨nd, rfl⟩⟩; refine ⟨_, rfl, ?_⟩) | (go_at_call 77; (with_reducible refine (spec_l1in.calls a0_3 0 1000000000 true _ A4.out).mono ?_); rintro e w' ⟨rfl, ⟨nd, rfl⟩⟩))
    go_ret
    exact ⟨by first | rfl | (simp [*, errW_none, errW_some] <;> rfl), (qs HB)⟩
   rw [if_neg c9] at H
   have c9b0 : (a0_0 == 2) = false := beq_eq_false_iff_ne.mpr c9
   have c9b1 : (a0_0 != 2) = true := bne_iff_ne.mpr c9
   obtain rfl := Option.some.inj H
   go_enter Try.func94, Try.ntmps94
   go_wp2_with (first | ((with_reducible refine gate_dst (N := 1) rfl ?_); refine boxA #[.int .i64 a0_0, .int .i64 a0_1, .int .i64 a0_2, .int .i64 a0_3] 60 ?_; intro gb111 hg w12 hbox hb; have BK111 := Aside0.mk (hbox); have GW111 := nge HB hg; have GE111 := nge HB hg; replace HB := bst HB hb; clear hb hbox hg; have hcz13_0 := b0 BK111; have hcz13_1 := b1 BK111; have hcz13_2 := b2 BK111; have hcz13_3 := b3 BK111; have hfz13_0 := blk_frozen BK111.out 0; have hfz13_1 := blk_frozen BK111.out 1; have hfz13_2 := blk_frozen BK111.out 2; have hfz13_3 := blk_frozen BK111.out 3) | ((with_reducible refine gate_callee (f := 77) rfl ?_); refine goesLA (some 5) rfl Try.func77 #[.int .i64 a0_1, .int .i64 0, .int .i64 1000000000] ?_; (with_reducible refine (spec_l1in.calls a0_1 0 1000000000 true _ A2.out).mono ?_); rintro e w' ⟨rfl, ⟨nd, rfl⟩⟩; refine ⟨_, rfl, ?_⟩) | (go_at_call 77; (with_reducible refine (spec_l1in.calls a0_3 0 1000000000 true _ A4.out).mono ?_); rintro e w' ⟨rfl, ⟨nd, rfl⟩⟩))
   go_ret
   exact ⟨by first | rfl | (simp [*, errW_none, errW_some] <;> rfl), (qs HB)⟩
  replace c5 := Bool.eq_false_iff.mpr c5
  subst c5
  have H1 : (some false) = some r := by rw [if_neg (show ¬ (false = true) by decide)] at H; exact H
  clear H; have H := H1; clear H1
  obtain rfl := Option.some.inj H
  go_enter Try.func94, Try.ntmps94
  go_wp2_with (first | ((with_reducible refine gate_dst (N := 1) rfl ?_); refine boxA #[.int .i64 a0_0, .int .i64 a0_1, .int .i64 a0_2, .int .i64 a0_3] 60 ?_; intro gb111 hg w14 hbox hb; have BK111 := Aside0.mk (hbox); have GW111 := nge HB hg; have GE111 := nge HB hg; replace HB := bst HB hb; clear hb hbox hg; have hcz15_0 := b0 BK111; have hcz15_1 := b1 BK111; have hcz15_2 := b2 BK111; have hcz15_3 := b3 BK111; have hfz15_0 := blk_frozen BK111.out 0; have hfz15_1 := blk_frozen BK111.out 1; have hfz15_2 := blk_frozen BK111.out 2; have hfz15_3 := blk_frozen BK111.out 3) | ((with_reducible refine gate_callee (f := 77) rfl ?_); refine goesLA (some 5) rfl Try.func77 #[.int .i64 a0_1, .int .i64 0, .int .i64 1000000000] ?_; (with_reducible refine (spec_l1in.calls a0_1 0 1000000000 true _ A2.out).mono ?_); rintro e w' ⟨rfl, ⟨nd, rfl⟩⟩; refine ⟨_, rfl, ?_⟩) | (go_at_call 77; (with_reducible refine (spec_l1in.calls a0_3 0 1000000000 false _ A4.out).mono ?_); rintro e w' ⟨rfl, ⟨nd, rfl⟩⟩))
  go_ret
  exact ⟨by first | rfl | (simp [*, errW_none, errW_some] <;> rfl), (qs HB)⟩
 replace c3 := Bool.eq_false_iff.mpr c3
 subst c3
 have H1 : (some false) = some r := by rw [if_neg (show ¬ (false = true) by decide)] at H; exact H
 clear H; have H := H1; clear H1
 obtain rfl := Option.some.inj H
 go_enter Try.func94, Try.ntmps94
 go_wp2_with (first | ((with_reducible refine gate_dst (N := 1) rfl ?_); refine boxA #[.int .i64 a0_0, .int .i64 a0_1, .int .i64 a0_2, .int .i64 a0_3] 60 ?_; intro gb111 hg w16 hbox hb; have BK111 := Aside0.mk (hbox); have GW111 := nge HB hg; have GE111 := nge HB hg; replace HB := bst HB hb; clear hb hbox hg; have hcz17_0 := b0 BK111; have hcz17_1 := b1 BK111; have hcz17_2 := b2 BK111; have hcz17_3 := b3 BK111; have hfz17_0 := blk_frozen BK111.out 0; have hfz17_1 := blk_frozen BK111.out 1; have hfz17_2 := blk_frozen BK111.out 2; have hfz17_3 := blk_frozen BK111.out 3) | ((with_reducible refine gate_callee (f := 77) rfl ?_); refine goesLA (some 5) rfl Try.func77 #[.int .i64 a0_1, .int .i64 0, .int .i64 1000000000] ?_; (with_reducible refine (spec_l1in.calls a0_1 0 1000000000 false _ A2.out).mono ?_); rintro e w' ⟨rfl, ⟨nd, rfl⟩⟩; refine ⟨_, rfl, ?_⟩))
 go_ret
 exact ⟨by first | rfl | (simp [*, errW_none, errW_some] <;> rfl), (qs HB)⟩
def spec_l2packets.l0 : Nat → Int → List (S60) → List (S60) → Int → Int → Option (Bool)
 | 0, _, _, _, _, _ => none
 | k + 1, x0, x1, x7, x8, x9 => if x9 < x8 then (if 0 ≤ x9 then (if x9 < (x7.length : Int) then ((spec_PacketOk.f ((rd_T60 x7 x9).f0) ((rd_T60 x7 x9).f1) ((rd_T60 x7 x9).f2) ((rd_T60 x7 x9).f3)).bind fun t116 => (if t116 = true then (if ((rd_T60 x7 x9).f3) > x0 then (some false) else (spec_l2packets.l0 k x0 x1 x7 x8 (wrap64 (x9 + 1)))) else (some false))) else (none)) else (none)) else (some (decide ((x1.length : Int) ≤ 1000)))
def spec_l2packets.f (k : Nat) (a0 : Int) (l1 : List (S60)) : Option (Bool) := spec_l2packets.l0 k a0 l1 l1 (l1.length : Int) 0
set_option maxHeartbeats 8000000 in
set_option maxRecDepth 100000 in
theorem spec_l2packets.calls (k : Nat) (a0 : Int) (A1 : Option Addr) (c1 : Nat) (l1 : List (S60)) (r : Bool) (w : World) (hr1 : Kd.C k60 w A1 l1.length l1) (hc1 : l1.length ≤ c1) (h : spec_l2packets.f k a0 l1 = some r) :
  Calls Try.prog 56 #[.int .i64 a0, .slice A1 l1.length c1] w fun e w' => e = .returned (.bool r) ∧ Below w.heap.size w w' := by
 have hu60 := Try.underlying60
 have HR1 := Aside0.mk hr1
 have HC1 := Aside0.mk hc1
 clear hr1 hc1
 have HB := Aside0.mk (Below.refl w.heap.size w)
 have H : (spec_l2packets.l0 k a0 l1 l1 (l1.length : Int) 0) = some r := h
 clear h
 have H' := Aside0.mk H
 clear H
 go_enter Try.func56, Try.ntmps56
 go_wp2
 go_loopg [9] k (fun kq v9 w' => ∃ (x9_1 : Int), v9 = .int .i64 x9_1 ∧ Aside0 (spec_l2packets.l0 kq a0 l1 l1 (l1.length : Int) x9_1 = some r) ∧ Aside0 (kq ≤ k) ∧ Aside0 (Below w.heap.size w w'))
 case atStart => exact ⟨(0), (by first | rfl | (simp; done) | (simp [*]; done)), H', ⟨Nat.le_refl _⟩, ⟨(qs HB)⟩⟩
 case round =>
  clear H'
  try clear c1; try clear p2
  obtain ⟨x9_1, rfl, HA, HK1, HB⟩ := hrel
  cases gk with
  | zero => exact absurd HA.out (by simp [spec_l2packets.l0])
  | succ k1 =>
   have H := HA.out
   clear HA
   simp only [spec_l2packets.l0] at H
   by_cases c3 : x9_1 < (l1.length : Int)
   ·rw [if_pos c3] at H
    have c3b0 : decide (x9_1 < (l1.length : Int)) = true := decide_eq_true c3
    clear c3
    by_cases c4 : 0 ≤ x9_1
    ·rw [if_pos c4] at H
     have c4b0 : decide (0 ≤ x9_1) = true := decide_eq_true c4
     clear c4
     by_cases c5 : x9_1 < (l1.length : Int)
     ·rw [if_pos c5] at H
      have c5b0 : decide (x9_1 < (l1.length : Int)) = true := decide_eq_true c5
      clear c5
      replace H := Option.bind_eq_some_iff.mp H
      obtain ⟨t116, A60, H⟩ := H
      replace H : (if t116 = true then (if ((rd_T60 l1 x9_1).f3) > a0 then (some false) else (spec_l2packets.l0 k1 a0 l1 l1 (l1.length : Int) (wrap64 (x9_1 + 1)))) else (some false)) = some r := H
      have A6 := Aside0.mk A60
      clear A60
      by_cases c7 : t116 = true
      ·subst c7
       have H1 : (if ((rd_T60 l1 x9_1).f3) > a0 then (some false) else (spec_l2packets.l0 k1 a0 l1 l1 (l1.length : Int) (wrap64 (x9_1 + 1)))) = some r := by rw [if_pos rfl] at H; exact H
       clear H; have H := H1; clear H1
       by_cases c8 : ((rd_T60 l1 x9_1).f3) > a0
       ·rw [if_pos c8] at H
        have c8b0 : decide (a0 < ((rd_T60 l1 x9_1).f3)) = true := decide_eq_true c8
        clear c8
        obtain rfl := Option.some.inj H
        have p114 : 0 ≤ (x9_1 : Int) := of_decide_eq_true (by assumption)
        have q114 : x9_1 < (l1.length : Int) := of_decide_eq_true (by assumption)
        obtain ⟨ad114, e114, hx114_0, hx114_1, hx114_2, hx114_3⟩ := at_T60 HR1.out x9_1 p114 q114
        cases e114
        replace hx114_0 := (HB.out.cell (World.block_lt_of_cell? w _ hx114_0)).trans hx114_0
        replace hx114_1 := (HB.out.cell (World.block_lt_of_cell? w _ hx114_1)).trans hx114_1
        replace hx114_2 := (HB.out.cell (World.block_lt_of_cell? w _ hx114_2)).trans hx114_2
        replace hx114_3 := (HB.out.cell (World.block_lt_of_cell? w _ hx114_3)).trans hx114_3
        replace p114 := eq_true p114
        replace q114 := eq_true q114
        go_wp2_with (first | ((with_reducible refine gate_dst (N := 6) rfl ?_); refine boxA #[.int .i64 0, .int .i64 0, .int .i64 0, .int .i64 0] 60 ?_; intro gb115 hg w9 hbox hb; have BK115 := Aside0.mk (hbox); have GW115 := nge HB hg; have GE115 := nge HB hg; replace HB := bst HB hb; clear hb hbox hg; have hcz10_0 := b0 BK115; have hcz10_1 := b1 BK115; have hcz10_2 := b2 BK115; have hcz10_3 := b3 BK115; have hfz10_0 := blk_frozen BK115.out 0; have hfz10_1 := blk_frozen BK115.out 1; have hfz10_2 := blk_frozen BK115.out 2; have hfz10_3 := blk_frozen BK115.out 3) | ((with_reducible refine gate_callee (f := 94) rfl ?_); refine goesLA (some 14) rfl Try.func94 #[.agg #[.int .i64 ((rd_T60 l1 x9_1).f0), .int .i64 ((rd_T60 l1 x9_1).f1), .int .i64 ((rd_T60 l1 x9_1).f2), .int .i64 ((rd_T60 l1 x9_1).f3)]] ?_; (with_reducible refine (spec_PacketOk.calls ((rd_T60 l1 x9_1).f0) ((rd_T60 l1 x9_1).f1) ((rd_T60 l1 x9_1).f2) ((rd_T60 l1 x9_1).f3) true _ A6.out).mono ?_); rintro e w11 ⟨rfl, hb⟩; refine ⟨_, rfl, ?_⟩; replace BK115 := Aside0.mk (blk_below (g := gb115) (o := .cells #[.int .i64 ((rd_T60 l1 x9_1).f0), .int .i64 ((rd_T60 l1 x9_1).f1), .int .i64 ((rd_T60 l1 x9_1).f2), .int .i64 ((rd_T60 l1 x9_1).f3)] 60 (0, 0)) (by refine qz ?_; refine blk_put (cs := #[.int .i64 ((rd_T60 l1 x9_1).f0), .int .i64 ((rd_T60 l1 x9_1).f1), .int .i64 ((rd_T60 l1 x9_1).f2), .int .i64 0]) ?_ 3 _ rfl; refine qz ?_; refine blk_put (cs := #[.int .i64 ((rd_T60 l1 x9_1).f0), .int .i64 ((rd_T60 l1 x9_1).f1), .int .i64 0, .int .i64 0]) ?_ 2 _ rfl; refine qz ?_; refine blk_put (cs := #[.int .i64 ((rd_T60 l1 x9_1).f0), .int .i64 0, .int .i64 0, .int .i64 0]) ?_ 1 _ rfl; refine qz ?_; refine blk_put (cs := #[.int .i64 0, .int .i64 0, .int .i64 0, .int .i64 0]) ?_ 0 _ rfl; refine qz ?_; exact BK115.out) hb); replace HB := bst HB hb; clear hb; have hcz12_0 := b0 BK115; have hcz12_1 := b1 BK115; have hcz12_2 := b2 BK115; have hcz12_3 := b3 BK115; have hfz12_0 := blk_frozen BK115.out 0; have hfz12_1 := blk_frozen BK115.out 1; have hfz12_2 := blk_frozen BK115.out 2; have hfz12_3 := blk_frozen BK115.out 3))
        go_ret
        exact ⟨by first | rfl | (simp [*, errW_none, errW_some] <;> rfl), (qs HB)⟩
       rw [if_neg c8] at H
       have c8b0 : decide (a0 < ((rd_T60 l1 x9_1).f3)) = false := decide_eq_false c8
       clear c8
       have H' := Aside0.mk H
       clear H
       have p114 : 0 ≤ (x9_1 : Int) := of_decide_eq_true (by assumption)
       have q114 : x9_1 < (l1.length : Int) := of_decide_eq_true (by assumption)
       obtain ⟨ad114, e114, hx114_0, hx114_1, hx114_2, hx114_3⟩ := at_T60 HR1.out x9_1 p114 q114
       cases e114
       replace hx114_0 := (HB.out.cell (World.block_lt_of_cell? w _ hx114_0)).trans hx114_0
       replace hx114_1 := (HB.out.cell (World.block_lt_of_cell? w _ hx114_1)).trans hx114_1
       replace hx114_2 := (HB.out.cell (World.block_lt_of_cell? w _ hx114_2)).trans hx114_2
       replace hx114_3 := (HB.out.cell (World.block_lt_of_cell? w _ hx114_3)).trans hx114_3
       replace p114 := eq_true p114
       replace q114 := eq_true q114
       go_wp2_with (first | ((with_reducible refine gate_dst (N := 6) rfl ?_); refine boxA #[.int .i64 0, .int .i64 0, .int .i64 0, .int .i64 0] 60 ?_; intro gb115 hg w13 hbox hb; have BK115 := Aside0.mk (hbox); have GW115 := nge HB hg; have GE115 := nge HB hg; replace HB := bst HB hb; clear hb hbox hg; have hcz14_0 := b0 BK115; have hcz14_1 := b1 BK115; have hcz14_2 := b2 BK115; have hcz14_3 := b3 BK115; have hfz14_0 := blk_frozen BK115.out 0; have hfz14_1 := blk_frozen BK115.out 1; have hfz14_2 := blk_frozen BK115.out 2; have hfz14_3 := blk_frozen BK115.out 3) | ((with_reducible refine gate_callee (f := 94) rfl ?_); refine goesLA (some 14) rfl Try.func94 #[.agg #[.int .i64 ((rd_T60 l1 x9_1).f0), .int .i64 ((rd_T60 l1 x9_1).f1), .int .i64 ((rd_T60 l1 x9_1).f2), .int .i64 ((rd_T60 l1 x9_1).f3)]] ?_; (with_reducible refine (spec_PacketOk.calls ((rd_T60 l1 x9_1).f0) ((rd_T60 l1 x9_1).f1) ((rd_T60 l1 x9_1).f2) ((rd_T60 l1 x9_1).f3) true _ A6.out).mono ?_); rintro e w15 ⟨rfl, hb⟩; refine ⟨_, rfl, ?_⟩; replace BK115 := Aside0.mk (blk_below (g := gb115) (o := .cells #[.int .i64 ((rd_T60 l1 x9_1).f0), .int .i64 ((rd_T60 l1 x9_1).f1), .int .i64 ((rd_T60 l1 x9_1).f2), .int .i64 ((rd_T60 l1 x9_1).f3)] 60 (0, 0)) (by refine qz ?_; refine blk_put (cs := #[.int .i64 ((rd_T60 l1 x9_1).f0), .int .i64 ((rd_T60 l1 x9_1).f1), .int .i64 ((rd_T60 l1 x9_1).f2), .int .i64 0]) ?_ 3 _ rfl; refine qz ?_; refine blk_put (cs := #[.int .i64 ((rd_T60 l1 x9_1).f0), .int .i64 ((rd_T60 l1 x9_1).f1), .int .i64 0, .int .i64 0]) ?_ 2 _ rfl; refine qz ?_; refine blk_put (cs := #[.int .i64 ((rd_T60 l1 x9_1).f0), .int .i64 0, .int .i64 0, .int .i64 0]) ?_ 1 _ rfl; refine qz ?_; refine blk_put (cs := #[.int .i64 0, .int .i64 0, .int .i64 0, .int .i64 0]) ?_ 0 _ rfl; refine qz ?_; exact BK115.out) hb); replace HB := bst HB hb; clear hb; have hcz16_0 := b0 BK115; have hcz16_1 := b1 BK115; have hcz16_2 := b2 BK115; have hcz16_3 := b3 BK115; have hfz16_0 := blk_frozen BK115.out 0; have hfz16_1 := blk_frozen BK115.out 1; have hfz16_2 := blk_frozen BK115.out 2; have hfz16_3 := blk_frozen BK115.out 3))
       go_roundg k1
       case measure => have := HK1.out; omega
       case rel => exact ⟨(wrap64 (x9_1 + 1)), (by first | rfl | (simp; done) | (simp [*]; done)), H', ⟨by have := HK1.out; omega⟩, ⟨(qs HB)⟩⟩
      replace c7 := Bool.eq_false_iff.mpr c7
      subst c7
      have H1 : (some false) = some r := by rw [if_neg (show ¬ (false = true) by decide)] at H; exact H
      clear H; have H := H1; clear H1
      obtain rfl := Option.some.inj H
      have p114 : 0 ≤ (x9_1 : Int) := of_decide_eq_true (by assumption)
      have q114 : x9_1 < (l1.length : Int) := of_decide_eq_true (by assumption)
      obtain ⟨ad114, e114, hx114_0, hx114_1, hx114_2, hx114_3⟩ := at_T60 HR1.out x9_1 p114 q114
      cases e114
      replace hx114_0 := (HB.out.cell (World.block_lt_of_cell? w _ hx114_0)).trans hx114_0
      replace hx114_1 := (HB.out.cell (World.block_lt_of_cell? w _ hx114_1)).trans hx114_1
      replace hx114_2 := (HB.out.cell (World.block_lt_of_cell? w _ hx114_2)).trans hx114_2
      replace hx114_3 := (HB.out.cell (World.block_lt_of_cell? w _ hx114_3)).trans hx114_3
      replace p114 := eq_true p114
      replace q114 := eq_true q114
      go_wp2_with (first | ((with_reducible refine gate_dst (N := 6) rfl ?_); refine boxA #[.int .i64 0, .int .i64 0, .int .i64 0, .int .i64 0] 60 ?_; intro gb115 hg w17 hbox hb; have BK115 := Aside0.mk (hbox); have GW115 := nge HB hg; have GE115 := nge HB hg; replace HB := bst HB hb; clear hb hbox hg; have hcz18_0 := b0 BK115; have hcz18_1 := b1 BK115; have hcz18_2 := b2 BK115; have hcz18_3 := b3 BK115; have hfz18_0 := blk_frozen BK115.out 0; have hfz18_1 := blk_frozen BK115.out 1; have hfz18_2 := blk_frozen BK115.out 2; have hfz18_3 := blk_frozen BK115.out 3) | ((with_reducible refine gate_callee (f := 94) rfl ?_); refine goesLA (some 14) rfl Try.func94 #[.agg #[.int .i64 ((rd_T60 l1 x9_1).f0), .int .i64 ((rd_T60 l1 x9_1).f1), .int .i64 ((rd_T60 l1 x9_1).f2), .int .i64 ((rd_T60 l1 x9_1).f3)]] ?_; (with_reducible refine (spec_PacketOk.calls ((rd_T60 l1 x9_1).f0) ((rd_T60 l1 x9_1).f1) ((rd_T60 l1 x9_1).f2) ((rd_T60 l1 x9_1).f3) false _ A6.out).mono ?_); rintro e w19 ⟨rfl, hb⟩; refine ⟨_, rfl, ?_⟩; replace BK115 := Aside0.mk (blk_below (g := gb115) (o := .cells #[.int .i64 ((rd_T60 l1 x9_1).f0), .int .i64 ((rd_T60 l1 x9_1).f1), .int .i64 ((rd_T60 l1 x9_1).f2), .int .i64 ((rd_T60 l1 x9_1).f3)] 60 (0, 0)) (by refine qz ?_; refine blk_put (cs := #[.int .i64 ((rd_T60 l1 x9_1).f0), .int .i64 ((rd_T60 l1 x9_1).f1), .int .i64 ((rd_T60 l1 x9_1).f2), .int .i64 0]) ?_ 3 _ rfl; refine qz ?_; refine blk_put (cs := #[.int .i64 ((rd_T60 l1 x9_1).f0), .int .i64 ((rd_T60 l1 x9_1).f1), .int .i64 0, .int .i64 0]) ?_ 2 _ rfl; refine qz ?_; refine blk_put (cs := #[.int .i64 ((rd_T60 l1 x9_1).f0), .int .i64 0, .int .i64 0, .int .i64 0]) ?_ 1 _ rfl; refine qz ?_; refine blk_put (cs := #[.int .i64 0, .int .i64 0, .int .i64 0, .int .i64 0]) ?_ 0 _ rfl; refine qz ?_; exact BK115.out) hb); replace HB := bst HB hb; clear hb))
      go_ret
      exact ⟨by first | rfl | (simp [*, errW_none, errW_some] <;> rfl), (qs HB)⟩
     rw [if_neg c5] at H
     exact absurd H (by simp)
    rw [if_neg c4] at H
    exact absurd H (by simp)
   rw [if_neg c3] at H
   have c3b0 : decide (x9_1 < (l1.length : Int)) = false := decide_eq_false c3
   clear c3
   obtain rfl := Option.some.inj H
   go_wp2
   go_ret
   exact ⟨by first | rfl | (simp [*, errW_none, errW_some] <;> rfl), (qs HB)⟩
end Go.Proofs.Ytndffnacbfdnoaa.PAll
