-- Lines of PAllx14 that this claim uses.
import Derived.Test.YtndffnacbfdnoaaTTSq
import Derived.Test.YtndffnacbfdnoaaTTPAllx0
import Derived.Test.YtndffnacbfdnoaaTTPAllx5
import Derived.Test.YtndffnacbfdnoaaTTPAllx7
import Derived.Test.YtndffnacbfdnoaaTTPAllx9
import Derived.Test.YtndffnacbfdnoaaTTPAllx10
import Derived.Test.YtndffnacbfdnoaaTTPAllx12
import Derived.Test.YtndffnacbfdnoaaTTPAllx13
namespace Go.Proofs.Ytndffnacbfdnoaa.PAll
open Go.RowKit Go.Proofs.YtndffnacbfdnoaaW.PrintWords Go.Proofs.YtndffnacbfdnoaaW.PrintLast Go.Proofs.YtndffnacbfdnoaaW.PrintMore
attribute [local go_sem] max2_int min2_int max_two min_two max_three min_three max_four min_four   -- for this text's walks alone
set_option linter.unusedVariables false
set_option linter.unusedSimpArgs false
def laws_FnExactTrainTick.j0 : Nat → Int → List (S99) → Bool → Int → Int → Int → Int → Int → Int → Bool → Int → Int → Int → List (S60) → Int → Bool → Int → Int → Int → List (S60) → Int → Option (Bool)
 | 0, _, _, _, _, _, _, _, _, _, _, _, _, _, _, _, _, _, _, _, _, _ => none
 | k + 1, x1, x3, x58, x374000, x374001, x374002, x375000, x375001, x375002, x394000, x394001, x394002, x394003, x394004, x394005, x412000, x412001, x412002, x412003, x412004, x412005 => if x58 = true then (some false) else ((laws_markTrained.f k x412000 x412001 x412002 x412003 x412004 x412005 1).bind fun bt420 => ((laws_heldTrained.f k x412000 x412001 x412002 x412003 bt420.2 x412005 1).bind fun t422 => (if t422 < 0 then (some false) else (if t422 = bt420.1 then ((laws_toRules.f x374000 x374001 x374002).bind fun bt423 => ((laws_toTrain.f x375000 x375001 x375002).bind fun bt426 => ((laws_toPacketS.f k x3).bind fun t429 => ((impl_TrainTick.f k bt423.1 bt423.2.1 bt423.2.2 x1 bt426.1 bt426.2.1 bt426.2.2 t429).bind fun bt432 => ((laws_eqTrained.f k bt432.1 bt432.2.1 bt432.2.2.1 bt432.2.2.2.1 bt432.2.2.2.2.1 bt432.2.2.2.2.2 x394000 x394001 x394002 x394003 x394004 x394005).bind fun t441 => (if t441 = true then ((laws_heldTrained.f k x412000 x412001 x412002 x412003 bt420.2 x412005 1).bind fun t442 => (if t442 < 0 then (some false) else (if t442 = bt420.1 then (some true) else (some false)))) else (some false))))))) else (some false)))))
def laws_FnExactTrainTick.f (k : Nat) (a0_0 : Int) (a0_1 : Int) (a0_2 : Int) (a1 : Int) (a2_0 : Int) (a2_1 : Int) (a2_2 : Int) (l3 : List (S99)) : Option (Bool) := (laws_szPacketS.f l3 1048576).bind fun t375 => (if t375 < 0 then (some true) else ((laws_toRules.f a0_0 a0_1 a0_2).bind fun bt376 => ((laws_toTrain.f a2_0 a2_1 a2_2).bind fun bt379 => ((laws_toPacketS.f k l3).bind fun t382 => ((spec_TrainTick.f k bt376.1 bt376.2.1 bt376.2.2 a1 bt379.1 bt379.2.1 bt379.2.2 t382).bind fun bt385 => ((laws_toPacketS.f k l3).bind fun t394 => ((laws_toRules.f a0_0 a0_1 a0_2).bind fun bt397 => ((laws_toTrain.f a2_0 a2_1 a2_2).bind fun bt400 => ((impl_TrainTick.f k bt397.1 bt397.2.1 bt397.2.2 a1 bt400.1 bt400.2.1 bt400.2.2 t394).bind fun bt403 => ((laws_eqTrained.f k bt403.1 bt403.2.1 bt403.2.2.1 bt403.2.2.2.1 bt403.2.2.2.2.1 bt403.2.2.2.2.2 bt385.1 bt385.2.1 bt385.2.2.1 bt385.2.2.2.1 bt385.2.2.2.2.1 bt385.2.2.2.2.2).bind fun t412 => (if t412 = true then ((laws_toPacketS.f k l3).bind fun t413 => ((laws_eqPacketS.f k t394 t413).bind fun t416 => (if t416 = true then ((laws_markPacketS.f k t394 1).bind fun bt417 => (if bt417.1 < 0 then (laws_FnExactTrainTick.j0 k a1 l3 true a0_0 a0_1 a0_2 a2_0 a2_1 a2_2 bt385.1 bt385.2.1 bt385.2.2.1 bt385.2.2.2.1 bt385.2.2.2.2.1 bt385.2.2.2.2.2 bt403.1 bt403.2.1 bt403.2.2.1 bt403.2.2.2.1 bt403.2.2.2.2.1 bt403.2.2.2.2.2) else ((laws_eqTrained.f k bt403.1 bt403.2.1 bt403.2.2.1 bt403.2.2.2.1 bt403.2.2.2.2.1 bt403.2.2.2.2.2 bt385.1 bt385.2.1 bt385.2.2.1 bt385.2.2.2.1 bt385.2.2.2.2.1 bt385.2.2.2.2.2).bind fun t419 => (laws_FnExactTrainTick.j0 k a1 l3 (!t419) a0_0 a0_1 a0_2 a2_0 a2_1 a2_2 bt385.1 bt385.2.1 bt385.2.2.1 bt385.2.2.2.1 bt385.2.2.2.2.1 bt385.2.2.2.2.2 bt403.1 bt403.2.1 bt403.2.2.1 bt403.2.2.2.1 bt403.2.2.2.2.1 bt403.2.2.2.2.2)))) else (some false)))) else (some false))))))))))))
def laws_FnExactTrainTick.T5 : Bool × List (List Nat × List Nat) := (true, [([], []), ([0], [0]), ([], []), ([], []), ([3, 1], [3]), ([], []), ([5, 4], [5]), ([1, 2, 4, 6, 6], [1, 2, 4, 6]), ([], []), ([8, 7, 7, 0, 1, 2, 3, 4, 5, 6, 7, 8], [7, 8])])
def laws_FnExactTrainTick.B5 : List Nat := [0, 1, 0, 0, 11, 0, 59, 127, 0, 511]
theorem laws_FnExactTrainTick.tab5 : rtab .any (opsOf Try.f4 5) = laws_FnExactTrainTick.T5 := by kernel_rfl
theorem laws_FnExactTrainTick.bits5 : waitsOk laws_FnExactTrainTick.T5.2 laws_FnExactTrainTick.B5 = true := by kernel_rfl
def laws_FnExactTrainTick.T7 : Bool × List (List Nat × List Nat) := (true, [([], []), ([0], [0]), ([], []), ([], []), ([3, 1], [3]), ([], []), ([1, 2, 4, 5, 4], [1, 2, 4, 5]), ([], []), ([7, 6, 6, 0, 1, 2, 3, 4, 5, 6, 7], [6, 7])])
def laws_FnExactTrainTick.B7 : List Nat := [0, 1, 0, 0, 11, 0, 63, 0, 255]
theorem laws_FnExactTrainTick.tab7 : rtab .any (opsOf Try.f4 7) = laws_FnExactTrainTick.T7 := by kernel_rfl
theorem laws_FnExactTrainTick.bits7 : waitsOk laws_FnExactTrainTick.T7.2 laws_FnExactTrainTick.B7 = true := by kernel_rfl
def laws_FnExactTrainTick.T24 : Bool × List (List Nat × List Nat) := (true, [([], []), ([0], [0]), ([], []), ([], []), ([3, 1], [3]), ([], []), ([5, 4], [5]), ([1, 2, 4, 6, 6], [1, 2, 4, 6]), ([], []), ([8, 7, 7, 0, 1, 2, 3, 4, 5, 6, 7, 8], [7, 8])])
def laws_FnExactTrainTick.B24 : List Nat := [0, 1, 0, 0, 11, 0, 59, 127, 0, 511]
theorem laws_FnExactTrainTick.tab24 : rtab .any (opsOf Try.f4 24) = laws_FnExactTrainTick.T24 := by kernel_rfl
theorem laws_FnExactTrainTick.bits24 : waitsOk laws_FnExactTrainTick.T24.2 laws_FnExactTrainTick.B24 = true := by kernel_rfl
set_option maxHeartbeats 8000000 in
set_option maxRecDepth 100000 in
theorem laws_FnExactTrainTick.calls (k : Nat) (a0_0 : Int) (a0_1 : Int) (a0_2 : Int) (a1 : Int) (a2_0 : Int) (a2_1 : Int) (a2_2 : Int) (A3 : Option Addr) (c3 : Nat) (l3 : List (S99)) (w : World) (hr3 : Kd.C k99 w A3 l3.length l3) (hc3 : l3.length ≤ c3) (h : laws_FnExactTrainTick.f k a0_0 a0_1 a0_2 a1 a2_0 a2_1 a2_2 l3 = some true) :
  Calls Try.prog 4 #[.agg #[.int .i64 a0_0, .int .i64 a0_1, .int .i64 a0_2], .int .i64 a1, .agg #[.int .i64 a2_0, .int .i64 a2_1, .int .i64 a2_2], .slice A3 l3.length c3] w fun e w' => e = .returned (.bool true) ∧ Below w.heap.size w w' := by
 have hu23 := Try.underlying23
 have hu47 := Try.underlying47
 have hu50 := Try.underlying50
 have HR3 := Aside0.mk hr3
 have HC3 := Aside0.mk hc3
 clear hr3 hc3
 have HB := Aside0.mk (Below.refl w.heap.size w)
 have H : ((laws_szPacketS.f l3 1048576).bind fun t375 => (if t375 < 0 then (some true) else ((laws_toRules.f a0_0 a0_1 a0_2).bind fun bt376 => ((laws_toTrain.f a2_0 a2_1 a2_2).bind fun bt379 => ((laws_toPacketS.f k l3).bind fun t382 => ((spec_TrainTick.f k bt376.1 bt376.2.1 bt376.2.2 a1 bt379.1 bt379.2.1 bt379.2.2 t382).bind fun bt385 => ((laws_toPacketS.f k l3).bind fun t394 => ((laws_toRules.f a0_0 a0_1 a0_2).bind fun bt397 => ((laws_toTrain.f a2_0 a2_1 a2_2).bind fun bt400 => ((impl_TrainTick.f k bt397.1 bt397.2.1 bt397.2.2 a1 bt400.1 bt400.2.1 bt400.2.2 t394).bind fun bt403 => ((laws_eqTrained.f k bt403.1 bt403.2.1 bt403.2.2.1 bt403.2.2.2.1 bt403.2.2.2.2.1 bt403.2.2.2.2.2 bt385.1 bt385.2.1 bt385.2.2.1 bt385.2.2.2.1 bt385.2.2.2.2.1 bt385.2.2.2.2.2).bind fun t412 => (if t412 = true then ((laws_toPacketS.f k l3).bind fun t413 => ((laws_eqPacketS.f k t394 t413).bind fun t416 => (if t416 = true then ((laws_markPacketS.f k t394 1).bind fun bt417 => (if bt417.1 < 0 then (laws_FnExactTrainTick.j0 k a1 l3 true a0_0 a0_1 a0_2 a2_0 a2_1 a2_2 bt385.1 bt385.2.1 bt385.2.2.1 bt385.2.2.2.1 bt385.2.2.2.2.1 bt385.2.2.2.2.2 bt403.1 bt403.2.1 bt403.2.2.1 bt403.2.2.2.1 bt403.2.2.2.2.1 bt403.2.2.2.2.2) else ((laws_eqTrained.f k bt403.1 bt403.2.1 bt403.2.2.1 bt403.2.2.2.1 bt403.2.2.2.2.1 bt403.2.2.2.2.2 bt385.1 bt385.2.1 bt385.2.2.1 bt385.2.2.2.1 bt385.2.2.2.2.1 bt385.2.2.2.2.2).bind fun t419 => (laws_FnExactTrainTick.j0 k a1 l3 (!t419) a0_0 a0_1 a0_2 a2_0 a2_1 a2_2 bt385.1 bt385.2.1 bt385.2.2.1 bt385.2.2.2.1 bt385.2.2.2.2.1 bt385.2.2.2.2.2 bt403.1 bt403.2.1 bt403.2.2.1 bt403.2.2.2.1 bt403.2.2.2.2.1 bt403.2.2.2.2.2)))) else (some false)))) else (some false))))))))))))) = some true := h
 clear h
 replace H := Option.bind_eq_some_iff.mp H
 obtain ⟨t375, A50, H⟩ := H
 replace H : (if t375 < 0 then (some true) else ((laws_toRules.f a0_0 a0_1 a0_2).bind fun bt376 => ((laws_toTrain.f a2_0 a2_1 a2_2).bind fun bt379 => ((laws_toPacketS.f k l3).bind fun t382 => ((spec_TrainTick.f k bt376.1 bt376.2.1 bt376.2.2 a1 bt379.1 bt379.2.1 bt379.2.2 t382).bind fun bt385 => ((laws_toPacketS.f k l3).bind fun t394 => ((laws_toRules.f a0_0 a0_1 a0_2).bind fun bt397 => ((laws_toTrain.f a2_0 a2_1 a2_2).bind fun bt400 => ((impl_TrainTick.f k bt397.1 bt397.2.1 bt397.2.2 a1 bt400.1 bt400.2.1 bt400.2.2 t394).bind fun bt403 => ((laws_eqTrained.f k bt403.1 bt403.2.1 bt403.2.2.1 bt403.2.2.2.1 bt403.2.2.2.2.1 bt403.2.2.2.2.2 bt385.1 bt385.2.1 bt385.2.2.1 bt385.2.2.2.1 bt385.2.2.2.2.1 bt385.2.2.2.2.2).bind fun t412 => (if t412 = true then ((laws_toPacketS.f k l3).bind fun t413 => ((laws_eqPacketS.f k t394 t413).bind fun t416 => (if t416 = true then ((laws_markPacketS.f k t394 1).bind fun bt417 => (if bt417.1 < 0 then (laws_FnExactTrainTick.j0 k a1 l3 true a0_0 a0_1 a0_2 a2_0 a2_1 a2_2 bt385.1 bt385.2.1 bt385.2.2.1 bt385.2.2.2.1 bt385.2.2.2.2.1 bt385.2.2.2.2.2 bt403.1 bt403.2.1 bt403.2.2.1 bt403.2.2.2.1 bt403.2.2.2.2.1 bt403.2.2.2.2.2) else ((laws_eqTrained.f k bt403.1 bt403.2.1 bt403.2.2.1 bt403.2.2.2.1 bt403.2.2.2.2.1 bt403.2.2.2.2.2 bt385.1 bt385.2.1 bt385.2.2.1 bt385.2.2.2.1 bt385.2.2.2.2.1 bt385.2.2.2.2.2).bind fun t419 => (laws_FnExactTrainTick.j0 k a1 l3 (!t419) a0_0 a0_1 a0_2 a2_0 a2_1 a2_2 bt385.1 bt385.2.1 bt385.2.2.1 bt385.2.2.2.1 bt385.2.2.2.2.1 bt385.2.2.2.2.2 bt403.1 bt403.2.1 bt403.2.2.1 bt403.2.2.2.1 bt403.2.2.2.2.1 bt403.2.2.2.2.2)))) else (some false)))) else (some false)))))))))))) = some true := H
 have A5 := Aside0.mk A50
 clear A50
 by_cases c6 : t375 < 0
 ·rw [if_pos c6] at H
  have c6b0 : decide (t375 < 0) = true := decide_eq_true c6
  clear c6
  go_enter Try.func4, Try.ntmps4
  go_wp2_with (first | ((with_reducible refine gate_dst (N := 4) rfl ?_); refine box_event ?hg (N := 4) ?hd (cs := #[.int .i64 a0_0, .int .i64 a0_1, .int .i64 a0_2]) (t := 23) ?hr ?_; (case hd => rfl); (case hg => rfl); (case hr => first | (go_simp; done) | (go_simp; rfl)); intro gb373 hg w7 hbox hb; have n0_ := bst HB hb; have n1_ := Aside0.mk (hbox); have n2_ := nge HB hg; have n3_ := nge HB hg; clear HB; have HB := n0_; have BK373 := n1_; have GW373 := n2_; have GE373 := n3_; clear n0_ n1_ n2_ n3_; clear hb hbox hg) | ((with_reducible refine gate_dst (N := 6) rfl ?_); refine box_event ?hg (N := 6) ?hd (cs := #[.int .i64 a2_0, .int .i64 a2_1, .int .i64 a2_2]) (t := 47) ?hr ?_; (case hd => rfl); (case hg => rfl); (case hr => first | (go_simp; done) | (go_simp; rfl)); intro gb374 hg w8 hbox hb; have n0_ := bkb BK373 hb; have n1_ := bst HB hb; have n2_ := Aside0.mk (hbox); have n3_ := nge HB hg; have n4_ := nge HB hg; have n5_ := nlt BK373 hg; have n6_ := ngt BK373 hg; clear BK373; clear HB; have BK373 := n0_; have HB := n1_; have BK374 := n2_; have GW374 := n3_; have GE374 := n4_; have NB373_374 := n5_; have NB374_373 := n6_; clear n0_ n1_ n2_ n3_ n4_ n5_ n6_; clear hb hbox hg) | ((with_reducible refine gate_callee (f := 11) rfl ?_); refine goesLA (some 19) rfl Try.func11 #[.slice A3 l3.length c3, .int .i64 1048576] ?_; (with_reducible refine (laws_szPacketS.calls _ _ l3 1048576 t375 _ ?side1 ?side2 A5.out).mono ?_); (case side1 => exact qc (Kd.C_below HR3.out HB.out)); (case side2 => exact HC3.out); rintro e w' ⟨rfl, ⟨nd, rfl⟩⟩; refine ⟨_, rfl, ?_⟩))
  go_ret
  exact ⟨by first | rfl | (simp [errW_none, errW_some] <;> rfl) | (simp [*, errW_none, errW_some] <;> rfl), by repeat (first | (with_reducible first | exact HB.out | apply below_alloc | apply pw_below_drewN | apply below_drew1 | refine below_set ?_ GE373.out | refine below_set ?_ GE374.out) | exact HB.out)⟩
 ·rw [if_neg c6] at H
  have c6b0 : decide (t375 < 0) = false := decide_eq_false c6
  clear c6
  replace H := Option.bind_eq_some_iff.mp H
  obtain ⟨⟨t376, t377, t378⟩, A90, H⟩ := H
  replace H : ((laws_toTrain.f a2_0 a2_1 a2_2).bind fun bt379 => ((laws_toPacketS.f k l3).bind fun t382 => ((spec_TrainTick.f k t376 t377 t378 a1 bt379.1 bt379.2.1 bt379.2.2 t382).bind fun bt385 => ((laws_toPacketS.f k l3).bind fun t394 => ((laws_toRules.f a0_0 a0_1 a0_2).bind fun bt397 => ((laws_toTrain.f a2_0 a2_1 a2_2).bind fun bt400 => ((impl_TrainTick.f k bt397.1 bt397.2.1 bt397.2.2 a1 bt400.1 bt400.2.1 bt400.2.2 t394).bind fun bt403 => ((laws_eqTrained.f k bt403.1 bt403.2.1 bt403.2.2.1 bt403.2.2.2.1 bt403.2.2.2.2.1 bt403.2.2.2.2.2 bt385.1 bt385.2.1 bt385.2.2.1 bt385.2.2.2.1 bt385.2.2.2.2.1 bt385.2.2.2.2.2).bind fun t412 => (if t412 = true then ((laws_toPacketS.f k l3).bind fun t413 => ((laws_eqPacketS.f k t394 t413).bind fun t416 => (if t416 = true then ((laws_markPacketS.f k t394 1).bind fun bt417 => (if bt417.1 < 0 then (laws_FnExactTrainTick.j0 k a1 l3 true a0_0 a0_1 a0_2 a2_0 a2_1 a2_2 bt385.1 bt385.2.1 bt385.2.2.1 bt385.2.2.2.1 bt385.2.2.2.2.1 bt385.2.2.2.2.2 bt403.1 bt403.2.1 bt403.2.2.1 bt403.2.2.2.1 bt403.2.2.2.2.1 bt403.2.2.2.2.2) else ((laws_eqTrained.f k bt403.1 bt403.2.1 bt403.2.2.1 bt403.2.2.2.1 bt403.2.2.2.2.1 bt403.2.2.2.2.2 bt385.1 bt385.2.1 bt385.2.2.1 bt385.2.2.2.1 bt385.2.2.2.2.1 bt385.2.2.2.2.2).bind fun t419 => (laws_FnExactTrainTick.j0 k a1 l3 (!t419) a0_0 a0_1 a0_2 a2_0 a2_1 a2_2 bt385.1 bt385.2.1 bt385.2.2.1 bt385.2.2.2.1 bt385.2.2.2.2.1 bt385.2.2.2.2.2 bt403.1 bt403.2.1 bt403.2.2.1 bt403.2.2.2.1 bt403.2.2.2.2.1 bt403.2.2.2.2.2)))) else (some false)))) else (some false)))))))))) = some true := H
  have A9 := Aside0.mk A90
  clear A90
  replace H := Option.bind_eq_some_iff.mp H
  obtain ⟨⟨t379, t380, t381⟩, A100, H⟩ := H
  replace H : ((laws_toPacketS.f k l3).bind fun t382 => ((spec_TrainTick.f k t376 t377 t378 a1 t379 t380 t381 t382).bind fun bt385 => ((laws_toPacketS.f k l3).bind fun t394 => ((laws_toRules.f a0_0 a0_1 a0_2).bind fun bt397 => ((laws_toTrain.f a2_0 a2_1 a2_2).bind fun bt400 => ((impl_TrainTick.f k bt397.1 bt397.2.1 bt397.2.2 a1 bt400.1 bt400.2.1 bt400.2.2 t394).bind fun bt403 => ((laws_eqTrained.f k bt403.1 bt403.2.1 bt403.2.2.1 bt403.2.2.2.1 bt403.2.2.2.2.1 bt403.2.2.2.2.2 bt385.1 bt385.2.1 bt385.2.2.1 bt385.2.2.2.1 bt385.2.2.2.2.1 bt385.2.2.2.2.2).bind fun t412 => (if t412 = true then ((laws_toPacketS.f k l3).bind fun t413 => ((laws_eqPacketS.f k t394 t413).bind fun t416 => (if t416 = true then ((laws_markPacketS.f k t394 1).bind fun bt417 => (if bt417.1 < 0 then (laws_FnExactTrainTick.j0 k a1 l3 true a0_0 a0_1 a0_2 a2_0 a2_1 a2_2 bt385.1 bt385.2.1 bt385.2.2.1 bt385.2.2.2.1 bt385.2.2.2.2.1 bt385.2.2.2.2.2 bt403.1 bt403.2.1 bt403.2.2.1 bt403.2.2.2.1 bt403.2.2.2.2.1 bt403.2.2.2.2.2) else ((laws_eqTrained.f k bt403.1 bt403.2.1 bt403.2.2.1 bt403.2.2.2.1 bt403.2.2.2.2.1 bt403.2.2.2.2.2 bt385.1 bt385.2.1 bt385.2.2.1 bt385.2.2.2.1 bt385.2.2.2.2.1 bt385.2.2.2.2.2).bind fun t419 => (laws_FnExactTrainTick.j0 k a1 l3 (!t419) a0_0 a0_1 a0_2 a2_0 a2_1 a2_2 bt385.1 bt385.2.1 bt385.2.2.1 bt385.2.2.2.1 bt385.2.2.2.2.1 bt385.2.2.2.2.2 bt403.1 bt403.2.1 bt403.2.2.1 bt403.2.2.2.1 bt403.2.2.2.2.1 bt403.2.2.2.2.2)))) else (some false)))) else (some false))))))))) = some true := H
  have A10 := Aside0.mk A100
  clear A100
  replace H := Option.bind_eq_some_iff.mp H
  obtain ⟨t382, A110, H⟩ := H
  replace H : ((spec_TrainTick.f k t376 t377 t378 a1 t379 t380 t381 t382).bind fun bt385 => ((laws_toPacketS.f k l3).bind fun t394 => ((laws_toRules.f a0_0 a0_1 a0_2).bind fun bt397 => ((laws_toTrain.f a2_0 a2_1 a2_2).bind fun bt400 => ((impl_TrainTick.f k bt397.1 bt397.2.1 bt397.2.2 a1 bt400.1 bt400.2.1 bt400.2.2 t394).bind fun bt403 => ((laws_eqTrained.f k bt403.1 bt403.2.1 bt403.2.2.1 bt403.2.2.2.1 bt403.2.2.2.2.1 bt403.2.2.2.2.2 bt385.1 bt385.2.1 bt385.2.2.1 bt385.2.2.2.1 bt385.2.2.2.2.1 bt385.2.2.2.2.2).bind fun t412 => (if t412 = true then ((laws_toPacketS.f k l3).bind fun t413 => ((laws_eqPacketS.f k t394 t413).bind fun t416 => (if t416 = true then ((laws_markPacketS.f k t394 1).bind fun bt417 => (if bt417.1 < 0 then (laws_FnExactTrainTick.j0 k a1 l3 true a0_0 a0_1 a0_2 a2_0 a2_1 a2_2 bt385.1 bt385.2.1 bt385.2.2.1 bt385.2.2.2.1 bt385.2.2.2.2.1 bt385.2.2.2.2.2 bt403.1 bt403.2.1 bt403.2.2.1 bt403.2.2.2.1 bt403.2.2.2.2.1 bt403.2.2.2.2.2) else ((laws_eqTrained.f k bt403.1 bt403.2.1 bt403.2.2.1 bt403.2.2.2.1 bt403.2.2.2.2.1 bt403.2.2.2.2.2 bt385.1 bt385.2.1 bt385.2.2.1 bt385.2.2.2.1 bt385.2.2.2.2.1 bt385.2.2.2.2.2).bind fun t419 => (laws_FnExactTrainTick.j0 k a1 l3 (!t419) a0_0 a0_1 a0_2 a2_0 a2_1 a2_2 bt385.1 bt385.2.1 bt385.2.2.1 bt385.2.2.2.1 bt385.2.2.2.2.1 bt385.2.2.2.2.2 bt403.1 bt403.2.1 bt403.2.2.1 bt403.2.2.2.1 bt403.2.2.2.2.1 bt403.2.2.2.2.2)))) else (some false)))) else (some false)))))))) = some true := H
  have A11 := Aside0.mk A110
  clear A110
  replace H := Option.bind_eq_some_iff.mp H
  obtain ⟨⟨t385, t386, t387, t388, t389, t392⟩, A120, H⟩ := H
  replace H : ((laws_toPacketS.f k l3).bind fun t394 => ((laws_toRules.f a0_0 a0_1 a0_2).bind fun bt397 => ((laws_toTrain.f a2_0 a2_1 a2_2).bind fun bt400 => ((impl_TrainTick.f k bt397.1 bt397.2.1 bt397.2.2 a1 bt400.1 bt400.2.1 bt400.2.2 t394).bind fun bt403 => ((laws_eqTrained.f k bt403.1 bt403.2.1 bt403.2.2.1 bt403.2.2.2.1 bt403.2.2.2.2.1 bt403.2.2.2.2.2 t385 t386 t387 t388 t389 t392).bind fun t412 => (if t412 = true then ((laws_toPacketS.f k l3).bind fun t413 => ((laws_eqPacketS.f k t394 t413).bind fun t416 => (if t416 = true then ((laws_markPacketS.f k t394 1).bind fun bt417 => (if bt417.1 < 0 then (laws_FnExactTrainTick.j0 k a1 l3 true a0_0 a0_1 a0_2 a2_0 a2_1 a2_2 t385 t386 t387 t388 t389 t392 bt403.1 bt403.2.1 bt403.2.2.1 bt403.2.2.2.1 bt403.2.2.2.2.1 bt403.2.2.2.2.2) else ((laws_eqTrained.f k bt403.1 bt403.2.1 bt403.2.2.1 bt403.2.2.2.1 bt403.2.2.2.2.1 bt403.2.2.2.2.2 t385 t386 t387 t388 t389 t392).bind fun t419 => (laws_FnExactTrainTick.j0 k a1 l3 (!t419) a0_0 a0_1 a0_2 a2_0 a2_1 a2_2 t385 t386 t387 t388 t389 t392 bt403.1 bt403.2.1 bt403.2.2.1 bt403.2.2.2.1 bt403.2.2.2.2.1 bt403.2.2.2.2.2)))) else (some false)))) else (some false))))))) = some true := H
  have A12 := Aside0.mk A120
  clear A120
  replace H := Option.bind_eq_some_iff.mp H
  obtain ⟨t394, A130, H⟩ := H
  replace H : ((laws_toRules.f a0_0 a0_1 a0_2).bind fun bt397 => ((laws_toTrain.f a2_0 a2_1 a2_2).bind fun bt400 => ((impl_TrainTick.f k bt397.1 bt397.2.1 bt397.2.2 a1 bt400.1 bt400.2.1 bt400.2.2 t394).bind fun bt403 => ((laws_eqTrained.f k bt403.1 bt403.2.1 bt403.2.2.1 bt403.2.2.2.1 bt403.2.2.2.2.1 bt403.2.2.2.2.2 t385 t386 t387 t388 t389 t392).bind fun t412 => (if t412 = true then ((laws_toPacketS.f k l3).bind fun t413 => ((laws_eqPacketS.f k t394 t413).bind fun t416 => (if t416 = true then ((laws_markPacketS.f k t394 1).bind fun bt417 => (if bt417.1 < 0 then (laws_FnExactTrainTick.j0 k a1 l3 true a0_0 a0_1 a0_2 a2_0 a2_1 a2_2 t385 t386 t387 t388 t389 t392 bt403.1 bt403.2.1 bt403.2.2.1 bt403.2.2.2.1 bt403.2.2.2.2.1 bt403.2.2.2.2.2) else ((laws_eqTrained.f k bt403.1 bt403.2.1 bt403.2.2.1 bt403.2.2.2.1 bt403.2.2.2.2.1 bt403.2.2.2.2.2 t385 t386 t387 t388 t389 t392).bind fun t419 => (laws_FnExactTrainTick.j0 k a1 l3 (!t419) a0_0 a0_1 a0_2 a2_0 a2_1 a2_2 t385 t386 t387 t388 t389 t392 bt403.1 bt403.2.1 bt403.2.2.1 bt403.2.2.2.1 bt403.2.2.2.2.1 bt403.2.2.2.2.2)))) else (some false)))) else (some false)))))) = some true := H
  have A13 := Aside0.mk A130
  clear A130
  replace H := Option.bind_eq_some_iff.mp H
  obtain ⟨⟨t397, t398, t399⟩, A140, H⟩ := H
  replace H : ((laws_toTrain.f a2_0 a2_1 a2_2).bind fun bt400 => ((impl_TrainTick.f k t397 t398 t399 a1 bt400.1 bt400.2.1 bt400.2.2 t394).bind fun bt403 => ((laws_eqTrained.f k bt403.1 bt403.2.1 bt403.2.2.1 bt403.2.2.2.1 bt403.2.2.2.2.1 bt403.2.2.2.2.2 t385 t386 t387 t388 t389 t392).bind fun t412 => (if t412 = true then ((laws_toPacketS.f k l3).bind fun t413 => ((laws_eqPacketS.f k t394 t413).bind fun t416 => (if t416 = true then ((laws_markPacketS.f k t394 1).bind fun bt417 => (if bt417.1 < 0 then (laws_FnExactTrainTick.j0 k a1 l3 true a0_0 a0_1 a0_2 a2_0 a2_1 a2_2 t385 t386 t387 t388 t389 t392 bt403.1 bt403.2.1 bt403.2.2.1 bt403.2.2.2.1 bt403.2.2.2.2.1 bt403.2.2.2.2.2) else ((laws_eqTrained.f k bt403.1 bt403.2.1 bt403.2.2.1 bt403.2.2.2.1 bt403.2.2.2.2.1 bt403.2.2.2.2.2 t385 t386 t387 t388 t389 t392).bind fun t419 => (laws_FnExactTrainTick.j0 k a1 l3 (!t419) a0_0 a0_1 a0_2 a2_0 a2_1 a2_2 t385 t386 t387 t388 t389 t392 bt403.1 bt403.2.1 bt403.2.2.1 bt403.2.2.2.1 bt403.2.2.2.2.1 bt403.2.2.2.2.2)))) else (some false)))) else (some false))))) = some true := H
  have A14 := Aside0.mk A140
  clear A140
  replace H := Option.bind_eq_some_iff.mp H
  obtain ⟨⟨t400, t401, t402⟩, A150, H⟩ := H
  replace H : ((impl_TrainTick.f k t397 t398 t399 a1 t400 t401 t402 t394).bind fun bt403 => ((laws_eqTrained.f k bt403.1 bt403.2.1 bt403.2.2.1 bt403.2.2.2.1 bt403.2.2.2.2.1 bt403.2.2.2.2.2 t385 t386 t387 t388 t389 t392).bind fun t412 => (if t412 = true then ((laws_toPacketS.f k l3).bind fun t413 => ((laws_eqPacketS.f k t394 t413).bind fun t416 => (if t416 = true then ((laws_markPacketS.f k t394 1).bind fun bt417 => (if bt417.1 < 0 then (laws_FnExactTrainTick.j0 k a1 l3 true a0_0 a0_1 a0_2 a2_0 a2_1 a2_2 t385 t386 t387 t388 t389 t392 bt403.1 bt403.2.1 bt403.2.2.1 bt403.2.2.2.1 bt403.2.2.2.2.1 bt403.2.2.2.2.2) else ((laws_eqTrained.f k bt403.1 bt403.2.1 bt403.2.2.1 bt403.2.2.2.1 bt403.2.2.2.2.1 bt403.2.2.2.2.2 t385 t386 t387 t388 t389 t392).bind fun t419 => (laws_FnExactTrainTick.j0 k a1 l3 (!t419) a0_0 a0_1 a0_2 a2_0 a2_1 a2_2 t385 t386 t387 t388 t389 t392 bt403.1 bt403.2.1 bt403.2.2.1 bt403.2.2.2.1 bt403.2.2.2.2.1 bt403.2.2.2.2.2)))) else (some false)))) else (some false)))) = some true := H
  have A15 := Aside0.mk A150
  clear A150
  replace H := Option.bind_eq_some_iff.mp H
  obtain ⟨⟨t403, t404, t405, t406, t407, t410⟩, A160, H⟩ := H
  replace H : ((laws_eqTrained.f k t403 t404 t405 t406 t407 t410 t385 t386 t387 t388 t389 t392).bind fun t412 => (if t412 = true then ((laws_toPacketS.f k l3).bind fun t413 => ((laws_eqPacketS.f k t394 t413).bind fun t416 => (if t416 = true then ((laws_markPacketS.f k t394 1).bind fun bt417 => (if bt417.1 < 0 then (laws_FnExactTrainTick.j0 k a1 l3 true a0_0 a0_1 a0_2 a2_0 a2_1 a2_2 t385 t386 t387 t388 t389 t392 t403 t404 t405 t406 t407 t410) else ((laws_eqTrained.f k t403 t404 t405 t406 t407 t410 t385 t386 t387 t388 t389 t392).bind fun t419 => (laws_FnExactTrainTick.j0 k a1 l3 (!t419) a0_0 a0_1 a0_2 a2_0 a2_1 a2_2 t385 t386 t387 t388 t389 t392 t403 t404 t405 t406 t407 t410)))) else (some false)))) else (some false))) = some true := H
  have A16 := Aside0.mk A160
  clear A160
  replace H := Option.bind_eq_some_iff.mp H
  obtain ⟨t412, A170, H⟩ := H
  replace H : (if t412 = true then ((laws_toPacketS.f k l3).bind fun t413 => ((laws_eqPacketS.f k t394 t413).bind fun t416 => (if t416 = true then ((laws_markPacketS.f k t394 1).bind fun bt417 => (if bt417.1 < 0 then (laws_FnExactTrainTick.j0 k a1 l3 true a0_0 a0_1 a0_2 a2_0 a2_1 a2_2 t385 t386 t387 t388 t389 t392 t403 t404 t405 t406 t407 t410) else ((laws_eqTrained.f k t403 t404 t405 t406 t407 t410 t385 t386 t387 t388 t389 t392).bind fun t419 => (laws_FnExactTrainTick.j0 k a1 l3 (!t419) a0_0 a0_1 a0_2 a2_0 a2_1 a2_2 t385 t386 t387 t388 t389 t392 t403 t404 t405 t406 t407 t410)))) else (some false)))) else (some false)) = some true := H
  have A17 := Aside0.mk A170
  clear A170
  by_cases c18 : t412 = true
  ·subst c18
   have H1 : ((laws_toPacketS.f k l3).bind fun t413 => ((laws_eqPacketS.f k t394 t413).bind fun t416 => (if t416 = true then ((laws_markPacketS.f k t394 1).bind fun bt417 => (if bt417.1 < 0 then (laws_FnExactTrainTick.j0 k a1 l3 true a0_0 a0_1 a0_2 a2_0 a2_1 a2_2 t385 t386 t387 t388 t389 t392 t403 t404 t405 t406 t407 t410) else ((laws_eqTrained.f k t403 t404 t405 t406 t407 t410 t385 t386 t387 t388 t389 t392).bind fun t419 => (laws_FnExactTrainTick.j0 k a1 l3 (!t419) a0_0 a0_1 a0_2 a2_0 a2_1 a2_2 t385 t386 t387 t388 t389 t392 t403 t404 t405 t406 t407 t410)))) else (some false)))) = some true := by rw [if_pos rfl] at H; exact H
   clear H; have H := H1; clear H1
   replace H := Option.bind_eq_some_iff.mp H
   obtain ⟨t413, A190, H⟩ := H
   replace H : ((laws_eqPacketS.f k t394 t413).bind fun t416 => (if t416 = true then ((laws_markPacketS.f k t394 1).bind fun bt417 => (if bt417.1 < 0 then (laws_FnExactTrainTick.j0 k a1 l3 true a0_0 a0_1 a0_2 a2_0 a2_1 a2_2 t385 t386 t387 t388 t389 t392 t403 t404 t405 t406 t407 t410) else ((laws_eqTrained.f k t403 t404 t405 t406 t407 t410 t385 t386 t387 t388 t389 t392).bind fun t419 => (laws_FnExactTrainTick.j0 k a1 l3 (!t419) a0_0 a0_1 a0_2 a2_0 a2_1 a2_2 t385 t386 t387 t388 t389 t392 t403 t404 t405 t406 t407 t410)))) else (some false))) = some true := H
   have A19 := Aside0.mk A190
   clear A190
   replace H := Option.bind_eq_some_iff.mp H
   obtain ⟨t416, A200, H⟩ := H
   replace H : (if t416 = true then ((laws_markPacketS.f k t394 1).bind fun bt417 => (if bt417.1 < 0 then (laws_FnExactTrainTick.j0 k a1 l3 true a0_0 a0_1 a0_2 a2_0 a2_1 a2_2 t385 t386 t387 t388 t389 t392 t403 t404 t405 t406 t407 t410) else ((laws_eqTrained.f k t403 t404 t405 t406 t407 t410 t385 t386 t387 t388 t389 t392).bind fun t419 => (laws_FnExactTrainTick.j0 k a1 l3 (!t419) a0_0 a0_1 a0_2 a2_0 a2_1 a2_2 t385 t386 t387 t388 t389 t392 t403 t404 t405 t406 t407 t410)))) else (some false)) = some true := H
   have A20 := Aside0.mk A200
   clear A200
   by_cases c21 : t416 = true
   ·subst c21
    have H1 : ((laws_markPacketS.f k t394 1).bind fun bt417 => (if bt417.1 < 0 then (laws_FnExactTrainTick.j0 k a1 l3 true a0_0 a0_1 a0_2 a2_0 a2_1 a2_2 t385 t386 t387 t388 t389 t392 t403 t404 t405 t406 t407 t410) else ((laws_eqTrained.f k t403 t404 t405 t406 t407 t410 t385 t386 t387 t388 t389 t392).bind fun t419 => (laws_FnExactTrainTick.j0 k a1 l3 (!t419) a0_0 a0_1 a0_2 a2_0 a2_1 a2_2 t385 t386 t387 t388 t389 t392 t403 t404 t405 t406 t407 t410)))) = some true := by rw [if_pos rfl] at H; exact H
    clear H; have H := H1; clear H1
    replace H := Option.bind_eq_some_iff.mp H
    obtain ⟨⟨t417, t418⟩, A220, H⟩ := H
    replace H : (if t417 < 0 then (laws_FnExactTrainTick.j0 k a1 l3 true a0_0 a0_1 a0_2 a2_0 a2_1 a2_2 t385 t386 t387 t388 t389 t392 t403 t404 t405 t406 t407 t410) else ((laws_eqTrained.f k t403 t404 t405 t406 t407 t410 t385 t386 t387 t388 t389 t392).bind fun t419 => (laws_FnExactTrainTick.j0 k a1 l3 (!t419) a0_0 a0_1 a0_2 a2_0 a2_1 a2_2 t385 t386 t387 t388 t389 t392 t403 t404 t405 t406 t407 t410))) = some true := H
    have A22 := Aside0.mk A220
    clear A220
    have HC23 := Aside0.mk H
    clear H
    go_enter Try.func4, Try.ntmps4
    try go_wp2_with (first | ((with_reducible refine gate_dst (N := 4) rfl ?_); refine box_event ?hg (N := 4) ?hd (cs := #[.int .i64 a0_0, .int .i64 a0_1, .int .i64 a0_2]) (t := 23) ?hr ?_; (case hd => rfl); (case hg => rfl); (case hr => first | (go_simp; done) | (go_simp; rfl)); intro gb373 hg w24 hbox hb; have n0_ := bst HB hb; have n1_ := Aside0.mk (hbox); have n2_ := nge HB hg; have n3_ := nge HB hg; clear HB; have HB := n0_; have BK373 := n1_; have GW373 := n2_; have GE373 := n3_; clear n0_ n1_ n2_ n3_; clear hb hbox hg) | ((with_reducible refine gate_dst (N := 6) rfl ?_); refine box_event ?hg (N := 6) ?hd (cs := #[.int .i64 a2_0, .int .i64 a2_1, .int .i64 a2_2]) (t := 47) ?hr ?_; (case hd => rfl); (case hg => rfl); (case hr => first | (go_simp; done) | (go_simp; rfl)); intro gb374 hg w25 hbox hb; have n0_ := bkb BK373 hb; have n1_ := bst HB hb; have n2_ := Aside0.mk (hbox); have n3_ := nge HB hg; have n4_ := nge HB hg; have n5_ := nlt BK373 hg; have n6_ := ngt BK373 hg; clear BK373; clear HB; have BK373 := n0_; have HB := n1_; have BK374 := n2_; have GW374 := n3_; have GE374 := n4_; have NB373_374 := n5_; have NB374_373 := n6_; clear n0_ n1_ n2_ n3_ n4_ n5_ n6_; clear hb hbox hg) | ((with_reducible refine gate_callee (f := 11) rfl ?_); refine goesLA (some 19) rfl Try.func11 #[.slice A3 l3.length c3, .int .i64 1048576] ?_; (with_reducible refine (laws_szPacketS.calls _ _ l3 1048576 t375 _ ?side1 ?side2 A5.out).mono ?_); (case side1 => exact qc (Kd.C_below HR3.out HB.out)); (case side2 => exact HC3.out); rintro e w' ⟨rfl, ⟨nd, rfl⟩⟩; refine ⟨_, rfl, ?_⟩; (try (rw [drewN_self w25]; generalize hq_ : World.drewN w25 _ = w25; have n0_ : Aside0 (w25.heap[gb373]? = some (.cells #[.int .i64 a0_0, .int .i64 a0_1, .int .i64 a0_2] 23 (0, 0))) := ⟨by rw [← hq_]; exact (qb BK373)⟩; have n1_ : Aside0 (w25.heap[gb374]? = some (.cells #[.int .i64 a2_0, .int .i64 a2_1, .int .i64 a2_2] 47 (0, 0))) := ⟨by rw [← hq_]; exact (qb BK374)⟩; have n2_ : Aside0 (Below w.heap.size w w25) := ⟨by rw [← hq_]; exact (qs HB)⟩; clear BK373 BK374 HB hq_; have BK373 := n0_; have BK374 := n1_; have HB := n2_; clear n0_ n1_ n2_))))
    have n0_ := Aside0.mk (blk_drew BK373.out)
    have n1_ := Aside0.mk (blk_drew BK374.out)
    have n2_ := Aside0.mk (below_drew1 HB.out)
    clear BK373 BK374 HB; have BK373 := n0_; have BK374 := n1_; have HB := n2_; clear n0_ n1_ n2_
    refine start_ (n := 10) (S := fun w' => w'.cell? ⟨gb373, 0, none⟩ = some (.int .i64 a0_0) ∧ w'.cell? ⟨gb373, 1, none⟩ = some (.int .i64 a0_1) ∧ w'.cell? ⟨gb373, 2, none⟩ = some (.int .i64 a0_2) ∧ w'.cell? ⟨gb374, 0, none⟩ = some (.int .i64 a2_0) ∧ w'.cell? ⟨gb374, 1, none⟩ = some (.int .i64 a2_1) ∧ w'.cell? ⟨gb374, 2, none⟩ = some (.int .i64 a2_2)) (ds := []) #[false, false, false, false, false, false, false, false, false, false] (by kernel_rfl) rfl rfl ⟨bc BK373 0, bc BK373 1, bc BK373 2, bc BK374 0, bc BK374 1, bc BK374 2⟩ (fun hHeld => ?_); refine with_tabW laws_FnExactTrainTick.tab5 laws_FnExactTrainTick.bits5 (fun HT_ HW_ => ?_)
    generalize w25.drew = w26 at BK373 BK374 HB hHeld ⊢
    refine pure_ (i := 2) (N := some 24) (v := ?_) (a' := ?_) #[false, false, true, false, false, false, false, false, false, false] rfl rfl (any_of HT_.out (by kernel_rfl)) (fun _ _ _ h => h) (Or.inl ⟨by rfl, ?_⟩) ?_ ?_
    rotate_left
    ·intro w'
     go_simp
     with_reducible rfl
    rotate_left
    ·simp only [Act.put, List.setIfInBounds_toArray, List.set_cons_zero, List.set_cons_succ, i64_w, i32_w]
     rfl
    refine pure_ (i := 5) (N := some 27) (v := ?_) (a' := ?_) #[false, false, true, false, false, true, false, false, false, false] rfl rfl (any_of HT_.out (by kernel_rfl)) (fun _ _ _ h => h) (Or.inl ⟨by rfl, ?_⟩) ?_ ?_
    rotate_left
    ·intro w'
     go_simp
     with_reducible rfl
    rotate_left
    ·simp only [Act.put, List.setIfInBounds_toArray, List.set_cons_zero, List.set_cons_succ, i64_w, i32_w]
     rfl
    refine take_ (i := 0) (N := some 22) (v := ?_) (a' := ?_) #[true, false, true, false, false, true, false, false, false, false] rfl rfl (take_ofW HT_.out HW_.out (by kernel_rfl)) (fun _ _ _ h => h) (Or.inl ⟨by rfl, ?_⟩) hHeld ?_ ?_
    rotate_left
    ·rintro w' ⟨s0, s1, s2, s3, s4, s5⟩
     go_simp
     with_reducible rfl
    rotate_left
    ·simp only [Act.put, List.setIfInBounds_toArray, List.set_cons_zero, List.set_cons_succ, i64_w, i32_w]
     rfl
    refine take_ (i := 3) (N := some 25) (v := ?_) (a' := ?_) #[true, false, true, true, false, true, false, false, false, false] rfl rfl (take_ofW HT_.out HW_.out (by kernel_rfl)) (fun _ _ _ h => h) (Or.inl ⟨by rfl, ?_⟩) hHeld ?_ ?_
    rotate_left
    ·rintro w' ⟨s0, s1, s2, s3, s4, s5⟩
     go_simp
     with_reducible rfl
    rotate_left
    ·simp only [Act.put, List.setIfInBounds_toArray, List.set_cons_zero, List.set_cons_succ, i64_w, i32_w]
     rfl
    refine join_ (σ := Value × Value × Nat) 1 #[true, true, true, true, true, true, true, true, true, false] (fun s_ => [(23, .agg #[.int .i64 t376, .int .i64 t377, .int .i64 t378]), (26, .agg #[.int .i64 t379, .int .i64 t380, .int .i64 t381]), (28, s_.1), (29, .agg #[.bool t385, .int .i64 t386, .int .i64 t387, .int .i64 t388, s_.2.1, .int .i64 t392]), (10, .pointer (some ⟨s_.2.2, 0, none⟩))]) (fun s_ w' => (w'.cell? ⟨gb373, 0, none⟩ = some (.int .i64 a0_0) ∧ w'.cell? ⟨gb373, 1, none⟩ = some (.int .i64 a0_1) ∧ w'.cell? ⟨gb373, 2, none⟩ = some (.int .i64 a0_2) ∧ w'.cell? ⟨gb374, 0, none⟩ = some (.int .i64 a2_0) ∧ w'.cell? ⟨gb374, 1, none⟩ = some (.int .i64 a2_1) ∧ w'.cell? ⟨gb374, 2, none⟩ = some (.int .i64 a2_2)) ∧ (Kd.R k60 60 w' w.heap.size (fun k_ => some k_ ≠ (s_.2.1 : Value).ownBlock) s_.1 t382) ∧ (Kd.R k60 60 w' w.heap.size (fun k_ => some k_ ≠ (s_.1 : Value).ownBlock) s_.2.1 t389) ∧ (w'.heap[gb373]? = some (.cells #[.int .i64 a0_0, .int .i64 a0_1, .int .i64 a0_2] 23 (0, 0))) ∧ (w'.heap[gb374]? = some (.cells #[.int .i64 a2_0, .int .i64 a2_1, .int .i64 a2_2] 47 (0, 0))) ∧ (w'.heap[s_.2.2]? = some (.cells #[.bool false, .int .i64 0, .int .i64 0, .int .i64 0, .slice none 0 0, .int .i64 0] 50 (0, 0))) ∧ (w.heap.size ≤ s_.2.2) ∧ (w.heap.size ≤ s_.2.2) ∧ (gb373 ≠ s_.2.2) ∧ (s_.2.2 ≠ gb373) ∧ (gb374 ≠ s_.2.2) ∧ (s_.2.2 ≠ gb374) ∧ (Below w.heap.size w w')) ?_ ?_
    rotate_left
    ·intro hJ1_4_6_7_8
     refine join_ (σ := Value × Value) 2 #[true, true, true, true, true, true, true, true, false, false] (fun s_ => [(23, .agg #[.int .i64 t376, .int .i64 t377, .int .i64 t378]), (26, .agg #[.int .i64 t379, .int .i64 t380, .int .i64 t381]), (28, s_.1), (29, .agg #[.bool t385, .int .i64 t386, .int .i64 t387, .int .i64 t388, s_.2, .int .i64 t392])]) (fun s_ w' => (w'.cell? ⟨gb373, 0, none⟩ = some (.int .i64 a0_0) ∧ w'.cell? ⟨gb373, 1, none⟩ = some (.int .i64 a0_1) ∧ w'.cell? ⟨gb373, 2, none⟩ = some (.int .i64 a0_2) ∧ w'.cell? ⟨gb374, 0, none⟩ = some (.int .i64 a2_0) ∧ w'.cell? ⟨gb374, 1, none⟩ = some (.int .i64 a2_1) ∧ w'.cell? ⟨gb374, 2, none⟩ = some (.int .i64 a2_2)) ∧ (Kd.R k60 60 w' w.heap.size (fun k_ => some k_ ≠ (s_.2 : Value).ownBlock) s_.1 t382) ∧ (Kd.R k60 60 w' w.heap.size (fun k_ => some k_ ≠ (s_.1 : Value).ownBlock) s_.2 t389) ∧ (w'.heap[gb373]? = some (.cells #[.int .i64 a0_0, .int .i64 a0_1, .int .i64 a0_2] 23 (0, 0))) ∧ (w'.heap[gb374]? = some (.cells #[.int .i64 a2_0, .int .i64 a2_1, .int .i64 a2_2] 47 (0, 0))) ∧ (Below w.heap.size w w')) ?_ ?_
     rotate_left
     ·intro hJ1_4_6_7
      refine join_ (σ := Value × Nat) 2 #[true, true, true, true, true, true, true, false, true, false] (fun s_ => [(23, .agg #[.int .i64 t376, .int .i64 t377, .int .i64 t378]), (26, .agg #[.int .i64 t379, .int .i64 t380, .int .i64 t381]), (28, s_.1), (10, .pointer (some ⟨s_.2, 0, none⟩))]) (fun s_ w' => (w'.cell? ⟨gb373, 0, none⟩ = some (.int .i64 a0_0) ∧ w'.cell? ⟨gb373, 1, none⟩ = some (.int .i64 a0_1) ∧ w'.cell? ⟨gb373, 2, none⟩ = some (.int .i64 a0_2) ∧ w'.cell? ⟨gb374, 0, none⟩ = some (.int .i64 a2_0) ∧ w'.cell? ⟨gb374, 1, none⟩ = some (.int .i64 a2_1) ∧ w'.cell? ⟨gb374, 2, none⟩ = some (.int .i64 a2_2)) ∧ (Kd.R k60 60 w' w.heap.size (fun _ => True) s_.1 t382) ∧ (w'.heap[gb373]? = some (.cells #[.int .i64 a0_0, .int .i64 a0_1, .int .i64 a0_2] 23 (0, 0))) ∧ (w'.heap[gb374]? = some (.cells #[.int .i64 a2_0, .int .i64 a2_1, .int .i64 a2_2] 47 (0, 0))) ∧ (w'.heap[s_.2]? = some (.cells #[.bool false, .int .i64 0, .int .i64 0, .int .i64 0, .slice none 0 0, .int .i64 0] 50 (0, 0))) ∧ (w.heap.size ≤ s_.2) ∧ (w.heap.size ≤ s_.2) ∧ (gb373 ≠ s_.2) ∧ (s_.2 ≠ gb373) ∧ (gb374 ≠ s_.2) ∧ (s_.2 ≠ gb374) ∧ (Below w.heap.size w w')) ?_ ?_
      rotate_left
      ·intro hJ1_4_6_8
       refine join_ (σ := Value) 3 #[true, true, true, true, true, true, true, false, false, false] (fun s_ => [(23, .agg #[.int .i64 t376, .int .i64 t377, .int .i64 t378]), (26, .agg #[.int .i64 t379, .int .i64 t380, .int .i64 t381]), (28, s_)]) (fun s_ w' => (w'.cell? ⟨gb373, 0, none⟩ = some (.int .i64 a0_0) ∧ w'.cell? ⟨gb373, 1, none⟩ = some (.int .i64 a0_1) ∧ w'.cell? ⟨gb373, 2, none⟩ = some (.int .i64 a0_2) ∧ w'.cell? ⟨gb374, 0, none⟩ = some (.int .i64 a2_0) ∧ w'.cell? ⟨gb374, 1, none⟩ = some (.int .i64 a2_1) ∧ w'.cell? ⟨gb374, 2, none⟩ = some (.int .i64 a2_2)) ∧ (Kd.R k60 60 w' w.heap.size (fun _ => True) s_ t382) ∧ (w'.heap[gb373]? = some (.cells #[.int .i64 a0_0, .int .i64 a0_1, .int .i64 a0_2] 23 (0, 0))) ∧ (w'.heap[gb374]? = some (.cells #[.int .i64 a2_0, .int .i64 a2_1, .int .i64 a2_2] 47 (0, 0))) ∧ (Below w.heap.size w w')) ?_ ?_
       rotate_left
       ·intro hJ1_4_6
        refine join_ (σ := Nat) 3 #[true, true, true, true, true, true, false, false, true, false] (fun s_ => [(23, .agg #[.int .i64 t376, .int .i64 t377, .int .i64 t378]), (26, .agg #[.int .i64 t379, .int .i64 t380, .int .i64 t381]), (10, .pointer (some ⟨s_, 0, none⟩))]) (fun s_ w' => (w'.cell? ⟨gb373, 0, none⟩ = some (.int .i64 a0_0) ∧ w'.cell? ⟨gb373, 1, none⟩ = some (.int .i64 a0_1) ∧ w'.cell? ⟨gb373, 2, none⟩ = some (.int .i64 a0_2) ∧ w'.cell? ⟨gb374, 0, none⟩ = some (.int .i64 a2_0) ∧ w'.cell? ⟨gb374, 1, none⟩ = some (.int .i64 a2_1) ∧ w'.cell? ⟨gb374, 2, none⟩ = some (.int .i64 a2_2)) ∧ (w'.heap[gb373]? = some (.cells #[.int .i64 a0_0, .int .i64 a0_1, .int .i64 a0_2] 23 (0, 0))) ∧ (w'.heap[gb374]? = some (.cells #[.int .i64 a2_0, .int .i64 a2_1, .int .i64 a2_2] 47 (0, 0))) ∧ (w'.heap[s_]? = some (.cells #[.bool false, .int .i64 0, .int .i64 0, .int .i64 0, .slice none 0 0, .int .i64 0] 50 (0, 0))) ∧ (w.heap.size ≤ s_) ∧ (w.heap.size ≤ s_) ∧ (gb373 ≠ s_) ∧ (s_ ≠ gb373) ∧ (gb374 ≠ s_) ∧ (s_ ≠ gb374) ∧ (Below w.heap.size w w')) ?_ ?_
        rotate_left
        ·intro hJ1_4_8
         refine join_ (σ := Unit) 4 #[true, true, true, true, true, true, false, false, false, false] (fun s_ => [(23, .agg #[.int .i64 t376, .int .i64 t377, .int .i64 t378]), (26, .agg #[.int .i64 t379, .int .i64 t380, .int .i64 t381])]) (fun s_ w' => (w'.cell? ⟨gb373, 0, none⟩ = some (.int .i64 a0_0) ∧ w'.cell? ⟨gb373, 1, none⟩ = some (.int .i64 a0_1) ∧ w'.cell? ⟨gb373, 2, none⟩ = some (.int .i64 a0_2) ∧ w'.cell? ⟨gb374, 0, none⟩ = some (.int .i64 a2_0) ∧ w'.cell? ⟨gb374, 1, none⟩ = some (.int .i64 a2_1) ∧ w'.cell? ⟨gb374, 2, none⟩ = some (.int .i64 a2_2)) ∧ (w'.heap[gb373]? = some (.cells #[.int .i64 a0_0, .int .i64 a0_1, .int .i64 a0_2] 23 (0, 0))) ∧ (w'.heap[gb374]? = some (.cells #[.int .i64 a2_0, .int .i64 a2_1, .int .i64 a2_2] 47 (0, 0))) ∧ (Below w.heap.size w w')) ?_ ?_
         rotate_left
         ·intro hJ1_4
          refine join_ (σ := Nat) 4 #[true, true, true, true, false, true, false, false, true, false] (fun s_ => [(23, .agg #[.int .i64 t376, .int .i64 t377, .int .i64 t378]), (10, .pointer (some ⟨s_, 0, none⟩))]) (fun s_ w' => (w'.cell? ⟨gb373, 0, none⟩ = some (.int .i64 a0_0) ∧ w'.cell? ⟨gb373, 1, none⟩ = some (.int .i64 a0_1) ∧ w'.cell? ⟨gb373, 2, none⟩ = some (.int .i64 a0_2) ∧ w'.cell? ⟨gb374, 0, none⟩ = some (.int .i64 a2_0) ∧ w'.cell? ⟨gb374, 1, none⟩ = some (.int .i64 a2_1) ∧ w'.cell? ⟨gb374, 2, none⟩ = some (.int .i64 a2_2)) ∧ (w'.heap[gb373]? = some (.cells #[.int .i64 a0_0, .int .i64 a0_1, .int .i64 a0_2] 23 (0, 0))) ∧ (w'.heap[gb374]? = some (.cells #[.int .i64 a2_0, .int .i64 a2_1, .int .i64 a2_2] 47 (0, 0))) ∧ (w'.heap[s_]? = some (.cells #[.bool false, .int .i64 0, .int .i64 0, .int .i64 0, .slice none 0 0, .int .i64 0] 50 (0, 0))) ∧ (w.heap.size ≤ s_) ∧ (w.heap.size ≤ s_) ∧ (gb373 ≠ s_) ∧ (s_ ≠ gb373) ∧ (gb374 ≠ s_) ∧ (s_ ≠ gb374) ∧ (Below w.heap.size w w')) ?_ ?_
          rotate_left
          ·intro hJ1_8
           refine join_ (σ := Unit) 5 #[true, true, true, true, false, true, false, false, false, false] (fun s_ => [(23, .agg #[.int .i64 t376, .int .i64 t377, .int .i64 t378])]) (fun s_ w' => (w'.cell? ⟨gb373, 0, none⟩ = some (.int .i64 a0_0) ∧ w'.cell? ⟨gb373, 1, none⟩ = some (.int .i64 a0_1) ∧ w'.cell? ⟨gb373, 2, none⟩ = some (.int .i64 a0_2) ∧ w'.cell? ⟨gb374, 0, none⟩ = some (.int .i64 a2_0) ∧ w'.cell? ⟨gb374, 1, none⟩ = some (.int .i64 a2_1) ∧ w'.cell? ⟨gb374, 2, none⟩ = some (.int .i64 a2_2)) ∧ (w'.heap[gb373]? = some (.cells #[.int .i64 a0_0, .int .i64 a0_1, .int .i64 a0_2] 23 (0, 0))) ∧ (w'.heap[gb374]? = some (.cells #[.int .i64 a2_0, .int .i64 a2_1, .int .i64 a2_2] 47 (0, 0))) ∧ (Below w.heap.size w w')) ?_ ?_
           rotate_left
           ·intro hJ1
            refine join_ (σ := Nat) 5 #[true, false, true, true, false, true, false, false, true, false] (fun s_ => [(10, .pointer (some ⟨s_, 0, none⟩))]) (fun s_ w' => (w'.cell? ⟨gb373, 0, none⟩ = some (.int .i64 a0_0) ∧ w'.cell? ⟨gb373, 1, none⟩ = some (.int .i64 a0_1) ∧ w'.cell? ⟨gb373, 2, none⟩ = some (.int .i64 a0_2) ∧ w'.cell? ⟨gb374, 0, none⟩ = some (.int .i64 a2_0) ∧ w'.cell? ⟨gb374, 1, none⟩ = some (.int .i64 a2_1) ∧ w'.cell? ⟨gb374, 2, none⟩ = some (.int .i64 a2_2)) ∧ (w'.heap[gb373]? = some (.cells #[.int .i64 a0_0, .int .i64 a0_1, .int .i64 a0_2] 23 (0, 0))) ∧ (w'.heap[gb374]? = some (.cells #[.int .i64 a2_0, .int .i64 a2_1, .int .i64 a2_2] 47 (0, 0))) ∧ (w'.heap[s_]? = some (.cells #[.bool false, .int .i64 0, .int .i64 0, .int .i64 0, .slice none 0 0, .int .i64 0] 50 (0, 0))) ∧ (w.heap.size ≤ s_) ∧ (w.heap.size ≤ s_) ∧ (gb373 ≠ s_) ∧ (s_ ≠ gb373) ∧ (gb374 ≠ s_) ∧ (s_ ≠ gb374) ∧ (Below w.heap.size w w')) ?_ ?_
            rotate_left
            ·intro hJ8
             refine two_ (i := 1) (j := 8) (Ni := some 23) (Nj := some 10) #[true, true, true, true, false, true, false, false, false, false] #[true, false, true, true, false, true, false, false, true, false] rfl rfl rfl rfl (two_of HT_.out (by kernel_rfl)) (by decide) (by decide) (fun K hK => ?_) (fun K hK => ?_)
             ·skip
              refine goesA Try.func13 #[.agg #[.int .i64 a0_0, .int .i64 a0_1, .int .i64 a0_2]] ?_
              with_reducible refine (laws_toRules.calls a0_0 a0_1 a0_2 t376 t377 t378 _ A9.out).mono ?_
              rintro e w27 ⟨rfl, hb⟩
              refine ⟨_, rfl, ?_⟩
              have n0_ := bkb BK373 hb; have n1_ := bkb BK374 hb; have n2_ := bst HB hb; clear BK373 BK374 HB; have BK373 := n0_; have BK374 := n1_; have HB := n2_; clear n0_ n1_ n2_; (try clear hb); (try clear hb2); (try clear hk); (try clear hi)
              refine hK.out _ _ ⟨bc BK373 0, bc BK373 1, bc BK373 2, bc BK374 0, bc BK374 1, bc BK374 2⟩ (fun hHeld => ?_)
              clear hK K
              refine norm_ (a' := ?_) ?_ ?_
              rotate_left
              ·show Act.put _ (some 23) _ = _
               simp only [Act.put, List.setIfInBounds_toArray, List.set_cons_zero, List.set_cons_succ, i64_w, i32_w]
               rfl
              exact normA (hJ1 () _ ⟨hHeld, (qb BK373), (qb BK374), (qs HB)⟩)
             ·skip
              refine box_step ?hg (N := 10) ?hd (cs := #[.bool false, .int .i64 0, .int .i64 0, .int .i64 0, .slice none 0 0, .int .i64 0]) (t := 50) ?hr ?_; (case hd => rfl); (case hg => rfl); (case hr => first | (go_simp; done) | (go_simp; rfl))
              intro gb393 hg w27 hbox hb
              have n0_ := bkb BK373 hb; have n1_ := bkb BK374 hb; have n2_ := bst HB hb
              have n3_ := Aside0.mk (hbox)
              have n4_ := nge HB hg; have n5_ := nge HB hg; have n6_ := nlt BK373 hg; have n7_ := ngt BK373 hg; have n8_ := nlt BK374 hg; have n9_ := ngt BK374 hg; clear BK373 BK374 HB; have BK373 := n0_; have BK374 := n1_; have HB := n2_; have BK393 := n3_; have GW393 := n4_; have GE393 := n5_; have NB373_393 := n6_; have NB393_373 := n7_; have NB374_393 := n8_; have NB393_374 := n9_; clear n0_ n1_ n2_ n3_ n4_ n5_ n6_ n7_ n8_ n9_ hb hbox hg
              refine hK.out _ _ ⟨bc BK373 0, bc BK373 1, bc BK373 2, bc BK374 0, bc BK374 1, bc BK374 2⟩ (fun hHeld => ?_)
              clear hK K
              refine norm_ (a' := ?_) ?_ ?_
              rotate_left
              ·show Act.put _ (some 10) _ = _
               simp only [Act.put, List.setIfInBounds_toArray, List.set_cons_zero, List.set_cons_succ, i64_w, i32_w]
               rfl
              exact normA (hJ8 (gb393) _ ⟨hHeld, (qb BK373), (qb BK374), (qb BK393), GW393.out, GE393.out, NB373_393.out, NB393_373.out, NB374_393.out, NB393_374.out, (qs HB)⟩)
            ·skip
             rintro gb393 w28 ⟨hS_, h0_, h1_, h2_, h3_, h4_, h5_, h6_, h7_, h8_, h9_⟩
             have n0_ : Aside0 (w28.heap[gb373]? = some (.cells #[.int .i64 a0_0, .int .i64 a0_1, .int .i64 a0_2] 23 (0, 0))) := ⟨h0_⟩
             have n1_ : Aside0 (w28.heap[gb374]? = some (.cells #[.int .i64 a2_0, .int .i64 a2_1, .int .i64 a2_2] 47 (0, 0))) := ⟨h1_⟩
             have n2_ : Aside0 (w28.heap[gb393]? = some (.cells #[.bool false, .int .i64 0, .int .i64 0, .int .i64 0, .slice none 0 0, .int .i64 0] 50 (0, 0))) := ⟨h2_⟩
             have n3_ : Aside0 (w.heap.size ≤ gb393) := ⟨h3_⟩
             have n4_ : Aside0 (w.heap.size ≤ gb393) := ⟨h4_⟩
             have n5_ : Aside0 (gb373 ≠ gb393) := ⟨h5_⟩
             have n6_ : Aside0 (gb393 ≠ gb373) := ⟨h6_⟩
             have n7_ : Aside0 (gb374 ≠ gb393) := ⟨h7_⟩
             have n8_ : Aside0 (gb393 ≠ gb374) := ⟨h8_⟩
             have n9_ : Aside0 (Below w.heap.size w w28) := ⟨h9_⟩
             clear BK373 BK374 HB h0_ h1_ h2_ h3_ h4_ h5_ h6_ h7_ h8_ h9_; have BK373 := n0_; have BK374 := n1_; have BK393 := n2_; have GW393 := n3_; have GE393 := n4_; have NB373_393 := n5_; have NB393_373 := n6_; have NB374_393 := n7_; have NB393_374 := n8_; have HB := n9_; clear n0_ n1_ n2_ n3_ n4_ n5_ n6_ n7_ n8_ n9_
             have hHeld : w28.cell? ⟨gb373, 0, none⟩ = some (.int .i64 a0_0) ∧ w28.cell? ⟨gb373, 1, none⟩ = some (.int .i64 a0_1) ∧ w28.cell? ⟨gb373, 2, none⟩ = some (.int .i64 a0_2) ∧ w28.cell? ⟨gb374, 0, none⟩ = some (.int .i64 a2_0) ∧ w28.cell? ⟨gb374, 1, none⟩ = some (.int .i64 a2_1) ∧ w28.cell? ⟨gb374, 2, none⟩ = some (.int .i64 a2_2) := hS_
             refine norm_ (a' := ?_) ?_ ?_
             rotate_left
             ·simp only [putAll, Act.put, List.setIfInBounds_toArray, List.set_cons_zero, List.set_cons_succ]
              rfl
             refine one_ (i := 1) (N := some 23) #[true, true, true, true, false, true, false, false, true, false] rfl rfl (one_of HT_.out (by kernel_rfl)) (by decide) (fun K hK => ?_)
             refine goesA Try.func13 #[.agg #[.int .i64 a0_0, .int .i64 a0_1, .int .i64 a0_2]] ?_
             with_reducible refine (laws_toRules.calls a0_0 a0_1 a0_2 t376 t377 t378 _ A9.out).mono ?_
             rintro e w29 ⟨rfl, hb⟩
             refine ⟨_, rfl, ?_⟩
             have n0_ := bkb BK373 hb; have n1_ := bkb BK374 hb; have n2_ := bkb BK393 hb; have n3_ := bst HB hb; clear BK373 BK374 BK393 HB; have BK373 := n0_; have BK374 := n1_; have BK393 := n2_; have HB := n3_; clear n0_ n1_ n2_ n3_; (try clear hb); (try clear hb2); (try clear hk); (try clear hi)
             refine hK.out _ _ ⟨bc BK373 0, bc BK373 1, bc BK373 2, bc BK374 0, bc BK374 1, bc BK374 2⟩ (fun hHeld => ?_)
             clear hK K
             refine norm_ (a' := ?_) ?_ ?_
             rotate_left
             ·show Act.put _ (some 23) _ = _
              simp only [Act.put, List.setIfInBounds_toArray, List.set_cons_zero, List.set_cons_succ, i64_w, i32_w]
              rfl
             exact normA (hJ1_8 (gb393) _ ⟨hHeld, (qb BK373), (qb BK374), (qb BK393), GW393.out, GE393.out, NB373_393.out, NB393_373.out, NB374_393.out, NB393_374.out, (qs HB)⟩)
           ·skip
            rintro _ w28 ⟨hS_, h0_, h1_, h2_⟩
            have n0_ : Aside0 (w28.heap[gb373]? = some (.cells #[.int .i64 a0_0, .int .i64 a0_1, .int .i64 a0_2] 23 (0, 0))) := ⟨h0_⟩
            have n1_ : Aside0 (w28.heap[gb374]? = some (.cells #[.int .i64 a2_0, .int .i64 a2_1, .int .i64 a2_2] 47 (0, 0))) := ⟨h1_⟩
            have n2_ : Aside0 (Below w.heap.size w w28) := ⟨h2_⟩
            clear BK373 BK374 HB h0_ h1_ h2_; have BK373 := n0_; have BK374 := n1_; have HB := n2_; clear n0_ n1_ n2_
            have hHeld : w28.cell? ⟨gb373, 0, none⟩ = some (.int .i64 a0_0) ∧ w28.cell? ⟨gb373, 1, none⟩ = some (.int .i64 a0_1) ∧ w28.cell? ⟨gb373, 2, none⟩ = some (.int .i64 a0_2) ∧ w28.cell? ⟨gb374, 0, none⟩ = some (.int .i64 a2_0) ∧ w28.cell? ⟨gb374, 1, none⟩ = some (.int .i64 a2_1) ∧ w28.cell? ⟨gb374, 2, none⟩ = some (.int .i64 a2_2) := hS_
            refine norm_ (a' := ?_) ?_ ?_
            rotate_left
            ·simp only [putAll, Act.put, List.setIfInBounds_toArray, List.set_cons_zero, List.set_cons_succ]
             rfl
            refine two_ (i := 4) (j := 8) (Ni := some 26) (Nj := some 10) #[true, true, true, true, true, true, false, false, false, false] #[true, true, true, true, false, true, false, false, true, false] rfl rfl rfl rfl (two_of HT_.out (by kernel_rfl)) (by decide) (by decide) (fun K hK => ?_) (fun K hK => ?_)
            ·skip
             refine goesA Try.func26 #[.agg #[.int .i64 a2_0, .int .i64 a2_1, .int .i64 a2_2]] ?_
             with_reducible refine (laws_toTrain.calls a2_0 a2_1 a2_2 t379 t380 t381 _ A10.out).mono ?_
             rintro e w29 ⟨rfl, hb⟩
             refine ⟨_, rfl, ?_⟩
             have n0_ := bkb BK373 hb; have n1_ := bkb BK374 hb; have n2_ := bst HB hb; clear BK373 BK374 HB; have BK373 := n0_; have BK374 := n1_; have HB := n2_; clear n0_ n1_ n2_; (try clear hb); (try clear hb2); (try clear hk); (try clear hi)
             refine hK.out _ _ ⟨bc BK373 0, bc BK373 1, bc BK373 2, bc BK374 0, bc BK374 1, bc BK374 2⟩ (fun hHeld => ?_)
             clear hK K
             refine norm_ (a' := ?_) ?_ ?_
             rotate_left
             ·show Act.put _ (some 26) _ = _
              simp only [Act.put, List.setIfInBounds_toArray, List.set_cons_zero, List.set_cons_succ, i64_w, i32_w]
              rfl
             exact normA (hJ1_4 () _ ⟨hHeld, (qb BK373), (qb BK374), (qs HB)⟩)
            ·skip
             refine box_step ?hg (N := 10) ?hd (cs := #[.bool false, .int .i64 0, .int .i64 0, .int .i64 0, .slice none 0 0, .int .i64 0]) (t := 50) ?hr ?_; (case hd => rfl); (case hg => rfl); (case hr => first | (go_simp; done) | (go_simp; rfl))
             intro gb393 hg w29 hbox hb
             have n0_ := bkb BK373 hb; have n1_ := bkb BK374 hb; have n2_ := bst HB hb
             have n3_ := Aside0.mk (hbox)
             have n4_ := nge HB hg; have n5_ := nge HB hg; have n6_ := nlt BK373 hg; have n7_ := ngt BK373 hg; have n8_ := nlt BK374 hg; have n9_ := ngt BK374 hg; clear BK373 BK374 HB; have BK373 := n0_; have BK374 := n1_; have HB := n2_; have BK393 := n3_; have GW393 := n4_; have GE393 := n5_; have NB373_393 := n6_; have NB393_373 := n7_; have NB374_393 := n8_; have NB393_374 := n9_; clear n0_ n1_ n2_ n3_ n4_ n5_ n6_ n7_ n8_ n9_ hb hbox hg
             refine hK.out _ _ ⟨bc BK373 0, bc BK373 1, bc BK373 2, bc BK374 0, bc BK374 1, bc BK374 2⟩ (fun hHeld => ?_)
             clear hK K
             refine norm_ (a' := ?_) ?_ ?_
             rotate_left
             ·show Act.put _ (some 10) _ = _
              simp only [Act.put, List.setIfInBounds_toArray, List.set_cons_zero, List.set_cons_succ, i64_w, i32_w]
              rfl
             exact normA (hJ1_8 (gb393) _ ⟨hHeld, (qb BK373), (qb BK374), (qb BK393), GW393.out, GE393.out, NB373_393.out, NB393_373.out, NB374_393.out, NB393_374.out, (qs HB)⟩)
          ·skip
           rintro gb393 w29 ⟨hS_, h0_, h1_, h2_, h3_, h4_, h5_, h6_, h7_, h8_, h9_⟩
           have n0_ : Aside0 (w29.heap[gb373]? = some (.cells #[.int .i64 a0_0, .int .i64 a0_1, .int .i64 a0_2] 23 (0, 0))) := ⟨h0_⟩
           have n1_ : Aside0 (w29.heap[gb374]? = some (.cells #[.int .i64 a2_0, .int .i64 a2_1, .int .i64 a2_2] 47 (0, 0))) := ⟨h1_⟩
           have n2_ : Aside0 (w29.heap[gb393]? = some (.cells #[.bool false, .int .i64 0, .int .i64 0, .int .i64 0, .slice none 0 0, .int .i64 0] 50 (0, 0))) := ⟨h2_⟩
           have n3_ : Aside0 (w.heap.size ≤ gb393) := ⟨h3_⟩
           have n4_ : Aside0 (w.heap.size ≤ gb393) := ⟨h4_⟩
           have n5_ : Aside0 (gb373 ≠ gb393) := ⟨h5_⟩
           have n6_ : Aside0 (gb393 ≠ gb373) := ⟨h6_⟩
           have n7_ : Aside0 (gb374 ≠ gb393) := ⟨h7_⟩
           have n8_ : Aside0 (gb393 ≠ gb374) := ⟨h8_⟩
           have n9_ : Aside0 (Below w.heap.size w w29) := ⟨h9_⟩
           clear BK373 BK374 HB h0_ h1_ h2_ h3_ h4_ h5_ h6_ h7_ h8_ h9_; have BK373 := n0_; have BK374 := n1_; have BK393 := n2_; have GW393 := n3_; have GE393 := n4_; have NB373_393 := n5_; have NB393_373 := n6_; have NB374_393 := n7_; have NB393_374 := n8_; have HB := n9_; clear n0_ n1_ n2_ n3_ n4_ n5_ n6_ n7_ n8_ n9_
           have hHeld : w29.cell? ⟨gb373, 0, none⟩ = some (.int .i64 a0_0) ∧ w29.cell? ⟨gb373, 1, none⟩ = some (.int .i64 a0_1) ∧ w29.cell? ⟨gb373, 2, none⟩ = some (.int .i64 a0_2) ∧ w29.cell? ⟨gb374, 0, none⟩ = some (.int .i64 a2_0) ∧ w29.cell? ⟨gb374, 1, none⟩ = some (.int .i64 a2_1) ∧ w29.cell? ⟨gb374, 2, none⟩ = some (.int .i64 a2_2) := hS_
           refine norm_ (a' := ?_) ?_ ?_
           rotate_left
           ·simp only [putAll, Act.put, List.setIfInBounds_toArray, List.set_cons_zero, List.set_cons_succ]
            rfl
           refine one_ (i := 4) (N := some 26) #[true, true, true, true, true, true, false, false, true, false] rfl rfl (one_of HT_.out (by kernel_rfl)) (by decide) (fun K hK => ?_)
           refine goesA Try.func26 #[.agg #[.int .i64 a2_0, .int .i64 a2_1, .int .i64 a2_2]] ?_
           with_reducible refine (laws_toTrain.calls a2_0 a2_1 a2_2 t379 t380 t381 _ A10.out).mono ?_
           rintro e w30 ⟨rfl, hb⟩
           refine ⟨_, rfl, ?_⟩
           have n0_ := bkb BK373 hb; have n1_ := bkb BK374 hb; have n2_ := bkb BK393 hb; have n3_ := bst HB hb; clear BK373 BK374 BK393 HB; have BK373 := n0_; have BK374 := n1_; have BK393 := n2_; have HB := n3_; clear n0_ n1_ n2_ n3_; (try clear hb); (try clear hb2); (try clear hk); (try clear hi)
           refine hK.out _ _ ⟨bc BK373 0, bc BK373 1, bc BK373 2, bc BK374 0, bc BK374 1, bc BK374 2⟩ (fun hHeld => ?_)
           clear hK K
           refine norm_ (a' := ?_) ?_ ?_
           rotate_left
           ·show Act.put _ (some 26) _ = _
            simp only [Act.put, List.setIfInBounds_toArray, List.set_cons_zero, List.set_cons_succ, i64_w, i32_w]
            rfl
           exact normA (hJ1_4_8 (gb393) _ ⟨hHeld, (qb BK373), (qb BK374), (qb BK393), GW393.out, GE393.out, NB373_393.out, NB393_373.out, NB374_393.out, NB393_374.out, (qs HB)⟩)
         ·skip
          rintro _ w29 ⟨hS_, h0_, h1_, h2_⟩
          have n0_ : Aside0 (w29.heap[gb373]? = some (.cells #[.int .i64 a0_0, .int .i64 a0_1, .int .i64 a0_2] 23 (0, 0))) := ⟨h0_⟩
          have n1_ : Aside0 (w29.heap[gb374]? = some (.cells #[.int .i64 a2_0, .int .i64 a2_1, .int .i64 a2_2] 47 (0, 0))) := ⟨h1_⟩
          have n2_ : Aside0 (Below w.heap.size w w29) := ⟨h2_⟩
          clear BK373 BK374 HB h0_ h1_ h2_; have BK373 := n0_; have BK374 := n1_; have HB := n2_; clear n0_ n1_ n2_
          have hHeld : w29.cell? ⟨gb373, 0, none⟩ = some (.int .i64 a0_0) ∧ w29.cell? ⟨gb373, 1, none⟩ = some (.int .i64 a0_1) ∧ w29.cell? ⟨gb373, 2, none⟩ = some (.int .i64 a0_2) ∧ w29.cell? ⟨gb374, 0, none⟩ = some (.int .i64 a2_0) ∧ w29.cell? ⟨gb374, 1, none⟩ = some (.int .i64 a2_1) ∧ w29.cell? ⟨gb374, 2, none⟩ = some (.int .i64 a2_2) := hS_
          refine norm_ (a' := ?_) ?_ ?_
          rotate_left
          ·simp only [putAll, Act.put, List.setIfInBounds_toArray, List.set_cons_zero, List.set_cons_succ]
           rfl
          refine two_ (i := 6) (j := 8) (Ni := some 28) (Nj := some 10) #[true, true, true, true, true, true, true, false, false, false] #[true, true, true, true, true, true, false, false, true, false] rfl rfl rfl rfl (two_of HT_.out (by kernel_rfl)) (by decide) (by decide) (fun K hK => ?_) (fun K hK => ?_)
          ·skip
           refine goesA Try.func16 #[.slice A3 l3.length c3] ?_
           with_reducible refine (laws_toPacketS.calls k _ _ l3 t382 _ ?side1 ?side2 A11.out).mono ?_
           (case side1 => exact qc (Kd.C_below HR3.out HB.out))
           (case side2 => exact HC3.out)
           rintro e w30 ⟨v383, rfl, ho0, hb⟩
           refine ⟨_, rfl, ?_⟩
           have n0_ := Aside0.mk (Kd.R_lower ho0 (below_size (qs HB)))
           have n1_ := bkb BK373 hb; have n2_ := bkb BK374 hb; have n3_ := bst HB hb; clear BK373 BK374 HB; have HO384 := n0_; have BK373 := n1_; have BK374 := n2_; have HB := n3_; clear n0_ n1_ n2_ n3_; (try clear hb); (try clear hb2); (try clear hk); (try clear hi); (try clear ho0)
           refine hK.out _ _ ⟨bc BK373 0, bc BK373 1, bc BK373 2, bc BK374 0, bc BK374 1, bc BK374 2⟩ (fun hHeld => ?_)
           clear hK K
           refine norm_ (a' := ?_) ?_ ?_
           rotate_left
           ·show Act.put _ (some 28) _ = _
            simp only [Act.put, List.setIfInBounds_toArray, List.set_cons_zero, List.set_cons_succ, i64_w, i32_w]
            rfl
           exact normA (hJ1_4_6 (v383) _ ⟨hHeld, (qr HO384), (qb BK373), (qb BK374), (qs HB)⟩)
          ·skip
           refine box_step ?hg (N := 10) ?hd (cs := #[.bool false, .int .i64 0, .int .i64 0, .int .i64 0, .slice none 0 0, .int .i64 0]) (t := 50) ?hr ?_; (case hd => rfl); (case hg => rfl); (case hr => first | (go_simp; done) | (go_simp; rfl))
           intro gb393 hg w30 hbox hb
           have n0_ := bkb BK373 hb; have n1_ := bkb BK374 hb; have n2_ := bst HB hb
           have n3_ := Aside0.mk (hbox)
           have n4_ := nge HB hg; have n5_ := nge HB hg; have n6_ := nlt BK373 hg; have n7_ := ngt BK373 hg; have n8_ := nlt BK374 hg; have n9_ := ngt BK374 hg; clear BK373 BK374 HB; have BK373 := n0_; have BK374 := n1_; have HB := n2_; have BK393 := n3_; have GW393 := n4_; have GE393 := n5_; have NB373_393 := n6_; have NB393_373 := n7_; have NB374_393 := n8_; have NB393_374 := n9_; clear n0_ n1_ n2_ n3_ n4_ n5_ n6_ n7_ n8_ n9_ hb hbox hg
           refine hK.out _ _ ⟨bc BK373 0, bc BK373 1, bc BK373 2, bc BK374 0, bc BK374 1, bc BK374 2⟩ (fun hHeld => ?_)
           clear hK K
           refine norm_ (a' := ?_) ?_ ?_
           rotate_left
           ·show Act.put _ (some 10) _ = _
            simp only [Act.put, List.setIfInBounds_toArray, List.set_cons_zero, List.set_cons_succ, i64_w, i32_w]
            rfl
           exact normA (hJ1_4_8 (gb393) _ ⟨hHeld, (qb BK373), (qb BK374), (qb BK393), GW393.out, GE393.out, NB373_393.out, NB393_373.out, NB374_393.out, NB393_374.out, (qs HB)⟩)
        ·skip
         rintro gb393 w30 ⟨hS_, h0_, h1_, h2_, h3_, h4_, h5_, h6_, h7_, h8_, h9_⟩
         have n0_ : Aside0 (w30.heap[gb373]? = some (.cells #[.int .i64 a0_0, .int .i64 a0_1, .int .i64 a0_2] 23 (0, 0))) := ⟨h0_⟩
         have n1_ : Aside0 (w30.heap[gb374]? = some (.cells #[.int .i64 a2_0, .int .i64 a2_1, .int .i64 a2_2] 47 (0, 0))) := ⟨h1_⟩
         have n2_ : Aside0 (w30.heap[gb393]? = some (.cells #[.bool false, .int .i64 0, .int .i64 0, .int .i64 0, .slice none 0 0, .int .i64 0] 50 (0, 0))) := ⟨h2_⟩
         have n3_ : Aside0 (w.heap.size ≤ gb393) := ⟨h3_⟩
         have n4_ : Aside0 (w.heap.size ≤ gb393) := ⟨h4_⟩
         have n5_ : Aside0 (gb373 ≠ gb393) := ⟨h5_⟩
         have n6_ : Aside0 (gb393 ≠ gb373) := ⟨h6_⟩
         have n7_ : Aside0 (gb374 ≠ gb393) := ⟨h7_⟩
         have n8_ : Aside0 (gb393 ≠ gb374) := ⟨h8_⟩
         have n9_ : Aside0 (Below w.heap.size w w30) := ⟨h9_⟩
         clear BK373 BK374 HB h0_ h1_ h2_ h3_ h4_ h5_ h6_ h7_ h8_ h9_; have BK373 := n0_; have BK374 := n1_; have BK393 := n2_; have GW393 := n3_; have GE393 := n4_; have NB373_393 := n5_; have NB393_373 := n6_; have NB374_393 := n7_; have NB393_374 := n8_; have HB := n9_; clear n0_ n1_ n2_ n3_ n4_ n5_ n6_ n7_ n8_ n9_
         have hHeld : w30.cell? ⟨gb373, 0, none⟩ = some (.int .i64 a0_0) ∧ w30.cell? ⟨gb373, 1, none⟩ = some (.int .i64 a0_1) ∧ w30.cell? ⟨gb373, 2, none⟩ = some (.int .i64 a0_2) ∧ w30.cell? ⟨gb374, 0, none⟩ = some (.int .i64 a2_0) ∧ w30.cell? ⟨gb374, 1, none⟩ = some (.int .i64 a2_1) ∧ w30.cell? ⟨gb374, 2, none⟩ = some (.int .i64 a2_2) := hS_
         refine norm_ (a' := ?_) ?_ ?_
         rotate_left
         ·simp only [putAll, Act.put, List.setIfInBounds_toArray, List.set_cons_zero, List.set_cons_succ]
          rfl
         refine one_ (i := 6) (N := some 28) #[true, true, true, true, true, true, true, false, true, false] rfl rfl (one_of HT_.out (by kernel_rfl)) (by decide) (fun K hK => ?_)
         refine goesA Try.func16 #[.slice A3 l3.length c3] ?_
         with_reducible refine (laws_toPacketS.calls k _ _ l3 t382 _ ?side1 ?side2 A11.out).mono ?_
         (case side1 => exact qc (Kd.C_below HR3.out HB.out))
         (case side2 => exact HC3.out)
         rintro e w31 ⟨v383, rfl, ho0, hb⟩
         refine ⟨_, rfl, ?_⟩
         have n0_ := Aside0.mk (Kd.R_lower ho0 (below_size (qs HB)))
         have n1_ := bkb BK373 hb; have n2_ := bkb BK374 hb; have n3_ := bkb BK393 hb; have n4_ := bst HB hb; clear BK373 BK374 BK393 HB; have HO384 := n0_; have BK373 := n1_; have BK374 := n2_; have BK393 := n3_; have HB := n4_; clear n0_ n1_ n2_ n3_ n4_; (try clear hb); (try clear hb2); (try clear hk); (try clear hi); (try clear ho0)
         refine hK.out _ _ ⟨bc BK373 0, bc BK373 1, bc BK373 2, bc BK374 0, bc BK374 1, bc BK374 2⟩ (fun hHeld => ?_)
         clear hK K
         refine norm_ (a' := ?_) ?_ ?_
         rotate_left
         ·show Act.put _ (some 28) _ = _
          simp only [Act.put, List.setIfInBounds_toArray, List.set_cons_zero, List.set_cons_succ, i64_w, i32_w]
          rfl
         exact normA (hJ1_4_6_8 (v383, gb393) _ ⟨hHeld, (qr HO384), (qb BK373), (qb BK374), (qb BK393), GW393.out, GE393.out, NB373_393.out, NB393_373.out, NB374_393.out, NB393_374.out, (qs HB)⟩)
       ·skip
        rintro v383 w30 ⟨hS_, h0_, h1_, h2_, h3_⟩
        have n0_ : Aside0 (Kd.R k60 60 w30 w.heap.size (fun _ => True) v383 t382) := ⟨h0_⟩
        have n1_ : Aside0 (w30.heap[gb373]? = some (.cells #[.int .i64 a0_0, .int .i64 a0_1, .int .i64 a0_2] 23 (0, 0))) := ⟨h1_⟩
        have n2_ : Aside0 (w30.heap[gb374]? = some (.cells #[.int .i64 a2_0, .int .i64 a2_1, .int .i64 a2_2] 47 (0, 0))) := ⟨h2_⟩
        have n3_ : Aside0 (Below w.heap.size w w30) := ⟨h3_⟩
        clear BK373 BK374 HB h0_ h1_ h2_ h3_; have HO384 := n0_; have BK373 := n1_; have BK374 := n2_; have HB := n3_; clear n0_ n1_ n2_ n3_
        have hHeld : w30.cell? ⟨gb373, 0, none⟩ = some (.int .i64 a0_0) ∧ w30.cell? ⟨gb373, 1, none⟩ = some (.int .i64 a0_1) ∧ w30.cell? ⟨gb373, 2, none⟩ = some (.int .i64 a0_2) ∧ w30.cell? ⟨gb374, 0, none⟩ = some (.int .i64 a2_0) ∧ w30.cell? ⟨gb374, 1, none⟩ = some (.int .i64 a2_1) ∧ w30.cell? ⟨gb374, 2, none⟩ = some (.int .i64 a2_2) := hS_
        obtain ⟨Ao31, co31, eo31⟩ := Kd.R_slice HO384.out
        (first | subst eo31 | (injection eo31 with f1_ f2_ f3_; have f4_ := f1_.symm; have f5_ := f3_.symm; clear f1_ f2_ f3_; subst f4_; subst f5_))
        refine norm_ (a' := ?_) ?_ ?_
        rotate_left
        ·simp only [putAll, Act.put, List.setIfInBounds_toArray, List.set_cons_zero, List.set_cons_succ]
         rfl
        refine two_ (i := 7) (j := 8) (Ni := some 29) (Nj := some 10) #[true, true, true, true, true, true, true, true, false, false] #[true, true, true, true, true, true, true, false, true, false] rfl rfl rfl rfl (two_of HT_.out (by kernel_rfl)) (by decide) (by decide) (fun K hK => ?_) (fun K hK => ?_)
        ·skip
         refine goesA Try.func25 #[.agg #[.int .i64 t376, .int .i64 t377, .int .i64 t378], .int .i64 a1, .agg #[.int .i64 t379, .int .i64 t380, .int .i64 t381], .slice Ao31 t382.length co31] ?_
         with_reducible refine (spec_TrainTick.calls k t376 t377 t378 a1 t379 t380 t381 _ _ t382 t385 t386 t387 t388 t389 t392 _ ?side1 ?side2 A12.out).mono ?_
         (case side1 => exact qc (Kd.R_reads' HO384.out).2.2)
         (case side2 => exact (Kd.R_reads' HO384.out).2.1)
         rintro e w32 ⟨v390, rfl, ho0, hb⟩
         refine ⟨_, rfl, ?_⟩
         have n0_ := Aside0.mk (Kd.R_elder' (qr HO384) (Kd.R_base ho0) hb)
         have n1_ := Aside0.mk (Kd.R_lower (Kd.R_new' ho0 (Kd.R_lt (qr HO384))) (below_size (qs HB)))
         have n2_ := bkb BK373 hb; have n3_ := bkb BK374 hb; have n4_ := bst HB hb; clear HO384 BK373 BK374 HB; have HO384 := n0_; have HO391 := n1_; have BK373 := n2_; have BK374 := n3_; have HB := n4_; clear n0_ n1_ n2_ n3_ n4_; (try clear hb); (try clear hb2); (try clear hk); (try clear hi); (try clear ho0)
         refine hK.out _ _ ⟨bc BK373 0, bc BK373 1, bc BK373 2, bc BK374 0, bc BK374 1, bc BK374 2⟩ (fun hHeld => ?_)
         clear hK K
         refine norm_ (a' := ?_) ?_ ?_
         rotate_left
         ·show Act.put _ (some 29) _ = _
          simp only [Act.put, List.setIfInBounds_toArray, List.set_cons_zero, List.set_cons_succ, i64_w, i32_w]
          rfl
         exact normA (hJ1_4_6_7 (.slice Ao31 t382.length co31, v390) _ ⟨hHeld, (qm HO384 (fun _ hk => hk.2)), (qm HO391 (fun _ hk => hk.2)), (qb BK373), (qb BK374), (qs HB)⟩)
        ·skip
         refine box_step ?hg (N := 10) ?hd (cs := #[.bool false, .int .i64 0, .int .i64 0, .int .i64 0, .slice none 0 0, .int .i64 0]) (t := 50) ?hr ?_; (case hd => rfl); (case hg => rfl); (case hr => first | (go_simp; done) | (go_simp; rfl))
         intro gb393 hg w31 hbox hb
         have n0_ := rbl HO384 hb; have n1_ := bkb BK373 hb; have n2_ := bkb BK374 hb; have n3_ := bst HB hb
         have n4_ := Aside0.mk (hbox)
         have n5_ := nge HB hg; have n6_ := nge HB hg; have n7_ := nlt BK373 hg; have n8_ := ngt BK373 hg; have n9_ := nlt BK374 hg; have n10_ := ngt BK374 hg; clear HO384 BK373 BK374 HB; have HO384 := n0_; have BK373 := n1_; have BK374 := n2_; have HB := n3_; have BK393 := n4_; have GW393 := n5_; have GE393 := n6_; have NB373_393 := n7_; have NB393_373 := n8_; have NB374_393 := n9_; have NB393_374 := n10_; clear n0_ n1_ n2_ n3_ n4_ n5_ n6_ n7_ n8_ n9_ n10_ hb hbox hg
         refine hK.out _ _ ⟨bc BK373 0, bc BK373 1, bc BK373 2, bc BK374 0, bc BK374 1, bc BK374 2⟩ (fun hHeld => ?_)
         clear hK K
         refine norm_ (a' := ?_) ?_ ?_
         rotate_left
         ·show Act.put _ (some 10) _ = _
          simp only [Act.put, List.setIfInBounds_toArray, List.set_cons_zero, List.set_cons_succ, i64_w, i32_w]
          rfl
         exact normA (hJ1_4_6_8 (.slice Ao31 t382.length co31, gb393) _ ⟨hHeld, (qr HO384), (qb BK373), (qb BK374), (qb BK393), GW393.out, GE393.out, NB373_393.out, NB393_373.out, NB374_393.out, NB393_374.out, (qs HB)⟩)
      ·skip
       rintro ⟨v383, gb393⟩ w31 ⟨hS_, h0_, h1_, h2_, h3_, h4_, h5_, h6_, h7_, h8_, h9_, h10_⟩
       have n0_ : Aside0 (Kd.R k60 60 w31 w.heap.size (fun _ => True) v383 t382) := ⟨h0_⟩
       have n1_ : Aside0 (w31.heap[gb373]? = some (.cells #[.int .i64 a0_0, .int .i64 a0_1, .int .i64 a0_2] 23 (0, 0))) := ⟨h1_⟩
       have n2_ : Aside0 (w31.heap[gb374]? = some (.cells #[.int .i64 a2_0, .int .i64 a2_1, .int .i64 a2_2] 47 (0, 0))) := ⟨h2_⟩
       have n3_ : Aside0 (w31.heap[gb393]? = some (.cells #[.bool false, .int .i64 0, .int .i64 0, .int .i64 0, .slice none 0 0, .int .i64 0] 50 (0, 0))) := ⟨h3_⟩
       have n4_ : Aside0 (w.heap.size ≤ gb393) := ⟨h4_⟩
       have n5_ : Aside0 (w.heap.size ≤ gb393) := ⟨h5_⟩
       have n6_ : Aside0 (gb373 ≠ gb393) := ⟨h6_⟩
       have n7_ : Aside0 (gb393 ≠ gb373) := ⟨h7_⟩
       have n8_ : Aside0 (gb374 ≠ gb393) := ⟨h8_⟩
       have n9_ : Aside0 (gb393 ≠ gb374) := ⟨h9_⟩
       have n10_ : Aside0 (Below w.heap.size w w31) := ⟨h10_⟩
       clear BK373 BK374 HB h0_ h1_ h2_ h3_ h4_ h5_ h6_ h7_ h8_ h9_ h10_; have HO384 := n0_; have BK373 := n1_; have BK374 := n2_; have BK393 := n3_; have GW393 := n4_; have GE393 := n5_; have NB373_393 := n6_; have NB393_373 := n7_; have NB374_393 := n8_; have NB393_374 := n9_; have HB := n10_; clear n0_ n1_ n2_ n3_ n4_ n5_ n6_ n7_ n8_ n9_ n10_
       have hHeld : w31.cell? ⟨gb373, 0, none⟩ = some (.int .i64 a0_0) ∧ w31.cell? ⟨gb373, 1, none⟩ = some (.int .i64 a0_1) ∧ w31.cell? ⟨gb373, 2, none⟩ = some (.int .i64 a0_2) ∧ w31.cell? ⟨gb374, 0, none⟩ = some (.int .i64 a2_0) ∧ w31.cell? ⟨gb374, 1, none⟩ = some (.int .i64 a2_1) ∧ w31.cell? ⟨gb374, 2, none⟩ = some (.int .i64 a2_2) := hS_
       obtain ⟨Ao32, co32, eo32⟩ := Kd.R_slice HO384.out
       (first | subst eo32 | (injection eo32 with f1_ f2_ f3_; have f4_ := f1_.symm; have f5_ := f3_.symm; clear f1_ f2_ f3_; subst f4_; subst f5_))
       refine norm_ (a' := ?_) ?_ ?_
       rotate_left
       ·simp only [putAll, Act.put, List.setIfInBounds_toArray, List.set_cons_zero, List.set_cons_succ]
        rfl
       refine one_ (i := 7) (N := some 29) #[true, true, true, true, true, true, true, true, true, false] rfl rfl (one_of HT_.out (by kernel_rfl)) (by decide) (fun K hK => ?_)
       refine goesA Try.func25 #[.agg #[.int .i64 t376, .int .i64 t377, .int .i64 t378], .int .i64 a1, .agg #[.int .i64 t379, .int .i64 t380, .int .i64 t381], .slice Ao32 t382.length co32] ?_
       with_reducible refine (spec_TrainTick.calls k t376 t377 t378 a1 t379 t380 t381 _ _ t382 t385 t386 t387 t388 t389 t392 _ ?side1 ?side2 A12.out).mono ?_
       (case side1 => exact qc (Kd.R_reads' HO384.out).2.2)
       (case side2 => exact (Kd.R_reads' HO384.out).2.1)
       rintro e w33 ⟨v390, rfl, ho0, hb⟩
       refine ⟨_, rfl, ?_⟩
       have n0_ := Aside0.mk (Kd.R_elder' (qr HO384) (Kd.R_base ho0) hb)
       have n1_ := Aside0.mk (Kd.R_lower (Kd.R_new' ho0 (Kd.R_lt (qr HO384))) (below_size (qs HB)))
       have n2_ := bkb BK373 hb; have n3_ := bkb BK374 hb; have n4_ := bkb BK393 hb; have n5_ := bst HB hb; clear HO384 BK373 BK374 BK393 HB; have HO384 := n0_; have HO391 := n1_; have BK373 := n2_; have BK374 := n3_; have BK393 := n4_; have HB := n5_; clear n0_ n1_ n2_ n3_ n4_ n5_; (try clear hb); (try clear hb2); (try clear hk); (try clear hi); (try clear ho0)
       refine hK.out _ _ ⟨bc BK373 0, bc BK373 1, bc BK373 2, bc BK374 0, bc BK374 1, bc BK374 2⟩ (fun hHeld => ?_)
       clear hK K
       refine norm_ (a' := ?_) ?_ ?_
       rotate_left
       ·show Act.put _ (some 29) _ = _
        simp only [Act.put, List.setIfInBounds_toArray, List.set_cons_zero, List.set_cons_succ, i64_w, i32_w]
        rfl
       exact normA (hJ1_4_6_7_8 (.slice Ao32 t382.length co32, v390, gb393) _ ⟨hHeld, (qm HO384 (fun _ hk => hk.2)), (qm HO391 (fun _ hk => hk.2)), (qb BK373), (qb BK374), (qb BK393), GW393.out, GE393.out, NB373_393.out, NB393_373.out, NB374_393.out, NB393_374.out, (qs HB)⟩)
     ·skip
      rintro ⟨v383, v390⟩ w32 ⟨hS_, h0_, h1_, h2_, h3_, h4_⟩
      have n0_ : Aside0 (Kd.R k60 60 w32 w.heap.size (fun k_ => some k_ ≠ (v390 : Value).ownBlock) v383 t382) := ⟨h0_⟩
      have n1_ : Aside0 (Kd.R k60 60 w32 w.heap.size (fun k_ => some k_ ≠ (v383 : Value).ownBlock) v390 t389) := ⟨h1_⟩
      have n2_ : Aside0 (w32.heap[gb373]? = some (.cells #[.int .i64 a0_0, .int .i64 a0_1, .int .i64 a0_2] 23 (0, 0))) := ⟨h2_⟩
      have n3_ : Aside0 (w32.heap[gb374]? = some (.cells #[.int .i64 a2_0, .int .i64 a2_1, .int .i64 a2_2] 47 (0, 0))) := ⟨h3_⟩
      have n4_ : Aside0 (Below w.heap.size w w32) := ⟨h4_⟩
      clear BK373 BK374 HB h0_ h1_ h2_ h3_ h4_; have HO384 := n0_; have HO391 := n1_; have BK373 := n2_; have BK374 := n3_; have HB := n4_; clear n0_ n1_ n2_ n3_ n4_
      have hHeld : w32.cell? ⟨gb373, 0, none⟩ = some (.int .i64 a0_0) ∧ w32.cell? ⟨gb373, 1, none⟩ = some (.int .i64 a0_1) ∧ w32.cell? ⟨gb373, 2, none⟩ = some (.int .i64 a0_2) ∧ w32.cell? ⟨gb374, 0, none⟩ = some (.int .i64 a2_0) ∧ w32.cell? ⟨gb374, 1, none⟩ = some (.int .i64 a2_1) ∧ w32.cell? ⟨gb374, 2, none⟩ = some (.int .i64 a2_2) := hS_
      refine norm_ (a' := ?_) ?_ ?_
      rotate_left
      ·simp only [putAll, Act.put, List.setIfInBounds_toArray, List.set_cons_zero, List.set_cons_succ]
       rfl
      refine one_ (i := 8) (N := some 10) #[true, true, true, true, true, true, true, true, true, false] rfl rfl (one_of HT_.out (by kernel_rfl)) (by decide) (fun K hK => ?_)
      refine box_step ?hg (N := 10) ?hd (cs := #[.bool false, .int .i64 0, .int .i64 0, .int .i64 0, .slice none 0 0, .int .i64 0]) (t := 50) ?hr ?_; (case hd => rfl); (case hg => rfl); (case hr => first | (go_simp; done) | (go_simp; rfl))
      intro gb393 hg w33 hbox hb
      have n0_ := rbl HO384 hb; have n1_ := rbl HO391 hb; have n2_ := bkb BK373 hb; have n3_ := bkb BK374 hb; have n4_ := bst HB hb
      have n5_ := Aside0.mk (hbox)
      have n6_ := nge HB hg; have n7_ := nge HB hg; have n8_ := nlt BK373 hg; have n9_ := ngt BK373 hg; have n10_ := nlt BK374 hg; have n11_ := ngt BK374 hg; clear HO384 HO391 BK373 BK374 HB; have HO384 := n0_; have HO391 := n1_; have BK373 := n2_; have BK374 := n3_; have HB := n4_; have BK393 := n5_; have GW393 := n6_; have GE393 := n7_; have NB373_393 := n8_; have NB393_373 := n9_; have NB374_393 := n10_; have NB393_374 := n11_; clear n0_ n1_ n2_ n3_ n4_ n5_ n6_ n7_ n8_ n9_ n10_ n11_ hb hbox hg
      refine hK.out _ _ ⟨bc BK373 0, bc BK373 1, bc BK373 2, bc BK374 0, bc BK374 1, bc BK374 2⟩ (fun hHeld => ?_)
      clear hK K
      refine norm_ (a' := ?_) ?_ ?_
      rotate_left
      ·show Act.put _ (some 10) _ = _
       simp only [Act.put, List.setIfInBounds_toArray, List.set_cons_zero, List.set_cons_succ, i64_w, i32_w]
       rfl
      exact normA (hJ1_4_6_7_8 (v383, v390, gb393) _ ⟨hHeld, (qr HO384), (qr HO391), (qb BK373), (qb BK374), (qb BK393), GW393.out, GE393.out, NB373_393.out, NB393_373.out, NB374_393.out, NB393_374.out, (qs HB)⟩)
    rintro ⟨v383, v390, gb393⟩ w33 ⟨hS_, h0_, h1_, h2_, h3_, h4_, h5_, h6_, h7_, h8_, h9_, h10_, h11_⟩
    have n0_ : Aside0 (Kd.R k60 60 w33 w.heap.size (fun k_ => some k_ ≠ (v390 : Value).ownBlock) v383 t382) := ⟨h0_⟩
    have n1_ : Aside0 (Kd.R k60 60 w33 w.heap.size (fun k_ => some k_ ≠ (v383 : Value).ownBlock) v390 t389) := ⟨h1_⟩
    have n2_ : Aside0 (w33.heap[gb373]? = some (.cells #[.int .i64 a0_0, .int .i64 a0_1, .int .i64 a0_2] 23 (0, 0))) := ⟨h2_⟩
    have n3_ : Aside0 (w33.heap[gb374]? = some (.cells #[.int .i64 a2_0, .int .i64 a2_1, .int .i64 a2_2] 47 (0, 0))) := ⟨h3_⟩
    have n4_ : Aside0 (w33.heap[gb393]? = some (.cells #[.bool false, .int .i64 0, .int .i64 0, .int .i64 0, .slice none 0 0, .int .i64 0] 50 (0, 0))) := ⟨h4_⟩
    have n5_ : Aside0 (w.heap.size ≤ gb393) := ⟨h5_⟩
    have n6_ : Aside0 (w.heap.size ≤ gb393) := ⟨h6_⟩
    have n7_ : Aside0 (gb373 ≠ gb393) := ⟨h7_⟩
    have n8_ : Aside0 (gb393 ≠ gb373) := ⟨h8_⟩
    have n9_ : Aside0 (gb374 ≠ gb393) := ⟨h9_⟩
    have n10_ : Aside0 (gb393 ≠ gb374) := ⟨h10_⟩
    have n11_ : Aside0 (Below w.heap.size w w33) := ⟨h11_⟩
    clear BK373 BK374 HB h0_ h1_ h2_ h3_ h4_ h5_ h6_ h7_ h8_ h9_ h10_ h11_; have HO384 := n0_; have HO391 := n1_; have BK373 := n2_; have BK374 := n3_; have BK393 := n4_; have GW393 := n5_; have GE393 := n6_; have NB373_393 := n7_; have NB393_373 := n8_; have NB374_393 := n9_; have NB393_374 := n10_; have HB := n11_; clear n0_ n1_ n2_ n3_ n4_ n5_ n6_ n7_ n8_ n9_ n10_ n11_
    have hHeld : w33.cell? ⟨gb373, 0, none⟩ = some (.int .i64 a0_0) ∧ w33.cell? ⟨gb373, 1, none⟩ = some (.int .i64 a0_1) ∧ w33.cell? ⟨gb373, 2, none⟩ = some (.int .i64 a0_2) ∧ w33.cell? ⟨gb374, 0, none⟩ = some (.int .i64 a2_0) ∧ w33.cell? ⟨gb374, 1, none⟩ = some (.int .i64 a2_1) ∧ w33.cell? ⟨gb374, 2, none⟩ = some (.int .i64 a2_2) := hS_
    obtain ⟨Ao38, co38, eo38⟩ := Kd.R_slice HO391.out
    (first | subst eo38 | (injection eo38 with f1_ f2_ f3_; have f4_ := f1_.symm; have f5_ := f3_.symm; clear f1_ f2_ f3_; subst f4_; subst f5_))
    refine norm_ (a' := ?_) ?_ ?_
    rotate_left
    ·simp only [putAll, Act.put, List.setIfInBounds_toArray, List.set_cons_zero, List.set_cons_succ]
     rfl
    refine one_ (i := 9) (N := none) #[true, true, true, true, true, true, true, true, true, true] rfl rfl (one_of HT_.out (by kernel_rfl)) (by decide) (fun K hK => ?_)
    have hs34 : w33.cell? ⟨gb393, 0, none⟩ = some (.bool false) := bc BK393 0
    have hfs34 := blk_frozen BK393.out 0
    have hns34_0 := NB373_393.out
    have hns34_1 := NB374_393.out
    have hms34_0 := NB393_373.out
    have hms34_1 := NB393_374.out
    have hs35 : w33.cell? ⟨gb393, 1, none⟩ = some (.int .i64 0) := bc BK393 1
    have hfs35 := blk_frozen BK393.out 1
    have hns35_0 := NB373_393.out
    have hns35_1 := NB374_393.out
    have hms35_0 := NB393_373.out
    have hms35_1 := NB393_374.out
    have hs36 : w33.cell? ⟨gb393, 2, none⟩ = some (.int .i64 0) := bc BK393 2
    have hfs36 := blk_frozen BK393.out 2
    have hns36_0 := NB373_393.out
    have hns36_1 := NB374_393.out
    have hms36_0 := NB393_373.out
    have hms36_1 := NB393_374.out
    have hs37 : w33.cell? ⟨gb393, 3, none⟩ = some (.int .i64 0) := bc BK393 3
    have hfs37 := blk_frozen BK393.out 3
    have hns37_0 := NB373_393.out
    have hns37_1 := NB374_393.out
    have hms37_0 := NB393_373.out
    have hms37_1 := NB393_374.out
    have hs39 : w33.cell? ⟨gb393, 4, none⟩ = some (.slice none 0 0) := bc BK393 4
    have hfs39 := blk_frozen BK393.out 4
    have hns39_0 := NB373_393.out
    have hns39_1 := NB374_393.out
    have hms39_0 := NB393_373.out
    have hms39_1 := NB393_374.out
    have hs40 : w33.cell? ⟨gb393, 5, none⟩ = some (.int .i64 0) := bc BK393 5
    have hfs40 := blk_frozen BK393.out 5
    have hns40_0 := NB373_393.out
    have hns40_1 := NB374_393.out
    have hms40_0 := NB393_373.out
    have hms40_1 := NB393_374.out
    refine skip_ (w1 := ?_) (by rfl) rfl ?_ ?_
    rotate_left
    ·go_simp
     rfl
    refine hK.out _ _ ⟨(cf NB373_393 ((cf NB373_393 ((cf NB373_393 ((cf NB373_393 ((cf NB373_393 ((cf NB373_393 (hHeld.1)))))))))))), (cf NB373_393 ((cf NB373_393 ((cf NB373_393 ((cf NB373_393 ((cf NB373_393 ((cf NB373_393 (hHeld.2.1)))))))))))), (cf NB373_393 ((cf NB373_393 ((cf NB373_393 ((cf NB373_393 ((cf NB373_393 ((cf NB373_393 (hHeld.2.2.1)))))))))))), (cf NB374_393 ((cf NB374_393 ((cf NB374_393 ((cf NB374_393 ((cf NB374_393 ((cf NB374_393 (hHeld.2.2.2.1)))))))))))), (cf NB374_393 ((cf NB374_393 ((cf NB374_393 ((cf NB374_393 ((cf NB374_393 ((cf NB374_393 (hHeld.2.2.2.2.1)))))))))))), (cf NB374_393 ((cf NB374_393 ((cf NB374_393 ((cf NB374_393 ((cf NB374_393 ((cf NB374_393 (hHeld.2.2.2.2.2))))))))))))⟩ (fun hHeld => ?_)
    clear hK K
    refine done_ (done_of HT_.out (by kernel_rfl)) ?_
    try go_wp2_with (first | ((with_reducible refine gate_callee (f := 16) rfl ?_); refine goesLA (some 31) rfl Try.func16 #[.slice A3 l3.length c3] ?_; (with_reducible refine (laws_toPacketS.calls k _ _ l3 t394 _ ?side1 ?side2 A13.out).mono ?_); (case side1 => exact Kd.C_below HR3.out (qs HB)); (case side2 => exact HC3.out); rintro e w41 ⟨v395, rfl, ho0, hb⟩; refine ⟨_, rfl, ?_⟩; have n0_ := Aside0.mk (Kd.R_elder' (by (with_reducible repeat (first | apply Kd.R_alloc | apply Kd.R_drewN | apply Kd.R_drew)); exact (Kd.R_mono (Kd.R_far (p := ⟨gb393, 5, none⟩) (Kd.R_far (p := ⟨gb393, 4, none⟩) (Kd.R_far (p := ⟨gb393, 3, none⟩) (Kd.R_far (p := ⟨gb393, 2, none⟩) (Kd.R_far (p := ⟨gb393, 1, none⟩) (Kd.R_far (p := ⟨gb393, 0, none⟩) (Kd.R_types HO384.out BK393.out (by decide)) (fun _ hk => hk.2) (.bool t385)) (fun _ hk => hk.2) (.int .i64 t386)) (fun _ hk => hk.2) (.int .i64 t387)) (fun _ hk => hk.2) (.int .i64 t388)) (fun _ hk => hk.2) (.slice Ao38 t389.length co38)) (fun _ hk => hk.2) (.int .i64 t392)) (fun _ h_ => h_.1))) (Kd.R_base ho0) hb); have n1_ := Aside0.mk (Kd.R_elder' (by (with_reducible repeat (first | apply Kd.R_alloc | apply Kd.R_drewN | apply Kd.R_drew)); exact (Kd.R_mono (Kd.R_far (p := ⟨gb393, 5, none⟩) (Kd.R_far (p := ⟨gb393, 4, none⟩) (Kd.R_far (p := ⟨gb393, 3, none⟩) (Kd.R_far (p := ⟨gb393, 2, none⟩) (Kd.R_far (p := ⟨gb393, 1, none⟩) (Kd.R_far (p := ⟨gb393, 0, none⟩) (Kd.R_types HO391.out BK393.out (by decide)) (fun _ hk => hk.2) (.bool t385)) (fun _ hk => hk.2) (.int .i64 t386)) (fun _ hk => hk.2) (.int .i64 t387)) (fun _ hk => hk.2) (.int .i64 t388)) (fun _ hk => hk.2) (.slice Ao38 t389.length co38)) (fun _ hk => hk.2) (.int .i64 t392)) (fun _ h_ => h_.1))) (Kd.R_base ho0) hb); have n2_ := Aside0.mk (Kd.R_lower (Kd.R_new' (Kd.R_new' ho0 (Kd.R_lt (by (with_reducible repeat (first | apply Kd.R_alloc | apply Kd.R_drewN | apply Kd.R_drew)); exact (Kd.R_mono (Kd.R_far (p := ⟨gb393, 5, none⟩) (Kd.R_far (p := ⟨gb393, 4, none⟩) (Kd.R_far (p := ⟨gb393, 3, none⟩) (Kd.R_far (p := ⟨gb393, 2, none⟩) (Kd.R_far (p := ⟨gb393, 1, none⟩) (Kd.R_far (p := ⟨gb393, 0, none⟩) (Kd.R_types HO384.out BK393.out (by decide)) (fun _ hk => hk.2) (.bool t385)) (fun _ hk => hk.2) (.int .i64 t386)) (fun _ hk => hk.2) (.int .i64 t387)) (fun _ hk => hk.2) (.int .i64 t388)) (fun _ hk => hk.2) (.slice Ao38 t389.length co38)) (fun _ hk => hk.2) (.int .i64 t392)) (fun _ h_ => h_.1))))) (Kd.R_lt (by (with_reducible repeat (first | apply Kd.R_alloc | apply Kd.R_drewN | apply Kd.R_drew)); exact (Kd.R_mono (Kd.R_far (p := ⟨gb393, 5, none⟩) (Kd.R_far (p := ⟨gb393, 4, none⟩) (Kd.R_far (p := ⟨gb393, 3, none⟩) (Kd.R_far (p := ⟨gb393, 2, none⟩) (Kd.R_far (p := ⟨gb393, 1, none⟩) (Kd.R_far (p := ⟨gb393, 0, none⟩) (Kd.R_types HO391.out BK393.out (by decide)) (fun _ hk => hk.2) (.bool t385)) (fun _ hk => hk.2) (.int .i64 t386)) (fun _ hk => hk.2) (.int .i64 t387)) (fun _ hk => hk.2) (.int .i64 t388)) (fun _ hk => hk.2) (.slice Ao38 t389.length co38)) (fun _ hk => hk.2) (.int .i64 t392)) (fun _ h_ => h_.1))))) (below_size (qs HB))); have n3_ := Aside0.mk (blk_below (g := gb373) (o := .cells #[.int .i64 a0_0, .int .i64 a0_1, .int .i64 a0_2] 23 (0, 0)) (by (with_reducible repeat (first | refine blk_drewN ?_ _ | refine blk_drew ?_ | refine blk_alloc ?_ _)); refine blk_far ?_ NB373_393.out _; (with_reducible repeat (first | refine blk_drewN ?_ _ | refine blk_drew ?_ | refine blk_alloc ?_ _)); refine blk_far ?_ NB373_393.out _; (with_reducible repeat (first | refine blk_drewN ?_ _ | refine blk_drew ?_ | refine blk_alloc ?_ _)); refine blk_far ?_ NB373_393.out _; (with_reducible repeat (first | refine blk_drewN ?_ _ | refine blk_drew ?_ | refine blk_alloc ?_ _)); refine blk_far ?_ NB373_393.out _; (with_reducible repeat (first | refine blk_drewN ?_ _ | refine blk_drew ?_ | refine blk_alloc ?_ _)); refine blk_far ?_ NB373_393.out _; (with_reducible repeat (first | refine blk_drewN ?_ _ | refine blk_drew ?_ | refine blk_alloc ?_ _)); refine blk_far ?_ NB373_393.out _; (with_reducible repeat (first | refine blk_drewN ?_ _ | refine blk_drew ?_ | refine blk_alloc ?_ _)); exact BK373.out) hb); have n4_ := Aside0.mk (blk_below (g := gb374) (o := .cells #[.int .i64 a2_0, .int .i64 a2_1, .int .i64 a2_2] 47 (0, 0)) (by (with_reducible repeat (first | refine blk_drewN ?_ _ | refine blk_drew ?_ | refine blk_alloc ?_ _)); refine blk_far ?_ NB374_393.out _; (with_reducible repeat (first | refine blk_drewN ?_ _ | refine blk_drew ?_ | refine blk_alloc ?_ _)); refine blk_far ?_ NB374_393.out _; (with_reducible repeat (first | refine blk_drewN ?_ _ | refine blk_drew ?_ | refine blk_alloc ?_ _)); refine blk_far ?_ NB374_393.out _; (with_reducible repeat (first | refine blk_drewN ?_ _ | refine blk_drew ?_ | refine blk_alloc ?_ _)); refine blk_far ?_ NB374_393.out _; (with_reducible repeat (first | refine blk_drewN ?_ _ | refine blk_drew ?_ | refine blk_alloc ?_ _)); refine blk_far ?_ NB374_393.out _; (with_reducible repeat (first | refine blk_drewN ?_ _ | refine blk_drew ?_ | refine blk_alloc ?_ _)); refine blk_far ?_ NB374_393.out _; (with_reducible repeat (first | refine blk_drewN ?_ _ | refine blk_drew ?_ | refine blk_alloc ?_ _)); exact BK374.out) hb); have n5_ := Aside0.mk (blk_below (g := gb393) (o := .cells #[.bool t385, .int .i64 t386, .int .i64 t387, .int .i64 t388, .slice Ao38 t389.length co38, .int .i64 t392] 50 (0, 0)) (by (with_reducible repeat (first | refine blk_drewN ?_ _ | refine blk_drew ?_ | refine blk_alloc ?_ _)); refine blk_put (cs := #[.bool t385, .int .i64 t386, .int .i64 t387, .int .i64 t388, .slice Ao38 t389.length co38, .int .i64 0]) ?_ 5 _ rfl; (with_reducible repeat (first | refine blk_drewN ?_ _ | refine blk_drew ?_ | refine blk_alloc ?_ _)); refine blk_put (cs := #[.bool t385, .int .i64 t386, .int .i64 t387, .int .i64 t388, .slice none 0 0, .int .i64 0]) ?_ 4 _ rfl; (with_reducible repeat (first | refine blk_drewN ?_ _ | refine blk_drew ?_ | refine blk_alloc ?_ _)); refine blk_put (cs := #[.bool t385, .int .i64 t386, .int .i64 t387, .int .i64 0, .slice none 0 0, .int .i64 0]) ?_ 3 _ rfl; (with_reducible repeat (first | refine blk_drewN ?_ _ | refine blk_drew ?_ | refine blk_alloc ?_ _)); refine blk_put (cs := #[.bool t385, .int .i64 t386, .int .i64 0, .int .i64 0, .slice none 0 0, .int .i64 0]) ?_ 2 _ rfl; (with_reducible repeat (first | refine blk_drewN ?_ _ | refine blk_drew ?_ | refine blk_alloc ?_ _)); refine blk_put (cs := #[.bool t385, .int .i64 0, .int .i64 0, .int .i64 0, .slice none 0 0, .int .i64 0]) ?_ 1 _ rfl; (with_reducible repeat (first | refine blk_drewN ?_ _ | refine blk_drew ?_ | refine blk_alloc ?_ _)); refine blk_put (cs := #[.bool false, .int .i64 0, .int .i64 0, .int .i64 0, .slice none 0 0, .int .i64 0]) ?_ 0 _ rfl; (with_reducible repeat (first | refine blk_drewN ?_ _ | refine blk_drew ?_ | refine blk_alloc ?_ _)); exact BK393.out) hb); have n6_ := bst HB hb; clear HO384; clear HO391; clear BK373; clear BK374; clear BK393; clear HB; have HO384 := n0_; have HO391 := n1_; have HO396 := n2_; have BK373 := n3_; have BK374 := n4_; have BK393 := n5_; have HB := n6_; clear n0_ n1_ n2_ n3_ n4_ n5_ n6_; (try clear hb); (try clear hb2); (try clear hk); (try clear hi); (try clear ho0); obtain ⟨Ao42, co42, eo42⟩ := Kd.R_slice HO396.out; subst eo42))
    have n0_ := Aside0.mk (Kd.R_drew HO384.out)
    have n1_ := Aside0.mk (Kd.R_drew HO391.out)
    have n2_ := Aside0.mk (Kd.R_drew HO396.out)
    have n3_ := Aside0.mk (blk_drew BK373.out)
    have n4_ := Aside0.mk (blk_drew BK374.out)
    have n5_ := Aside0.mk (blk_drew BK393.out)
    have n6_ := Aside0.mk (below_drew1 HB.out)
    clear HO384 HO391 HO396 BK373 BK374 BK393 HB; have HO384 := n0_; have HO391 := n1_; have HO396 := n2_; have BK373 := n3_; have BK374 := n4_; have BK393 := n5_; have HB := n6_; clear n0_ n1_ n2_ n3_ n4_ n5_ n6_
    refine start_ (n := 9) (S := fun w' => w'.cell? ⟨gb373, 0, none⟩ = some (.int .i64 a0_0) ∧ w'.cell? ⟨gb373, 1, none⟩ = some (.int .i64 a0_1) ∧ w'.cell? ⟨gb373, 2, none⟩ = some (.int .i64 a0_2) ∧ w'.cell? ⟨gb374, 0, none⟩ = some (.int .i64 a2_0) ∧ w'.cell? ⟨gb374, 1, none⟩ = some (.int .i64 a2_1) ∧ w'.cell? ⟨gb374, 2, none⟩ = some (.int .i64 a2_2)) (ds := []) #[false, false, false, false, false, false, false, false, false] (by kernel_rfl) rfl rfl ⟨bc BK373 0, bc BK373 1, bc BK373 2, bc BK374 0, bc BK374 1, bc BK374 2⟩ (fun hHeld => ?_); refine with_tabW laws_FnExactTrainTick.tab7 laws_FnExactTrainTick.bits7 (fun HT_ HW_ => ?_)
    generalize w41.drew = w43 at HO384 HO391 HO396 BK373 BK374 BK393 HB hHeld ⊢
    refine pure_ (i := 2) (N := some 34) (v := ?_) (a' := ?_) #[false, false, true, false, false, false, false, false, false] rfl rfl (any_of HT_.out (by kernel_rfl)) (fun _ _ _ h => h) (Or.inl ⟨by rfl, ?_⟩) ?_ ?_
    rotate_left
    ·intro w'
     go_simp
     with_reducible rfl
    rotate_left
    ·simp only [Act.put, List.setIfInBounds_toArray, List.set_cons_zero, List.set_cons_succ, i64_w, i32_w]
     rfl
    refine pure_ (i := 5) (N := some 37) (v := ?_) (a' := ?_) #[false, false, true, false, false, true, false, false, false] rfl rfl (any_of HT_.out (by kernel_rfl)) (fun _ _ _ h => h) (Or.inl ⟨by rfl, ?_⟩) ?_ ?_
    rotate_left
    ·intro w'
     go_simp
     with_reducible rfl
    rotate_left
    ·simp only [Act.put, List.setIfInBounds_toArray, List.set_cons_zero, List.set_cons_succ, i64_w, i32_w]
     rfl
    refine take_ (i := 0) (N := some 32) (v := ?_) (a' := ?_) #[true, false, true, false, false, true, false, false, false] rfl rfl (take_ofW HT_.out HW_.out (by kernel_rfl)) (fun _ _ _ h => h) (Or.inl ⟨by rfl, ?_⟩) hHeld ?_ ?_
    rotate_left
    ·rintro w' ⟨s0, s1, s2, s3, s4, s5⟩
     go_simp
     with_reducible rfl
    rotate_left
    ·simp only [Act.put, List.setIfInBounds_toArray, List.set_cons_zero, List.set_cons_succ, i64_w, i32_w]
     rfl
    refine take_ (i := 3) (N := some 35) (v := ?_) (a' := ?_) #[true, false, true, true, false, true, false, false, false] rfl rfl (take_ofW HT_.out HW_.out (by kernel_rfl)) (fun _ _ _ h => h) (Or.inl ⟨by rfl, ?_⟩) hHeld ?_ ?_
    rotate_left
    ·rintro w' ⟨s0, s1, s2, s3, s4, s5⟩
     go_simp
     with_reducible rfl
    rotate_left
    ·simp only [Act.put, List.setIfInBounds_toArray, List.set_cons_zero, List.set_cons_succ, i64_w, i32_w]
     rfl
    refine join_ (σ := Value × Nat) 1 #[true, true, true, true, true, true, true, true, false] (fun s_ => [(33, .agg #[.int .i64 t397, .int .i64 t398, .int .i64 t399]), (36, .agg #[.int .i64 t400, .int .i64 t401, .int .i64 t402]), (38, .agg #[.bool t403, .int .i64 t404, .int .i64 t405, .int .i64 t406, s_.1, .int .i64 t410]), (12, .pointer (some ⟨s_.2, 0, none⟩))]) (fun s_ w' => (w'.cell? ⟨gb373, 0, none⟩ = some (.int .i64 a0_0) ∧ w'.cell? ⟨gb373, 1, none⟩ = some (.int .i64 a0_1) ∧ w'.cell? ⟨gb373, 2, none⟩ = some (.int .i64 a0_2) ∧ w'.cell? ⟨gb374, 0, none⟩ = some (.int .i64 a2_0) ∧ w'.cell? ⟨gb374, 1, none⟩ = some (.int .i64 a2_1) ∧ w'.cell? ⟨gb374, 2, none⟩ = some (.int .i64 a2_2)) ∧ (Kd.R k60 60 w' w.heap.size (fun k_ => some k_ ≠ (.slice Ao38 t389.length co38 : Value).ownBlock ∧ some k_ ≠ (.slice Ao42 t394.length co42 : Value).ownBlock ∧ some k_ ≠ (s_.1 : Value).ownBlock) v383 t382) ∧ (Kd.R k60 60 w' w.heap.size (fun k_ => some k_ ≠ (v383 : Value).ownBlock ∧ some k_ ≠ (.slice Ao42 t394.length co42 : Value).ownBlock ∧ some k_ ≠ (s_.1 : Value).ownBlock) (.slice Ao38 t389.length co38) t389) ∧ (Kd.R k60 60 w' w.heap.size (fun k_ => some k_ ≠ (v383 : Value).ownBlock ∧ some k_ ≠ (.slice Ao38 t389.length co38 : Value).ownBlock ∧ some k_ ≠ (s_.1 : Value).ownBlock) (.slice Ao42 t394.length co42) t394) ∧ (Kd.R k60 60 w' w.heap.size (fun k_ => some k_ ≠ (v383 : Value).ownBlock ∧ some k_ ≠ (.slice Ao38 t389.length co38 : Value).ownBlock ∧ some k_ ≠ (.slice Ao42 t394.length co42 : Value).ownBlock) s_.1 t407) ∧ (w'.heap[gb373]? = some (.cells #[.int .i64 a0_0, .int .i64 a0_1, .int .i64 a0_2] 23 (0, 0))) ∧ (w'.heap[gb374]? = some (.cells #[.int .i64 a2_0, .int .i64 a2_1, .int .i64 a2_2] 47 (0, 0))) ∧ (w'.heap[gb393]? = some (.cells #[.bool t385, .int .i64 t386, .int .i64 t387, .int .i64 t388, .slice Ao38 t389.length co38, .int .i64 t392] 50 (0, 0))) ∧ (w'.heap[s_.2]? = some (.cells #[.bool false, .int .i64 0, .int .i64 0, .int .i64 0, .slice none 0 0, .int .i64 0] 50 (0, 0))) ∧ (w.heap.size ≤ s_.2) ∧ (w.heap.size ≤ s_.2) ∧ (gb373 ≠ s_.2) ∧ (s_.2 ≠ gb373) ∧ (gb374 ≠ s_.2) ∧ (s_.2 ≠ gb374) ∧ (gb393 ≠ s_.2) ∧ (s_.2 ≠ gb393) ∧ (Below w.heap.size w w')) ?_ ?_
    rotate_left
    ·intro hCont
     refine two_ (i := 1) (j := 7) (Ni := some 33) (Nj := some 12) #[true, true, true, true, false, true, false, false, false] #[true, false, true, true, false, true, false, true, false] rfl rfl rfl rfl (two_of HT_.out (by kernel_rfl)) (by decide) (by decide) (fun K hK => ?_) (fun K hK => ?_)
     ·skip
      refine goesA Try.func13 #[.agg #[.int .i64 a0_0, .int .i64 a0_1, .int .i64 a0_2]] ?_
      with_reducible refine (laws_toRules.calls a0_0 a0_1 a0_2 t397 t398 t399 _ A14.out).mono ?_
      rintro e w44 ⟨rfl, hb⟩
      refine ⟨_, rfl, ?_⟩
      have n0_ := rbl HO384 hb; have n1_ := rbl HO391 hb; have n2_ := rbl HO396 hb; have n3_ := bkb BK373 hb; have n4_ := bkb BK374 hb; have n5_ := bkb BK393 hb; have n6_ := bst HB hb; clear HO384 HO391 HO396 BK373 BK374 BK393 HB; have HO384 := n0_; have HO391 := n1_; have HO396 := n2_; have BK373 := n3_; have BK374 := n4_; have BK393 := n5_; have HB := n6_; clear n0_ n1_ n2_ n3_ n4_ n5_ n6_; (try clear hb); (try clear hb2); (try clear hk); (try clear hi)
      refine hK.out _ _ ⟨bc BK373 0, bc BK373 1, bc BK373 2, bc BK374 0, bc BK374 1, bc BK374 2⟩ (fun hHeld => ?_)
      clear hK K
      refine norm_ (a' := ?_) ?_ ?_
      rotate_left
      ·show Act.put _ (some 33) _ = _
       simp only [Act.put, List.setIfInBounds_toArray, List.set_cons_zero, List.set_cons_succ, i64_w, i32_w]
       rfl
      refine two_ (i := 4) (j := 7) (Ni := some 36) (Nj := some 12) #[true, true, true, true, true, true, false, false, false] #[true, true, true, true, false, true, false, true, false] rfl rfl rfl rfl (two_of HT_.out (by kernel_rfl)) (by decide) (by decide) (fun K hK => ?_) (fun K hK => ?_)
      ·skip
       refine goesA Try.func26 #[.agg #[.int .i64 a2_0, .int .i64 a2_1, .int .i64 a2_2]] ?_
       with_reducible refine (laws_toTrain.calls a2_0 a2_1 a2_2 t400 t401 t402 _ A15.out).mono ?_
       rintro e w45 ⟨rfl, hb⟩
       refine ⟨_, rfl, ?_⟩
       have n0_ := rbl HO384 hb; have n1_ := rbl HO391 hb; have n2_ := rbl HO396 hb; have n3_ := bkb BK373 hb; have n4_ := bkb BK374 hb; have n5_ := bkb BK393 hb; have n6_ := bst HB hb; clear HO384 HO391 HO396 BK373 BK374 BK393 HB; have HO384 := n0_; have HO391 := n1_; have HO396 := n2_; have BK373 := n3_; have BK374 := n4_; have BK393 := n5_; have HB := n6_; clear n0_ n1_ n2_ n3_ n4_ n5_ n6_; (try clear hb); (try clear hb2); (try clear hk); (try clear hi)
       refine hK.out _ _ ⟨bc BK373 0, bc BK373 1, bc BK373 2, bc BK374 0, bc BK374 1, bc BK374 2⟩ (fun hHeld => ?_)
       clear hK K
       refine norm_ (a' := ?_) ?_ ?_
       rotate_left
       ·show Act.put _ (some 36) _ = _
        simp only [Act.put, List.setIfInBounds_toArray, List.set_cons_zero, List.set_cons_succ, i64_w, i32_w]
        rfl
       refine two_ (i := 6) (j := 7) (Ni := some 38) (Nj := some 12) #[true, true, true, true, true, true, true, false, false] #[true, true, true, true, true, true, false, true, false] rfl rfl rfl rfl (two_of HT_.out (by kernel_rfl)) (by decide) (by decide) (fun K hK => ?_) (fun K hK => ?_)
       ·skip
        refine goesA Try.func27 #[.agg #[.int .i64 t397, .int .i64 t398, .int .i64 t399], .int .i64 a1, .agg #[.int .i64 t400, .int .i64 t401, .int .i64 t402], .slice Ao42 t394.length co42] ?_
        with_reducible refine (impl_TrainTick.calls k t397 t398 t399 a1 t400 t401 t402 _ _ t394 t403 t404 t405 t406 t407 t410 _ ?side1 ?side2 A16.out).mono ?_
        (case side1 => exact qc (Kd.R_reads' HO396.out).2.2)
        (case side2 => exact (Kd.R_reads' HO396.out).2.1)
        rintro e w46 ⟨v408, rfl, ho0, hb⟩
        refine ⟨_, rfl, ?_⟩
        have n0_ := Aside0.mk (Kd.R_elder' (qr HO384) (Kd.R_base ho0) hb)
        have n1_ := Aside0.mk (Kd.R_elder' (qr HO391) (Kd.R_base ho0) hb)
        have n2_ := Aside0.mk (Kd.R_elder' (qr HO396) (Kd.R_base ho0) hb)
        have n3_ := Aside0.mk (Kd.R_lower (Kd.R_new' (Kd.R_new' (Kd.R_new' ho0 (Kd.R_lt (qr HO384))) (Kd.R_lt (qr HO391))) (Kd.R_lt (qr HO396))) (below_size (qs HB)))
        have n4_ := bkb BK373 hb; have n5_ := bkb BK374 hb; have n6_ := bkb BK393 hb; have n7_ := bst HB hb; clear HO384 HO391 HO396 BK373 BK374 BK393 HB; have HO384 := n0_; have HO391 := n1_; have HO396 := n2_; have HO409 := n3_; have BK373 := n4_; have BK374 := n5_; have BK393 := n6_; have HB := n7_; clear n0_ n1_ n2_ n3_ n4_ n5_ n6_ n7_; (try clear hb); (try clear hb2); (try clear hk); (try clear hi); (try clear ho0)
        refine hK.out _ _ ⟨bc BK373 0, bc BK373 1, bc BK373 2, bc BK374 0, bc BK374 1, bc BK374 2⟩ (fun hHeld => ?_)
        clear hK K
        refine norm_ (a' := ?_) ?_ ?_
        rotate_left
        ·show Act.put _ (some 38) _ = _
         simp only [Act.put, List.setIfInBounds_toArray, List.set_cons_zero, List.set_cons_succ, i64_w, i32_w]
         rfl
        refine one_ (i := 7) (N := some 12) #[true, true, true, true, true, true, true, true, false] rfl rfl (one_of HT_.out (by kernel_rfl)) (by decide) (fun K hK => ?_)
        refine box_step ?hg (N := 12) ?hd (cs := #[.bool false, .int .i64 0, .int .i64 0, .int .i64 0, .slice none 0 0, .int .i64 0]) (t := 50) ?hr ?_; (case hd => rfl); (case hg => rfl); (case hr => first | (go_simp; done) | (go_simp; rfl))
        intro gb411 hg w47 hbox hb
        have n0_ := rbl HO384 hb; have n1_ := rbl HO391 hb; have n2_ := rbl HO396 hb; have n3_ := rbl HO409 hb; have n4_ := bkb BK373 hb; have n5_ := bkb BK374 hb; have n6_ := bkb BK393 hb; have n7_ := bst HB hb
        have n8_ := Aside0.mk (hbox)
        have n9_ := nge HB hg; have n10_ := nge HB hg; have n11_ := nlt BK373 hg; have n12_ := ngt BK373 hg; have n13_ := nlt BK374 hg; have n14_ := ngt BK374 hg; have n15_ := nlt BK393 hg; have n16_ := ngt BK393 hg; clear HO384 HO391 HO396 HO409 BK373 BK374 BK393 HB; have HO384 := n0_; have HO391 := n1_; have HO396 := n2_; have HO409 := n3_; have BK373 := n4_; have BK374 := n5_; have BK393 := n6_; have HB := n7_; have BK411 := n8_; have GW411 := n9_; have GE411 := n10_; have NB373_411 := n11_; have NB411_373 := n12_; have NB374_411 := n13_; have NB411_374 := n14_; have NB393_411 := n15_; have NB411_393 := n16_; clear n0_ n1_ n2_ n3_ n4_ n5_ n6_ n7_ n8_ n9_ n10_ n11_ n12_ n13_ n14_ n15_ n16_ hb hbox hg
        refine hK.out _ _ ⟨bc BK373 0, bc BK373 1, bc BK373 2, bc BK374 0, bc BK374 1, bc BK374 2⟩ (fun hHeld => ?_)
        clear hK K
        refine norm_ (a' := ?_) ?_ ?_
        rotate_left
        ·show Act.put _ (some 12) _ = _
         simp only [Act.put, List.setIfInBounds_toArray, List.set_cons_zero, List.set_cons_succ, i64_w, i32_w]
         rfl
        exact normA (hCont (v408, gb411) _ ⟨hHeld, (qm HO384 (fun _ hk => ⟨hk.1.1, ⟨hk.1.2, hk.2⟩⟩)), (qm HO391 (fun _ hk => ⟨hk.1.1, ⟨hk.1.2, hk.2⟩⟩)), (qm HO396 (fun _ hk => ⟨hk.1.1.2, ⟨hk.1.2, hk.2⟩⟩)), (qm HO409 (fun _ hk => ⟨hk.1.1.2, ⟨hk.1.2, hk.2⟩⟩)), (qb BK373), (qb BK374), (qb BK393), (qb BK411), GW411.out, GE411.out, NB373_411.out, NB411_373.out, NB374_411.out, NB411_374.out, NB393_411.out, NB411_393.out, (qs HB)⟩)
       ·skip
        refine box_step ?hg (N := 12) ?hd (cs := #[.bool false, .int .i64 0, .int .i64 0, .int .i64 0, .slice none 0 0, .int .i64 0]) (t := 50) ?hr ?_; (case hd => rfl); (case hg => rfl); (case hr => first | (go_simp; done) | (go_simp; rfl))
        intro gb411 hg w46 hbox hb
        have n0_ := rbl HO384 hb; have n1_ := rbl HO391 hb; have n2_ := rbl HO396 hb; have n3_ := bkb BK373 hb; have n4_ := bkb BK374 hb; have n5_ := bkb BK393 hb; have n6_ := bst HB hb
        have n7_ := Aside0.mk (hbox)
        have n8_ := nge HB hg; have n9_ := nge HB hg; have n10_ := nlt BK373 hg; have n11_ := ngt BK373 hg; have n12_ := nlt BK374 hg; have n13_ := ngt BK374 hg; have n14_ := nlt BK393 hg; have n15_ := ngt BK393 hg; clear HO384 HO391 HO396 BK373 BK374 BK393 HB; have HO384 := n0_; have HO391 := n1_; have HO396 := n2_; have BK373 := n3_; have BK374 := n4_; have BK393 := n5_; have HB := n6_; have BK411 := n7_; have GW411 := n8_; have GE411 := n9_; have NB373_411 := n10_; have NB411_373 := n11_; have NB374_411 := n12_; have NB411_374 := n13_; have NB393_411 := n14_; have NB411_393 := n15_; clear n0_ n1_ n2_ n3_ n4_ n5_ n6_ n7_ n8_ n9_ n10_ n11_ n12_ n13_ n14_ n15_ hb hbox hg
        refine hK.out _ _ ⟨bc BK373 0, bc BK373 1, bc BK373 2, bc BK374 0, bc BK374 1, bc BK374 2⟩ (fun hHeld => ?_)
        clear hK K
        refine norm_ (a' := ?_) ?_ ?_
        rotate_left
        ·show Act.put _ (some 12) _ = _
         simp only [Act.put, List.setIfInBounds_toArray, List.set_cons_zero, List.set_cons_succ, i64_w, i32_w]
         rfl
        refine one_ (i := 6) (N := some 38) #[true, true, true, true, true, true, true, true, false] rfl rfl (one_of HT_.out (by kernel_rfl)) (by decide) (fun K hK => ?_)
        refine goesA Try.func27 #[.agg #[.int .i64 t397, .int .i64 t398, .int .i64 t399], .int .i64 a1, .agg #[.int .i64 t400, .int .i64 t401, .int .i64 t402], .slice Ao42 t394.length co42] ?_
        with_reducible refine (impl_TrainTick.calls k t397 t398 t399 a1 t400 t401 t402 _ _ t394 t403 t404 t405 t406 t407 t410 _ ?side1 ?side2 A16.out).mono ?_
        (case side1 => exact qc (Kd.R_reads' HO396.out).2.2)
        (case side2 => exact (Kd.R_reads' HO396.out).2.1)
        rintro e w47 ⟨v408, rfl, ho0, hb⟩
        refine ⟨_, rfl, ?_⟩
        have n0_ := Aside0.mk (Kd.R_elder' (qr HO384) (Kd.R_base ho0) hb)
        have n1_ := Aside0.mk (Kd.R_elder' (qr HO391) (Kd.R_base ho0) hb)
        have n2_ := Aside0.mk (Kd.R_elder' (qr HO396) (Kd.R_base ho0) hb)
        have n3_ := Aside0.mk (Kd.R_lower (Kd.R_new' (Kd.R_new' (Kd.R_new' ho0 (Kd.R_lt (qr HO384))) (Kd.R_lt (qr HO391))) (Kd.R_lt (qr HO396))) (below_size (qs HB)))
        have n4_ := bkb BK373 hb; have n5_ := bkb BK374 hb; have n6_ := bkb BK393 hb; have n7_ := bkb BK411 hb; have n8_ := bst HB hb; clear HO384 HO391 HO396 BK373 BK374 BK393 BK411 HB; have HO384 := n0_; have HO391 := n1_; have HO396 := n2_; have HO409 := n3_; have BK373 := n4_; have BK374 := n5_; have BK393 := n6_; have BK411 := n7_; have HB := n8_; clear n0_ n1_ n2_ n3_ n4_ n5_ n6_ n7_ n8_; (try clear hb); (try clear hb2); (try clear hk); (try clear hi); (try clear ho0)
        refine hK.out _ _ ⟨bc BK373 0, bc BK373 1, bc BK373 2, bc BK374 0, bc BK374 1, bc BK374 2⟩ (fun hHeld => ?_)
        clear hK K
        refine norm_ (a' := ?_) ?_ ?_
        rotate_left
        ·show Act.put _ (some 38) _ = _
         simp only [Act.put, List.setIfInBounds_toArray, List.set_cons_zero, List.set_cons_succ, i64_w, i32_w]
         rfl
        exact normA (hCont (v408, gb411) _ ⟨hHeld, (qm HO384 (fun _ hk => ⟨hk.1.1, ⟨hk.1.2, hk.2⟩⟩)), (qm HO391 (fun _ hk => ⟨hk.1.1, ⟨hk.1.2, hk.2⟩⟩)), (qm HO396 (fun _ hk => ⟨hk.1.1.2, ⟨hk.1.2, hk.2⟩⟩)), (qm HO409 (fun _ hk => ⟨hk.1.1.2, ⟨hk.1.2, hk.2⟩⟩)), (qb BK373), (qb BK374), (qb BK393), (qb BK411), GW411.out, GE411.out, NB373_411.out, NB411_373.out, NB374_411.out, NB411_374.out, NB393_411.out, NB411_393.out, (qs HB)⟩)
      ·skip
       refine box_step ?hg (N := 12) ?hd (cs := #[.bool false, .int .i64 0, .int .i64 0, .int .i64 0, .slice none 0 0, .int .i64 0]) (t := 50) ?hr ?_; (case hd => rfl); (case hg => rfl); (case hr => first | (go_simp; done) | (go_simp; rfl))
       intro gb411 hg w45 hbox hb
       have n0_ := rbl HO384 hb; have n1_ := rbl HO391 hb; have n2_ := rbl HO396 hb; have n3_ := bkb BK373 hb; have n4_ := bkb BK374 hb; have n5_ := bkb BK393 hb; have n6_ := bst HB hb
       have n7_ := Aside0.mk (hbox)
       have n8_ := nge HB hg; have n9_ := nge HB hg; have n10_ := nlt BK373 hg; have n11_ := ngt BK373 hg; have n12_ := nlt BK374 hg; have n13_ := ngt BK374 hg; have n14_ := nlt BK393 hg; have n15_ := ngt BK393 hg; clear HO384 HO391 HO396 BK373 BK374 BK393 HB; have HO384 := n0_; have HO391 := n1_; have HO396 := n2_; have BK373 := n3_; have BK374 := n4_; have BK393 := n5_; have HB := n6_; have BK411 := n7_; have GW411 := n8_; have GE411 := n9_; have NB373_411 := n10_; have NB411_373 := n11_; have NB374_411 := n12_; have NB411_374 := n13_; have NB393_411 := n14_; have NB411_393 := n15_; clear n0_ n1_ n2_ n3_ n4_ n5_ n6_ n7_ n8_ n9_ n10_ n11_ n12_ n13_ n14_ n15_ hb hbox hg
       refine hK.out _ _ ⟨bc BK373 0, bc BK373 1, bc BK373 2, bc BK374 0, bc BK374 1, bc BK374 2⟩ (fun hHeld => ?_)
       clear hK K
       refine norm_ (a' := ?_) ?_ ?_
       rotate_left
       ·show Act.put _ (some 12) _ = _
        simp only [Act.put, List.setIfInBounds_toArray, List.set_cons_zero, List.set_cons_succ, i64_w, i32_w]
        rfl
       refine one_ (i := 4) (N := some 36) #[true, true, true, true, true, true, false, true, false] rfl rfl (one_of HT_.out (by kernel_rfl)) (by decide) (fun K hK => ?_)
       refine goesA Try.func26 #[.agg #[.int .i64 a2_0, .int .i64 a2_1, .int .i64 a2_2]] ?_
       with_reducible refine (laws_toTrain.calls a2_0 a2_1 a2_2 t400 t401 t402 _ A15.out).mono ?_
       rintro e w46 ⟨rfl, hb⟩
       refine ⟨_, rfl, ?_⟩
       have n0_ := rbl HO384 hb; have n1_ := rbl HO391 hb; have n2_ := rbl HO396 hb; have n3_ := bkb BK373 hb; have n4_ := bkb BK374 hb; have n5_ := bkb BK393 hb; have n6_ := bkb BK411 hb; have n7_ := bst HB hb; clear HO384 HO391 HO396 BK373 BK374 BK393 BK411 HB; have HO384 := n0_; have HO391 := n1_; have HO396 := n2_; have BK373 := n3_; have BK374 := n4_; have BK393 := n5_; have BK411 := n6_; have HB := n7_; clear n0_ n1_ n2_ n3_ n4_ n5_ n6_ n7_; (try clear hb); (try clear hb2); (try clear hk); (try clear hi)
       refine hK.out _ _ ⟨bc BK373 0, bc BK373 1, bc BK373 2, bc BK374 0, bc BK374 1, bc BK374 2⟩ (fun hHeld => ?_)
       clear hK K
       refine norm_ (a' := ?_) ?_ ?_
       rotate_left
       ·show Act.put _ (some 36) _ = _
        simp only [Act.put, List.setIfInBounds_toArray, List.set_cons_zero, List.set_cons_succ, i64_w, i32_w]
        rfl
       refine one_ (i := 6) (N := some 38) #[true, true, true, true, true, true, true, true, false] rfl rfl (one_of HT_.out (by kernel_rfl)) (by decide) (fun K hK => ?_)
       refine goesA Try.func27 #[.agg #[.int .i64 t397, .int .i64 t398, .int .i64 t399], .int .i64 a1, .agg #[.int .i64 t400, .int .i64 t401, .int .i64 t402], .slice Ao42 t394.length co42] ?_
       with_reducible refine (impl_TrainTick.calls k t397 t398 t399 a1 t400 t401 t402 _ _ t394 t403 t404 t405 t406 t407 t410 _ ?side1 ?side2 A16.out).mono ?_
       (case side1 => exact qc (Kd.R_reads' HO396.out).2.2)
       (case side2 => exact (Kd.R_reads' HO396.out).2.1)
       rintro e w47 ⟨v408, rfl, ho0, hb⟩
       refine ⟨_, rfl, ?_⟩
       have n0_ := Aside0.mk (Kd.R_elder' (qr HO384) (Kd.R_base ho0) hb)
       have n1_ := Aside0.mk (Kd.R_elder' (qr HO391) (Kd.R_base ho0) hb)
       have n2_ := Aside0.mk (Kd.R_elder' (qr HO396) (Kd.R_base ho0) hb)
       have n3_ := Aside0.mk (Kd.R_lower (Kd.R_new' (Kd.R_new' (Kd.R_new' ho0 (Kd.R_lt (qr HO384))) (Kd.R_lt (qr HO391))) (Kd.R_lt (qr HO396))) (below_size (qs HB)))
       have n4_ := bkb BK373 hb; have n5_ := bkb BK374 hb; have n6_ := bkb BK393 hb; have n7_ := bkb BK411 hb; have n8_ := bst HB hb; clear HO384 HO391 HO396 BK373 BK374 BK393 BK411 HB; have HO384 := n0_; have HO391 := n1_; have HO396 := n2_; have HO409 := n3_; have BK373 := n4_; have BK374 := n5_; have BK393 := n6_; have BK411 := n7_; have HB := n8_; clear n0_ n1_ n2_ n3_ n4_ n5_ n6_ n7_ n8_; (try clear hb); (try clear hb2); (try clear hk); (try clear hi); (try clear ho0)
       refine hK.out _ _ ⟨bc BK373 0, bc BK373 1, bc BK373 2, bc BK374 0, bc BK374 1, bc BK374 2⟩ (fun hHeld => ?_)
       clear hK K
       refine norm_ (a' := ?_) ?_ ?_
       rotate_left
       ·show Act.put _ (some 38) _ = _
        simp only [Act.put, List.setIfInBounds_toArray, List.set_cons_zero, List.set_cons_succ, i64_w, i32_w]
        rfl
       exact normA (hCont (v408, gb411) _ ⟨hHeld, (qm HO384 (fun _ hk => ⟨hk.1.1, ⟨hk.1.2, hk.2⟩⟩)), (qm HO391 (fun _ hk => ⟨hk.1.1, ⟨hk.1.2, hk.2⟩⟩)), (qm HO396 (fun _ hk => ⟨hk.1.1.2, ⟨hk.1.2, hk.2⟩⟩)), (qm HO409 (fun _ hk => ⟨hk.1.1.2, ⟨hk.1.2, hk.2⟩⟩)), (qb BK373), (qb BK374), (qb BK393), (qb BK411), GW411.out, GE411.out, NB373_411.out, NB411_373.out, NB374_411.out, NB411_374.out, NB393_411.out, NB411_393.out, (qs HB)⟩)
     ·skip
      refine box_step ?hg (N := 12) ?hd (cs := #[.bool false, .int .i64 0, .int .i64 0, .int .i64 0, .slice none 0 0, .int .i64 0]) (t := 50) ?hr ?_; (case hd => rfl); (case hg => rfl); (case hr => first | (go_simp; done) | (go_simp; rfl))
      intro gb411 hg w44 hbox hb
      have n0_ := rbl HO384 hb; have n1_ := rbl HO391 hb; have n2_ := rbl HO396 hb; have n3_ := bkb BK373 hb; have n4_ := bkb BK374 hb; have n5_ := bkb BK393 hb; have n6_ := bst HB hb
      have n7_ := Aside0.mk (hbox)
      have n8_ := nge HB hg; have n9_ := nge HB hg; have n10_ := nlt BK373 hg; have n11_ := ngt BK373 hg; have n12_ := nlt BK374 hg; have n13_ := ngt BK374 hg; have n14_ := nlt BK393 hg; have n15_ := ngt BK393 hg; clear HO384 HO391 HO396 BK373 BK374 BK393 HB; have HO384 := n0_; have HO391 := n1_; have HO396 := n2_; have BK373 := n3_; have BK374 := n4_; have BK393 := n5_; have HB := n6_; have BK411 := n7_; have GW411 := n8_; have GE411 := n9_; have NB373_411 := n10_; have NB411_373 := n11_; have NB374_411 := n12_; have NB411_374 := n13_; have NB393_411 := n14_; have NB411_393 := n15_; clear n0_ n1_ n2_ n3_ n4_ n5_ n6_ n7_ n8_ n9_ n10_ n11_ n12_ n13_ n14_ n15_ hb hbox hg
      refine hK.out _ _ ⟨bc BK373 0, bc BK373 1, bc BK373 2, bc BK374 0, bc BK374 1, bc BK374 2⟩ (fun hHeld => ?_)
      clear hK K
      refine norm_ (a' := ?_) ?_ ?_
      rotate_left
      ·show Act.put _ (some 12) _ = _
       simp only [Act.put, List.setIfInBounds_toArray, List.set_cons_zero, List.set_cons_succ, i64_w, i32_w]
       rfl
      refine one_ (i := 1) (N := some 33) #[true, true, true, true, false, true, false, true, false] rfl rfl (one_of HT_.out (by kernel_rfl)) (by decide) (fun K hK => ?_)
      refine goesA Try.func13 #[.agg #[.int .i64 a0_0, .int .i64 a0_1, .int .i64 a0_2]] ?_
      with_reducible refine (laws_toRules.calls a0_0 a0_1 a0_2 t397 t398 t399 _ A14.out).mono ?_
      rintro e w45 ⟨rfl, hb⟩
      refine ⟨_, rfl, ?_⟩
      have n0_ := rbl HO384 hb; have n1_ := rbl HO391 hb; have n2_ := rbl HO396 hb; have n3_ := bkb BK373 hb; have n4_ := bkb BK374 hb; have n5_ := bkb BK393 hb; have n6_ := bkb BK411 hb; have n7_ := bst HB hb; clear HO384 HO391 HO396 BK373 BK374 BK393 BK411 HB; have HO384 := n0_; have HO391 := n1_; have HO396 := n2_; have BK373 := n3_; have BK374 := n4_; have BK393 := n5_; have BK411 := n6_; have HB := n7_; clear n0_ n1_ n2_ n3_ n4_ n5_ n6_ n7_; (try clear hb); (try clear hb2); (try clear hk); (try clear hi)
      refine hK.out _ _ ⟨bc BK373 0, bc BK373 1, bc BK373 2, bc BK374 0, bc BK374 1, bc BK374 2⟩ (fun hHeld => ?_)
      clear hK K
      refine norm_ (a' := ?_) ?_ ?_
      rotate_left
      ·show Act.put _ (some 33) _ = _
       simp only [Act.put, List.setIfInBounds_toArray, List.set_cons_zero, List.set_cons_succ, i64_w, i32_w]
       rfl
      refine one_ (i := 4) (N := some 36) #[true, true, true, true, true, true, false, true, false] rfl rfl (one_of HT_.out (by kernel_rfl)) (by decide) (fun K hK => ?_)
      refine goesA Try.func26 #[.agg #[.int .i64 a2_0, .int .i64 a2_1, .int .i64 a2_2]] ?_
      with_reducible refine (laws_toTrain.calls a2_0 a2_1 a2_2 t400 t401 t402 _ A15.out).mono ?_
      rintro e w46 ⟨rfl, hb⟩
      refine ⟨_, rfl, ?_⟩
      have n0_ := rbl HO384 hb; have n1_ := rbl HO391 hb; have n2_ := rbl HO396 hb; have n3_ := bkb BK373 hb; have n4_ := bkb BK374 hb; have n5_ := bkb BK393 hb; have n6_ := bkb BK411 hb; have n7_ := bst HB hb; clear HO384 HO391 HO396 BK373 BK374 BK393 BK411 HB; have HO384 := n0_; have HO391 := n1_; have HO396 := n2_; have BK373 := n3_; have BK374 := n4_; have BK393 := n5_; have BK411 := n6_; have HB := n7_; clear n0_ n1_ n2_ n3_ n4_ n5_ n6_ n7_; (try clear hb); (try clear hb2); (try clear hk); (try clear hi)
      refine hK.out _ _ ⟨bc BK373 0, bc BK373 1, bc BK373 2, bc BK374 0, bc BK374 1, bc BK374 2⟩ (fun hHeld => ?_)
      clear hK K
      refine norm_ (a' := ?_) ?_ ?_
      rotate_left
      ·show Act.put _ (some 36) _ = _
       simp only [Act.put, List.setIfInBounds_toArray, List.set_cons_zero, List.set_cons_succ, i64_w, i32_w]
       rfl
      refine one_ (i := 6) (N := some 38) #[true, true, true, true, true, true, true, true, false] rfl rfl (one_of HT_.out (by kernel_rfl)) (by decide) (fun K hK => ?_)
      refine goesA Try.func27 #[.agg #[.int .i64 t397, .int .i64 t398, .int .i64 t399], .int .i64 a1, .agg #[.int .i64 t400, .int .i64 t401, .int .i64 t402], .slice Ao42 t394.length co42] ?_
      with_reducible refine (impl_TrainTick.calls k t397 t398 t399 a1 t400 t401 t402 _ _ t394 t403 t404 t405 t406 t407 t410 _ ?side1 ?side2 A16.out).mono ?_
      (case side1 => exact qc (Kd.R_reads' HO396.out).2.2)
      (case side2 => exact (Kd.R_reads' HO396.out).2.1)
      rintro e w47 ⟨v408, rfl, ho0, hb⟩
      refine ⟨_, rfl, ?_⟩
      have n0_ := Aside0.mk (Kd.R_elder' (qr HO384) (Kd.R_base ho0) hb)
      have n1_ := Aside0.mk (Kd.R_elder' (qr HO391) (Kd.R_base ho0) hb)
      have n2_ := Aside0.mk (Kd.R_elder' (qr HO396) (Kd.R_base ho0) hb)
      have n3_ := Aside0.mk (Kd.R_lower (Kd.R_new' (Kd.R_new' (Kd.R_new' ho0 (Kd.R_lt (qr HO384))) (Kd.R_lt (qr HO391))) (Kd.R_lt (qr HO396))) (below_size (qs HB)))
      have n4_ := bkb BK373 hb; have n5_ := bkb BK374 hb; have n6_ := bkb BK393 hb; have n7_ := bkb BK411 hb; have n8_ := bst HB hb; clear HO384 HO391 HO396 BK373 BK374 BK393 BK411 HB; have HO384 := n0_; have HO391 := n1_; have HO396 := n2_; have HO409 := n3_; have BK373 := n4_; have BK374 := n5_; have BK393 := n6_; have BK411 := n7_; have HB := n8_; clear n0_ n1_ n2_ n3_ n4_ n5_ n6_ n7_ n8_; (try clear hb); (try clear hb2); (try clear hk); (try clear hi); (try clear ho0)
      refine hK.out _ _ ⟨bc BK373 0, bc BK373 1, bc BK373 2, bc BK374 0, bc BK374 1, bc BK374 2⟩ (fun hHeld => ?_)
      clear hK K
      refine norm_ (a' := ?_) ?_ ?_
      rotate_left
      ·show Act.put _ (some 38) _ = _
       simp only [Act.put, List.setIfInBounds_toArray, List.set_cons_zero, List.set_cons_succ, i64_w, i32_w]
       rfl
      exact normA (hCont (v408, gb411) _ ⟨hHeld, (qm HO384 (fun _ hk => ⟨hk.1.1, ⟨hk.1.2, hk.2⟩⟩)), (qm HO391 (fun _ hk => ⟨hk.1.1, ⟨hk.1.2, hk.2⟩⟩)), (qm HO396 (fun _ hk => ⟨hk.1.1.2, ⟨hk.1.2, hk.2⟩⟩)), (qm HO409 (fun _ hk => ⟨hk.1.1.2, ⟨hk.1.2, hk.2⟩⟩)), (qb BK373), (qb BK374), (qb BK393), (qb BK411), GW411.out, GE411.out, NB373_411.out, NB411_373.out, NB374_411.out, NB411_374.out, NB393_411.out, NB411_393.out, (qs HB)⟩)
    rintro ⟨v408, gb411⟩ w48 ⟨hS_, h0_, h1_, h2_, h3_, h4_, h5_, h6_, h7_, h8_, h9_, h10_, h11_, h12_, h13_, h14_, h15_, h16_⟩
    have n0_ : Aside0 (Kd.R k60 60 w48 w.heap.size (fun k_ => some k_ ≠ (.slice Ao38 t389.length co38 : Value).ownBlock ∧ some k_ ≠ (.slice Ao42 t394.length co42 : Value).ownBlock ∧ some k_ ≠ (v408 : Value).ownBlock) v383 t382) := ⟨h0_⟩
    have n1_ : Aside0 (Kd.R k60 60 w48 w.heap.size (fun k_ => some k_ ≠ (v383 : Value).ownBlock ∧ some k_ ≠ (.slice Ao42 t394.length co42 : Value).ownBlock ∧ some k_ ≠ (v408 : Value).ownBlock) (.slice Ao38 t389.length co38) t389) := ⟨h1_⟩
    have n2_ : Aside0 (Kd.R k60 60 w48 w.heap.size (fun k_ => some k_ ≠ (v383 : Value).ownBlock ∧ some k_ ≠ (.slice Ao38 t389.length co38 : Value).ownBlock ∧ some k_ ≠ (v408 : Value).ownBlock) (.slice Ao42 t394.length co42) t394) := ⟨h2_⟩
    have n3_ : Aside0 (Kd.R k60 60 w48 w.heap.size (fun k_ => some k_ ≠ (v383 : Value).ownBlock ∧ some k_ ≠ (.slice Ao38 t389.length co38 : Value).ownBlock ∧ some k_ ≠ (.slice Ao42 t394.length co42 : Value).ownBlock) v408 t407) := ⟨h3_⟩
    have n4_ : Aside0 (w48.heap[gb373]? = some (.cells #[.int .i64 a0_0, .int .i64 a0_1, .int .i64 a0_2] 23 (0, 0))) := ⟨h4_⟩
    have n5_ : Aside0 (w48.heap[gb374]? = some (.cells #[.int .i64 a2_0, .int .i64 a2_1, .int .i64 a2_2] 47 (0, 0))) := ⟨h5_⟩
    have n6_ : Aside0 (w48.heap[gb393]? = some (.cells #[.bool t385, .int .i64 t386, .int .i64 t387, .int .i64 t388, .slice Ao38 t389.length co38, .int .i64 t392] 50 (0, 0))) := ⟨h6_⟩
    have n7_ : Aside0 (w48.heap[gb411]? = some (.cells #[.bool false, .int .i64 0, .int .i64 0, .int .i64 0, .slice none 0 0, .int .i64 0] 50 (0, 0))) := ⟨h7_⟩
    have n8_ : Aside0 (w.heap.size ≤ gb411) := ⟨h8_⟩
    have n9_ : Aside0 (w.heap.size ≤ gb411) := ⟨h9_⟩
    have n10_ : Aside0 (gb373 ≠ gb411) := ⟨h10_⟩
    have n11_ : Aside0 (gb411 ≠ gb373) := ⟨h11_⟩
    have n12_ : Aside0 (gb374 ≠ gb411) := ⟨h12_⟩
    have n13_ : Aside0 (gb411 ≠ gb374) := ⟨h13_⟩
    have n14_ : Aside0 (gb393 ≠ gb411) := ⟨h14_⟩
    have n15_ : Aside0 (gb411 ≠ gb393) := ⟨h15_⟩
    have n16_ : Aside0 (Below w.heap.size w w48) := ⟨h16_⟩
    clear HO384 HO391 HO396 BK373 BK374 BK393 HB h0_ h1_ h2_ h3_ h4_ h5_ h6_ h7_ h8_ h9_ h10_ h11_ h12_ h13_ h14_ h15_ h16_; have HO384 := n0_; have HO391 := n1_; have HO396 := n2_; have HO409 := n3_; have BK373 := n4_; have BK374 := n5_; have BK393 := n6_; have BK411 := n7_; have GW411 := n8_; have GE411 := n9_; have NB373_411 := n10_; have NB411_373 := n11_; have NB374_411 := n12_; have NB411_374 := n13_; have NB393_411 := n14_; have NB411_393 := n15_; have HB := n16_; clear n0_ n1_ n2_ n3_ n4_ n5_ n6_ n7_ n8_ n9_ n10_ n11_ n12_ n13_ n14_ n15_ n16_
    have hHeld : w48.cell? ⟨gb373, 0, none⟩ = some (.int .i64 a0_0) ∧ w48.cell? ⟨gb373, 1, none⟩ = some (.int .i64 a0_1) ∧ w48.cell? ⟨gb373, 2, none⟩ = some (.int .i64 a0_2) ∧ w48.cell? ⟨gb374, 0, none⟩ = some (.int .i64 a2_0) ∧ w48.cell? ⟨gb374, 1, none⟩ = some (.int .i64 a2_1) ∧ w48.cell? ⟨gb374, 2, none⟩ = some (.int .i64 a2_2) := hS_
    obtain ⟨Ao53, co53, eo53⟩ := Kd.R_slice HO409.out
    (first | subst eo53 | (injection eo53 with f1_ f2_ f3_; have f4_ := f1_.symm; have f5_ := f3_.symm; clear f1_ f2_ f3_; subst f4_; subst f5_))
    refine norm_ (a' := ?_) ?_ ?_
    rotate_left
    ·simp only [putAll, Act.put, List.setIfInBounds_toArray, List.set_cons_zero, List.set_cons_succ]
     rfl
    refine one_ (i := 8) (N := none) #[true, true, true, true, true, true, true, true, true] rfl rfl (one_of HT_.out (by kernel_rfl)) (by decide) (fun K hK => ?_)
    have hs49 : w48.cell? ⟨gb411, 0, none⟩ = some (.bool false) := bc BK411 0
    have hfs49 := blk_frozen BK411.out 0
    have hns49_0 := NB373_411.out
    have hns49_1 := NB374_411.out
    have hns49_2 := NB393_411.out
    have hms49_0 := NB411_373.out
    have hms49_1 := NB411_374.out
    have hms49_2 := NB411_393.out
    have hs50 : w48.cell? ⟨gb411, 1, none⟩ = some (.int .i64 0) := bc BK411 1
    have hfs50 := blk_frozen BK411.out 1
    have hns50_0 := NB373_411.out
    have hns50_1 := NB374_411.out
    have hns50_2 := NB393_411.out
    have hms50_0 := NB411_373.out
    have hms50_1 := NB411_374.out
    have hms50_2 := NB411_393.out
    have hs51 : w48.cell? ⟨gb411, 2, none⟩ = some (.int .i64 0) := bc BK411 2
    have hfs51 := blk_frozen BK411.out 2
    have hns51_0 := NB373_411.out
    have hns51_1 := NB374_411.out
    have hns51_2 := NB393_411.out
    have hms51_0 := NB411_373.out
    have hms51_1 := NB411_374.out
    have hms51_2 := NB411_393.out
    have hs52 : w48.cell? ⟨gb411, 3, none⟩ = some (.int .i64 0) := bc BK411 3
    have hfs52 := blk_frozen BK411.out 3
    have hns52_0 := NB373_411.out
    have hns52_1 := NB374_411.out
    have hns52_2 := NB393_411.out
    have hms52_0 := NB411_373.out
    have hms52_1 := NB411_374.out
    have hms52_2 := NB411_393.out
    have hs54 : w48.cell? ⟨gb411, 4, none⟩ = some (.slice none 0 0) := bc BK411 4
    have hfs54 := blk_frozen BK411.out 4
    have hns54_0 := NB373_411.out
    have hns54_1 := NB374_411.out
    have hns54_2 := NB393_411.out
    have hms54_0 := NB411_373.out
    have hms54_1 := NB411_374.out
    have hms54_2 := NB411_393.out
    have hs55 : w48.cell? ⟨gb411, 5, none⟩ = some (.int .i64 0) := bc BK411 5
    have hfs55 := blk_frozen BK411.out 5
    have hns55_0 := NB373_411.out
    have hns55_1 := NB374_411.out
    have hns55_2 := NB393_411.out
    have hms55_0 := NB411_373.out
    have hms55_1 := NB411_374.out
    have hms55_2 := NB411_393.out
    refine skip_ (w1 := ?_) (by rfl) rfl ?_ ?_
    rotate_left
    ·go_simp
     rfl
    refine hK.out _ _ ⟨(cf NB373_411 ((cf NB373_411 ((cf NB373_411 ((cf NB373_411 ((cf NB373_411 ((cf NB373_411 (hHeld.1)))))))))))), (cf NB373_411 ((cf NB373_411 ((cf NB373_411 ((cf NB373_411 ((cf NB373_411 ((cf NB373_411 (hHeld.2.1)))))))))))), (cf NB373_411 ((cf NB373_411 ((cf NB373_411 ((cf NB373_411 ((cf NB373_411 ((cf NB373_411 (hHeld.2.2.1)))))))))))), (cf NB374_411 ((cf NB374_411 ((cf NB374_411 ((cf NB374_411 ((cf NB374_411 ((cf NB374_411 (hHeld.2.2.2.1)))))))))))), (cf NB374_411 ((cf NB374_411 ((cf NB374_411 ((cf NB374_411 ((cf NB374_411 ((cf NB374_411 (hHeld.2.2.2.2.1)))))))))))), (cf NB374_411 ((cf NB374_411 ((cf NB374_411 ((cf NB374_411 ((cf NB374_411 ((cf NB374_411 (hHeld.2.2.2.2.2))))))))))))⟩ (fun hHeld => ?_)
    clear hK K
    refine done_ (done_of HT_.out (by kernel_rfl)) ?_
    have hnb56 := NB411_373.out
    have hnc56 := NB373_411.out
    have hnb57 := NB411_374.out
    have hnc57 := NB374_411.out
    have hnb58 := NB411_393.out
    have hnc58 := NB393_411.out
    have hcz59_0 : w48.cell? ⟨gb411, 0, none⟩ = some (.bool false) := bc BK411 0
    have hcz59_1 : w48.cell? ⟨gb411, 1, none⟩ = some (.int .i64 0) := bc BK411 1
    have hcz59_2 : w48.cell? ⟨gb411, 2, none⟩ = some (.int .i64 0) := bc BK411 2
    have hcz59_3 : w48.cell? ⟨gb411, 3, none⟩ = some (.int .i64 0) := bc BK411 3
    have hcz59_4 : w48.cell? ⟨gb411, 4, none⟩ = some (.slice none 0 0) := bc BK411 4
    have hcz59_5 : w48.cell? ⟨gb411, 5, none⟩ = some (.int .i64 0) := bc BK411 5
    have hfz59_0 := blk_frozen BK411.out 0
    have hfz59_1 := blk_frozen BK411.out 1
    have hfz59_2 := blk_frozen BK411.out 2
    have hfz59_3 := blk_frozen BK411.out 3
    have hfz59_4 := blk_frozen BK411.out 4
    have hfz59_5 := blk_frozen BK411.out 5
    have hnb60 := NB393_373.out
    have hnc60 := NB373_393.out
    have hnb61 := NB393_374.out
    have hnc61 := NB374_393.out
    have hcz62_0 : w48.cell? ⟨gb393, 0, none⟩ = some (.bool t385) := bc BK393 0
    have hcz62_1 : w48.cell? ⟨gb393, 1, none⟩ = some (.int .i64 t386) := bc BK393 1
    have hcz62_2 : w48.cell? ⟨gb393, 2, none⟩ = some (.int .i64 t387) := bc BK393 2
    have hcz62_3 : w48.cell? ⟨gb393, 3, none⟩ = some (.int .i64 t388) := bc BK393 3
    have hcz62_4 : w48.cell? ⟨gb393, 4, none⟩ = some (.slice Ao38 t389.length co38) := bc BK393 4
    have hcz62_5 : w48.cell? ⟨gb393, 5, none⟩ = some (.int .i64 t392) := bc BK393 5
    have hfz62_0 := blk_frozen BK393.out 0
    have hfz62_1 := blk_frozen BK393.out 1
    have hfz62_2 := blk_frozen BK393.out 2
    have hfz62_3 := blk_frozen BK393.out 3
    have hfz62_4 := blk_frozen BK393.out 4
    have hfz62_5 := blk_frozen BK393.out 5
    go_upto_region 14 with (first | ((with_reducible refine gate_callee (f := 28) rfl ?_); refine goesLA (some 41) rfl Try.func28 #[.agg #[.bool t403, .int .i64 t404, .int .i64 t405, .int .i64 t406, .slice Ao53 t407.length co53, .int .i64 t410], .agg #[.bool t385, .int .i64 t386, .int .i64 t387, .int .i64 t388, .slice Ao38 t389.length co38, .int .i64 t392]] ?_; (with_reducible refine (laws_eqTrained.calls k t403 t404 t405 t406 _ _ t407 t410 t385 t386 t387 t388 _ _ t389 t392 true _ ?side1 ?side2 ?side3 ?side4 A17.out).mono ?_); (case side1 => refine (Kd.R_reads' (e := 60) (base := w.heap.size) (ok := fun k_ => (some k_ ≠ (v383 : Value).ownBlock ∧ (some k_ ≠ (.slice Ao38 t389.length co38 : Value).ownBlock ∧ some k_ ≠ (.slice Ao42 t394.length co42 : Value).ownBlock))) (n := t407.length) (c := co53) ?_).2.2; exact (by (with_reducible repeat (first | apply Kd.R_alloc | apply Kd.R_drewN | apply Kd.R_drew)); exact (Kd.R_mono (Kd.R_far (p := ⟨gb411, 5, none⟩) (Kd.R_far (p := ⟨gb411, 4, none⟩) (Kd.R_far (p := ⟨gb411, 3, none⟩) (Kd.R_far (p := ⟨gb411, 2, none⟩) (Kd.R_far (p := ⟨gb411, 1, none⟩) (Kd.R_far (p := ⟨gb411, 0, none⟩) (Kd.R_types HO409.out BK411.out (by decide)) (fun _ hk => hk.2) (.bool t403)) (fun _ hk => hk.2) (.int .i64 t404)) (fun _ hk => hk.2) (.int .i64 t405)) (fun _ hk => hk.2) (.int .i64 t406)) (fun _ hk => hk.2) (.slice Ao53 t407.length co53)) (fun _ hk => hk.2) (.int .i64 t410)) (fun _ h_ => h_.1)))); (case side2 => exact (Kd.R_reads' HO409.out).2.1); (case side3 => refine (Kd.R_reads' (e := 60) (base := w.heap.size) (ok := fun k_ => (some k_ ≠ (v383 : Value).ownBlock ∧ (some k_ ≠ (.slice Ao42 t394.length co42 : Value).ownBlock ∧ some k_ ≠ (.slice Ao53 t407.length co53 : Value).ownBlock))) (n := t389.length) (c := co38) ?_).2.2; exact (by (with_reducible repeat (first | apply Kd.R_alloc | apply Kd.R_drewN | apply Kd.R_drew)); exact (Kd.R_mono (Kd.R_far (p := ⟨gb411, 5, none⟩) (Kd.R_far (p := ⟨gb411, 4, none⟩) (Kd.R_far (p := ⟨gb411, 3, none⟩) (Kd.R_far (p := ⟨gb411, 2, none⟩) (Kd.R_far (p := ⟨gb411, 1, none⟩) (Kd.R_far (p := ⟨gb411, 0, none⟩) (Kd.R_types HO391.out BK411.out (by decide)) (fun _ hk => hk.2) (.bool t403)) (fun _ hk => hk.2) (.int .i64 t404)) (fun _ hk => hk.2) (.int .i64 t405)) (fun _ hk => hk.2) (.int .i64 t406)) (fun _ hk => hk.2) (.slice Ao53 t407.length co53)) (fun _ hk => hk.2) (.int .i64 t410)) (fun _ h_ => h_.1)))); (case side4 => exact (Kd.R_reads' HO391.out).2.1); rintro e w63 ⟨rfl, hb⟩; refine ⟨_, rfl, ?_⟩; have n0_ := Aside0.mk (Kd.R_below (by (with_reducible repeat (first | apply Kd.R_alloc | apply Kd.R_drewN | apply Kd.R_drew)); exact (Kd.R_mono (Kd.R_far (p := ⟨gb411, 5, none⟩) (Kd.R_far (p := ⟨gb411, 4, none⟩) (Kd.R_far (p := ⟨gb411, 3, none⟩) (Kd.R_far (p := ⟨gb411, 2, none⟩) (Kd.R_far (p := ⟨gb411, 1, none⟩) (Kd.R_far (p := ⟨gb411, 0, none⟩) (Kd.R_types HO384.out BK411.out (by decide)) (fun _ hk => hk.2) (.bool t403)) (fun _ hk => hk.2) (.int .i64 t404)) (fun _ hk => hk.2) (.int .i64 t405)) (fun _ hk => hk.2) (.int .i64 t406)) (fun _ hk => hk.2) (.slice Ao53 t407.length co53)) (fun _ hk => hk.2) (.int .i64 t410)) (fun _ h_ => h_.1))) hb); have n1_ := Aside0.mk (Kd.R_below (by (with_reducible repeat (first | apply Kd.R_alloc | apply Kd.R_drewN | apply Kd.R_drew)); exact (Kd.R_mono (Kd.R_far (p := ⟨gb411, 5, none⟩) (Kd.R_far (p := ⟨gb411, 4, none⟩) (Kd.R_far (p := ⟨gb411, 3, none⟩) (Kd.R_far (p := ⟨gb411, 2, none⟩) (Kd.R_far (p := ⟨gb411, 1, none⟩) (Kd.R_far (p := ⟨gb411, 0, none⟩) (Kd.R_types HO391.out BK411.out (by decide)) (fun _ hk => hk.2) (.bool t403)) (fun _ hk => hk.2) (.int .i64 t404)) (fun _ hk => hk.2) (.int .i64 t405)) (fun _ hk => hk.2) (.int .i64 t406)) (fun _ hk => hk.2) (.slice Ao53 t407.length co53)) (fun _ hk => hk.2) (.int .i64 t410)) (fun _ h_ => h_.1))) hb); have n2_ := Aside0.mk (Kd.R_below (by (with_reducible repeat (first | apply Kd.R_alloc | apply Kd.R_drewN | apply Kd.R_drew)); exact (Kd.R_mono (Kd.R_far (p := ⟨gb411, 5, none⟩) (Kd.R_far (p := ⟨gb411, 4, none⟩) (Kd.R_far (p := ⟨gb411, 3, none⟩) (Kd.R_far (p := ⟨gb411, 2, none⟩) (Kd.R_far (p := ⟨gb411, 1, none⟩) (Kd.R_far (p := ⟨gb411, 0, none⟩) (Kd.R_types HO396.out BK411.out (by decide)) (fun _ hk => hk.2) (.bool t403)) (fun _ hk => hk.2) (.int .i64 t404)) (fun _ hk => hk.2) (.int .i64 t405)) (fun _ hk => hk.2) (.int .i64 t406)) (fun _ hk => hk.2) (.slice Ao53 t407.length co53)) (fun _ hk => hk.2) (.int .i64 t410)) (fun _ h_ => h_.1))) hb); have n3_ := Aside0.mk (Kd.R_below (by (with_reducible repeat (first | apply Kd.R_alloc | apply Kd.R_drewN | apply Kd.R_drew)); exact (Kd.R_mono (Kd.R_far (p := ⟨gb411, 5, none⟩) (Kd.R_far (p := ⟨gb411, 4, none⟩) (Kd.R_far (p := ⟨gb411, 3, none⟩) (Kd.R_far (p := ⟨gb411, 2, none⟩) (Kd.R_far (p := ⟨gb411, 1, none⟩) (Kd.R_far (p := ⟨gb411, 0, none⟩) (Kd.R_types HO409.out BK411.out (by decide)) (fun _ hk => hk.2) (.bool t403)) (fun _ hk => hk.2) (.int .i64 t404)) (fun _ hk => hk.2) (.int .i64 t405)) (fun _ hk => hk.2) (.int .i64 t406)) (fun _ hk => hk.2) (.slice Ao53 t407.length co53)) (fun _ hk => hk.2) (.int .i64 t410)) (fun _ h_ => h_.1))) hb); have n4_ := Aside0.mk (blk_below (g := gb373) (o := .cells #[.int .i64 a0_0, .int .i64 a0_1, .int .i64 a0_2] 23 (0, 0)) (by (with_reducible repeat (first | refine blk_drewN ?_ _ | refine blk_drew ?_ | refine blk_alloc ?_ _)); refine blk_far ?_ NB373_411.out _; (with_reducible repeat (first | refine blk_drewN ?_ _ | refine blk_drew ?_ | refine blk_alloc ?_ _)); refine blk_far ?_ NB373_411.out _; (with_reducible repeat (first | refine blk_drewN ?_ _ | refine blk_drew ?_ | refine blk_alloc ?_ _)); refine blk_far ?_ NB373_411.out _; (with_reducible repeat (first | refine blk_drewN ?_ _ | refine blk_drew ?_ | refine blk_alloc ?_ _)); refine blk_far ?_ NB373_411.out _; (with_reducible repeat (first | refine blk_drewN ?_ _ | refine blk_drew ?_ | refine blk_alloc ?_ _)); refine blk_far ?_ NB373_411.out _; (with_reducible repeat (first | refine blk_drewN ?_ _ | refine blk_drew ?_ | refine blk_alloc ?_ _)); refine blk_far ?_ NB373_411.out _; (with_reducible repeat (first | refine blk_drewN ?_ _ | refine blk_drew ?_ | refine blk_alloc ?_ _)); exact BK373.out) hb); have n5_ := Aside0.mk (blk_below (g := gb374) (o := .cells #[.int .i64 a2_0, .int .i64 a2_1, .int .i64 a2_2] 47 (0, 0)) (by (with_reducible repeat (first | refine blk_drewN ?_ _ | refine blk_drew ?_ | refine blk_alloc ?_ _)); refine blk_far ?_ NB374_411.out _; (with_reducible repeat (first | refine blk_drewN ?_ _ | refine blk_drew ?_ | refine blk_alloc ?_ _)); refine blk_far ?_ NB374_411.out _; (with_reducible repeat (first | refine blk_drewN ?_ _ | refine blk_drew ?_ | refine blk_alloc ?_ _)); refine blk_far ?_ NB374_411.out _; (with_reducible repeat (first | refine blk_drewN ?_ _ | refine blk_drew ?_ | refine blk_alloc ?_ _)); refine blk_far ?_ NB374_411.out _; (with_reducible repeat (first | refine blk_drewN ?_ _ | refine blk_drew ?_ | refine blk_alloc ?_ _)); refine blk_far ?_ NB374_411.out _; (with_reducible repeat (first | refine blk_drewN ?_ _ | refine blk_drew ?_ | refine blk_alloc ?_ _)); refine blk_far ?_ NB374_411.out _; (with_reducible repeat (first | refine blk_drewN ?_ _ | refine blk_drew ?_ | refine blk_alloc ?_ _)); exact BK374.out) hb); have n6_ := Aside0.mk (blk_below (g := gb393) (o := .cells #[.bool t385, .int .i64 t386, .int .i64 t387, .int .i64 t388, .slice Ao38 t389.length co38, .int .i64 t392] 50 (0, 0)) (by (with_reducible repeat (first | refine blk_drewN ?_ _ | refine blk_drew ?_ | refine blk_alloc ?_ _)); refine blk_far ?_ NB393_411.out _; (with_reducible repeat (first | refine blk_drewN ?_ _ | refine blk_drew ?_ | refine blk_alloc ?_ _)); refine blk_far ?_ NB393_411.out _; (with_reducible repeat (first | refine blk_drewN ?_ _ | refine blk_drew ?_ | refine blk_alloc ?_ _)); refine blk_far ?_ NB393_411.out _; (with_reducible repeat (first | refine blk_drewN ?_ _ | refine blk_drew ?_ | refine blk_alloc ?_ _)); refine blk_far ?_ NB393_411.out _; (with_reducible repeat (first | refine blk_drewN ?_ _ | refine blk_drew ?_ | refine blk_alloc ?_ _)); refine blk_far ?_ NB393_411.out _; (with_reducible repeat (first | refine blk_drewN ?_ _ | refine blk_drew ?_ | refine blk_alloc ?_ _)); refine blk_far ?_ NB393_411.out _; (with_reducible repeat (first | refine blk_drewN ?_ _ | refine blk_drew ?_ | refine blk_alloc ?_ _)); exact BK393.out) hb); have n7_ := Aside0.mk (blk_below (g := gb411) (o := .cells #[.bool t403, .int .i64 t404, .int .i64 t405, .int .i64 t406, .slice Ao53 t407.length co53, .int .i64 t410] 50 (0, 0)) (by (with_reducible repeat (first | refine blk_drewN ?_ _ | refine blk_drew ?_ | refine blk_alloc ?_ _)); refine blk_put (cs := #[.bool t403, .int .i64 t404, .int .i64 t405, .int .i64 t406, .slice Ao53 t407.length co53, .int .i64 0]) ?_ 5 _ rfl; (with_reducible repeat (first | refine blk_drewN ?_ _ | refine blk_drew ?_ | refine blk_alloc ?_ _)); refine blk_put (cs := #[.bool t403, .int .i64 t404, .int .i64 t405, .int .i64 t406, .slice none 0 0, .int .i64 0]) ?_ 4 _ rfl; (with_reducible repeat (first | refine blk_drewN ?_ _ | refine blk_drew ?_ | refine blk_alloc ?_ _)); refine blk_put (cs := #[.bool t403, .int .i64 t404, .int .i64 t405, .int .i64 0, .slice none 0 0, .int .i64 0]) ?_ 3 _ rfl; (with_reducible repeat (first | refine blk_drewN ?_ _ | refine blk_drew ?_ | refine blk_alloc ?_ _)); refine blk_put (cs := #[.bool t403, .int .i64 t404, .int .i64 0, .int .i64 0, .slice none 0 0, .int .i64 0]) ?_ 2 _ rfl; (with_reducible repeat (first | refine blk_drewN ?_ _ | refine blk_drew ?_ | refine blk_alloc ?_ _)); refine blk_put (cs := #[.bool t403, .int .i64 0, .int .i64 0, .int .i64 0, .slice none 0 0, .int .i64 0]) ?_ 1 _ rfl; (with_reducible repeat (first | refine blk_drewN ?_ _ | refine blk_drew ?_ | refine blk_alloc ?_ _)); refine blk_put (cs := #[.bool false, .int .i64 0, .int .i64 0, .int .i64 0, .slice none 0 0, .int .i64 0]) ?_ 0 _ rfl; (with_reducible repeat (first | refine blk_drewN ?_ _ | refine blk_drew ?_ | refine blk_alloc ?_ _)); exact BK411.out) hb); have n8_ := bst HB hb; clear HO384; clear HO391; clear HO396; clear HO409; clear BK373; clear BK374; clear BK393; clear BK411; clear HB; have HO384 := n0_; have HO391 := n1_; have HO396 := n2_; have HO409 := n3_; have BK373 := n4_; have BK374 := n5_; have BK393 := n6_; have BK411 := n7_; have HB := n8_; clear n0_ n1_ n2_ n3_ n4_ n5_ n6_ n7_ n8_; (try clear hb); (try clear hb2); (try clear hk); (try clear hi)) | ((with_reducible refine gate_callee (f := 16) rfl ?_); refine goesLA (some 45) rfl Try.func16 #[.slice A3 l3.length c3] ?_; (with_reducible refine (laws_toPacketS.calls k _ _ l3 t413 _ ?side1 ?side2 A19.out).mono ?_); (case side1 => exact qc (Kd.C_below HR3.out HB.out)); (case side2 => exact HC3.out); rintro e w64 ⟨v414, rfl, ho0, hb⟩; refine ⟨_, rfl, ?_⟩; have n0_ := Aside0.mk (Kd.R_elder' (qr HO384) (Kd.R_base ho0) hb); have n1_ := Aside0.mk (Kd.R_elder' (qr HO391) (Kd.R_base ho0) hb); have n2_ := Aside0.mk (Kd.R_elder' (qr HO396) (Kd.R_base ho0) hb); have n3_ := Aside0.mk (Kd.R_elder' (qr HO409) (Kd.R_base ho0) hb); have n4_ := Aside0.mk (Kd.R_lower (Kd.R_new' (Kd.R_new' (Kd.R_new' (Kd.R_new' ho0 (Kd.R_lt (qr HO384))) (Kd.R_lt (qr HO391))) (Kd.R_lt (qr HO396))) (Kd.R_lt (qr HO409))) (below_size (qs HB))); have n5_ := bkb BK373 hb; have n6_ := bkb BK374 hb; have n7_ := bkb BK393 hb; have n8_ := bkb BK411 hb; have n9_ := bst HB hb; clear HO384; clear HO391; clear HO396; clear HO409; clear BK373; clear BK374; clear BK393; clear BK411; clear HB; have HO384 := n0_; have HO391 := n1_; have HO396 := n2_; have HO409 := n3_; have HO415 := n4_; have BK373 := n5_; have BK374 := n6_; have BK393 := n7_; have BK411 := n8_; have HB := n9_; clear n0_ n1_ n2_ n3_ n4_ n5_ n6_ n7_ n8_ n9_; (try clear hb); (try clear hb2); (try clear hk); (try clear hi); (try clear ho0); obtain ⟨Ao65, co65, eo65⟩ := Kd.R_slice HO415.out; subst eo65) | ((with_reducible refine gate_callee (f := 20) rfl ?_); refine goesLA (some 46) rfl Try.func20 #[.slice Ao42 t394.length co42, .slice Ao65 t413.length co65] ?_; (with_reducible refine (laws_eqPacketS.calls k _ _ t394 _ _ t413 true _ ?side1 ?side2 ?side3 ?side4 A20.out).mono ?_); (case side1 => exact qc (Kd.R_reads' HO396.out).2.2); (case side2 => exact (Kd.R_reads' HO396.out).2.1); (case side3 => exact qc (Kd.R_reads' HO415.out).2.2); (case side4 => exact (Kd.R_reads' HO415.out).2.1); rintro e w66 ⟨rfl, hb⟩; refine ⟨_, rfl, ?_⟩; have n0_ := rbl HO384 hb; have n1_ := rbl HO391 hb; have n2_ := rbl HO396 hb; have n3_ := rbl HO409 hb; have n4_ := rbl HO415 hb; have n5_ := bkb BK373 hb; have n6_ := bkb BK374 hb; have n7_ := bkb BK393 hb; have n8_ := bkb BK411 hb; have n9_ := bst HB hb; clear HO384; clear HO391; clear HO396; clear HO409; clear HO415; clear BK373; clear BK374; clear BK393; clear BK411; clear HB; have HO384 := n0_; have HO391 := n1_; have HO396 := n2_; have HO409 := n3_; have HO415 := n4_; have BK373 := n5_; have BK374 := n6_; have BK393 := n7_; have BK411 := n8_; have HB := n9_; clear n0_ n1_ n2_ n3_ n4_ n5_ n6_ n7_ n8_ n9_; (try clear hb); (try clear hb2); (try clear hk); (try clear hi)) | ((with_reducible refine gate_callee (f := 22) rfl ?_); refine goesLA (some 50) rfl Try.func22 #[.slice Ao42 t394.length co42, .int .i64 1] ?_; (with_reducible refine (laws_markPacketS.calls k (fun k_ => some k_ = (.slice Ao42 t394.length co42 : Value).ownBlock) (.slice Ao42 t394.length co42) t394 1 t417 t418 w _ ?side1 ?side2 A22.out).mono ?_); (case side1 => repeat (first | (with_reducible first | exact HB.out | apply below_alloc | apply pw_below_drewN | apply below_drew1 | refine below_set ?_ GE373.out | refine below_set ?_ GE374.out | refine below_set ?_ GE393.out | refine below_set ?_ GE411.out) | exact HB.out)); (case side2 => exact Kd.R_tight rfl HO396.out); rintro e w67 ⟨rfl, hy0, hb, hkp⟩; refine ⟨_, rfl, ?_⟩; have n0_ := Aside0.mk (blk_kept (qb BK373) hkp (fun hs_ => (fun e_ => (Kd.R_ne HO396.out BK373.out (by decide)) e_) hs_)); have n1_ := Aside0.mk (blk_kept (qb BK374) hkp (fun hs_ => (fun e_ => (Kd.R_ne HO396.out BK374.out (by decide)) e_) hs_)); have n2_ := Aside0.mk (Kd.R_mono (ok' := fun k_ => some k_ ≠ (.slice Ao38 t389.length co38 : Value).ownBlock ∧ some k_ ≠ (.slice Ao42 t394.length co42 : Value).ownBlock ∧ some k_ ≠ (.slice Ao53 t407.length co53 : Value).ownBlock ∧ some k_ ≠ (.slice Ao65 t413.length co65 : Value).ownBlock) (Kd.R_keptB (HO384.out) hkp (fun k_ hk_ hs_ => (hk_.1.2.1) hs_)) (fun k_ hk_ => ⟨hk_.1.1.1, hk_.1.1.2.1, hk_.1.1.2.2, hk_.1.2⟩)); have n3_ := Aside0.mk (Kd.R_mono (ok' := fun k_ => some k_ ≠ (v383 : Value).ownBlock ∧ some k_ ≠ (.slice Ao42 t394.length co42 : Value).ownBlock ∧ some k_ ≠ (.slice Ao53 t407.length co53 : Value).ownBlock ∧ some k_ ≠ (.slice Ao65 t413.length co65 : Value).ownBlock) (Kd.R_keptB (HO391.out) hkp (fun k_ hk_ hs_ => (hk_.1.2.1) hs_)) (fun k_ hk_ => ⟨hk_.1.1.1, hk_.1.1.2.1, hk_.1.1.2.2, hk_.1.2⟩)); have n4_ := Aside0.mk (blk_kept (qb BK393) hkp (fun hs_ => (fun e_ => (Kd.R_ne HO396.out BK393.out (by decide)) e_) hs_)); have n5_ := Aside0.mk (Kd.R_reok rfl hy0 (fun k_ e_ => HO396.out.1 k_ e_)); have n6_ := Aside0.mk (Kd.R_mono (ok' := fun k_ => some k_ ≠ (v383 : Value).ownBlock ∧ some k_ ≠ (.slice Ao38 t389.length co38 : Value).ownBlock ∧ some k_ ≠ (.slice Ao42 t394.length co42 : Value).ownBlock ∧ some k_ ≠ (.slice Ao65 t413.length co65 : Value).ownBlock) (Kd.R_keptB (HO409.out) hkp (fun k_ hk_ hs_ => (hk_.1.2.2) hs_)) (fun k_ hk_ => ⟨hk_.1.1.1, hk_.1.1.2.1, hk_.1.1.2.2, hk_.1.2⟩)); have n7_ := Aside0.mk (blk_kept (qb BK411) hkp (fun hs_ => (fun e_ => (Kd.R_ne HO396.out BK411.out (by decide)) e_) hs_)); have n8_ := Aside0.mk (Kd.R_mono (ok' := fun k_ => some k_ ≠ (v383 : Value).ownBlock ∧ some k_ ≠ (.slice Ao38 t389.length co38 : Value).ownBlock ∧ some k_ ≠ (.slice Ao42 t394.length co42 : Value).ownBlock ∧ some k_ ≠ (.slice Ao53 t407.length co53 : Value).ownBlock) (Kd.R_keptB (HO415.out) hkp (fun k_ hk_ hs_ => (hk_.1.2) hs_)) (fun k_ hk_ => ⟨hk_.1.1.1.1.2, hk_.1.1.1.2, hk_.1.1.2, hk_.1.2⟩)); have n9_ := Aside0.mk (hb); clear BK373; clear BK374; clear HO384; clear HO391; clear BK393; clear HO396; clear HO409; clear BK411; clear HO415; clear HB; have BK373 := n0_; have BK374 := n1_; have HO384 := n2_; have HO391 := n3_; have BK393 := n4_; have HO396 := n5_; have HO409 := n6_; have BK411 := n7_; have HO415 := n8_; have HB := n9_; clear n0_ n1_ n2_ n3_ n4_ n5_ n6_ n7_ n8_ n9_; (try clear hb); (try clear hkp); (try clear hy0)))
    (try simp only [Act.put, List.setIfInBounds_toArray, List.set_cons_zero, List.set_cons_succ])
    go_cut [58] (fun v58 wc => ∃ (kq : Nat) (x58_22 : Bool), v58 = .bool x58_22 ∧ Aside0 (laws_FnExactTrainTick.j0 kq a1 l3 x58_22 a0_0 a0_1 a0_2 a2_0 a2_1 a2_2 t385 t386 t387 t388 t389 t392 t403 t404 t405 t406 t407 t410 = some true) ∧ Aside0 (kq ≤ k) ∧ Aside0 (Kd.R k60 60 wc w.heap.size (fun k_ => some k_ ≠ ((.slice Ao53 t407.length co53) : Value).ownBlock) (.slice Ao38 t389.length co38) t389) ∧ Aside0 (Kd.R k60 60 wc w.heap.size (fun k_ => some k_ ≠ ((.slice Ao38 t389.length co38) : Value).ownBlock) (.slice Ao53 t407.length co53) t407) ∧ Aside0 (wc.heap[gb373]? = some (.cells #[.int .i64 a0_0, .int .i64 a0_1, .int .i64 a0_2] 23 (0, 0))) ∧ Aside0 (wc.heap[gb374]? = some (.cells #[.int .i64 a2_0, .int .i64 a2_1, .int .i64 a2_2] 47 (0, 0))) ∧ Aside0 (wc.heap[gb393]? = some (.cells #[.bool t385, .int .i64 t386, .int .i64 t387, .int .i64 t388, (.slice Ao38 t389.length co38), .int .i64 t392] 50 (0, 0))) ∧ Aside0 (wc.heap[gb411]? = some (.cells #[.bool t403, .int .i64 t404, .int .i64 t405, .int .i64 t406, (.slice Ao53 t407.length co53), .int .i64 t410] 50 (0, 0))) ∧ Aside0 (Below w.heap.size w wc))
    case first =>
     have H := HC23.out
     clear HC23
     by_cases c68 : t417 < 0
     ·rw [if_pos c68] at H
      have c68b0 : decide (t417 < 0) = true := decide_eq_true c68
      clear c68
      (first | rw [c68b0] | (simp only [i64_w, i32_w]; rw [c68b0]) | skip)
      have H' := Aside0.mk H
      clear H
      go_wp2
      go_meet
      case rel => exact ⟨_, (true), (by first | rfl | (simp; done) | (simp [*]; done)), H', ⟨by first | omega | exact Nat.le_refl _⟩, ⟨by (with_reducible repeat (first | apply Kd.R_alloc | apply Kd.R_drewN | apply Kd.R_drew)); exact Kd.R_mono HO391.out (fun _ hk => hk.2.2.1)⟩, ⟨by (with_reducible repeat (first | apply Kd.R_alloc | apply Kd.R_drewN | apply Kd.R_drew)); exact Kd.R_mono HO409.out (fun _ hk => hk.2.1)⟩, ⟨by (with_reducible repeat (first | refine blk_drewN ?_ _ | refine blk_drew ?_ | refine blk_alloc ?_ _)); exact BK373.out⟩, ⟨by (with_reducible repeat (first | refine blk_drewN ?_ _ | refine blk_drew ?_ | refine blk_alloc ?_ _)); exact BK374.out⟩, ⟨by (with_reducible repeat (first | refine blk_drewN ?_ _ | refine blk_drew ?_ | refine blk_alloc ?_ _)); exact BK393.out⟩, ⟨by (with_reducible repeat (first | refine blk_drewN ?_ _ | refine blk_drew ?_ | refine blk_alloc ?_ _)); exact BK411.out⟩, ⟨by repeat (first | (with_reducible first | exact HB.out | apply below_alloc | apply pw_below_drewN | apply below_drew1 | refine below_set ?_ GE373.out | refine below_set ?_ GE374.out | refine below_set ?_ GE393.out | refine below_set ?_ GE411.out) | exact HB.out)⟩⟩
     ·rw [if_neg c68] at H
      have c68b0 : decide (t417 < 0) = false := decide_eq_false c68
      clear c68
      (first | rw [c68b0] | (simp only [i64_w, i32_w]; rw [c68b0]) | skip)
      replace H := Option.bind_eq_some_iff.mp H
      obtain ⟨t419, A690, H⟩ := H
      replace H : (laws_FnExactTrainTick.j0 k a1 l3 (!t419) a0_0 a0_1 a0_2 a2_0 a2_1 a2_2 t385 t386 t387 t388 t389 t392 t403 t404 t405 t406 t407 t410) = some true := H
      have A69 := Aside0.mk A690
      clear A690
      have H' := Aside0.mk H
      clear H
      have hnb70 := NB411_373.out
      have hnc70 := NB373_411.out
      have hnb71 := NB411_374.out
      have hnc71 := NB374_411.out
      have hnb72 := NB411_393.out
      have hnc72 := NB393_411.out
      have hcz73_0 : w67.cell? ⟨gb411, 0, none⟩ = some (.bool t403) := bc BK411 0
      have hcz73_1 : w67.cell? ⟨gb411, 1, none⟩ = some (.int .i64 t404) := bc BK411 1
      have hcz73_2 : w67.cell? ⟨gb411, 2, none⟩ = some (.int .i64 t405) := bc BK411 2
      have hcz73_3 : w67.cell? ⟨gb411, 3, none⟩ = some (.int .i64 t406) := bc BK411 3
      have hcz73_4 : w67.cell? ⟨gb411, 4, none⟩ = some (.slice Ao53 t407.length co53) := bc BK411 4
      have hcz73_5 : w67.cell? ⟨gb411, 5, none⟩ = some (.int .i64 t410) := bc BK411 5
      have hfz73_0 := blk_frozen BK411.out 0
      have hfz73_1 := blk_frozen BK411.out 1
      have hfz73_2 := blk_frozen BK411.out 2
      have hfz73_3 := blk_frozen BK411.out 3
      have hfz73_4 := blk_frozen BK411.out 4
      have hfz73_5 := blk_frozen BK411.out 5
      have hnb74 := NB393_373.out
      have hnc74 := NB373_393.out
      have hnb75 := NB393_374.out
      have hnc75 := NB374_393.out
      have hcz76_0 : w67.cell? ⟨gb393, 0, none⟩ = some (.bool t385) := bc BK393 0
      have hcz76_1 : w67.cell? ⟨gb393, 1, none⟩ = some (.int .i64 t386) := bc BK393 1
      have hcz76_2 : w67.cell? ⟨gb393, 2, none⟩ = some (.int .i64 t387) := bc BK393 2
      have hcz76_3 : w67.cell? ⟨gb393, 3, none⟩ = some (.int .i64 t388) := bc BK393 3
      have hcz76_4 : w67.cell? ⟨gb393, 4, none⟩ = some (.slice Ao38 t389.length co38) := bc BK393 4
      have hcz76_5 : w67.cell? ⟨gb393, 5, none⟩ = some (.int .i64 t392) := bc BK393 5
      have hfz76_0 := blk_frozen BK393.out 0
      have hfz76_1 := blk_frozen BK393.out 1
      have hfz76_2 := blk_frozen BK393.out 2
      have hfz76_3 := blk_frozen BK393.out 3
      have hfz76_4 := blk_frozen BK393.out 4
      have hfz76_5 := blk_frozen BK393.out 5
      go_wp2_with (first | (go_at_call 28; (with_reducible refine (laws_eqTrained.calls k t403 t404 t405 t406 _ _ t407 t410 t385 t386 t387 t388 _ _ t389 t392 t419 _ ?side1 ?side2 ?side3 ?side4 A69.out).mono ?_); (case side1 => exact qc (Kd.R_reads' HO409.out).2.2); (case side2 => exact (Kd.R_reads' HO409.out).2.1); (case side3 => exact qc (Kd.R_reads' HO391.out).2.2); (case side4 => exact (Kd.R_reads' HO391.out).2.1); rintro e w77 ⟨rfl, hb⟩; have n0_ := rbl HO384 hb; have n1_ := rbl HO391 hb; have n2_ := rbl HO396 hb; have n3_ := rbl HO409 hb; have n4_ := rbl HO415 hb; have n5_ := bkb BK373 hb; have n6_ := bkb BK374 hb; have n7_ := bkb BK393 hb; have n8_ := bkb BK411 hb; have n9_ := bst HB hb; clear HO384; clear HO391; clear HO396; clear HO409; clear HO415; clear BK373; clear BK374; clear BK393; clear BK411; clear HB; have HO384 := n0_; have HO391 := n1_; have HO396 := n2_; have HO409 := n3_; have HO415 := n4_; have BK373 := n5_; have BK374 := n6_; have BK393 := n7_; have BK411 := n8_; have HB := n9_; clear n0_ n1_ n2_ n3_ n4_ n5_ n6_ n7_ n8_ n9_; (try clear hb); (try clear hb2); (try clear hk); (try clear hi)))
      go_meet
      case rel => exact ⟨_, (!t419), (by first | rfl | (simp; done) | (simp [*]; done)), H', ⟨by first | omega | exact Nat.le_refl _⟩, ⟨by (with_reducible repeat (first | apply Kd.R_alloc | apply Kd.R_drewN | apply Kd.R_drew)); exact Kd.R_mono HO391.out (fun _ hk => hk.2.2.1)⟩, ⟨by (with_reducible repeat (first | apply Kd.R_alloc | apply Kd.R_drewN | apply Kd.R_drew)); exact Kd.R_mono HO409.out (fun _ hk => hk.2.1)⟩, ⟨by (with_reducible repeat (first | refine blk_drewN ?_ _ | refine blk_drew ?_ | refine blk_alloc ?_ _)); exact BK373.out⟩, ⟨by (with_reducible repeat (first | refine blk_drewN ?_ _ | refine blk_drew ?_ | refine blk_alloc ?_ _)); exact BK374.out⟩, ⟨by (with_reducible repeat (first | refine blk_drewN ?_ _ | refine blk_drew ?_ | refine blk_alloc ?_ _)); exact BK393.out⟩, ⟨by (with_reducible repeat (first | refine blk_drewN ?_ _ | refine blk_drew ?_ | refine blk_alloc ?_ _)); exact BK411.out⟩, ⟨by repeat (first | (with_reducible first | exact HB.out | apply below_alloc | apply pw_below_drewN | apply below_drew1 | refine below_set ?_ GE373.out | refine below_set ?_ GE374.out | refine below_set ?_ GE393.out | refine below_set ?_ GE411.out) | exact HB.out)⟩⟩
    case rest =>
     clear HC23
     try clear c1
     try clear c2
     try clear p2
     try clear c3
     try clear c5
     try clear c6
     try clear c7
     try clear c13
     try clear c16
     try clear c20
     try clear c22
     try clear c26
     try clear c27
     try clear c28
     try clear c56
     try clear c57
     try clear c58
     try clear c60
     try clear c61
     try clear c68
     try clear c68b0
     try clear c70
     try clear c71
     try clear c72
     try clear c74
     try clear c75
     try clear hcz59_0
     try clear hcz59_1
     try clear hcz59_2
     try clear hcz59_3
     try clear hcz59_4
     try clear hcz59_5
     try clear hcz62_0
     try clear hcz62_1
     try clear hcz62_2
     try clear hcz62_3
     try clear hcz62_4
     try clear hcz62_5
     try clear hcz73_0
     try clear hcz73_1
     try clear hcz73_2
     try clear hcz73_3
     try clear hcz73_4
     try clear hcz73_5
     try clear hcz76_0
     try clear hcz76_1
     try clear hcz76_2
     try clear hcz76_3
     try clear hcz76_4
     try clear hcz76_5
     try clear hfz59_0
     try clear hfz59_1
     try clear hfz59_2
     try clear hfz59_3
     try clear hfz59_4
     try clear hfz59_5
     try clear hfz62_0
     try clear hfz62_1
     try clear hfz62_2
     try clear hfz62_3
     try clear hfz62_4
     try clear hfz62_5
     try clear hfz73_0
     try clear hfz73_1
     try clear hfz73_2
     try clear hfz73_3
     try clear hfz73_4
     try clear hfz73_5
     try clear hfz76_0
     try clear hfz76_1
     try clear hfz76_2
     try clear hfz76_3
     try clear hfz76_4
     try clear hfz76_5
     obtain ⟨kq, x58_22, rfl, HA, HJ22, HO_394004, HO_412004, BK373, BK374, BK393, BK411, HB⟩ := hcut
     cases kq with
     | zero => exact absurd HA.out (by simp [laws_FnExactTrainTick.j0])
     | succ kj22 =>
      have H := HA.out
      clear HA
      simp only [laws_FnExactTrainTick.j0] at H
      by_cases c78 : x58_22 = true
      ·subst c78
       have H1 : (some false) = some true := by rw [if_pos rfl] at H; exact H
       clear H; have H := H1; clear H1
       exact absurd H (by simp)
      ·replace c78 := Bool.eq_false_iff.mpr c78
       subst c78
       have H1 : ((laws_markTrained.f kj22 t403 t404 t405 t406 t407 t410 1).bind fun bt420 => ((laws_heldTrained.f kj22 t403 t404 t405 t406 bt420.2 t410 1).bind fun t422 => (if t422 < 0 then (some false) else (if t422 = bt420.1 then ((laws_toRules.f a0_0 a0_1 a0_2).bind fun bt423 => ((laws_toTrain.f a2_0 a2_1 a2_2).bind fun bt426 => ((laws_toPacketS.f kj22 l3).bind fun t429 => ((impl_TrainTick.f kj22 bt423.1 bt423.2.1 bt423.2.2 a1 bt426.1 bt426.2.1 bt426.2.2 t429).bind fun bt432 => ((laws_eqTrained.f kj22 bt432.1 bt432.2.1 bt432.2.2.1 bt432.2.2.2.1 bt432.2.2.2.2.1 bt432.2.2.2.2.2 t385 t386 t387 t388 t389 t392).bind fun t441 => (if t441 = true then ((laws_heldTrained.f kj22 t403 t404 t405 t406 bt420.2 t410 1).bind fun t442 => (if t442 < 0 then (some false) else (if t442 = bt420.1 then (some true) else (some false)))) else (some false))))))) else (some false))))) = some true := by rw [if_neg (show ¬ (false = true) by decide)] at H; exact H
       clear H; have H := H1; clear H1
       replace H := Option.bind_eq_some_iff.mp H
       obtain ⟨⟨t420, t421⟩, A790, H⟩ := H
       replace H : ((laws_heldTrained.f kj22 t403 t404 t405 t406 t421 t410 1).bind fun t422 => (if t422 < 0 then (some false) else (if t422 = t420 then ((laws_toRules.f a0_0 a0_1 a0_2).bind fun bt423 => ((laws_toTrain.f a2_0 a2_1 a2_2).bind fun bt426 => ((laws_toPacketS.f kj22 l3).bind fun t429 => ((impl_TrainTick.f kj22 bt423.1 bt423.2.1 bt423.2.2 a1 bt426.1 bt426.2.1 bt426.2.2 t429).bind fun bt432 => ((laws_eqTrained.f kj22 bt432.1 bt432.2.1 bt432.2.2.1 bt432.2.2.2.1 bt432.2.2.2.2.1 bt432.2.2.2.2.2 t385 t386 t387 t388 t389 t392).bind fun t441 => (if t441 = true then ((laws_heldTrained.f kj22 t403 t404 t405 t406 t421 t410 1).bind fun t442 => (if t442 < 0 then (some false) else (if t442 = t420 then (some true) else (some false)))) else (some false))))))) else (some false)))) = some true := H
       have A79 := Aside0.mk A790
       clear A790
       replace H := Option.bind_eq_some_iff.mp H
       obtain ⟨t422, A800, H⟩ := H
       replace H : (if t422 < 0 then (some false) else (if t422 = t420 then ((laws_toRules.f a0_0 a0_1 a0_2).bind fun bt423 => ((laws_toTrain.f a2_0 a2_1 a2_2).bind fun bt426 => ((laws_toPacketS.f kj22 l3).bind fun t429 => ((impl_TrainTick.f kj22 bt423.1 bt423.2.1 bt423.2.2 a1 bt426.1 bt426.2.1 bt426.2.2 t429).bind fun bt432 => ((laws_eqTrained.f kj22 bt432.1 bt432.2.1 bt432.2.2.1 bt432.2.2.2.1 bt432.2.2.2.2.1 bt432.2.2.2.2.2 t385 t386 t387 t388 t389 t392).bind fun t441 => (if t441 = true then ((laws_heldTrained.f kj22 t403 t404 t405 t406 t421 t410 1).bind fun t442 => (if t442 < 0 then (some false) else (if t442 = t420 then (some true) else (some false)))) else (some false))))))) else (some false))) = some true := H
       have A80 := Aside0.mk A800
       clear A800
       by_cases c81 : t422 < 0
       ·rw [if_pos c81] at H
        have c81b0 : decide (t422 < 0) = true := decide_eq_true c81
        clear c81
        exact absurd H (by simp)
       ·rw [if_neg c81] at H
        have c81b0 : decide (t422 < 0) = false := decide_eq_false c81
        clear c81
        by_cases c82 : t422 = t420
        ·rw [if_pos c82] at H
         have c82b0 : (t422 == t420) = true := beq_iff_eq.mpr c82
         have c82b1 : (t422 != t420) = false := bne_eq_false_iff_eq.mpr c82
         clear c82
         replace H := Option.bind_eq_some_iff.mp H
         obtain ⟨⟨t423, t424, t425⟩, A830, H⟩ := H
         replace H : ((laws_toTrain.f a2_0 a2_1 a2_2).bind fun bt426 => ((laws_toPacketS.f kj22 l3).bind fun t429 => ((impl_TrainTick.f kj22 t423 t424 t425 a1 bt426.1 bt426.2.1 bt426.2.2 t429).bind fun bt432 => ((laws_eqTrained.f kj22 bt432.1 bt432.2.1 bt432.2.2.1 bt432.2.2.2.1 bt432.2.2.2.2.1 bt432.2.2.2.2.2 t385 t386 t387 t388 t389 t392).bind fun t441 => (if t441 = true then ((laws_heldTrained.f kj22 t403 t404 t405 t406 t421 t410 1).bind fun t442 => (if t442 < 0 then (some false) else (if t442 = t420 then (some true) else (some false)))) else (some false)))))) = some true := H
         have A83 := Aside0.mk A830
         clear A830
         replace H := Option.bind_eq_some_iff.mp H
         obtain ⟨⟨t426, t427, t428⟩, A840, H⟩ := H
         replace H : ((laws_toPacketS.f kj22 l3).bind fun t429 => ((impl_TrainTick.f kj22 t423 t424 t425 a1 t426 t427 t428 t429).bind fun bt432 => ((laws_eqTrained.f kj22 bt432.1 bt432.2.1 bt432.2.2.1 bt432.2.2.2.1 bt432.2.2.2.2.1 bt432.2.2.2.2.2 t385 t386 t387 t388 t389 t392).bind fun t441 => (if t441 = true then ((laws_heldTrained.f kj22 t403 t404 t405 t406 t421 t410 1).bind fun t442 => (if t442 < 0 then (some false) else (if t442 = t420 then (some true) else (some false)))) else (some false))))) = some true := H
         have A84 := Aside0.mk A840
         clear A840
         replace H := Option.bind_eq_some_iff.mp H
         obtain ⟨t429, A850, H⟩ := H
         replace H : ((impl_TrainTick.f kj22 t423 t424 t425 a1 t426 t427 t428 t429).bind fun bt432 => ((laws_eqTrained.f kj22 bt432.1 bt432.2.1 bt432.2.2.1 bt432.2.2.2.1 bt432.2.2.2.2.1 bt432.2.2.2.2.2 t385 t386 t387 t388 t389 t392).bind fun t441 => (if t441 = true then ((laws_heldTrained.f kj22 t403 t404 t405 t406 t421 t410 1).bind fun t442 => (if t442 < 0 then (some false) else (if t442 = t420 then (some true) else (some false)))) else (some false)))) = some true := H
         have A85 := Aside0.mk A850
         clear A850
         replace H := Option.bind_eq_some_iff.mp H
         obtain ⟨⟨t432, t433, t434, t435, t436, t439⟩, A860, H⟩ := H
         replace H : ((laws_eqTrained.f kj22 t432 t433 t434 t435 t436 t439 t385 t386 t387 t388 t389 t392).bind fun t441 => (if t441 = true then ((laws_heldTrained.f kj22 t403 t404 t405 t406 t421 t410 1).bind fun t442 => (if t442 < 0 then (some false) else (if t442 = t420 then (some true) else (some false)))) else (some false))) = some true := H
         have A86 := Aside0.mk A860
         clear A860
         replace H := Option.bind_eq_some_iff.mp H
         obtain ⟨t441, A870, H⟩ := H
         replace H : (if t441 = true then ((laws_heldTrained.f kj22 t403 t404 t405 t406 t421 t410 1).bind fun t442 => (if t442 < 0 then (some false) else (if t442 = t420 then (some true) else (some false)))) else (some false)) = some true := H
         have A87 := Aside0.mk A870
         clear A870
         by_cases c88 : t441 = true
         ·subst c88
          have H1 : ((laws_heldTrained.f kj22 t403 t404 t405 t406 t421 t410 1).bind fun t442 => (if t442 < 0 then (some false) else (if t442 = t420 then (some true) else (some false)))) = some true := by rw [if_pos rfl] at H; exact H
          clear H; have H := H1; clear H1
          replace H := Option.bind_eq_some_iff.mp H
          obtain ⟨t442, A890, H⟩ := H
          replace H : (if t442 < 0 then (some false) else (if t442 = t420 then (some true) else (some false))) = some true := H
          have A89 := Aside0.mk A890
          clear A890
          by_cases c90 : t442 < 0
          ·rw [if_pos c90] at H
           have c90b0 : decide (t442 < 0) = true := decide_eq_true c90
           clear c90
           exact absurd H (by simp)
          ·rw [if_neg c90] at H
           have c90b0 : decide (t442 < 0) = false := decide_eq_false c90
           clear c90
           by_cases c91 : t442 = t420
           ·rw [if_pos c91] at H
            have c91b0 : (t442 == t420) = true := beq_iff_eq.mpr c91
            have c91b1 : (t442 != t420) = false := bne_eq_false_iff_eq.mpr c91
            clear c91
            have hnb92 := NB411_373.out
            have hnc92 := NB373_411.out
            have hnb93 := NB411_374.out
            have hnc93 := NB374_411.out
            have hnb94 := NB411_393.out
            have hnc94 := NB393_411.out
            have hcz95_0 : wc.cell? ⟨gb411, 0, none⟩ = some (.bool t403) := bc BK411 0
            have hcz95_1 : wc.cell? ⟨gb411, 1, none⟩ = some (.int .i64 t404) := bc BK411 1
            have hcz95_2 : wc.cell? ⟨gb411, 2, none⟩ = some (.int .i64 t405) := bc BK411 2
            have hcz95_3 : wc.cell? ⟨gb411, 3, none⟩ = some (.int .i64 t406) := bc BK411 3
            have hcz95_4 : wc.cell? ⟨gb411, 4, none⟩ = some (.slice Ao53 t407.length co53) := bc BK411 4
            have hcz95_5 : wc.cell? ⟨gb411, 5, none⟩ = some (.int .i64 t410) := bc BK411 5
            have hfz95_0 := blk_frozen BK411.out 0
            have hfz95_1 := blk_frozen BK411.out 1
            have hfz95_2 := blk_frozen BK411.out 2
            have hfz95_3 := blk_frozen BK411.out 3
            have hfz95_4 := blk_frozen BK411.out 4
            have hfz95_5 := blk_frozen BK411.out 5
            try go_wp2_with (first | ((with_reducible refine gate_callee (f := 29) rfl ?_); refine goesLA (some 61) rfl Try.func29 #[.agg #[.bool t403, .int .i64 t404, .int .i64 t405, .int .i64 t406, .slice Ao53 t407.length co53, .int .i64 t410], .int .i64 1] ?_; (with_reducible refine (laws_markTrained.calls kj22 t403 t404 t405 t406 (fun k_ => some k_ = (.slice Ao53 t407.length co53 : Value).ownBlock) (.slice Ao53 t407.length co53) t407 t410 1 t420 t421 w _ ?side1 ?side2 A79.out).mono ?_); (case side1 => repeat (first | (with_reducible first | exact HB.out | apply below_alloc | apply pw_below_drewN | apply below_drew1 | refine below_set ?_ GE373.out | refine below_set ?_ GE374.out | refine below_set ?_ GE393.out | refine below_set ?_ GE411.out) | exact HB.out)); (case side2 => exact Kd.R_tight rfl HO_412004.out); rintro e w96 ⟨rfl, hy0, hb, hkp⟩; refine ⟨_, rfl, ?_⟩; have n0_ := Aside0.mk (Kd.R_mono (ok' := fun k_ => some k_ ≠ (.slice Ao53 t407.length co53 : Value).ownBlock) (Kd.R_keptB (HO_394004.out) hkp (fun k_ hk_ hs_ => (hk_) hs_)) (fun k_ hk_ => hk_.1)); have n1_ := Aside0.mk (Kd.R_reok rfl hy0 (fun k_ e_ => HO_412004.out.1 k_ e_)); have n2_ := Aside0.mk (blk_kept (qb BK373) hkp (fun hs_ => (fun e_ => (Kd.R_ne HO_412004.out BK373.out (by decide)) e_) hs_)); have n3_ := Aside0.mk (blk_kept (qb BK374) hkp (fun hs_ => (fun e_ => (Kd.R_ne HO_412004.out BK374.out (by decide)) e_) hs_)); have n4_ := Aside0.mk (blk_kept (qb BK393) hkp (fun hs_ => (fun e_ => (Kd.R_ne HO_412004.out BK393.out (by decide)) e_) hs_)); have n5_ := Aside0.mk (blk_kept (qb BK411) hkp (fun hs_ => (fun e_ => (Kd.R_ne HO_412004.out BK411.out (by decide)) e_) hs_)); have n6_ := Aside0.mk (hb); clear HO_394004; clear HO_412004; clear BK373; clear BK374; clear BK393; clear BK411; clear HB; have HO_394004 := n0_; have HO_412004 := n1_; have BK373 := n2_; have BK374 := n3_; have BK393 := n4_; have BK411 := n5_; have HB := n6_; clear n0_ n1_ n2_ n3_ n4_ n5_ n6_; (try clear hb); (try clear hkp); (try clear hy0); have hcz97_0 : w96.cell? ⟨gb411, 0, none⟩ = some (.bool t403) := bc BK411 0; have hcz97_1 : w96.cell? ⟨gb411, 1, none⟩ = some (.int .i64 t404) := bc BK411 1; have hcz97_2 : w96.cell? ⟨gb411, 2, none⟩ = some (.int .i64 t405) := bc BK411 2; have hcz97_3 : w96.cell? ⟨gb411, 3, none⟩ = some (.int .i64 t406) := bc BK411 3; have hcz97_4 : w96.cell? ⟨gb411, 4, none⟩ = some (.slice Ao53 t407.length co53) := bc BK411 4; have hcz97_5 : w96.cell? ⟨gb411, 5, none⟩ = some (.int .i64 t410) := bc BK411 5; have hfz97_0 := blk_frozen BK411.out 0; have hfz97_1 := blk_frozen BK411.out 1; have hfz97_2 := blk_frozen BK411.out 2; have hfz97_3 := blk_frozen BK411.out 3; have hfz97_4 := blk_frozen BK411.out 4; have hfz97_5 := blk_frozen BK411.out 5) | ((with_reducible refine gate_callee (f := 30) rfl ?_); refine goesL_ (some 64) rfl rfl Try.func30 (by kernel_rfl) rfl #[.agg #[.bool t403, .int .i64 t404, .int .i64 t405, .int .i64 t406, .slice Ao53 t421.length co53, .int .i64 t410], .int .i64 1] rfl (by (try simp only [List.map_toArray, List.map_cons, List.map_nil]); first | done | (rw [show t421.length = t407.length from (Kd.R_reads' HO_412004.out).1.symm] <;> rfl) | rfl | (simp only [List.length_drop, List.length_take]; rfl)) ?_; (with_reducible refine (laws_heldTrained.calls kj22 t403 t404 t405 t406 _ _ t421 t410 1 t422 _ ?side1 ?side2 A80.out).mono ?_); (case side1 => exact qc (Kd.R_reads' HO_412004.out).2.2); (case side2 => rw [show t421.length = t407.length from (Kd.R_reads' HO_412004.out).1.symm]; exact (Kd.R_reads' HO_412004.out).2.1); rintro e w98 ⟨rfl, hb⟩; refine ⟨_, rfl, ?_⟩; have n0_ := rbl HO_394004 hb; have n1_ := rbl HO_412004 hb; have n2_ := bkb BK373 hb; have n3_ := bkb BK374 hb; have n4_ := bkb BK393 hb; have n5_ := bkb BK411 hb; have n6_ := bst HB hb; clear HO_394004; clear HO_412004; clear BK373; clear BK374; clear BK393; clear BK411; clear HB; have HO_394004 := n0_; have HO_412004 := n1_; have BK373 := n2_; have BK374 := n3_; have BK393 := n4_; have BK411 := n5_; have HB := n6_; clear n0_ n1_ n2_ n3_ n4_ n5_ n6_; (try clear hb); (try clear hb2); (try clear hk); (try clear hi)))
            have n0_ := Aside0.mk (Kd.R_drew HO_394004.out)
            have n1_ := Aside0.mk (Kd.R_drew HO_412004.out)
            have n2_ := Aside0.mk (blk_drew BK373.out)
            have n3_ := Aside0.mk (blk_drew BK374.out)
            have n4_ := Aside0.mk (blk_drew BK393.out)
            have n5_ := Aside0.mk (blk_drew BK411.out)
            have n6_ := Aside0.mk (below_drew1 HB.out)
            clear HO_394004 HO_412004 BK373 BK374 BK393 BK411 HB; have HO_394004 := n0_; have HO_412004 := n1_; have BK373 := n2_; have BK374 := n3_; have BK393 := n4_; have BK411 := n5_; have HB := n6_; clear n0_ n1_ n2_ n3_ n4_ n5_ n6_
            refine start_ (n := 10) (S := fun w' => w'.cell? ⟨gb373, 0, none⟩ = some (.int .i64 a0_0) ∧ w'.cell? ⟨gb373, 1, none⟩ = some (.int .i64 a0_1) ∧ w'.cell? ⟨gb373, 2, none⟩ = some (.int .i64 a0_2) ∧ w'.cell? ⟨gb374, 0, none⟩ = some (.int .i64 a2_0) ∧ w'.cell? ⟨gb374, 1, none⟩ = some (.int .i64 a2_1) ∧ w'.cell? ⟨gb374, 2, none⟩ = some (.int .i64 a2_2)) (ds := []) #[false, false, false, false, false, false, false, false, false, false] (by kernel_rfl) rfl rfl ⟨bc BK373 0, bc BK373 1, bc BK373 2, bc BK374 0, bc BK374 1, bc BK374 2⟩ (fun hHeld => ?_); refine with_tabW laws_FnExactTrainTick.tab24 laws_FnExactTrainTick.bits24 (fun HT_ HW_ => ?_)
            generalize w98.drew = w99 at HO_394004 HO_412004 BK373 BK374 BK393 BK411 HB hHeld ⊢
            refine pure_ (i := 2) (N := some 72) (v := ?_) (a' := ?_) #[false, false, true, false, false, false, false, false, false, false] rfl rfl (any_of HT_.out (by kernel_rfl)) (fun _ _ _ h => h) (Or.inl ⟨by rfl, ?_⟩) ?_ ?_
            rotate_left
            ·intro w'
             go_simp
             with_reducible rfl
            rotate_left
            ·simp only [Act.put, List.setIfInBounds_toArray, List.set_cons_zero, List.set_cons_succ, i64_w, i32_w]
             rfl
            refine pure_ (i := 5) (N := some 75) (v := ?_) (a' := ?_) #[false, false, true, false, false, true, false, false, false, false] rfl rfl (any_of HT_.out (by kernel_rfl)) (fun _ _ _ h => h) (Or.inl ⟨by rfl, ?_⟩) ?_ ?_
            rotate_left
            ·intro w'
             go_simp
             with_reducible rfl
            rotate_left
            ·simp only [Act.put, List.setIfInBounds_toArray, List.set_cons_zero, List.set_cons_succ, i64_w, i32_w]
             rfl
            refine take_ (i := 0) (N := some 70) (v := ?_) (a' := ?_) #[true, false, true, false, false, true, false, false, false, false] rfl rfl (take_ofW HT_.out HW_.out (by kernel_rfl)) (fun _ _ _ h => h) (Or.inl ⟨by rfl, ?_⟩) hHeld ?_ ?_
            rotate_left
            ·rintro w' ⟨s0, s1, s2, s3, s4, s5⟩
             go_simp
             with_reducible rfl
            rotate_left
            ·simp only [Act.put, List.setIfInBounds_toArray, List.set_cons_zero, List.set_cons_succ, i64_w, i32_w]
             rfl
            refine take_ (i := 3) (N := some 73) (v := ?_) (a' := ?_) #[true, false, true, true, false, true, false, false, false, false] rfl rfl (take_ofW HT_.out HW_.out (by kernel_rfl)) (fun _ _ _ h => h) (Or.inl ⟨by rfl, ?_⟩) hHeld ?_ ?_
            rotate_left
            ·rintro w' ⟨s0, s1, s2, s3, s4, s5⟩
             go_simp
             with_reducible rfl
            rotate_left
            ·simp only [Act.put, List.setIfInBounds_toArray, List.set_cons_zero, List.set_cons_succ, i64_w, i32_w]
             rfl
            refine join_ (σ := Value × Value × Nat) 1 #[true, true, true, true, true, true, true, true, true, false] (fun s_ => [(71, .agg #[.int .i64 t423, .int .i64 t424, .int .i64 t425]), (74, .agg #[.int .i64 t426, .int .i64 t427, .int .i64 t428]), (76, s_.1), (77, .agg #[.bool t432, .int .i64 t433, .int .i64 t434, .int .i64 t435, s_.2.1, .int .i64 t439]), (16, .pointer (some ⟨s_.2.2, 0, none⟩))]) (fun s_ w' => (w'.cell? ⟨gb373, 0, none⟩ = some (.int .i64 a0_0) ∧ w'.cell? ⟨gb373, 1, none⟩ = some (.int .i64 a0_1) ∧ w'.cell? ⟨gb373, 2, none⟩ = some (.int .i64 a0_2) ∧ w'.cell? ⟨gb374, 0, none⟩ = some (.int .i64 a2_0) ∧ w'.cell? ⟨gb374, 1, none⟩ = some (.int .i64 a2_1) ∧ w'.cell? ⟨gb374, 2, none⟩ = some (.int .i64 a2_2)) ∧ (Kd.R k60 60 w' w.heap.size (fun k_ => some k_ ≠ (s_.2.1 : Value).ownBlock ∧ some k_ ≠ (.slice Ao38 t389.length co38 : Value).ownBlock ∧ some k_ ≠ (.slice Ao53 t407.length co53 : Value).ownBlock) s_.1 t429) ∧ (Kd.R k60 60 w' w.heap.size (fun k_ => some k_ ≠ (s_.1 : Value).ownBlock ∧ some k_ ≠ (.slice Ao38 t389.length co38 : Value).ownBlock ∧ some k_ ≠ (.slice Ao53 t407.length co53 : Value).ownBlock) s_.2.1 t436) ∧ (Kd.R k60 60 w' w.heap.size (fun k_ => some k_ ≠ (s_.1 : Value).ownBlock ∧ some k_ ≠ (s_.2.1 : Value).ownBlock ∧ some k_ ≠ (.slice Ao53 t407.length co53 : Value).ownBlock) (.slice Ao38 t389.length co38) t389) ∧ (Kd.R k60 60 w' w.heap.size (fun k_ => some k_ ≠ (s_.1 : Value).ownBlock ∧ some k_ ≠ (s_.2.1 : Value).ownBlock ∧ some k_ ≠ (.slice Ao38 t389.length co38 : Value).ownBlock) (.slice Ao53 t407.length co53) t421) ∧ (w'.heap[gb373]? = some (.cells #[.int .i64 a0_0, .int .i64 a0_1, .int .i64 a0_2] 23 (0, 0))) ∧ (w'.heap[gb374]? = some (.cells #[.int .i64 a2_0, .int .i64 a2_1, .int .i64 a2_2] 47 (0, 0))) ∧ (w'.heap[gb393]? = some (.cells #[.bool t385, .int .i64 t386, .int .i64 t387, .int .i64 t388, .slice Ao38 t389.length co38, .int .i64 t392] 50 (0, 0))) ∧ (w'.heap[gb411]? = some (.cells #[.bool t403, .int .i64 t404, .int .i64 t405, .int .i64 t406, .slice Ao53 t407.length co53, .int .i64 t410] 50 (0, 0))) ∧ (w'.heap[s_.2.2]? = some (.cells #[.bool false, .int .i64 0, .int .i64 0, .int .i64 0, .slice none 0 0, .int .i64 0] 50 (0, 0))) ∧ (w.heap.size ≤ s_.2.2) ∧ (w.heap.size ≤ s_.2.2) ∧ (gb373 ≠ s_.2.2) ∧ (s_.2.2 ≠ gb373) ∧ (gb374 ≠ s_.2.2) ∧ (s_.2.2 ≠ gb374) ∧ (gb393 ≠ s_.2.2) ∧ (s_.2.2 ≠ gb393) ∧ (gb411 ≠ s_.2.2) ∧ (s_.2.2 ≠ gb411) ∧ (Below w.heap.size w w')) ?_ ?_
            rotate_left
            ·intro hJ1_4_6_7_8
             refine join_ (σ := Value × Value) 2 #[true, true, true, true, true, true, true, true, false, false] (fun s_ => [(71, .agg #[.int .i64 t423, .int .i64 t424, .int .i64 t425]), (74, .agg #[.int .i64 t426, .int .i64 t427, .int .i64 t428]), (76, s_.1), (77, .agg #[.bool t432, .int .i64 t433, .int .i64 t434, .int .i64 t435, s_.2, .int .i64 t439])]) (fun s_ w' => (w'.cell? ⟨gb373, 0, none⟩ = some (.int .i64 a0_0) ∧ w'.cell? ⟨gb373, 1, none⟩ = some (.int .i64 a0_1) ∧ w'.cell? ⟨gb373, 2, none⟩ = some (.int .i64 a0_2) ∧ w'.cell? ⟨gb374, 0, none⟩ = some (.int .i64 a2_0) ∧ w'.cell? ⟨gb374, 1, none⟩ = some (.int .i64 a2_1) ∧ w'.cell? ⟨gb374, 2, none⟩ = some (.int .i64 a2_2)) ∧ (Kd.R k60 60 w' w.heap.size (fun k_ => some k_ ≠ (s_.2 : Value).ownBlock ∧ some k_ ≠ (.slice Ao38 t389.length co38 : Value).ownBlock ∧ some k_ ≠ (.slice Ao53 t407.length co53 : Value).ownBlock) s_.1 t429) ∧ (Kd.R k60 60 w' w.heap.size (fun k_ => some k_ ≠ (s_.1 : Value).ownBlock ∧ some k_ ≠ (.slice Ao38 t389.length co38 : Value).ownBlock ∧ some k_ ≠ (.slice Ao53 t407.length co53 : Value).ownBlock) s_.2 t436) ∧ (Kd.R k60 60 w' w.heap.size (fun k_ => some k_ ≠ (s_.1 : Value).ownBlock ∧ some k_ ≠ (s_.2 : Value).ownBlock ∧ some k_ ≠ (.slice Ao53 t407.length co53 : Value).ownBlock) (.slice Ao38 t389.length co38) t389) ∧ (Kd.R k60 60 w' w.heap.size (fun k_ => some k_ ≠ (s_.1 : Value).ownBlock ∧ some k_ ≠ (s_.2 : Value).ownBlock ∧ some k_ ≠ (.slice Ao38 t389.length co38 : Value).ownBlock) (.slice Ao53 t407.length co53) t421) ∧ (w'.heap[gb373]? = some (.cells #[.int .i64 a0_0, .int .i64 a0_1, .int .i64 a0_2] 23 (0, 0))) ∧ (w'.heap[gb374]? = some (.cells #[.int .i64 a2_0, .int .i64 a2_1, .int .i64 a2_2] 47 (0, 0))) ∧ (w'.heap[gb393]? = some (.cells #[.bool t385, .int .i64 t386, .int .i64 t387, .int .i64 t388, .slice Ao38 t389.length co38, .int .i64 t392] 50 (0, 0))) ∧ (w'.heap[gb411]? = some (.cells #[.bool t403, .int .i64 t404, .int .i64 t405, .int .i64 t406, .slice Ao53 t407.length co53, .int .i64 t410] 50 (0, 0))) ∧ (Below w.heap.size w w')) ?_ ?_
             rotate_left
             ·intro hJ1_4_6_7
              refine join_ (σ := Value × Nat) 2 #[true, true, true, true, true, true, true, false, true, false] (fun s_ => [(71, .agg #[.int .i64 t423, .int .i64 t424, .int .i64 t425]), (74, .agg #[.int .i64 t426, .int .i64 t427, .int .i64 t428]), (76, s_.1), (16, .pointer (some ⟨s_.2, 0, none⟩))]) (fun s_ w' => (w'.cell? ⟨gb373, 0, none⟩ = some (.int .i64 a0_0) ∧ w'.cell? ⟨gb373, 1, none⟩ = some (.int .i64 a0_1) ∧ w'.cell? ⟨gb373, 2, none⟩ = some (.int .i64 a0_2) ∧ w'.cell? ⟨gb374, 0, none⟩ = some (.int .i64 a2_0) ∧ w'.cell? ⟨gb374, 1, none⟩ = some (.int .i64 a2_1) ∧ w'.cell? ⟨gb374, 2, none⟩ = some (.int .i64 a2_2)) ∧ (Kd.R k60 60 w' w.heap.size (fun k_ => some k_ ≠ (.slice Ao38 t389.length co38 : Value).ownBlock ∧ some k_ ≠ (.slice Ao53 t407.length co53 : Value).ownBlock) s_.1 t429) ∧ (Kd.R k60 60 w' w.heap.size (fun k_ => some k_ ≠ (s_.1 : Value).ownBlock ∧ some k_ ≠ (.slice Ao53 t407.length co53 : Value).ownBlock) (.slice Ao38 t389.length co38) t389) ∧ (Kd.R k60 60 w' w.heap.size (fun k_ => some k_ ≠ (s_.1 : Value).ownBlock ∧ some k_ ≠ (.slice Ao38 t389.length co38 : Value).ownBlock) (.slice Ao53 t407.length co53) t421) ∧ (w'.heap[gb373]? = some (.cells #[.int .i64 a0_0, .int .i64 a0_1, .int .i64 a0_2] 23 (0, 0))) ∧ (w'.heap[gb374]? = some (.cells #[.int .i64 a2_0, .int .i64 a2_1, .int .i64 a2_2] 47 (0, 0))) ∧ (w'.heap[gb393]? = some (.cells #[.bool t385, .int .i64 t386, .int .i64 t387, .int .i64 t388, .slice Ao38 t389.length co38, .int .i64 t392] 50 (0, 0))) ∧ (w'.heap[gb411]? = some (.cells #[.bool t403, .int .i64 t404, .int .i64 t405, .int .i64 t406, .slice Ao53 t407.length co53, .int .i64 t410] 50 (0, 0))) ∧ (w'.heap[s_.2]? = some (.cells #[.bool false, .int .i64 0, .int .i64 0, .int .i64 0, .slice none 0 0, .int .i64 0] 50 (0, 0))) ∧ (w.heap.size ≤ s_.2) ∧ (w.heap.size ≤ s_.2) ∧ (gb373 ≠ s_.2) ∧ (s_.2 ≠ gb373) ∧ (gb374 ≠ s_.2) ∧ (s_.2 ≠ gb374) ∧ (gb393 ≠ s_.2) ∧ (s_.2 ≠ gb393) ∧ (gb411 ≠ s_.2) ∧ (s_.2 ≠ gb411) ∧ (Below w.heap.size w w')) ?_ ?_
              rotate_left
              ·intro hJ1_4_6_8
               refine join_ (σ := Value) 3 #[true, true, true, true, true, true, true, false, false, false] (fun s_ => [(71, .agg #[.int .i64 t423, .int .i64 t424, .int .i64 t425]), (74, .agg #[.int .i64 t426, .int .i64 t427, .int .i64 t428]), (76, s_)]) (fun s_ w' => (w'.cell? ⟨gb373, 0, none⟩ = some (.int .i64 a0_0) ∧ w'.cell? ⟨gb373, 1, none⟩ = some (.int .i64 a0_1) ∧ w'.cell? ⟨gb373, 2, none⟩ = some (.int .i64 a0_2) ∧ w'.cell? ⟨gb374, 0, none⟩ = some (.int .i64 a2_0) ∧ w'.cell? ⟨gb374, 1, none⟩ = some (.int .i64 a2_1) ∧ w'.cell? ⟨gb374, 2, none⟩ = some (.int .i64 a2_2)) ∧ (Kd.R k60 60 w' w.heap.size (fun k_ => some k_ ≠ (.slice Ao38 t389.length co38 : Value).ownBlock ∧ some k_ ≠ (.slice Ao53 t407.length co53 : Value).ownBlock) s_ t429) ∧ (Kd.R k60 60 w' w.heap.size (fun k_ => some k_ ≠ (s_ : Value).ownBlock ∧ some k_ ≠ (.slice Ao53 t407.length co53 : Value).ownBlock) (.slice Ao38 t389.length co38) t389) ∧ (Kd.R k60 60 w' w.heap.size (fun k_ => some k_ ≠ (s_ : Value).ownBlock ∧ some k_ ≠ (.slice Ao38 t389.length co38 : Value).ownBlock) (.slice Ao53 t407.length co53) t421) ∧ (w'.heap[gb373]? = some (.cells #[.int .i64 a0_0, .int .i64 a0_1, .int .i64 a0_2] 23 (0, 0))) ∧ (w'.heap[gb374]? = some (.cells #[.int .i64 a2_0, .int .i64 a2_1, .int .i64 a2_2] 47 (0, 0))) ∧ (w'.heap[gb393]? = some (.cells #[.bool t385, .int .i64 t386, .int .i64 t387, .int .i64 t388, .slice Ao38 t389.length co38, .int .i64 t392] 50 (0, 0))) ∧ (w'.heap[gb411]? = some (.cells #[.bool t403, .int .i64 t404, .int .i64 t405, .int .i64 t406, .slice Ao53 t407.length co53, .int .i64 t410] 50 (0, 0))) ∧ (Below w.heap.size w w')) ?_ ?_
               rotate_left
               ·intro hJ1_4_6
                refine join_ (σ := Nat) 3 #[true, true, true, true, true, true, false, false, true, false] (fun s_ => [(71, .agg #[.int .i64 t423, .int .i64 t424, .int .i64 t425]), (74, .agg #[.int .i64 t426, .int .i64 t427, .int .i64 t428]), (16, .pointer (some ⟨s_, 0, none⟩))]) (fun s_ w' => (w'.cell? ⟨gb373, 0, none⟩ = some (.int .i64 a0_0) ∧ w'.cell? ⟨gb373, 1, none⟩ = some (.int .i64 a0_1) ∧ w'.cell? ⟨gb373, 2, none⟩ = some (.int .i64 a0_2) ∧ w'.cell? ⟨gb374, 0, none⟩ = some (.int .i64 a2_0) ∧ w'.cell? ⟨gb374, 1, none⟩ = some (.int .i64 a2_1) ∧ w'.cell? ⟨gb374, 2, none⟩ = some (.int .i64 a2_2)) ∧ (Kd.R k60 60 w' w.heap.size (fun k_ => some k_ ≠ (.slice Ao53 t407.length co53 : Value).ownBlock) (.slice Ao38 t389.length co38) t389) ∧ (Kd.R k60 60 w' w.heap.size (fun k_ => some k_ ≠ (.slice Ao38 t389.length co38 : Value).ownBlock) (.slice Ao53 t407.length co53) t421) ∧ (w'.heap[gb373]? = some (.cells #[.int .i64 a0_0, .int .i64 a0_1, .int .i64 a0_2] 23 (0, 0))) ∧ (w'.heap[gb374]? = some (.cells #[.int .i64 a2_0, .int .i64 a2_1, .int .i64 a2_2] 47 (0, 0))) ∧ (w'.heap[gb393]? = some (.cells #[.bool t385, .int .i64 t386, .int .i64 t387, .int .i64 t388, .slice Ao38 t389.length co38, .int .i64 t392] 50 (0, 0))) ∧ (w'.heap[gb411]? = some (.cells #[.bool t403, .int .i64 t404, .int .i64 t405, .int .i64 t406, .slice Ao53 t407.length co53, .int .i64 t410] 50 (0, 0))) ∧ (w'.heap[s_]? = some (.cells #[.bool false, .int .i64 0, .int .i64 0, .int .i64 0, .slice none 0 0, .int .i64 0] 50 (0, 0))) ∧ (w.heap.size ≤ s_) ∧ (w.heap.size ≤ s_) ∧ (gb373 ≠ s_) ∧ (s_ ≠ gb373) ∧ (gb374 ≠ s_) ∧ (s_ ≠ gb374) ∧ (gb393 ≠ s_) ∧ (s_ ≠ gb393) ∧ (gb411 ≠ s_) ∧ (s_ ≠ gb411) ∧ (Below w.heap.size w w')) ?_ ?_
                rotate_left
                ·intro hJ1_4_8
                 refine join_ (σ := Unit) 4 #[true, true, true, true, true, true, false, false, false, false] (fun s_ => [(71, .agg #[.int .i64 t423, .int .i64 t424, .int .i64 t425]), (74, .agg #[.int .i64 t426, .int .i64 t427, .int .i64 t428])]) (fun s_ w' => (w'.cell? ⟨gb373, 0, none⟩ = some (.int .i64 a0_0) ∧ w'.cell? ⟨gb373, 1, none⟩ = some (.int .i64 a0_1) ∧ w'.cell? ⟨gb373, 2, none⟩ = some (.int .i64 a0_2) ∧ w'.cell? ⟨gb374, 0, none⟩ = some (.int .i64 a2_0) ∧ w'.cell? ⟨gb374, 1, none⟩ = some (.int .i64 a2_1) ∧ w'.cell? ⟨gb374, 2, none⟩ = some (.int .i64 a2_2)) ∧ (Kd.R k60 60 w' w.heap.size (fun k_ => some k_ ≠ (.slice Ao53 t407.length co53 : Value).ownBlock) (.slice Ao38 t389.length co38) t389) ∧ (Kd.R k60 60 w' w.heap.size (fun k_ => some k_ ≠ (.slice Ao38 t389.length co38 : Value).ownBlock) (.slice Ao53 t407.length co53) t421) ∧ (w'.heap[gb373]? = some (.cells #[.int .i64 a0_0, .int .i64 a0_1, .int .i64 a0_2] 23 (0, 0))) ∧ (w'.heap[gb374]? = some (.cells #[.int .i64 a2_0, .int .i64 a2_1, .int .i64 a2_2] 47 (0, 0))) ∧ (w'.heap[gb393]? = some (.cells #[.bool t385, .int .i64 t386, .int .i64 t387, .int .i64 t388, .slice Ao38 t389.length co38, .int .i64 t392] 50 (0, 0))) ∧ (w'.heap[gb411]? = some (.cells #[.bool t403, .int .i64 t404, .int .i64 t405, .int .i64 t406, .slice Ao53 t407.length co53, .int .i64 t410] 50 (0, 0))) ∧ (Below w.heap.size w w')) ?_ ?_
                 rotate_left
                 ·intro hJ1_4
                  refine join_ (σ := Nat) 4 #[true, true, true, true, false, true, false, false, true, false] (fun s_ => [(71, .agg #[.int .i64 t423, .int .i64 t424, .int .i64 t425]), (16, .pointer (some ⟨s_, 0, none⟩))]) (fun s_ w' => (w'.cell? ⟨gb373, 0, none⟩ = some (.int .i64 a0_0) ∧ w'.cell? ⟨gb373, 1, none⟩ = some (.int .i64 a0_1) ∧ w'.cell? ⟨gb373, 2, none⟩ = some (.int .i64 a0_2) ∧ w'.cell? ⟨gb374, 0, none⟩ = some (.int .i64 a2_0) ∧ w'.cell? ⟨gb374, 1, none⟩ = some (.int .i64 a2_1) ∧ w'.cell? ⟨gb374, 2, none⟩ = some (.int .i64 a2_2)) ∧ (Kd.R k60 60 w' w.heap.size (fun k_ => some k_ ≠ (.slice Ao53 t407.length co53 : Value).ownBlock) (.slice Ao38 t389.length co38) t389) ∧ (Kd.R k60 60 w' w.heap.size (fun k_ => some k_ ≠ (.slice Ao38 t389.length co38 : Value).ownBlock) (.slice Ao53 t407.length co53) t421) ∧ (w'.heap[gb373]? = some (.cells #[.int .i64 a0_0, .int .i64 a0_1, .int .i64 a0_2] 23 (0, 0))) ∧ (w'.heap[gb374]? = some (.cells #[.int .i64 a2_0, .int .i64 a2_1, .int .i64 a2_2] 47 (0, 0))) ∧ (w'.heap[gb393]? = some (.cells #[.bool t385, .int .i64 t386, .int .i64 t387, .int .i64 t388, .slice Ao38 t389.length co38, .int .i64 t392] 50 (0, 0))) ∧ (w'.heap[gb411]? = some (.cells #[.bool t403, .int .i64 t404, .int .i64 t405, .int .i64 t406, .slice Ao53 t407.length co53, .int .i64 t410] 50 (0, 0))) ∧ (w'.heap[s_]? = some (.cells #[.bool false, .int .i64 0, .int .i64 0, .int .i64 0, .slice none 0 0, .int .i64 0] 50 (0, 0))) ∧ (w.heap.size ≤ s_) ∧ (w.heap.size ≤ s_) ∧ (gb373 ≠ s_) ∧ (s_ ≠ gb373) ∧ (gb374 ≠ s_) ∧ (s_ ≠ gb374) ∧ (gb393 ≠ s_) ∧ (s_ ≠ gb393) ∧ (gb411 ≠ s_) ∧ (s_ ≠ gb411) ∧ (Below w.heap.size w w')) ?_ ?_
                  rotate_left
                  ·intro hJ1_8
                   refine join_ (σ := Unit) 5 #[true, true, true, true, false, true, false, false, false, false] (fun s_ => [(71, .agg #[.int .i64 t423, .int .i64 t424, .int .i64 t425])]) (fun s_ w' => (w'.cell? ⟨gb373, 0, none⟩ = some (.int .i64 a0_0) ∧ w'.cell? ⟨gb373, 1, none⟩ = some (.int .i64 a0_1) ∧ w'.cell? ⟨gb373, 2, none⟩ = some (.int .i64 a0_2) ∧ w'.cell? ⟨gb374, 0, none⟩ = some (.int .i64 a2_0) ∧ w'.cell? ⟨gb374, 1, none⟩ = some (.int .i64 a2_1) ∧ w'.cell? ⟨gb374, 2, none⟩ = some (.int .i64 a2_2)) ∧ (Kd.R k60 60 w' w.heap.size (fun k_ => some k_ ≠ (.slice Ao53 t407.length co53 : Value).ownBlock) (.slice Ao38 t389.length co38) t389) ∧ (Kd.R k60 60 w' w.heap.size (fun k_ => some k_ ≠ (.slice Ao38 t389.length co38 : Value).ownBlock) (.slice Ao53 t407.length co53) t421) ∧ (w'.heap[gb373]? = some (.cells #[.int .i64 a0_0, .int .i64 a0_1, .int .i64 a0_2] 23 (0, 0))) ∧ (w'.heap[gb374]? = some (.cells #[.int .i64 a2_0, .int .i64 a2_1, .int .i64 a2_2] 47 (0, 0))) ∧ (w'.heap[gb393]? = some (.cells #[.bool t385, .int .i64 t386, .int .i64 t387, .int .i64 t388, .slice Ao38 t389.length co38, .int .i64 t392] 50 (0, 0))) ∧ (w'.heap[gb411]? = some (.cells #[.bool t403, .int .i64 t404, .int .i64 t405, .int .i64 t406, .slice Ao53 t407.length co53, .int .i64 t410] 50 (0, 0))) ∧ (Below w.heap.size w w')) ?_ ?_
                   rotate_left
                   ·intro hJ1
                    refine join_ (σ := Nat) 5 #[true, false, true, true, false, true, false, false, true, false] (fun s_ => [(16, .pointer (some ⟨s_, 0, none⟩))]) (fun s_ w' => (w'.cell? ⟨gb373, 0, none⟩ = some (.int .i64 a0_0) ∧ w'.cell? ⟨gb373, 1, none⟩ = some (.int .i64 a0_1) ∧ w'.cell? ⟨gb373, 2, none⟩ = some (.int .i64 a0_2) ∧ w'.cell? ⟨gb374, 0, none⟩ = some (.int .i64 a2_0) ∧ w'.cell? ⟨gb374, 1, none⟩ = some (.int .i64 a2_1) ∧ w'.cell? ⟨gb374, 2, none⟩ = some (.int .i64 a2_2)) ∧ (Kd.R k60 60 w' w.heap.size (fun k_ => some k_ ≠ (.slice Ao53 t407.length co53 : Value).ownBlock) (.slice Ao38 t389.length co38) t389) ∧ (Kd.R k60 60 w' w.heap.size (fun k_ => some k_ ≠ (.slice Ao38 t389.length co38 : Value).ownBlock) (.slice Ao53 t407.length co53) t421) ∧ (w'.heap[gb373]? = some (.cells #[.int .i64 a0_0, .int .i64 a0_1, .int .i64 a0_2] 23 (0, 0))) ∧ (w'.heap[gb374]? = some (.cells #[.int .i64 a2_0, .int .i64 a2_1, .int .i64 a2_2] 47 (0, 0))) ∧ (w'.heap[gb393]? = some (.cells #[.bool t385, .int .i64 t386, .int .i64 t387, .int .i64 t388, .slice Ao38 t389.length co38, .int .i64 t392] 50 (0, 0))) ∧ (w'.heap[gb411]? = some (.cells #[.bool t403, .int .i64 t404, .int .i64 t405, .int .i64 t406, .slice Ao53 t407.length co53, .int .i64 t410] 50 (0, 0))) ∧ (w'.heap[s_]? = some (.cells #[.bool false, .int .i64 0, .int .i64 0, .int .i64 0, .slice none 0 0, .int .i64 0] 50 (0, 0))) ∧ (w.heap.size ≤ s_) ∧ (w.heap.size ≤ s_) ∧ (gb373 ≠ s_) ∧ (s_ ≠ gb373) ∧ (gb374 ≠ s_) ∧ (s_ ≠ gb374) ∧ (gb393 ≠ s_) ∧ (s_ ≠ gb393) ∧ (gb411 ≠ s_) ∧ (s_ ≠ gb411) ∧ (Below w.heap.size w w')) ?_ ?_
                    rotate_left
                    ·intro hJ8
                     refine two_ (i := 1) (j := 8) (Ni := some 71) (Nj := some 16) #[true, true, true, true, false, true, false, false, false, false] #[true, false, true, true, false, true, false, false, true, false] rfl rfl rfl rfl (two_of HT_.out (by kernel_rfl)) (by decide) (by decide) (fun K hK => ?_) (fun K hK => ?_)
                     ·skip
                      refine goesA Try.func13 #[.agg #[.int .i64 a0_0, .int .i64 a0_1, .int .i64 a0_2]] ?_
                      with_reducible refine (laws_toRules.calls a0_0 a0_1 a0_2 t423 t424 t425 _ A83.out).mono ?_
                      rintro e w100 ⟨rfl, hb⟩
                      refine ⟨_, rfl, ?_⟩
                      have n0_ := rbl HO_394004 hb; have n1_ := rbl HO_412004 hb; have n2_ := bkb BK373 hb; have n3_ := bkb BK374 hb; have n4_ := bkb BK393 hb; have n5_ := bkb BK411 hb; have n6_ := bst HB hb; clear HO_394004 HO_412004 BK373 BK374 BK393 BK411 HB; have HO_394004 := n0_; have HO_412004 := n1_; have BK373 := n2_; have BK374 := n3_; have BK393 := n4_; have BK411 := n5_; have HB := n6_; clear n0_ n1_ n2_ n3_ n4_ n5_ n6_; (try clear hb); (try clear hb2); (try clear hk); (try clear hi)
                      refine hK.out _ _ ⟨bc BK373 0, bc BK373 1, bc BK373 2, bc BK374 0, bc BK374 1, bc BK374 2⟩ (fun hHeld => ?_)
                      clear hK K
                      refine norm_ (a' := ?_) ?_ ?_
                      rotate_left
                      ·show Act.put _ (some 71) _ = _
                       simp only [Act.put, List.setIfInBounds_toArray, List.set_cons_zero, List.set_cons_succ, i64_w, i32_w]
                       rfl
                      exact normA (hJ1 () _ ⟨hHeld, (qr HO_394004), (qr HO_412004), (qb BK373), (qb BK374), (qb BK393), (qb BK411), (qs HB)⟩)
                     ·skip
                      refine box_step ?hg (N := 16) ?hd (cs := #[.bool false, .int .i64 0, .int .i64 0, .int .i64 0, .slice none 0 0, .int .i64 0]) (t := 50) ?hr ?_; (case hd => rfl); (case hg => rfl); (case hr => first | (go_simp; done) | (go_simp; rfl))
                      intro gb440 hg w100 hbox hb
                      have n0_ := rbl HO_394004 hb; have n1_ := rbl HO_412004 hb; have n2_ := bkb BK373 hb; have n3_ := bkb BK374 hb; have n4_ := bkb BK393 hb; have n5_ := bkb BK411 hb; have n6_ := bst HB hb
                      have n7_ := Aside0.mk (hbox)
                      have n8_ := nge HB hg; have n9_ := nge HB hg; have n10_ := nlt BK373 hg; have n11_ := ngt BK373 hg; have n12_ := nlt BK374 hg; have n13_ := ngt BK374 hg; have n14_ := nlt BK393 hg; have n15_ := ngt BK393 hg; have n16_ := nlt BK411 hg; have n17_ := ngt BK411 hg; clear HO_394004 HO_412004 BK373 BK374 BK393 BK411 HB; have HO_394004 := n0_; have HO_412004 := n1_; have BK373 := n2_; have BK374 := n3_; have BK393 := n4_; have BK411 := n5_; have HB := n6_; have BK440 := n7_; have GW440 := n8_; have GE440 := n9_; have NB373_440 := n10_; have NB440_373 := n11_; have NB374_440 := n12_; have NB440_374 := n13_; have NB393_440 := n14_; have NB440_393 := n15_; have NB411_440 := n16_; have NB440_411 := n17_; clear n0_ n1_ n2_ n3_ n4_ n5_ n6_ n7_ n8_ n9_ n10_ n11_ n12_ n13_ n14_ n15_ n16_ n17_ hb hbox hg
                      refine hK.out _ _ ⟨bc BK373 0, bc BK373 1, bc BK373 2, bc BK374 0, bc BK374 1, bc BK374 2⟩ (fun hHeld => ?_)
                      clear hK K
                      refine norm_ (a' := ?_) ?_ ?_
                      rotate_left
                      ·show Act.put _ (some 16) _ = _
                       simp only [Act.put, List.setIfInBounds_toArray, List.set_cons_zero, List.set_cons_succ, i64_w, i32_w]
                       rfl
                      exact normA (hJ8 (gb440) _ ⟨hHeld, (qr HO_394004), (qr HO_412004), (qb BK373), (qb BK374), (qb BK393), (qb BK411), (qb BK440), GW440.out, GE440.out, NB373_440.out, NB440_373.out, NB374_440.out, NB440_374.out, NB393_440.out, NB440_393.out, NB411_440.out, NB440_411.out, (qs HB)⟩)
                    ·skip
                     rintro gb440 w101 ⟨hS_, h0_, h1_, h2_, h3_, h4_, h5_, h6_, h7_, h8_, h9_, h10_, h11_, h12_, h13_, h14_, h15_, h16_, h17_⟩
                     have n0_ : Aside0 (Kd.R k60 60 w101 w.heap.size (fun k_ => some k_ ≠ (.slice Ao53 t407.length co53 : Value).ownBlock) (.slice Ao38 t389.length co38) t389) := ⟨h0_⟩
                     have n1_ : Aside0 (Kd.R k60 60 w101 w.heap.size (fun k_ => some k_ ≠ (.slice Ao38 t389.length co38 : Value).ownBlock) (.slice Ao53 t407.length co53) t421) := ⟨h1_⟩
                     have n2_ : Aside0 (w101.heap[gb373]? = some (.cells #[.int .i64 a0_0, .int .i64 a0_1, .int .i64 a0_2] 23 (0, 0))) := ⟨h2_⟩
                     have n3_ : Aside0 (w101.heap[gb374]? = some (.cells #[.int .i64 a2_0, .int .i64 a2_1, .int .i64 a2_2] 47 (0, 0))) := ⟨h3_⟩
                     have n4_ : Aside0 (w101.heap[gb393]? = some (.cells #[.bool t385, .int .i64 t386, .int .i64 t387, .int .i64 t388, .slice Ao38 t389.length co38, .int .i64 t392] 50 (0, 0))) := ⟨h4_⟩
                     have n5_ : Aside0 (w101.heap[gb411]? = some (.cells #[.bool t403, .int .i64 t404, .int .i64 t405, .int .i64 t406, .slice Ao53 t407.length co53, .int .i64 t410] 50 (0, 0))) := ⟨h5_⟩
                     have n6_ : Aside0 (w101.heap[gb440]? = some (.cells #[.bool false, .int .i64 0, .int .i64 0, .int .i64 0, .slice none 0 0, .int .i64 0] 50 (0, 0))) := ⟨h6_⟩
                     have n7_ : Aside0 (w.heap.size ≤ gb440) := ⟨h7_⟩
                     have n8_ : Aside0 (w.heap.size ≤ gb440) := ⟨h8_⟩
                     have n9_ : Aside0 (gb373 ≠ gb440) := ⟨h9_⟩
                     have n10_ : Aside0 (gb440 ≠ gb373) := ⟨h10_⟩
                     have n11_ : Aside0 (gb374 ≠ gb440) := ⟨h11_⟩
                     have n12_ : Aside0 (gb440 ≠ gb374) := ⟨h12_⟩
                     have n13_ : Aside0 (gb393 ≠ gb440) := ⟨h13_⟩
                     have n14_ : Aside0 (gb440 ≠ gb393) := ⟨h14_⟩
                     have n15_ : Aside0 (gb411 ≠ gb440) := ⟨h15_⟩
                     have n16_ : Aside0 (gb440 ≠ gb411) := ⟨h16_⟩
                     have n17_ : Aside0 (Below w.heap.size w w101) := ⟨h17_⟩
                     clear HO_394004 HO_412004 BK373 BK374 BK393 BK411 HB h0_ h1_ h2_ h3_ h4_ h5_ h6_ h7_ h8_ h9_ h10_ h11_ h12_ h13_ h14_ h15_ h16_ h17_; have HO_394004 := n0_; have HO_412004 := n1_; have BK373 := n2_; have BK374 := n3_; have BK393 := n4_; have BK411 := n5_; have BK440 := n6_; have GW440 := n7_; have GE440 := n8_; have NB373_440 := n9_; have NB440_373 := n10_; have NB374_440 := n11_; have NB440_374 := n12_; have NB393_440 := n13_; have NB440_393 := n14_; have NB411_440 := n15_; have NB440_411 := n16_; have HB := n17_; clear n0_ n1_ n2_ n3_ n4_ n5_ n6_ n7_ n8_ n9_ n10_ n11_ n12_ n13_ n14_ n15_ n16_ n17_
                     have hHeld : w101.cell? ⟨gb373, 0, none⟩ = some (.int .i64 a0_0) ∧ w101.cell? ⟨gb373, 1, none⟩ = some (.int .i64 a0_1) ∧ w101.cell? ⟨gb373, 2, none⟩ = some (.int .i64 a0_2) ∧ w101.cell? ⟨gb374, 0, none⟩ = some (.int .i64 a2_0) ∧ w101.cell? ⟨gb374, 1, none⟩ = some (.int .i64 a2_1) ∧ w101.cell? ⟨gb374, 2, none⟩ = some (.int .i64 a2_2) := hS_
                     refine norm_ (a' := ?_) ?_ ?_
                     rotate_left
                     ·simp only [putAll, Act.put, List.setIfInBounds_toArray, List.set_cons_zero, List.set_cons_succ]
                      rfl
                     refine one_ (i := 1) (N := some 71) #[true, true, true, true, false, true, false, false, true, false] rfl rfl (one_of HT_.out (by kernel_rfl)) (by decide) (fun K hK => ?_)
                     refine goesA Try.func13 #[.agg #[.int .i64 a0_0, .int .i64 a0_1, .int .i64 a0_2]] ?_
                     with_reducible refine (laws_toRules.calls a0_0 a0_1 a0_2 t423 t424 t425 _ A83.out).mono ?_
                     rintro e w102 ⟨rfl, hb⟩
                     refine ⟨_, rfl, ?_⟩
                     have n0_ := rbl HO_394004 hb; have n1_ := rbl HO_412004 hb; have n2_ := bkb BK373 hb; have n3_ := bkb BK374 hb; have n4_ := bkb BK393 hb; have n5_ := bkb BK411 hb; have n6_ := bkb BK440 hb; have n7_ := bst HB hb; clear HO_394004 HO_412004 BK373 BK374 BK393 BK411 BK440 HB; have HO_394004 := n0_; have HO_412004 := n1_; have BK373 := n2_; have BK374 := n3_; have BK393 := n4_; have BK411 := n5_; have BK440 := n6_; have HB := n7_; clear n0_ n1_ n2_ n3_ n4_ n5_ n6_ n7_; (try clear hb); (try clear hb2); (try clear hk); (try clear hi)
                     refine hK.out _ _ ⟨bc BK373 0, bc BK373 1, bc BK373 2, bc BK374 0, bc BK374 1, bc BK374 2⟩ (fun hHeld => ?_)
                     clear hK K
                     refine norm_ (a' := ?_) ?_ ?_
                     rotate_left
                     ·show Act.put _ (some 71) _ = _
                      simp only [Act.put, List.setIfInBounds_toArray, List.set_cons_zero, List.set_cons_succ, i64_w, i32_w]
                      rfl
                     exact normA (hJ1_8 (gb440) _ ⟨hHeld, (qr HO_394004), (qr HO_412004), (qb BK373), (qb BK374), (qb BK393), (qb BK411), (qb BK440), GW440.out, GE440.out, NB373_440.out, NB440_373.out, NB374_440.out, NB440_374.out, NB393_440.out, NB440_393.out, NB411_440.out, NB440_411.out, (qs HB)⟩)
                   ·skip
                    rintro _ w101 ⟨hS_, h0_, h1_, h2_, h3_, h4_, h5_, h6_⟩
                    have n0_ : Aside0 (Kd.R k60 60 w101 w.heap.size (fun k_ => some k_ ≠ (.slice Ao53 t407.length co53 : Value).ownBlock) (.slice Ao38 t389.length co38) t389) := ⟨h0_⟩
                    have n1_ : Aside0 (Kd.R k60 60 w101 w.heap.size (fun k_ => some k_ ≠ (.slice Ao38 t389.length co38 : Value).ownBlock) (.slice Ao53 t407.length co53) t421) := ⟨h1_⟩
                    have n2_ : Aside0 (w101.heap[gb373]? = some (.cells #[.int .i64 a0_0, .int .i64 a0_1, .int .i64 a0_2] 23 (0, 0))) := ⟨h2_⟩
                    have n3_ : Aside0 (w101.heap[gb374]? = some (.cells #[.int .i64 a2_0, .int .i64 a2_1, .int .i64 a2_2] 47 (0, 0))) := ⟨h3_⟩
                    have n4_ : Aside0 (w101.heap[gb393]? = some (.cells #[.bool t385, .int .i64 t386, .int .i64 t387, .int .i64 t388, .slice Ao38 t389.length co38, .int .i64 t392] 50 (0, 0))) := ⟨h4_⟩
                    have n5_ : Aside0 (w101.heap[gb411]? = some (.cells #[.bool t403, .int .i64 t404, .int .i64 t405, .int .i64 t406, .slice Ao53 t407.length co53, .int .i64 t410] 50 (0, 0))) := ⟨h5_⟩
                    have n6_ : Aside0 (Below w.heap.size w w101) := ⟨h6_⟩
                    clear HO_394004 HO_412004 BK373 BK374 BK393 BK411 HB h0_ h1_ h2_ h3_ h4_ h5_ h6_; have HO_394004 := n0_; have HO_412004 := n1_; have BK373 := n2_; have BK374 := n3_; have BK393 := n4_; have BK411 := n5_; have HB := n6_; clear n0_ n1_ n2_ n3_ n4_ n5_ n6_
                    have hHeld : w101.cell? ⟨gb373, 0, none⟩ = some (.int .i64 a0_0) ∧ w101.cell? ⟨gb373, 1, none⟩ = some (.int .i64 a0_1) ∧ w101.cell? ⟨gb373, 2, none⟩ = some (.int .i64 a0_2) ∧ w101.cell? ⟨gb374, 0, none⟩ = some (.int .i64 a2_0) ∧ w101.cell? ⟨gb374, 1, none⟩ = some (.int .i64 a2_1) ∧ w101.cell? ⟨gb374, 2, none⟩ = some (.int .i64 a2_2) := hS_
                    refine norm_ (a' := ?_) ?_ ?_
                    rotate_left
                    ·simp only [putAll, Act.put, List.setIfInBounds_toArray, List.set_cons_zero, List.set_cons_succ]
                     rfl
                    refine two_ (i := 4) (j := 8) (Ni := some 74) (Nj := some 16) #[true, true, true, true, true, true, false, false, false, false] #[true, true, true, true, false, true, false, false, true, false] rfl rfl rfl rfl (two_of HT_.out (by kernel_rfl)) (by decide) (by decide) (fun K hK => ?_) (fun K hK => ?_)
                    ·skip
                     refine goesA Try.func26 #[.agg #[.int .i64 a2_0, .int .i64 a2_1, .int .i64 a2_2]] ?_
                     with_reducible refine (laws_toTrain.calls a2_0 a2_1 a2_2 t426 t427 t428 _ A84.out).mono ?_
                     rintro e w102 ⟨rfl, hb⟩
                     refine ⟨_, rfl, ?_⟩
                     have n0_ := rbl HO_394004 hb; have n1_ := rbl HO_412004 hb; have n2_ := bkb BK373 hb; have n3_ := bkb BK374 hb; have n4_ := bkb BK393 hb; have n5_ := bkb BK411 hb; have n6_ := bst HB hb; clear HO_394004 HO_412004 BK373 BK374 BK393 BK411 HB; have HO_394004 := n0_; have HO_412004 := n1_; have BK373 := n2_; have BK374 := n3_; have BK393 := n4_; have BK411 := n5_; have HB := n6_; clear n0_ n1_ n2_ n3_ n4_ n5_ n6_; (try clear hb); (try clear hb2); (try clear hk); (try clear hi)
                     refine hK.out _ _ ⟨bc BK373 0, bc BK373 1, bc BK373 2, bc BK374 0, bc BK374 1, bc BK374 2⟩ (fun hHeld => ?_)
                     clear hK K
                     refine norm_ (a' := ?_) ?_ ?_
                     rotate_left
                     ·show Act.put _ (some 74) _ = _
                      simp only [Act.put, List.setIfInBounds_toArray, List.set_cons_zero, List.set_cons_succ, i64_w, i32_w]
                      rfl
                     exact normA (hJ1_4 () _ ⟨hHeld, (qr HO_394004), (qr HO_412004), (qb BK373), (qb BK374), (qb BK393), (qb BK411), (qs HB)⟩)
                    ·skip
                     refine box_step ?hg (N := 16) ?hd (cs := #[.bool false, .int .i64 0, .int .i64 0, .int .i64 0, .slice none 0 0, .int .i64 0]) (t := 50) ?hr ?_; (case hd => rfl); (case hg => rfl); (case hr => first | (go_simp; done) | (go_simp; rfl))
                     intro gb440 hg w102 hbox hb
                     have n0_ := rbl HO_394004 hb; have n1_ := rbl HO_412004 hb; have n2_ := bkb BK373 hb; have n3_ := bkb BK374 hb; have n4_ := bkb BK393 hb; have n5_ := bkb BK411 hb; have n6_ := bst HB hb
                     have n7_ := Aside0.mk (hbox)
                     have n8_ := nge HB hg; have n9_ := nge HB hg; have n10_ := nlt BK373 hg; have n11_ := ngt BK373 hg; have n12_ := nlt BK374 hg; have n13_ := ngt BK374 hg; have n14_ := nlt BK393 hg; have n15_ := ngt BK393 hg; have n16_ := nlt BK411 hg; have n17_ := ngt BK411 hg; clear HO_394004 HO_412004 BK373 BK374 BK393 BK411 HB; have HO_394004 := n0_; have HO_412004 := n1_; have BK373 := n2_; have BK374 := n3_; have BK393 := n4_; have BK411 := n5_; have HB := n6_; have BK440 := n7_; have GW440 := n8_; have GE440 := n9_; have NB373_440 := n10_; have NB440_373 := n11_; have NB374_440 := n12_; have NB440_374 := n13_; have NB393_440 := n14_; have NB440_393 := n15_; have NB411_440 := n16_; have NB440_411 := n17_; clear n0_ n1_ n2_ n3_ n4_ n5_ n6_ n7_ n8_ n9_ n10_ n11_ n12_ n13_ n14_ n15_ n16_ n17_ hb hbox hg
                     refine hK.out _ _ ⟨bc BK373 0, bc BK373 1, bc BK373 2, bc BK374 0, bc BK374 1, bc BK374 2⟩ (fun hHeld => ?_)
                     clear hK K
                     refine norm_ (a' := ?_) ?_ ?_
                     rotate_left
                     ·show Act.put _ (some 16) _ = _
                      simp only [Act.put, List.setIfInBounds_toArray, List.set_cons_zero, List.set_cons_succ, i64_w, i32_w]
                      rfl
                     exact normA (hJ1_8 (gb440) _ ⟨hHeld, (qr HO_394004), (qr HO_412004), (qb BK373), (qb BK374), (qb BK393), (qb BK411), (qb BK440), GW440.out, GE440.out, NB373_440.out, NB440_373.out, NB374_440.out, NB440_374.out, NB393_440.out, NB440_393.out, NB411_440.out, NB440_411.out, (qs HB)⟩)
                  ·skip
                   rintro gb440 w102 ⟨hS_, h0_, h1_, h2_, h3_, h4_, h5_, h6_, h7_, h8_, h9_, h10_, h11_, h12_, h13_, h14_, h15_, h16_, h17_⟩
                   have n0_ : Aside0 (Kd.R k60 60 w102 w.heap.size (fun k_ => some k_ ≠ (.slice Ao53 t407.length co53 : Value).ownBlock) (.slice Ao38 t389.length co38) t389) := ⟨h0_⟩
                   have n1_ : Aside0 (Kd.R k60 60 w102 w.heap.size (fun k_ => some k_ ≠ (.slice Ao38 t389.length co38 : Value).ownBlock) (.slice Ao53 t407.length co53) t421) := ⟨h1_⟩
                   have n2_ : Aside0 (w102.heap[gb373]? = some (.cells #[.int .i64 a0_0, .int .i64 a0_1, .int .i64 a0_2] 23 (0, 0))) := ⟨h2_⟩
                   have n3_ : Aside0 (w102.heap[gb374]? = some (.cells #[.int .i64 a2_0, .int .i64 a2_1, .int .i64 a2_2] 47 (0, 0))) := ⟨h3_⟩
                   have n4_ : Aside0 (w102.heap[gb393]? = some (.cells #[.bool t385, .int .i64 t386, .int .i64 t387, .int .i64 t388, .slice Ao38 t389.length co38, .int .i64 t392] 50 (0, 0))) := ⟨h4_⟩
                   have n5_ : Aside0 (w102.heap[gb411]? = some (.cells #[.bool t403, .int .i64 t404, .int .i64 t405, .int .i64 t406, .slice Ao53 t407.length co53, .int .i64 t410] 50 (0, 0))) := ⟨h5_⟩
                   have n6_ : Aside0 (w102.heap[gb440]? = some (.cells #[.bool false, .int .i64 0, .int .i64 0, .int .i64 0, .slice none 0 0, .int .i64 0] 50 (0, 0))) := ⟨h6_⟩
                   have n7_ : Aside0 (w.heap.size ≤ gb440) := ⟨h7_⟩
                   have n8_ : Aside0 (w.heap.size ≤ gb440) := ⟨h8_⟩
                   have n9_ : Aside0 (gb373 ≠ gb440) := ⟨h9_⟩
                   have n10_ : Aside0 (gb440 ≠ gb373) := ⟨h10_⟩
                   have n11_ : Aside0 (gb374 ≠ gb440) := ⟨h11_⟩
                   have n12_ : Aside0 (gb440 ≠ gb374) := ⟨h12_⟩
                   have n13_ : Aside0 (gb393 ≠ gb440) := ⟨h13_⟩
                   have n14_ : Aside0 (gb440 ≠ gb393) := ⟨h14_⟩
                   have n15_ : Aside0 (gb411 ≠ gb440) := ⟨h15_⟩
                   have n16_ : Aside0 (gb440 ≠ gb411) := ⟨h16_⟩
                   have n17_ : Aside0 (Below w.heap.size w w102) := ⟨h17_⟩
                   clear HO_394004 HO_412004 BK373 BK374 BK393 BK411 HB h0_ h1_ h2_ h3_ h4_ h5_ h6_ h7_ h8_ h9_ h10_ h11_ h12_ h13_ h14_ h15_ h16_ h17_; have HO_394004 := n0_; have HO_412004 := n1_; have BK373 := n2_; have BK374 := n3_; have BK393 := n4_; have BK411 := n5_; have BK440 := n6_; have GW440 := n7_; have GE440 := n8_; have NB373_440 := n9_; have NB440_373 := n10_; have NB374_440 := n11_; have NB440_374 := n12_; have NB393_440 := n13_; have NB440_393 := n14_; have NB411_440 := n15_; have NB440_411 := n16_; have HB := n17_; clear n0_ n1_ n2_ n3_ n4_ n5_ n6_ n7_ n8_ n9_ n10_ n11_ n12_ n13_ n14_ n15_ n16_ n17_
                   have hHeld : w102.cell? ⟨gb373, 0, none⟩ = some (.int .i64 a0_0) ∧ w102.cell? ⟨gb373, 1, none⟩ = some (.int .i64 a0_1) ∧ w102.cell? ⟨gb373, 2, none⟩ = some (.int .i64 a0_2) ∧ w102.cell? ⟨gb374, 0, none⟩ = some (.int .i64 a2_0) ∧ w102.cell? ⟨gb374, 1, none⟩ = some (.int .i64 a2_1) ∧ w102.cell? ⟨gb374, 2, none⟩ = some (.int .i64 a2_2) := hS_
                   refine norm_ (a' := ?_) ?_ ?_
                   rotate_left
                   ·simp only [putAll, Act.put, List.setIfInBounds_toArray, List.set_cons_zero, List.set_cons_succ]
                    rfl
                   refine one_ (i := 4) (N := some 74) #[true, true, true, true, true, true, false, false, true, false] rfl rfl (one_of HT_.out (by kernel_rfl)) (by decide) (fun K hK => ?_)
                   refine goesA Try.func26 #[.agg #[.int .i64 a2_0, .int .i64 a2_1, .int .i64 a2_2]] ?_
                   with_reducible refine (laws_toTrain.calls a2_0 a2_1 a2_2 t426 t427 t428 _ A84.out).mono ?_
                   rintro e w103 ⟨rfl, hb⟩
                   refine ⟨_, rfl, ?_⟩
                   have n0_ := rbl HO_394004 hb; have n1_ := rbl HO_412004 hb; have n2_ := bkb BK373 hb; have n3_ := bkb BK374 hb; have n4_ := bkb BK393 hb; have n5_ := bkb BK411 hb; have n6_ := bkb BK440 hb; have n7_ := bst HB hb; clear HO_394004 HO_412004 BK373 BK374 BK393 BK411 BK440 HB; have HO_394004 := n0_; have HO_412004 := n1_; have BK373 := n2_; have BK374 := n3_; have BK393 := n4_; have BK411 := n5_; have BK440 := n6_; have HB := n7_; clear n0_ n1_ n2_ n3_ n4_ n5_ n6_ n7_; (try clear hb); (try clear hb2); (try clear hk); (try clear hi)
                   refine hK.out _ _ ⟨bc BK373 0, bc BK373 1, bc BK373 2, bc BK374 0, bc BK374 1, bc BK374 2⟩ (fun hHeld => ?_)
                   clear hK K
                   refine norm_ (a' := ?_) ?_ ?_
                   rotate_left
                   ·show Act.put _ (some 74) _ = _
                    simp only [Act.put, List.setIfInBounds_toArray, List.set_cons_zero, List.set_cons_succ, i64_w, i32_w]
                    rfl
                   exact normA (hJ1_4_8 (gb440) _ ⟨hHeld, (qr HO_394004), (qr HO_412004), (qb BK373), (qb BK374), (qb BK393), (qb BK411), (qb BK440), GW440.out, GE440.out, NB373_440.out, NB440_373.out, NB374_440.out, NB440_374.out, NB393_440.out, NB440_393.out, NB411_440.out, NB440_411.out, (qs HB)⟩)
                 ·skip
                  rintro _ w102 ⟨hS_, h0_, h1_, h2_, h3_, h4_, h5_, h6_⟩
                  have n0_ : Aside0 (Kd.R k60 60 w102 w.heap.size (fun k_ => some k_ ≠ (.slice Ao53 t407.length co53 : Value).ownBlock) (.slice Ao38 t389.length co38) t389) := ⟨h0_⟩
                  have n1_ : Aside0 (Kd.R k60 60 w102 w.heap.size (fun k_ => some k_ ≠ (.slice Ao38 t389.length co38 : Value).ownBlock) (.slice Ao53 t407.length co53) t421) := ⟨h1_⟩
                  have n2_ : Aside0 (w102.heap[gb373]? = some (.cells #[.int .i64 a0_0, .int .i64 a0_1, .int .i64 a0_2] 23 (0, 0))) := ⟨h2_⟩
                  have n3_ : Aside0 (w102.heap[gb374]? = some (.cells #[.int .i64 a2_0, .int .i64 a2_1, .int .i64 a2_2] 47 (0, 0))) := ⟨h3_⟩
                  have n4_ : Aside0 (w102.heap[gb393]? = some (.cells #[.bool t385, .int .i64 t386, .int .i64 t387, .int .i64 t388, .slice Ao38 t389.length co38, .int .i64 t392] 50 (0, 0))) := ⟨h4_⟩
                  have n5_ : Aside0 (w102.heap[gb411]? = some (.cells #[.bool t403, .int .i64 t404, .int .i64 t405, .int .i64 t406, .slice Ao53 t407.length co53, .int .i64 t410] 50 (0, 0))) := ⟨h5_⟩
                  have n6_ : Aside0 (Below w.heap.size w w102) := ⟨h6_⟩
                  clear HO_394004 HO_412004 BK373 BK374 BK393 BK411 HB h0_ h1_ h2_ h3_ h4_ h5_ h6_; have HO_394004 := n0_; have HO_412004 := n1_; have BK373 := n2_; have BK374 := n3_; have BK393 := n4_; have BK411 := n5_; have HB := n6_; clear n0_ n1_ n2_ n3_ n4_ n5_ n6_
                  have hHeld : w102.cell? ⟨gb373, 0, none⟩ = some (.int .i64 a0_0) ∧ w102.cell? ⟨gb373, 1, none⟩ = some (.int .i64 a0_1) ∧ w102.cell? ⟨gb373, 2, none⟩ = some (.int .i64 a0_2) ∧ w102.cell? ⟨gb374, 0, none⟩ = some (.int .i64 a2_0) ∧ w102.cell? ⟨gb374, 1, none⟩ = some (.int .i64 a2_1) ∧ w102.cell? ⟨gb374, 2, none⟩ = some (.int .i64 a2_2) := hS_
                  refine norm_ (a' := ?_) ?_ ?_
                  rotate_left
                  ·simp only [putAll, Act.put, List.setIfInBounds_toArray, List.set_cons_zero, List.set_cons_succ]
                   rfl
                  refine two_ (i := 6) (j := 8) (Ni := some 76) (Nj := some 16) #[true, true, true, true, true, true, true, false, false, false] #[true, true, true, true, true, true, false, false, true, false] rfl rfl rfl rfl (two_of HT_.out (by kernel_rfl)) (by decide) (by decide) (fun K hK => ?_) (fun K hK => ?_)
                  ·skip
                   refine goesA Try.func16 #[.slice A3 l3.length c3] ?_
                   with_reducible refine (laws_toPacketS.calls kj22 _ _ l3 t429 _ ?side1 ?side2 A85.out).mono ?_
                   (case side1 => exact qc (Kd.C_below HR3.out HB.out))
                   (case side2 => exact HC3.out)
                   rintro e w103 ⟨v430, rfl, ho0, hb⟩
                   refine ⟨_, rfl, ?_⟩
                   have n0_ := Aside0.mk (Kd.R_elder' (qr HO_394004) (Kd.R_base ho0) hb)
                   have n1_ := Aside0.mk (Kd.R_elder' (qr HO_412004) (Kd.R_base ho0) hb)
                   have n2_ := Aside0.mk (Kd.R_lower (Kd.R_new' (Kd.R_new' ho0 (Kd.R_lt (qr HO_394004))) (Kd.R_lt (qr HO_412004))) (below_size (qs HB)))
                   have n3_ := bkb BK373 hb; have n4_ := bkb BK374 hb; have n5_ := bkb BK393 hb; have n6_ := bkb BK411 hb; have n7_ := bst HB hb; clear HO_394004 HO_412004 BK373 BK374 BK393 BK411 HB; have HO_394004 := n0_; have HO_412004 := n1_; have HO431 := n2_; have BK373 := n3_; have BK374 := n4_; have BK393 := n5_; have BK411 := n6_; have HB := n7_; clear n0_ n1_ n2_ n3_ n4_ n5_ n6_ n7_; (try clear hb); (try clear hb2); (try clear hk); (try clear hi); (try clear ho0)
                   refine hK.out _ _ ⟨bc BK373 0, bc BK373 1, bc BK373 2, bc BK374 0, bc BK374 1, bc BK374 2⟩ (fun hHeld => ?_)
                   clear hK K
                   refine norm_ (a' := ?_) ?_ ?_
                   rotate_left
                   ·show Act.put _ (some 76) _ = _
                    simp only [Act.put, List.setIfInBounds_toArray, List.set_cons_zero, List.set_cons_succ, i64_w, i32_w]
                    rfl
                   exact normA (hJ1_4_6 (v430) _ ⟨hHeld, (qm HO431 (fun _ hk => ⟨hk.1.2, hk.2⟩)), (qm HO_394004 (fun _ hk => ⟨hk.2, hk.1⟩)), (qm HO_412004 (fun _ hk => ⟨hk.2, hk.1⟩)), (qb BK373), (qb BK374), (qb BK393), (qb BK411), (qs HB)⟩)
                  ·skip
                   refine box_step ?hg (N := 16) ?hd (cs := #[.bool false, .int .i64 0, .int .i64 0, .int .i64 0, .slice none 0 0, .int .i64 0]) (t := 50) ?hr ?_; (case hd => rfl); (case hg => rfl); (case hr => first | (go_simp; done) | (go_simp; rfl))
                   intro gb440 hg w103 hbox hb
                   have n0_ := rbl HO_394004 hb; have n1_ := rbl HO_412004 hb; have n2_ := bkb BK373 hb; have n3_ := bkb BK374 hb; have n4_ := bkb BK393 hb; have n5_ := bkb BK411 hb; have n6_ := bst HB hb
                   have n7_ := Aside0.mk (hbox)
                   have n8_ := nge HB hg; have n9_ := nge HB hg; have n10_ := nlt BK373 hg; have n11_ := ngt BK373 hg; have n12_ := nlt BK374 hg; have n13_ := ngt BK374 hg; have n14_ := nlt BK393 hg; have n15_ := ngt BK393 hg; have n16_ := nlt BK411 hg; have n17_ := ngt BK411 hg; clear HO_394004 HO_412004 BK373 BK374 BK393 BK411 HB; have HO_394004 := n0_; have HO_412004 := n1_; have BK373 := n2_; have BK374 := n3_; have BK393 := n4_; have BK411 := n5_; have HB := n6_; have BK440 := n7_; have GW440 := n8_; have GE440 := n9_; have NB373_440 := n10_; have NB440_373 := n11_; have NB374_440 := n12_; have NB440_374 := n13_; have NB393_440 := n14_; have NB440_393 := n15_; have NB411_440 := n16_; have NB440_411 := n17_; clear n0_ n1_ n2_ n3_ n4_ n5_ n6_ n7_ n8_ n9_ n10_ n11_ n12_ n13_ n14_ n15_ n16_ n17_ hb hbox hg
                   refine hK.out _ _ ⟨bc BK373 0, bc BK373 1, bc BK373 2, bc BK374 0, bc BK374 1, bc BK374 2⟩ (fun hHeld => ?_)
                   clear hK K
                   refine norm_ (a' := ?_) ?_ ?_
                   rotate_left
                   ·show Act.put _ (some 16) _ = _
                    simp only [Act.put, List.setIfInBounds_toArray, List.set_cons_zero, List.set_cons_succ, i64_w, i32_w]
                    rfl
                   exact normA (hJ1_4_8 (gb440) _ ⟨hHeld, (qr HO_394004), (qr HO_412004), (qb BK373), (qb BK374), (qb BK393), (qb BK411), (qb BK440), GW440.out, GE440.out, NB373_440.out, NB440_373.out, NB374_440.out, NB440_374.out, NB393_440.out, NB440_393.out, NB411_440.out, NB440_411.out, (qs HB)⟩)
                ·skip
                 rintro gb440 w103 ⟨hS_, h0_, h1_, h2_, h3_, h4_, h5_, h6_, h7_, h8_, h9_, h10_, h11_, h12_, h13_, h14_, h15_, h16_, h17_⟩
                 have n0_ : Aside0 (Kd.R k60 60 w103 w.heap.size (fun k_ => some k_ ≠ (.slice Ao53 t407.length co53 : Value).ownBlock) (.slice Ao38 t389.length co38) t389) := ⟨h0_⟩
                 have n1_ : Aside0 (Kd.R k60 60 w103 w.heap.size (fun k_ => some k_ ≠ (.slice Ao38 t389.length co38 : Value).ownBlock) (.slice Ao53 t407.length co53) t421) := ⟨h1_⟩
                 have n2_ : Aside0 (w103.heap[gb373]? = some (.cells #[.int .i64 a0_0, .int .i64 a0_1, .int .i64 a0_2] 23 (0, 0))) := ⟨h2_⟩
                 have n3_ : Aside0 (w103.heap[gb374]? = some (.cells #[.int .i64 a2_0, .int .i64 a2_1, .int .i64 a2_2] 47 (0, 0))) := ⟨h3_⟩
                 have n4_ : Aside0 (w103.heap[gb393]? = some (.cells #[.bool t385, .int .i64 t386, .int .i64 t387, .int .i64 t388, .slice Ao38 t389.length co38, .int .i64 t392] 50 (0, 0))) := ⟨h4_⟩
                 have n5_ : Aside0 (w103.heap[gb411]? = some (.cells #[.bool t403, .int .i64 t404, .int .i64 t405, .int .i64 t406, .slice Ao53 t407.length co53, .int .i64 t410] 50 (0, 0))) := ⟨h5_⟩
                 have n6_ : Aside0 (w103.heap[gb440]? = some (.cells #[.bool false, .int .i64 0, .int .i64 0, .int .i64 0, .slice none 0 0, .int .i64 0] 50 (0, 0))) := ⟨h6_⟩
                 have n7_ : Aside0 (w.heap.size ≤ gb440) := ⟨h7_⟩
                 have n8_ : Aside0 (w.heap.size ≤ gb440) := ⟨h8_⟩
                 have n9_ : Aside0 (gb373 ≠ gb440) := ⟨h9_⟩
                 have n10_ : Aside0 (gb440 ≠ gb373) := ⟨h10_⟩
                 have n11_ : Aside0 (gb374 ≠ gb440) := ⟨h11_⟩
                 have n12_ : Aside0 (gb440 ≠ gb374) := ⟨h12_⟩
                 have n13_ : Aside0 (gb393 ≠ gb440) := ⟨h13_⟩
                 have n14_ : Aside0 (gb440 ≠ gb393) := ⟨h14_⟩
                 have n15_ : Aside0 (gb411 ≠ gb440) := ⟨h15_⟩
                 have n16_ : Aside0 (gb440 ≠ gb411) := ⟨h16_⟩
                 have n17_ : Aside0 (Below w.heap.size w w103) := ⟨h17_⟩
                 clear HO_394004 HO_412004 BK373 BK374 BK393 BK411 HB h0_ h1_ h2_ h3_ h4_ h5_ h6_ h7_ h8_ h9_ h10_ h11_ h12_ h13_ h14_ h15_ h16_ h17_; have HO_394004 := n0_; have HO_412004 := n1_; have BK373 := n2_; have BK374 := n3_; have BK393 := n4_; have BK411 := n5_; have BK440 := n6_; have GW440 := n7_; have GE440 := n8_; have NB373_440 := n9_; have NB440_373 := n10_; have NB374_440 := n11_; have NB440_374 := n12_; have NB393_440 := n13_; have NB440_393 := n14_; have NB411_440 := n15_; have NB440_411 := n16_; have HB := n17_; clear n0_ n1_ n2_ n3_ n4_ n5_ n6_ n7_ n8_ n9_ n10_ n11_ n12_ n13_ n14_ n15_ n16_ n17_
                 have hHeld : w103.cell? ⟨gb373, 0, none⟩ = some (.int .i64 a0_0) ∧ w103.cell? ⟨gb373, 1, none⟩ = some (.int .i64 a0_1) ∧ w103.cell? ⟨gb373, 2, none⟩ = some (.int .i64 a0_2) ∧ w103.cell? ⟨gb374, 0, none⟩ = some (.int .i64 a2_0) ∧ w103.cell? ⟨gb374, 1, none⟩ = some (.int .i64 a2_1) ∧ w103.cell? ⟨gb374, 2, none⟩ = some (.int .i64 a2_2) := hS_
                 refine norm_ (a' := ?_) ?_ ?_
                 rotate_left
                 ·simp only [putAll, Act.put, List.setIfInBounds_toArray, List.set_cons_zero, List.set_cons_succ]
                  rfl
                 refine one_ (i := 6) (N := some 76) #[true, true, true, true, true, true, true, false, true, false] rfl rfl (one_of HT_.out (by kernel_rfl)) (by decide) (fun K hK => ?_)
                 refine goesA Try.func16 #[.slice A3 l3.length c3] ?_
                 with_reducible refine (laws_toPacketS.calls kj22 _ _ l3 t429 _ ?side1 ?side2 A85.out).mono ?_
                 (case side1 => exact qc (Kd.C_below HR3.out HB.out))
                 (case side2 => exact HC3.out)
                 rintro e w104 ⟨v430, rfl, ho0, hb⟩
                 refine ⟨_, rfl, ?_⟩
                 have n0_ := Aside0.mk (Kd.R_elder' (qr HO_394004) (Kd.R_base ho0) hb)
                 have n1_ := Aside0.mk (Kd.R_elder' (qr HO_412004) (Kd.R_base ho0) hb)
                 have n2_ := Aside0.mk (Kd.R_lower (Kd.R_new' (Kd.R_new' ho0 (Kd.R_lt (qr HO_394004))) (Kd.R_lt (qr HO_412004))) (below_size (qs HB)))
                 have n3_ := bkb BK373 hb; have n4_ := bkb BK374 hb; have n5_ := bkb BK393 hb; have n6_ := bkb BK411 hb; have n7_ := bkb BK440 hb; have n8_ := bst HB hb; clear HO_394004 HO_412004 BK373 BK374 BK393 BK411 BK440 HB; have HO_394004 := n0_; have HO_412004 := n1_; have HO431 := n2_; have BK373 := n3_; have BK374 := n4_; have BK393 := n5_; have BK411 := n6_; have BK440 := n7_; have HB := n8_; clear n0_ n1_ n2_ n3_ n4_ n5_ n6_ n7_ n8_; (try clear hb); (try clear hb2); (try clear hk); (try clear hi); (try clear ho0)
                 refine hK.out _ _ ⟨bc BK373 0, bc BK373 1, bc BK373 2, bc BK374 0, bc BK374 1, bc BK374 2⟩ (fun hHeld => ?_)
                 clear hK K
                 refine norm_ (a' := ?_) ?_ ?_
                 rotate_left
                 ·show Act.put _ (some 76) _ = _
                  simp only [Act.put, List.setIfInBounds_toArray, List.set_cons_zero, List.set_cons_succ, i64_w, i32_w]
                  rfl
                 exact normA (hJ1_4_6_8 (v430, gb440) _ ⟨hHeld, (qm HO431 (fun _ hk => ⟨hk.1.2, hk.2⟩)), (qm HO_394004 (fun _ hk => ⟨hk.2, hk.1⟩)), (qm HO_412004 (fun _ hk => ⟨hk.2, hk.1⟩)), (qb BK373), (qb BK374), (qb BK393), (qb BK411), (qb BK440), GW440.out, GE440.out, NB373_440.out, NB440_373.out, NB374_440.out, NB440_374.out, NB393_440.out, NB440_393.out, NB411_440.out, NB440_411.out, (qs HB)⟩)
               ·skip
                rintro v430 w103 ⟨hS_, h0_, h1_, h2_, h3_, h4_, h5_, h6_, h7_⟩
                have n0_ : Aside0 (Kd.R k60 60 w103 w.heap.size (fun k_ => some k_ ≠ (.slice Ao38 t389.length co38 : Value).ownBlock ∧ some k_ ≠ (.slice Ao53 t407.length co53 : Value).ownBlock) v430 t429) := ⟨h0_⟩
                have n1_ : Aside0 (Kd.R k60 60 w103 w.heap.size (fun k_ => some k_ ≠ (v430 : Value).ownBlock ∧ some k_ ≠ (.slice Ao53 t407.length co53 : Value).ownBlock) (.slice Ao38 t389.length co38) t389) := ⟨h1_⟩
                have n2_ : Aside0 (Kd.R k60 60 w103 w.heap.size (fun k_ => some k_ ≠ (v430 : Value).ownBlock ∧ some k_ ≠ (.slice Ao38 t389.length co38 : Value).ownBlock) (.slice Ao53 t407.length co53) t421) := ⟨h2_⟩
                have n3_ : Aside0 (w103.heap[gb373]? = some (.cells #[.int .i64 a0_0, .int .i64 a0_1, .int .i64 a0_2] 23 (0, 0))) := ⟨h3_⟩
                have n4_ : Aside0 (w103.heap[gb374]? = some (.cells #[.int .i64 a2_0, .int .i64 a2_1, .int .i64 a2_2] 47 (0, 0))) := ⟨h4_⟩
                have n5_ : Aside0 (w103.heap[gb393]? = some (.cells #[.bool t385, .int .i64 t386, .int .i64 t387, .int .i64 t388, .slice Ao38 t389.length co38, .int .i64 t392] 50 (0, 0))) := ⟨h5_⟩
                have n6_ : Aside0 (w103.heap[gb411]? = some (.cells #[.bool t403, .int .i64 t404, .int .i64 t405, .int .i64 t406, .slice Ao53 t407.length co53, .int .i64 t410] 50 (0, 0))) := ⟨h6_⟩
                have n7_ : Aside0 (Below w.heap.size w w103) := ⟨h7_⟩
                clear HO_394004 HO_412004 BK373 BK374 BK393 BK411 HB h0_ h1_ h2_ h3_ h4_ h5_ h6_ h7_; have HO431 := n0_; have HO_394004 := n1_; have HO_412004 := n2_; have BK373 := n3_; have BK374 := n4_; have BK393 := n5_; have BK411 := n6_; have HB := n7_; clear n0_ n1_ n2_ n3_ n4_ n5_ n6_ n7_
                have hHeld : w103.cell? ⟨gb373, 0, none⟩ = some (.int .i64 a0_0) ∧ w103.cell? ⟨gb373, 1, none⟩ = some (.int .i64 a0_1) ∧ w103.cell? ⟨gb373, 2, none⟩ = some (.int .i64 a0_2) ∧ w103.cell? ⟨gb374, 0, none⟩ = some (.int .i64 a2_0) ∧ w103.cell? ⟨gb374, 1, none⟩ = some (.int .i64 a2_1) ∧ w103.cell? ⟨gb374, 2, none⟩ = some (.int .i64 a2_2) := hS_
                obtain ⟨Ao104, co104, eo104⟩ := Kd.R_slice HO431.out
                (first | subst eo104 | (injection eo104 with f1_ f2_ f3_; have f4_ := f1_.symm; have f5_ := f3_.symm; clear f1_ f2_ f3_; subst f4_; subst f5_))
                refine norm_ (a' := ?_) ?_ ?_
                rotate_left
                ·simp only [putAll, Act.put, List.setIfInBounds_toArray, List.set_cons_zero, List.set_cons_succ]
                 rfl
                refine two_ (i := 7) (j := 8) (Ni := some 77) (Nj := some 16) #[true, true, true, true, true, true, true, true, false, false] #[true, true, true, true, true, true, true, false, true, false] rfl rfl rfl rfl (two_of HT_.out (by kernel_rfl)) (by decide) (by decide) (fun K hK => ?_) (fun K hK => ?_)
                ·skip
                 refine goesA Try.func27 #[.agg #[.int .i64 t423, .int .i64 t424, .int .i64 t425], .int .i64 a1, .agg #[.int .i64 t426, .int .i64 t427, .int .i64 t428], .slice Ao104 t429.length co104] ?_
                 with_reducible refine (impl_TrainTick.calls kj22 t423 t424 t425 a1 t426 t427 t428 _ _ t429 t432 t433 t434 t435 t436 t439 _ ?side1 ?side2 A86.out).mono ?_
                 (case side1 => exact qc (Kd.R_reads' HO431.out).2.2)
                 (case side2 => exact (Kd.R_reads' HO431.out).2.1)
                 rintro e w105 ⟨v437, rfl, ho0, hb⟩
                 refine ⟨_, rfl, ?_⟩
                 have n0_ := Aside0.mk (Kd.R_elder' (qr HO_394004) (Kd.R_base ho0) hb)
                 have n1_ := Aside0.mk (Kd.R_elder' (qr HO_412004) (Kd.R_base ho0) hb)
                 have n2_ := Aside0.mk (Kd.R_elder' (qr HO431) (Kd.R_base ho0) hb)
                 have n3_ := Aside0.mk (Kd.R_lower (Kd.R_new' (Kd.R_new' (Kd.R_new' ho0 (Kd.R_lt (qr HO_394004))) (Kd.R_lt (qr HO_412004))) (Kd.R_lt (qr HO431))) (below_size (qs HB)))
                 have n4_ := bkb BK373 hb; have n5_ := bkb BK374 hb; have n6_ := bkb BK393 hb; have n7_ := bkb BK411 hb; have n8_ := bst HB hb; clear HO_394004 HO_412004 HO431 BK373 BK374 BK393 BK411 HB; have HO_394004 := n0_; have HO_412004 := n1_; have HO431 := n2_; have HO438 := n3_; have BK373 := n4_; have BK374 := n5_; have BK393 := n6_; have BK411 := n7_; have HB := n8_; clear n0_ n1_ n2_ n3_ n4_ n5_ n6_ n7_ n8_; (try clear hb); (try clear hb2); (try clear hk); (try clear hi); (try clear ho0)
                 refine hK.out _ _ ⟨bc BK373 0, bc BK373 1, bc BK373 2, bc BK374 0, bc BK374 1, bc BK374 2⟩ (fun hHeld => ?_)
                 clear hK K
                 refine norm_ (a' := ?_) ?_ ?_
                 rotate_left
                 ·show Act.put _ (some 77) _ = _
                  simp only [Act.put, List.setIfInBounds_toArray, List.set_cons_zero, List.set_cons_succ, i64_w, i32_w]
                  rfl
                 exact normA (hJ1_4_6_7 (.slice Ao104 t429.length co104, v437) _ ⟨hHeld, (qm HO431 (fun _ hk => ⟨hk.2, ⟨hk.1.1, hk.1.2⟩⟩)), (qm HO438 (fun _ hk => ⟨hk.2, ⟨hk.1.1.2, hk.1.2⟩⟩)), (qm HO_394004 (fun _ hk => ⟨hk.1.1, ⟨hk.2, hk.1.2⟩⟩)), (qm HO_412004 (fun _ hk => ⟨hk.1.1, ⟨hk.2, hk.1.2⟩⟩)), (qb BK373), (qb BK374), (qb BK393), (qb BK411), (qs HB)⟩)
                ·skip
                 refine box_step ?hg (N := 16) ?hd (cs := #[.bool false, .int .i64 0, .int .i64 0, .int .i64 0, .slice none 0 0, .int .i64 0]) (t := 50) ?hr ?_; (case hd => rfl); (case hg => rfl); (case hr => first | (go_simp; done) | (go_simp; rfl))
                 intro gb440 hg w104 hbox hb
                 have n0_ := rbl HO_394004 hb; have n1_ := rbl HO_412004 hb; have n2_ := rbl HO431 hb; have n3_ := bkb BK373 hb; have n4_ := bkb BK374 hb; have n5_ := bkb BK393 hb; have n6_ := bkb BK411 hb; have n7_ := bst HB hb
                 have n8_ := Aside0.mk (hbox)
                 have n9_ := nge HB hg; have n10_ := nge HB hg; have n11_ := nlt BK373 hg; have n12_ := ngt BK373 hg; have n13_ := nlt BK374 hg; have n14_ := ngt BK374 hg; have n15_ := nlt BK393 hg; have n16_ := ngt BK393 hg; have n17_ := nlt BK411 hg; have n18_ := ngt BK411 hg; clear HO_394004 HO_412004 HO431 BK373 BK374 BK393 BK411 HB; have HO_394004 := n0_; have HO_412004 := n1_; have HO431 := n2_; have BK373 := n3_; have BK374 := n4_; have BK393 := n5_; have BK411 := n6_; have HB := n7_; have BK440 := n8_; have GW440 := n9_; have GE440 := n10_; have NB373_440 := n11_; have NB440_373 := n12_; have NB374_440 := n13_; have NB440_374 := n14_; have NB393_440 := n15_; have NB440_393 := n16_; have NB411_440 := n17_; have NB440_411 := n18_; clear n0_ n1_ n2_ n3_ n4_ n5_ n6_ n7_ n8_ n9_ n10_ n11_ n12_ n13_ n14_ n15_ n16_ n17_ n18_ hb hbox hg
                 refine hK.out _ _ ⟨bc BK373 0, bc BK373 1, bc BK373 2, bc BK374 0, bc BK374 1, bc BK374 2⟩ (fun hHeld => ?_)
                 clear hK K
                 refine norm_ (a' := ?_) ?_ ?_
                 rotate_left
                 ·show Act.put _ (some 16) _ = _
                  simp only [Act.put, List.setIfInBounds_toArray, List.set_cons_zero, List.set_cons_succ, i64_w, i32_w]
                  rfl
                 exact normA (hJ1_4_6_8 (.slice Ao104 t429.length co104, gb440) _ ⟨hHeld, (qr HO431), (qr HO_394004), (qr HO_412004), (qb BK373), (qb BK374), (qb BK393), (qb BK411), (qb BK440), GW440.out, GE440.out, NB373_440.out, NB440_373.out, NB374_440.out, NB440_374.out, NB393_440.out, NB440_393.out, NB411_440.out, NB440_411.out, (qs HB)⟩)
              ·skip
               rintro ⟨v430, gb440⟩ w104 ⟨hS_, h0_, h1_, h2_, h3_, h4_, h5_, h6_, h7_, h8_, h9_, h10_, h11_, h12_, h13_, h14_, h15_, h16_, h17_, h18_⟩
               have n0_ : Aside0 (Kd.R k60 60 w104 w.heap.size (fun k_ => some k_ ≠ (.slice Ao38 t389.length co38 : Value).ownBlock ∧ some k_ ≠ (.slice Ao53 t407.length co53 : Value).ownBlock) v430 t429) := ⟨h0_⟩
               have n1_ : Aside0 (Kd.R k60 60 w104 w.heap.size (fun k_ => some k_ ≠ (v430 : Value).ownBlock ∧ some k_ ≠ (.slice Ao53 t407.length co53 : Value).ownBlock) (.slice Ao38 t389.length co38) t389) := ⟨h1_⟩
               have n2_ : Aside0 (Kd.R k60 60 w104 w.heap.size (fun k_ => some k_ ≠ (v430 : Value).ownBlock ∧ some k_ ≠ (.slice Ao38 t389.length co38 : Value).ownBlock) (.slice Ao53 t407.length co53) t421) := ⟨h2_⟩
               have n3_ : Aside0 (w104.heap[gb373]? = some (.cells #[.int .i64 a0_0, .int .i64 a0_1, .int .i64 a0_2] 23 (0, 0))) := ⟨h3_⟩
               have n4_ : Aside0 (w104.heap[gb374]? = some (.cells #[.int .i64 a2_0, .int .i64 a2_1, .int .i64 a2_2] 47 (0, 0))) := ⟨h4_⟩
               have n5_ : Aside0 (w104.heap[gb393]? = some (.cells #[.bool t385, .int .i64 t386, .int .i64 t387, .int .i64 t388, .slice Ao38 t389.length co38, .int .i64 t392] 50 (0, 0))) := ⟨h5_⟩
               have n6_ : Aside0 (w104.heap[gb411]? = some (.cells #[.bool t403, .int .i64 t404, .int .i64 t405, .int .i64 t406, .slice Ao53 t407.length co53, .int .i64 t410] 50 (0, 0))) := ⟨h6_⟩
               have n7_ : Aside0 (w104.heap[gb440]? = some (.cells #[.bool false, .int .i64 0, .int .i64 0, .int .i64 0, .slice none 0 0, .int .i64 0] 50 (0, 0))) := ⟨h7_⟩
               have n8_ : Aside0 (w.heap.size ≤ gb440) := ⟨h8_⟩
               have n9_ : Aside0 (w.heap.size ≤ gb440) := ⟨h9_⟩
               have n10_ : Aside0 (gb373 ≠ gb440) := ⟨h10_⟩
               have n11_ : Aside0 (gb440 ≠ gb373) := ⟨h11_⟩
               have n12_ : Aside0 (gb374 ≠ gb440) := ⟨h12_⟩
               have n13_ : Aside0 (gb440 ≠ gb374) := ⟨h13_⟩
               have n14_ : Aside0 (gb393 ≠ gb440) := ⟨h14_⟩
               have n15_ : Aside0 (gb440 ≠ gb393) := ⟨h15_⟩
               have n16_ : Aside0 (gb411 ≠ gb440) := ⟨h16_⟩
               have n17_ : Aside0 (gb440 ≠ gb411) := ⟨h17_⟩
               have n18_ : Aside0 (Below w.heap.size w w104) := ⟨h18_⟩
               clear HO_394004 HO_412004 BK373 BK374 BK393 BK411 HB h0_ h1_ h2_ h3_ h4_ h5_ h6_ h7_ h8_ h9_ h10_ h11_ h12_ h13_ h14_ h15_ h16_ h17_ h18_; have HO431 := n0_; have HO_394004 := n1_; have HO_412004 := n2_; have BK373 := n3_; have BK374 := n4_; have BK393 := n5_; have BK411 := n6_; have BK440 := n7_; have GW440 := n8_; have GE440 := n9_; have NB373_440 := n10_; have NB440_373 := n11_; have NB374_440 := n12_; have NB440_374 := n13_; have NB393_440 := n14_; have NB440_393 := n15_; have NB411_440 := n16_; have NB440_411 := n17_; have HB := n18_; clear n0_ n1_ n2_ n3_ n4_ n5_ n6_ n7_ n8_ n9_ n10_ n11_ n12_ n13_ n14_ n15_ n16_ n17_ n18_
               have hHeld : w104.cell? ⟨gb373, 0, none⟩ = some (.int .i64 a0_0) ∧ w104.cell? ⟨gb373, 1, none⟩ = some (.int .i64 a0_1) ∧ w104.cell? ⟨gb373, 2, none⟩ = some (.int .i64 a0_2) ∧ w104.cell? ⟨gb374, 0, none⟩ = some (.int .i64 a2_0) ∧ w104.cell? ⟨gb374, 1, none⟩ = some (.int .i64 a2_1) ∧ w104.cell? ⟨gb374, 2, none⟩ = some (.int .i64 a2_2) := hS_
               obtain ⟨Ao105, co105, eo105⟩ := Kd.R_slice HO431.out
               (first | subst eo105 | (injection eo105 with f1_ f2_ f3_; have f4_ := f1_.symm; have f5_ := f3_.symm; clear f1_ f2_ f3_; subst f4_; subst f5_))
               refine norm_ (a' := ?_) ?_ ?_
               rotate_left
               ·simp only [putAll, Act.put, List.setIfInBounds_toArray, List.set_cons_zero, List.set_cons_succ]
                rfl
               refine one_ (i := 7) (N := some 77) #[true, true, true, true, true, true, true, true, true, false] rfl rfl (one_of HT_.out (by kernel_rfl)) (by decide) (fun K hK => ?_)
               refine goesA Try.func27 #[.agg #[.int .i64 t423, .int .i64 t424, .int .i64 t425], .int .i64 a1, .agg #[.int .i64 t426, .int .i64 t427, .int .i64 t428], .slice Ao105 t429.length co105] ?_
               with_reducible refine (impl_TrainTick.calls kj22 t423 t424 t425 a1 t426 t427 t428 _ _ t429 t432 t433 t434 t435 t436 t439 _ ?side1 ?side2 A86.out).mono ?_
               (case side1 => exact qc (Kd.R_reads' HO431.out).2.2)
               (case side2 => exact (Kd.R_reads' HO431.out).2.1)
               rintro e w106 ⟨v437, rfl, ho0, hb⟩
               refine ⟨_, rfl, ?_⟩
               have n0_ := Aside0.mk (Kd.R_elder' (qr HO_394004) (Kd.R_base ho0) hb)
               have n1_ := Aside0.mk (Kd.R_elder' (qr HO_412004) (Kd.R_base ho0) hb)
               have n2_ := Aside0.mk (Kd.R_elder' (qr HO431) (Kd.R_base ho0) hb)
               have n3_ := Aside0.mk (Kd.R_lower (Kd.R_new' (Kd.R_new' (Kd.R_new' ho0 (Kd.R_lt (qr HO_394004))) (Kd.R_lt (qr HO_412004))) (Kd.R_lt (qr HO431))) (below_size (qs HB)))
               have n4_ := bkb BK373 hb; have n5_ := bkb BK374 hb; have n6_ := bkb BK393 hb; have n7_ := bkb BK411 hb; have n8_ := bkb BK440 hb; have n9_ := bst HB hb; clear HO_394004 HO_412004 HO431 BK373 BK374 BK393 BK411 BK440 HB; have HO_394004 := n0_; have HO_412004 := n1_; have HO431 := n2_; have HO438 := n3_; have BK373 := n4_; have BK374 := n5_; have BK393 := n6_; have BK411 := n7_; have BK440 := n8_; have HB := n9_; clear n0_ n1_ n2_ n3_ n4_ n5_ n6_ n7_ n8_ n9_; (try clear hb); (try clear hb2); (try clear hk); (try clear hi); (try clear ho0)
               refine hK.out _ _ ⟨bc BK373 0, bc BK373 1, bc BK373 2, bc BK374 0, bc BK374 1, bc BK374 2⟩ (fun hHeld => ?_)
               clear hK K
               refine norm_ (a' := ?_) ?_ ?_
               rotate_left
               ·show Act.put _ (some 77) _ = _
                simp only [Act.put, List.setIfInBounds_toArray, List.set_cons_zero, List.set_cons_succ, i64_w, i32_w]
                rfl
               exact normA (hJ1_4_6_7_8 (.slice Ao105 t429.length co105, v437, gb440) _ ⟨hHeld, (qm HO431 (fun _ hk => ⟨hk.2, ⟨hk.1.1, hk.1.2⟩⟩)), (qm HO438 (fun _ hk => ⟨hk.2, ⟨hk.1.1.2, hk.1.2⟩⟩)), (qm HO_394004 (fun _ hk => ⟨hk.1.1, ⟨hk.2, hk.1.2⟩⟩)), (qm HO_412004 (fun _ hk => ⟨hk.1.1, ⟨hk.2, hk.1.2⟩⟩)), (qb BK373), (qb BK374), (qb BK393), (qb BK411), (qb BK440), GW440.out, GE440.out, NB373_440.out, NB440_373.out, NB374_440.out, NB440_374.out, NB393_440.out, NB440_393.out, NB411_440.out, NB440_411.out, (qs HB)⟩)
             ·skip
              rintro ⟨v430, v437⟩ w105 ⟨hS_, h0_, h1_, h2_, h3_, h4_, h5_, h6_, h7_, h8_⟩
              have n0_ : Aside0 (Kd.R k60 60 w105 w.heap.size (fun k_ => some k_ ≠ (v437 : Value).ownBlock ∧ some k_ ≠ (.slice Ao38 t389.length co38 : Value).ownBlock ∧ some k_ ≠ (.slice Ao53 t407.length co53 : Value).ownBlock) v430 t429) := ⟨h0_⟩
              have n1_ : Aside0 (Kd.R k60 60 w105 w.heap.size (fun k_ => some k_ ≠ (v430 : Value).ownBlock ∧ some k_ ≠ (.slice Ao38 t389.length co38 : Value).ownBlock ∧ some k_ ≠ (.slice Ao53 t407.length co53 : Value).ownBlock) v437 t436) := ⟨h1_⟩
              have n2_ : Aside0 (Kd.R k60 60 w105 w.heap.size (fun k_ => some k_ ≠ (v430 : Value).ownBlock ∧ some k_ ≠ (v437 : Value).ownBlock ∧ some k_ ≠ (.slice Ao53 t407.length co53 : Value).ownBlock) (.slice Ao38 t389.length co38) t389) := ⟨h2_⟩
              have n3_ : Aside0 (Kd.R k60 60 w105 w.heap.size (fun k_ => some k_ ≠ (v430 : Value).ownBlock ∧ some k_ ≠ (v437 : Value).ownBlock ∧ some k_ ≠ (.slice Ao38 t389.length co38 : Value).ownBlock) (.slice Ao53 t407.length co53) t421) := ⟨h3_⟩
              have n4_ : Aside0 (w105.heap[gb373]? = some (.cells #[.int .i64 a0_0, .int .i64 a0_1, .int .i64 a0_2] 23 (0, 0))) := ⟨h4_⟩
              have n5_ : Aside0 (w105.heap[gb374]? = some (.cells #[.int .i64 a2_0, .int .i64 a2_1, .int .i64 a2_2] 47 (0, 0))) := ⟨h5_⟩
              have n6_ : Aside0 (w105.heap[gb393]? = some (.cells #[.bool t385, .int .i64 t386, .int .i64 t387, .int .i64 t388, .slice Ao38 t389.length co38, .int .i64 t392] 50 (0, 0))) := ⟨h6_⟩
              have n7_ : Aside0 (w105.heap[gb411]? = some (.cells #[.bool t403, .int .i64 t404, .int .i64 t405, .int .i64 t406, .slice Ao53 t407.length co53, .int .i64 t410] 50 (0, 0))) := ⟨h7_⟩
              have n8_ : Aside0 (Below w.heap.size w w105) := ⟨h8_⟩
              clear HO_394004 HO_412004 BK373 BK374 BK393 BK411 HB h0_ h1_ h2_ h3_ h4_ h5_ h6_ h7_ h8_; have HO431 := n0_; have HO438 := n1_; have HO_394004 := n2_; have HO_412004 := n3_; have BK373 := n4_; have BK374 := n5_; have BK393 := n6_; have BK411 := n7_; have HB := n8_; clear n0_ n1_ n2_ n3_ n4_ n5_ n6_ n7_ n8_
              have hHeld : w105.cell? ⟨gb373, 0, none⟩ = some (.int .i64 a0_0) ∧ w105.cell? ⟨gb373, 1, none⟩ = some (.int .i64 a0_1) ∧ w105.cell? ⟨gb373, 2, none⟩ = some (.int .i64 a0_2) ∧ w105.cell? ⟨gb374, 0, none⟩ = some (.int .i64 a2_0) ∧ w105.cell? ⟨gb374, 1, none⟩ = some (.int .i64 a2_1) ∧ w105.cell? ⟨gb374, 2, none⟩ = some (.int .i64 a2_2) := hS_
              refine norm_ (a' := ?_) ?_ ?_
              rotate_left
              ·simp only [putAll, Act.put, List.setIfInBounds_toArray, List.set_cons_zero, List.set_cons_succ]
               rfl
              refine one_ (i := 8) (N := some 16) #[true, true, true, true, true, true, true, true, true, false] rfl rfl (one_of HT_.out (by kernel_rfl)) (by decide) (fun K hK => ?_)
              refine box_step ?hg (N := 16) ?hd (cs := #[.bool false, .int .i64 0, .int .i64 0, .int .i64 0, .slice none 0 0, .int .i64 0]) (t := 50) ?hr ?_; (case hd => rfl); (case hg => rfl); (case hr => first | (go_simp; done) | (go_simp; rfl))
              intro gb440 hg w106 hbox hb
              have n0_ := rbl HO_394004 hb; have n1_ := rbl HO_412004 hb; have n2_ := rbl HO431 hb; have n3_ := rbl HO438 hb; have n4_ := bkb BK373 hb; have n5_ := bkb BK374 hb; have n6_ := bkb BK393 hb; have n7_ := bkb BK411 hb; have n8_ := bst HB hb
              have n9_ := Aside0.mk (hbox)
              have n10_ := nge HB hg; have n11_ := nge HB hg; have n12_ := nlt BK373 hg; have n13_ := ngt BK373 hg; have n14_ := nlt BK374 hg; have n15_ := ngt BK374 hg; have n16_ := nlt BK393 hg; have n17_ := ngt BK393 hg; have n18_ := nlt BK411 hg; have n19_ := ngt BK411 hg; clear HO_394004 HO_412004 HO431 HO438 BK373 BK374 BK393 BK411 HB; have HO_394004 := n0_; have HO_412004 := n1_; have HO431 := n2_; have HO438 := n3_; have BK373 := n4_; have BK374 := n5_; have BK393 := n6_; have BK411 := n7_; have HB := n8_; have BK440 := n9_; have GW440 := n10_; have GE440 := n11_; have NB373_440 := n12_; have NB440_373 := n13_; have NB374_440 := n14_; have NB440_374 := n15_; have NB393_440 := n16_; have NB440_393 := n17_; have NB411_440 := n18_; have NB440_411 := n19_; clear n0_ n1_ n2_ n3_ n4_ n5_ n6_ n7_ n8_ n9_ n10_ n11_ n12_ n13_ n14_ n15_ n16_ n17_ n18_ n19_ hb hbox hg
              refine hK.out _ _ ⟨bc BK373 0, bc BK373 1, bc BK373 2, bc BK374 0, bc BK374 1, bc BK374 2⟩ (fun hHeld => ?_)
              clear hK K
              refine norm_ (a' := ?_) ?_ ?_
              rotate_left
              ·show Act.put _ (some 16) _ = _
               simp only [Act.put, List.setIfInBounds_toArray, List.set_cons_zero, List.set_cons_succ, i64_w, i32_w]
               rfl
              exact normA (hJ1_4_6_7_8 (v430, v437, gb440) _ ⟨hHeld, (qr HO431), (qr HO438), (qr HO_394004), (qr HO_412004), (qb BK373), (qb BK374), (qb BK393), (qb BK411), (qb BK440), GW440.out, GE440.out, NB373_440.out, NB440_373.out, NB374_440.out, NB440_374.out, NB393_440.out, NB440_393.out, NB411_440.out, NB440_411.out, (qs HB)⟩)
            rintro ⟨v430, v437, gb440⟩ w106 ⟨hS_, h0_, h1_, h2_, h3_, h4_, h5_, h6_, h7_, h8_, h9_, h10_, h11_, h12_, h13_, h14_, h15_, h16_, h17_, h18_, h19_⟩
            have n0_ : Aside0 (Kd.R k60 60 w106 w.heap.size (fun k_ => some k_ ≠ (v437 : Value).ownBlock ∧ some k_ ≠ (.slice Ao38 t389.length co38 : Value).ownBlock ∧ some k_ ≠ (.slice Ao53 t407.length co53 : Value).ownBlock) v430 t429) := ⟨h0_⟩
            have n1_ : Aside0 (Kd.R k60 60 w106 w.heap.size (fun k_ => some k_ ≠ (v430 : Value).ownBlock ∧ some k_ ≠ (.slice Ao38 t389.length co38 : Value).ownBlock ∧ some k_ ≠ (.slice Ao53 t407.length co53 : Value).ownBlock) v437 t436) := ⟨h1_⟩
            have n2_ : Aside0 (Kd.R k60 60 w106 w.heap.size (fun k_ => some k_ ≠ (v430 : Value).ownBlock ∧ some k_ ≠ (v437 : Value).ownBlock ∧ some k_ ≠ (.slice Ao53 t407.length co53 : Value).ownBlock) (.slice Ao38 t389.length co38) t389) := ⟨h2_⟩
            have n3_ : Aside0 (Kd.R k60 60 w106 w.heap.size (fun k_ => some k_ ≠ (v430 : Value).ownBlock ∧ some k_ ≠ (v437 : Value).ownBlock ∧ some k_ ≠ (.slice Ao38 t389.length co38 : Value).ownBlock) (.slice Ao53 t407.length co53) t421) := ⟨h3_⟩
            have n4_ : Aside0 (w106.heap[gb373]? = some (.cells #[.int .i64 a0_0, .int .i64 a0_1, .int .i64 a0_2] 23 (0, 0))) := ⟨h4_⟩
            have n5_ : Aside0 (w106.heap[gb374]? = some (.cells #[.int .i64 a2_0, .int .i64 a2_1, .int .i64 a2_2] 47 (0, 0))) := ⟨h5_⟩
            have n6_ : Aside0 (w106.heap[gb393]? = some (.cells #[.bool t385, .int .i64 t386, .int .i64 t387, .int .i64 t388, .slice Ao38 t389.length co38, .int .i64 t392] 50 (0, 0))) := ⟨h6_⟩
            have n7_ : Aside0 (w106.heap[gb411]? = some (.cells #[.bool t403, .int .i64 t404, .int .i64 t405, .int .i64 t406, .slice Ao53 t407.length co53, .int .i64 t410] 50 (0, 0))) := ⟨h7_⟩
            have n8_ : Aside0 (w106.heap[gb440]? = some (.cells #[.bool false, .int .i64 0, .int .i64 0, .int .i64 0, .slice none 0 0, .int .i64 0] 50 (0, 0))) := ⟨h8_⟩
            have n9_ : Aside0 (w.heap.size ≤ gb440) := ⟨h9_⟩
            have n10_ : Aside0 (w.heap.size ≤ gb440) := ⟨h10_⟩
            have n11_ : Aside0 (gb373 ≠ gb440) := ⟨h11_⟩
            have n12_ : Aside0 (gb440 ≠ gb373) := ⟨h12_⟩
            have n13_ : Aside0 (gb374 ≠ gb440) := ⟨h13_⟩
            have n14_ : Aside0 (gb440 ≠ gb374) := ⟨h14_⟩
            have n15_ : Aside0 (gb393 ≠ gb440) := ⟨h15_⟩
            have n16_ : Aside0 (gb440 ≠ gb393) := ⟨h16_⟩
            have n17_ : Aside0 (gb411 ≠ gb440) := ⟨h17_⟩
            have n18_ : Aside0 (gb440 ≠ gb411) := ⟨h18_⟩
            have n19_ : Aside0 (Below w.heap.size w w106) := ⟨h19_⟩
            clear HO_394004 HO_412004 BK373 BK374 BK393 BK411 HB h0_ h1_ h2_ h3_ h4_ h5_ h6_ h7_ h8_ h9_ h10_ h11_ h12_ h13_ h14_ h15_ h16_ h17_ h18_ h19_; have HO431 := n0_; have HO438 := n1_; have HO_394004 := n2_; have HO_412004 := n3_; have BK373 := n4_; have BK374 := n5_; have BK393 := n6_; have BK411 := n7_; have BK440 := n8_; have GW440 := n9_; have GE440 := n10_; have NB373_440 := n11_; have NB440_373 := n12_; have NB374_440 := n13_; have NB440_374 := n14_; have NB393_440 := n15_; have NB440_393 := n16_; have NB411_440 := n17_; have NB440_411 := n18_; have HB := n19_; clear n0_ n1_ n2_ n3_ n4_ n5_ n6_ n7_ n8_ n9_ n10_ n11_ n12_ n13_ n14_ n15_ n16_ n17_ n18_ n19_
            have hHeld : w106.cell? ⟨gb373, 0, none⟩ = some (.int .i64 a0_0) ∧ w106.cell? ⟨gb373, 1, none⟩ = some (.int .i64 a0_1) ∧ w106.cell? ⟨gb373, 2, none⟩ = some (.int .i64 a0_2) ∧ w106.cell? ⟨gb374, 0, none⟩ = some (.int .i64 a2_0) ∧ w106.cell? ⟨gb374, 1, none⟩ = some (.int .i64 a2_1) ∧ w106.cell? ⟨gb374, 2, none⟩ = some (.int .i64 a2_2) := hS_
            obtain ⟨Ao111, co111, eo111⟩ := Kd.R_slice HO438.out
            (first | subst eo111 | (injection eo111 with f1_ f2_ f3_; have f4_ := f1_.symm; have f5_ := f3_.symm; clear f1_ f2_ f3_; subst f4_; subst f5_))
            refine norm_ (a' := ?_) ?_ ?_
            rotate_left
            ·simp only [putAll, Act.put, List.setIfInBounds_toArray, List.set_cons_zero, List.set_cons_succ]
             rfl
            refine one_ (i := 9) (N := none) #[true, true, true, true, true, true, true, true, true, true] rfl rfl (one_of HT_.out (by kernel_rfl)) (by decide) (fun K hK => ?_)
            have hs107 : w106.cell? ⟨gb440, 0, none⟩ = some (.bool false) := bc BK440 0
            have hfs107 := blk_frozen BK440.out 0
            have hns107_0 := NB373_440.out
            have hns107_1 := NB374_440.out
            have hns107_2 := NB393_440.out
            have hns107_3 := NB411_440.out
            have hms107_0 := NB440_373.out
            have hms107_1 := NB440_374.out
            have hms107_2 := NB440_393.out
            have hms107_3 := NB440_411.out
            have hs108 : w106.cell? ⟨gb440, 1, none⟩ = some (.int .i64 0) := bc BK440 1
            have hfs108 := blk_frozen BK440.out 1
            have hns108_0 := NB373_440.out
            have hns108_1 := NB374_440.out
            have hns108_2 := NB393_440.out
            have hns108_3 := NB411_440.out
            have hms108_0 := NB440_373.out
            have hms108_1 := NB440_374.out
            have hms108_2 := NB440_393.out
            have hms108_3 := NB440_411.out
            have hs109 : w106.cell? ⟨gb440, 2, none⟩ = some (.int .i64 0) := bc BK440 2
            have hfs109 := blk_frozen BK440.out 2
            have hns109_0 := NB373_440.out
            have hns109_1 := NB374_440.out
            have hns109_2 := NB393_440.out
            have hns109_3 := NB411_440.out
            have hms109_0 := NB440_373.out
            have hms109_1 := NB440_374.out
            have hms109_2 := NB440_393.out
            have hms109_3 := NB440_411.out
            have hs110 : w106.cell? ⟨gb440, 3, none⟩ = some (.int .i64 0) := bc BK440 3
            have hfs110 := blk_frozen BK440.out 3
            have hns110_0 := NB373_440.out
            have hns110_1 := NB374_440.out
            have hns110_2 := NB393_440.out
            have hns110_3 := NB411_440.out
            have hms110_0 := NB440_373.out
            have hms110_1 := NB440_374.out
            have hms110_2 := NB440_393.out
            have hms110_3 := NB440_411.out
            have hs112 : w106.cell? ⟨gb440, 4, none⟩ = some (.slice none 0 0) := bc BK440 4
            have hfs112 := blk_frozen BK440.out 4
            have hns112_0 := NB373_440.out
            have hns112_1 := NB374_440.out
            have hns112_2 := NB393_440.out
            have hns112_3 := NB411_440.out
            have hms112_0 := NB440_373.out
            have hms112_1 := NB440_374.out
            have hms112_2 := NB440_393.out
            have hms112_3 := NB440_411.out
            have hs113 : w106.cell? ⟨gb440, 5, none⟩ = some (.int .i64 0) := bc BK440 5
            have hfs113 := blk_frozen BK440.out 5
            have hns113_0 := NB373_440.out
            have hns113_1 := NB374_440.out
            have hns113_2 := NB393_440.out
            have hns113_3 := NB411_440.out
            have hms113_0 := NB440_373.out
            have hms113_1 := NB440_374.out
            have hms113_2 := NB440_393.out
            have hms113_3 := NB440_411.out
            refine skip_ (w1 := ?_) (by rfl) rfl ?_ ?_
            rotate_left
            ·go_simp
             rfl
            refine hK.out _ _ ⟨(cf NB373_440 ((cf NB373_440 ((cf NB373_440 ((cf NB373_440 ((cf NB373_440 ((cf NB373_440 (hHeld.1)))))))))))), (cf NB373_440 ((cf NB373_440 ((cf NB373_440 ((cf NB373_440 ((cf NB373_440 ((cf NB373_440 (hHeld.2.1)))))))))))), (cf NB373_440 ((cf NB373_440 ((cf NB373_440 ((cf NB373_440 ((cf NB373_440 ((cf NB373_440 (hHeld.2.2.1)))))))))))), (cf NB374_440 ((cf NB374_440 ((cf NB374_440 ((cf NB374_440 ((cf NB374_440 ((cf NB374_440 (hHeld.2.2.2.1)))))))))))), (cf NB374_440 ((cf NB374_440 ((cf NB374_440 ((cf NB374_440 ((cf NB374_440 ((cf NB374_440 (hHeld.2.2.2.2.1)))))))))))), (cf NB374_440 ((cf NB374_440 ((cf NB374_440 ((cf NB374_440 ((cf NB374_440 ((cf NB374_440 (hHeld.2.2.2.2.2))))))))))))⟩ (fun hHeld => ?_)
            clear hK K
            refine done_ (done_of HT_.out (by kernel_rfl)) ?_
            have hnb114 := NB440_373.out
            have hnc114 := NB373_440.out
            have hnb115 := NB440_374.out
            have hnc115 := NB374_440.out
            have hnb116 := NB440_393.out
            have hnc116 := NB393_440.out
            have hnb117 := NB440_411.out
            have hnc117 := NB411_440.out
            have hcz118_0 : w106.cell? ⟨gb440, 0, none⟩ = some (.bool false) := bc BK440 0
            have hcz118_1 : w106.cell? ⟨gb440, 1, none⟩ = some (.int .i64 0) := bc BK440 1
            have hcz118_2 : w106.cell? ⟨gb440, 2, none⟩ = some (.int .i64 0) := bc BK440 2
            have hcz118_3 : w106.cell? ⟨gb440, 3, none⟩ = some (.int .i64 0) := bc BK440 3
            have hcz118_4 : w106.cell? ⟨gb440, 4, none⟩ = some (.slice none 0 0) := bc BK440 4
            have hcz118_5 : w106.cell? ⟨gb440, 5, none⟩ = some (.int .i64 0) := bc BK440 5
            have hfz118_0 := blk_frozen BK440.out 0
            have hfz118_1 := blk_frozen BK440.out 1
            have hfz118_2 := blk_frozen BK440.out 2
            have hfz118_3 := blk_frozen BK440.out 3
            have hfz118_4 := blk_frozen BK440.out 4
            have hfz118_5 := blk_frozen BK440.out 5
            have hnb119 := NB393_373.out
            have hnc119 := NB373_393.out
            have hnb120 := NB393_374.out
            have hnc120 := NB374_393.out
            have hcz121_0 : w106.cell? ⟨gb393, 0, none⟩ = some (.bool t385) := bc BK393 0
            have hcz121_1 : w106.cell? ⟨gb393, 1, none⟩ = some (.int .i64 t386) := bc BK393 1
            have hcz121_2 : w106.cell? ⟨gb393, 2, none⟩ = some (.int .i64 t387) := bc BK393 2
            have hcz121_3 : w106.cell? ⟨gb393, 3, none⟩ = some (.int .i64 t388) := bc BK393 3
            have hcz121_4 : w106.cell? ⟨gb393, 4, none⟩ = some (.slice Ao38 t389.length co38) := bc BK393 4
            have hcz121_5 : w106.cell? ⟨gb393, 5, none⟩ = some (.int .i64 t392) := bc BK393 5
            have hfz121_0 := blk_frozen BK393.out 0
            have hfz121_1 := blk_frozen BK393.out 1
            have hfz121_2 := blk_frozen BK393.out 2
            have hfz121_3 := blk_frozen BK393.out 3
            have hfz121_4 := blk_frozen BK393.out 4
            have hfz121_5 := blk_frozen BK393.out 5
            try go_wp2_with (first | ((with_reducible refine gate_callee (f := 28) rfl ?_); refine goesLA (some 80) rfl Try.func28 #[.agg #[.bool t432, .int .i64 t433, .int .i64 t434, .int .i64 t435, .slice Ao111 t436.length co111, .int .i64 t439], .agg #[.bool t385, .int .i64 t386, .int .i64 t387, .int .i64 t388, .slice Ao38 t389.length co38, .int .i64 t392]] ?_; (with_reducible refine (laws_eqTrained.calls kj22 t432 t433 t434 t435 _ _ t436 t439 t385 t386 t387 t388 _ _ t389 t392 true _ ?side1 ?side2 ?side3 ?side4 A87.out).mono ?_); (case side1 => refine (Kd.R_reads' (e := 60) (base := w.heap.size) (ok := fun k_ => (some k_ ≠ (v430 : Value).ownBlock ∧ (some k_ ≠ (.slice Ao38 t389.length co38 : Value).ownBlock ∧ some k_ ≠ (.slice Ao53 t407.length co53 : Value).ownBlock))) (n := t436.length) (c := co111) ?_).2.2; exact (by (with_reducible repeat (first | apply Kd.R_alloc | apply Kd.R_drewN | apply Kd.R_drew)); exact (Kd.R_mono (Kd.R_far (p := ⟨gb440, 5, none⟩) (Kd.R_far (p := ⟨gb440, 4, none⟩) (Kd.R_far (p := ⟨gb440, 3, none⟩) (Kd.R_far (p := ⟨gb440, 2, none⟩) (Kd.R_far (p := ⟨gb440, 1, none⟩) (Kd.R_far (p := ⟨gb440, 0, none⟩) (Kd.R_types HO438.out BK440.out (by decide)) (fun _ hk => hk.2) (.bool t432)) (fun _ hk => hk.2) (.int .i64 t433)) (fun _ hk => hk.2) (.int .i64 t434)) (fun _ hk => hk.2) (.int .i64 t435)) (fun _ hk => hk.2) (.slice Ao111 t436.length co111)) (fun _ hk => hk.2) (.int .i64 t439)) (fun _ h_ => h_.1)))); (case side2 => exact (Kd.R_reads' HO438.out).2.1); (case side3 => refine (Kd.R_reads' (e := 60) (base := w.heap.size) (ok := fun k_ => (some k_ ≠ (v430 : Value).ownBlock ∧ (some k_ ≠ (.slice Ao111 t436.length co111 : Value).ownBlock ∧ some k_ ≠ (.slice Ao53 t407.length co53 : Value).ownBlock))) (n := t389.length) (c := co38) ?_).2.2; exact (by (with_reducible repeat (first | apply Kd.R_alloc | apply Kd.R_drewN | apply Kd.R_drew)); exact (Kd.R_mono (Kd.R_far (p := ⟨gb440, 5, none⟩) (Kd.R_far (p := ⟨gb440, 4, none⟩) (Kd.R_far (p := ⟨gb440, 3, none⟩) (Kd.R_far (p := ⟨gb440, 2, none⟩) (Kd.R_far (p := ⟨gb440, 1, none⟩) (Kd.R_far (p := ⟨gb440, 0, none⟩) (Kd.R_types HO_394004.out BK440.out (by decide)) (fun _ hk => hk.2) (.bool t432)) (fun _ hk => hk.2) (.int .i64 t433)) (fun _ hk => hk.2) (.int .i64 t434)) (fun _ hk => hk.2) (.int .i64 t435)) (fun _ hk => hk.2) (.slice Ao111 t436.length co111)) (fun _ hk => hk.2) (.int .i64 t439)) (fun _ h_ => h_.1)))); (case side4 => exact (Kd.R_reads' HO_394004.out).2.1); rintro e w122 ⟨rfl, hb⟩; refine ⟨_, rfl, ?_⟩; have n0_ := Aside0.mk (Kd.R_below (by (with_reducible repeat (first | apply Kd.R_alloc | apply Kd.R_drewN | apply Kd.R_drew)); exact (Kd.R_mono (Kd.R_far (p := ⟨gb440, 5, none⟩) (Kd.R_far (p := ⟨gb440, 4, none⟩) (Kd.R_far (p := ⟨gb440, 3, none⟩) (Kd.R_far (p := ⟨gb440, 2, none⟩) (Kd.R_far (p := ⟨gb440, 1, none⟩) (Kd.R_far (p := ⟨gb440, 0, none⟩) (Kd.R_types HO_394004.out BK440.out (by decide)) (fun _ hk => hk.2) (.bool t432)) (fun _ hk => hk.2) (.int .i64 t433)) (fun _ hk => hk.2) (.int .i64 t434)) (fun _ hk => hk.2) (.int .i64 t435)) (fun _ hk => hk.2) (.slice Ao111 t436.length co111)) (fun _ hk => hk.2) (.int .i64 t439)) (fun _ h_ => h_.1))) hb); have n1_ := Aside0.mk (Kd.R_below (by (with_reducible repeat (first | apply Kd.R_alloc | apply Kd.R_drewN | apply Kd.R_drew)); exact (Kd.R_mono (Kd.R_far (p := ⟨gb440, 5, none⟩) (Kd.R_far (p := ⟨gb440, 4, none⟩) (Kd.R_far (p := ⟨gb440, 3, none⟩) (Kd.R_far (p := ⟨gb440, 2, none⟩) (Kd.R_far (p := ⟨gb440, 1, none⟩) (Kd.R_far (p := ⟨gb440, 0, none⟩) (Kd.R_types HO_412004.out BK440.out (by decide)) (fun _ hk => hk.2) (.bool t432)) (fun _ hk => hk.2) (.int .i64 t433)) (fun _ hk => hk.2) (.int .i64 t434)) (fun _ hk => hk.2) (.int .i64 t435)) (fun _ hk => hk.2) (.slice Ao111 t436.length co111)) (fun _ hk => hk.2) (.int .i64 t439)) (fun _ h_ => h_.1))) hb); have n2_ := Aside0.mk (Kd.R_below (by (with_reducible repeat (first | apply Kd.R_alloc | apply Kd.R_drewN | apply Kd.R_drew)); exact (Kd.R_mono (Kd.R_far (p := ⟨gb440, 5, none⟩) (Kd.R_far (p := ⟨gb440, 4, none⟩) (Kd.R_far (p := ⟨gb440, 3, none⟩) (Kd.R_far (p := ⟨gb440, 2, none⟩) (Kd.R_far (p := ⟨gb440, 1, none⟩) (Kd.R_far (p := ⟨gb440, 0, none⟩) (Kd.R_types HO431.out BK440.out (by decide)) (fun _ hk => hk.2) (.bool t432)) (fun _ hk => hk.2) (.int .i64 t433)) (fun _ hk => hk.2) (.int .i64 t434)) (fun _ hk => hk.2) (.int .i64 t435)) (fun _ hk => hk.2) (.slice Ao111 t436.length co111)) (fun _ hk => hk.2) (.int .i64 t439)) (fun _ h_ => h_.1))) hb); have n3_ := Aside0.mk (Kd.R_below (by (with_reducible repeat (first | apply Kd.R_alloc | apply Kd.R_drewN | apply Kd.R_drew)); exact (Kd.R_mono (Kd.R_far (p := ⟨gb440, 5, none⟩) (Kd.R_far (p := ⟨gb440, 4, none⟩) (Kd.R_far (p := ⟨gb440, 3, none⟩) (Kd.R_far (p := ⟨gb440, 2, none⟩) (Kd.R_far (p := ⟨gb440, 1, none⟩) (Kd.R_far (p := ⟨gb440, 0, none⟩) (Kd.R_types HO438.out BK440.out (by decide)) (fun _ hk => hk.2) (.bool t432)) (fun _ hk => hk.2) (.int .i64 t433)) (fun _ hk => hk.2) (.int .i64 t434)) (fun _ hk => hk.2) (.int .i64 t435)) (fun _ hk => hk.2) (.slice Ao111 t436.length co111)) (fun _ hk => hk.2) (.int .i64 t439)) (fun _ h_ => h_.1))) hb); have n4_ := Aside0.mk (blk_below (g := gb373) (o := .cells #[.int .i64 a0_0, .int .i64 a0_1, .int .i64 a0_2] 23 (0, 0)) (by (with_reducible repeat (first | refine blk_drewN ?_ _ | refine blk_drew ?_ | refine blk_alloc ?_ _)); refine blk_far ?_ NB373_440.out _; (with_reducible repeat (first | refine blk_drewN ?_ _ | refine blk_drew ?_ | refine blk_alloc ?_ _)); refine blk_far ?_ NB373_440.out _; (with_reducible repeat (first | refine blk_drewN ?_ _ | refine blk_drew ?_ | refine blk_alloc ?_ _)); refine blk_far ?_ NB373_440.out _; (with_reducible repeat (first | refine blk_drewN ?_ _ | refine blk_drew ?_ | refine blk_alloc ?_ _)); refine blk_far ?_ NB373_440.out _; (with_reducible repeat (first | refine blk_drewN ?_ _ | refine blk_drew ?_ | refine blk_alloc ?_ _)); refine blk_far ?_ NB373_440.out _; (with_reducible repeat (first | refine blk_drewN ?_ _ | refine blk_drew ?_ | refine blk_alloc ?_ _)); refine blk_far ?_ NB373_440.out _; (with_reducible repeat (first | refine blk_drewN ?_ _ | refine blk_drew ?_ | refine blk_alloc ?_ _)); exact BK373.out) hb); have n5_ := Aside0.mk (blk_below (g := gb374) (o := .cells #[.int .i64 a2_0, .int .i64 a2_1, .int .i64 a2_2] 47 (0, 0)) (by (with_reducible repeat (first | refine blk_drewN ?_ _ | refine blk_drew ?_ | refine blk_alloc ?_ _)); refine blk_far ?_ NB374_440.out _; (with_reducible repeat (first | refine blk_drewN ?_ _ | refine blk_drew ?_ | refine blk_alloc ?_ _)); refine blk_far ?_ NB374_440.out _; (with_reducible repeat (first | refine blk_drewN ?_ _ | refine blk_drew ?_ | refine blk_alloc ?_ _)); refine blk_far ?_ NB374_440.out _; (with_reducible repeat (first | refine blk_drewN ?_ _ | refine blk_drew ?_ | refine blk_alloc ?_ _)); refine blk_far ?_ NB374_440.out _; (with_reducible repeat (first | refine blk_drewN ?_ _ | refine blk_drew ?_ | refine blk_alloc ?_ _)); refine blk_far ?_ NB374_440.out _; (with_reducible repeat (first | refine blk_drewN ?_ _ | refine blk_drew ?_ | refine blk_alloc ?_ _)); refine blk_far ?_ NB374_440.out _; (with_reducible repeat (first | refine blk_drewN ?_ _ | refine blk_drew ?_ | refine blk_alloc ?_ _)); exact BK374.out) hb); have n6_ := Aside0.mk (blk_below (g := gb393) (o := .cells #[.bool t385, .int .i64 t386, .int .i64 t387, .int .i64 t388, .slice Ao38 t389.length co38, .int .i64 t392] 50 (0, 0)) (by (with_reducible repeat (first | refine blk_drewN ?_ _ | refine blk_drew ?_ | refine blk_alloc ?_ _)); refine blk_far ?_ NB393_440.out _; (with_reducible repeat (first | refine blk_drewN ?_ _ | refine blk_drew ?_ | refine blk_alloc ?_ _)); refine blk_far ?_ NB393_440.out _; (with_reducible repeat (first | refine blk_drewN ?_ _ | refine blk_drew ?_ | refine blk_alloc ?_ _)); refine blk_far ?_ NB393_440.out _; (with_reducible repeat (first | refine blk_drewN ?_ _ | refine blk_drew ?_ | refine blk_alloc ?_ _)); refine blk_far ?_ NB393_440.out _; (with_reducible repeat (first | refine blk_drewN ?_ _ | refine blk_drew ?_ | refine blk_alloc ?_ _)); refine blk_far ?_ NB393_440.out _; (with_reducible repeat (first | refine blk_drewN ?_ _ | refine blk_drew ?_ | refine blk_alloc ?_ _)); refine blk_far ?_ NB393_440.out _; (with_reducible repeat (first | refine blk_drewN ?_ _ | refine blk_drew ?_ | refine blk_alloc ?_ _)); exact BK393.out) hb); have n7_ := Aside0.mk (blk_below (g := gb411) (o := .cells #[.bool t403, .int .i64 t404, .int .i64 t405, .int .i64 t406, .slice Ao53 t407.length co53, .int .i64 t410] 50 (0, 0)) (by (with_reducible repeat (first | refine blk_drewN ?_ _ | refine blk_drew ?_ | refine blk_alloc ?_ _)); refine blk_far ?_ NB411_440.out _; (with_reducible repeat (first | refine blk_drewN ?_ _ | refine blk_drew ?_ | refine blk_alloc ?_ _)); refine blk_far ?_ NB411_440.out _; (with_reducible repeat (first | refine blk_drewN ?_ _ | refine blk_drew ?_ | refine blk_alloc ?_ _)); refine blk_far ?_ NB411_440.out _; (with_reducible repeat (first | refine blk_drewN ?_ _ | refine blk_drew ?_ | refine blk_alloc ?_ _)); refine blk_far ?_ NB411_440.out _; (with_reducible repeat (first | refine blk_drewN ?_ _ | refine blk_drew ?_ | refine blk_alloc ?_ _)); refine blk_far ?_ NB411_440.out _; (with_reducible repeat (first | refine blk_drewN ?_ _ | refine blk_drew ?_ | refine blk_alloc ?_ _)); refine blk_far ?_ NB411_440.out _; (with_reducible repeat (first | refine blk_drewN ?_ _ | refine blk_drew ?_ | refine blk_alloc ?_ _)); exact BK411.out) hb); have n8_ := Aside0.mk (blk_below (g := gb440) (o := .cells #[.bool t432, .int .i64 t433, .int .i64 t434, .int .i64 t435, .slice Ao111 t436.length co111, .int .i64 t439] 50 (0, 0)) (by (with_reducible repeat (first | refine blk_drewN ?_ _ | refine blk_drew ?_ | refine blk_alloc ?_ _)); refine blk_put (cs := #[.bool t432, .int .i64 t433, .int .i64 t434, .int .i64 t435, .slice Ao111 t436.length co111, .int .i64 0]) ?_ 5 _ rfl; (with_reducible repeat (first | refine blk_drewN ?_ _ | refine blk_drew ?_ | refine blk_alloc ?_ _)); refine blk_put (cs := #[.bool t432, .int .i64 t433, .int .i64 t434, .int .i64 t435, .slice none 0 0, .int .i64 0]) ?_ 4 _ rfl; (with_reducible repeat (first | refine blk_drewN ?_ _ | refine blk_drew ?_ | refine blk_alloc ?_ _)); refine blk_put (cs := #[.bool t432, .int .i64 t433, .int .i64 t434, .int .i64 0, .slice none 0 0, .int .i64 0]) ?_ 3 _ rfl; (with_reducible repeat (first | refine blk_drewN ?_ _ | refine blk_drew ?_ | refine blk_alloc ?_ _)); refine blk_put (cs := #[.bool t432, .int .i64 t433, .int .i64 0, .int .i64 0, .slice none 0 0, .int .i64 0]) ?_ 2 _ rfl; (with_reducible repeat (first | refine blk_drewN ?_ _ | refine blk_drew ?_ | refine blk_alloc ?_ _)); refine blk_put (cs := #[.bool t432, .int .i64 0, .int .i64 0, .int .i64 0, .slice none 0 0, .int .i64 0]) ?_ 1 _ rfl; (with_reducible repeat (first | refine blk_drewN ?_ _ | refine blk_drew ?_ | refine blk_alloc ?_ _)); refine blk_put (cs := #[.bool false, .int .i64 0, .int .i64 0, .int .i64 0, .slice none 0 0, .int .i64 0]) ?_ 0 _ rfl; (with_reducible repeat (first | refine blk_drewN ?_ _ | refine blk_drew ?_ | refine blk_alloc ?_ _)); exact BK440.out) hb); have n9_ := bst HB hb; clear HO_394004; clear HO_412004; clear HO431; clear HO438; clear BK373; clear BK374; clear BK393; clear BK411; clear BK440; clear HB; have HO_394004 := n0_; have HO_412004 := n1_; have HO431 := n2_; have HO438 := n3_; have BK373 := n4_; have BK374 := n5_; have BK393 := n6_; have BK411 := n7_; have BK440 := n8_; have HB := n9_; clear n0_ n1_ n2_ n3_ n4_ n5_ n6_ n7_ n8_ n9_; (try clear hb); (try clear hb2); (try clear hk); (try clear hi); have hcz123_0 : w122.cell? ⟨gb411, 0, none⟩ = some (.bool t403) := bc BK411 0; have hcz123_1 : w122.cell? ⟨gb411, 1, none⟩ = some (.int .i64 t404) := bc BK411 1; have hcz123_2 : w122.cell? ⟨gb411, 2, none⟩ = some (.int .i64 t405) := bc BK411 2; have hcz123_3 : w122.cell? ⟨gb411, 3, none⟩ = some (.int .i64 t406) := bc BK411 3; have hcz123_4 : w122.cell? ⟨gb411, 4, none⟩ = some (.slice Ao53 t407.length co53) := bc BK411 4; have hcz123_5 : w122.cell? ⟨gb411, 5, none⟩ = some (.int .i64 t410) := bc BK411 5; have hfz123_0 := blk_frozen BK411.out 0; have hfz123_1 := blk_frozen BK411.out 1; have hfz123_2 := blk_frozen BK411.out 2; have hfz123_3 := blk_frozen BK411.out 3; have hfz123_4 := blk_frozen BK411.out 4; have hfz123_5 := blk_frozen BK411.out 5) | ((with_reducible refine gate_callee (f := 30) rfl ?_); refine goesL_ (some 84) rfl rfl Try.func30 (by kernel_rfl) rfl #[.agg #[.bool t403, .int .i64 t404, .int .i64 t405, .int .i64 t406, .slice Ao53 t421.length co53, .int .i64 t410], .int .i64 1] rfl (by (try simp only [List.map_toArray, List.map_cons, List.map_nil]); first | done | (rw [show t421.length = t407.length from (Kd.R_reads' HO_412004.out).1.symm] <;> rfl) | rfl | (simp only [List.length_drop, List.length_take]; rfl)) ?_; (with_reducible refine (laws_heldTrained.calls kj22 t403 t404 t405 t406 _ _ t421 t410 1 t442 _ ?side1 ?side2 A89.out).mono ?_); (case side1 => exact qc (Kd.R_reads' HO_412004.out).2.2); (case side2 => rw [show t421.length = t407.length from (Kd.R_reads' HO_412004.out).1.symm]; exact (Kd.R_reads' HO_412004.out).2.1); rintro e w124 ⟨rfl, hb⟩; refine ⟨_, rfl, ?_⟩; have n0_ := rbl HO_394004 hb; have n1_ := rbl HO_412004 hb; have n2_ := rbl HO431 hb; have n3_ := rbl HO438 hb; have n4_ := bkb BK373 hb; have n5_ := bkb BK374 hb; have n6_ := bkb BK393 hb; have n7_ := bkb BK411 hb; have n8_ := bkb BK440 hb; have n9_ := bst HB hb; clear HO_394004; clear HO_412004; clear HO431; clear HO438; clear BK373; clear BK374; clear BK393; clear BK411; clear BK440; clear HB; have HO_394004 := n0_; have HO_412004 := n1_; have HO431 := n2_; have HO438 := n3_; have BK373 := n4_; have BK374 := n5_; have BK393 := n6_; have BK411 := n7_; have BK440 := n8_; have HB := n9_; clear n0_ n1_ n2_ n3_ n4_ n5_ n6_ n7_ n8_ n9_; (try clear hb); (try clear hb2); (try clear hk); (try clear hi)))
            go_ret
            exact ⟨by first | rfl | (simp [errW_none, errW_some] <;> rfl) | (simp [*, errW_none, errW_some] <;> rfl), by repeat (first | (with_reducible first | exact HB.out | apply below_alloc | apply pw_below_drewN | apply below_drew1 | refine below_set ?_ GE373.out | refine below_set ?_ GE374.out | refine below_set ?_ GE393.out | refine below_set ?_ GE411.out | refine below_set ?_ GE440.out) | exact HB.out)⟩
           ·rw [if_neg c91] at H
            have c91b0 : (t442 == t420) = false := beq_eq_false_iff_ne.mpr c91
            have c91b1 : (t442 != t420) = true := bne_iff_ne.mpr c91
            exact absurd H (by simp)
         ·replace c88 := Bool.eq_false_iff.mpr c88
          subst c88
          have H1 : (some false) = some true := by rw [if_neg (show ¬ (false = true) by decide)] at H; exact H
          clear H; have H := H1; clear H1
          exact absurd H (by simp)
        ·rw [if_neg c82] at H
         have c82b0 : (t422 == t420) = false := beq_eq_false_iff_ne.mpr c82
         have c82b1 : (t422 != t420) = true := bne_iff_ne.mpr c82
         exact absurd H (by simp)
   ·replace c21 := Bool.eq_false_iff.mpr c21
    subst c21
    have H1 : (some false) = some true := by rw [if_neg (show ¬ (false = true) by decide)] at H; exact H
    clear H; have H := H1; clear H1
    exact absurd H (by simp)
  ·replace c18 := Bool.eq_false_iff.mpr c18
   subst c18
   have H1 : (some false) = some true := by rw [if_neg (show ¬ (false = true) by decide)] at H; exact H
   clear H; have H := H1; clear H1
   exact absurd H (by simp)
end Go.Proofs.Ytndffnacbfdnoaa.PAll
