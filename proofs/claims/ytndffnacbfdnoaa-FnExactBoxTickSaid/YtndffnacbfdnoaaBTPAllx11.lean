-- Lines of PAllx11 that this claim uses.
import Derived.Test.YtndffnacbfdnoaaBTPAllx11d
import Derived.Test.YtndffnacbfdnoaaBTSqb
namespace Go.Proofs.Ytndffnacbfdnoaa.PAll
open Go.RowKit Go.Proofs.YtndffnacbfdnoaaW.PrintWords Go.Proofs.YtndffnacbfdnoaaW.PrintLast Go.Proofs.YtndffnacbfdnoaaW.PrintMore
attribute [local go_sem] max2_int min2_int max_two min_two max_three min_three max_four min_four   -- for this text's walks alone
set_option linter.unusedVariables false
set_option linter.unusedSimpArgs false
set_option maxHeartbeats 8000000 in
set_option maxRecDepth 100000 in
theorem laws_FnExactBoxTick.calls (k : Nat) (a0_0 : Int) (a0_1 : Int) (a0_2 : Int) (a1 : Int) (a2_0 : Int) (a2_1 : Int) (a2_2 : Int) (a2_3 : Int) (a2_4 : Int) (A3 : Option Addr) (c3 : Nat) (l3 : List Int) (A4 : Option Addr) (c4 : Nat) (l4 : List (S99)) (w : World) (hr3 : Kd.C (Kd.int .i64) w A3 l3.length l3) (hc3 : l3.length ≤ c3) (hr4 : Kd.C k99 w A4 l4.length l4) (hc4 : l4.length ≤ c4) (h : laws_FnExactBoxTick.f k a0_0 a0_1 a0_2 a1 a2_0 a2_1 a2_2 a2_3 a2_4 l3 l4 = some true) :
  Calls Try.prog 3 #[.agg #[.int .i64 a0_0, .int .i64 a0_1, .int .i64 a0_2], .int .i64 a1, .agg #[.int .i64 a2_0, .int .i64 a2_1, .int .i64 a2_2, .int .i64 a2_3, .int .i64 a2_4], .slice A3 l3.length c3, .slice A4 l4.length c4] w fun e w' => e = .returned (.bool true) ∧ Below w.heap.size w w' := by
 have hu23 := Try.underlying23
 have hu25 := Try.underlying25
 have hu32 := Try.underlying32
 have HR3 := Aside0.mk hr3
 have HC3 := Aside0.mk hc3
 clear hr3 hc3
 have HR4 := Aside0.mk hr4
 have HC4 := Aside0.mk hc4
 clear hr4 hc4
 have HB := Aside0.mk (Below.refl w.heap.size w)
 have H : (if (l3.length : Int) > 1048576 then (some true) else ((laws_szPacketS.f l4 1048576).bind fun t224 => (if t224 < 0 then (some true) else ((laws_toRules.f a0_0 a0_1 a0_2).bind fun bt225 => ((laws_toBox.f a2_0 a2_1 a2_2 a2_3 a2_4).bind fun bt228 => ((laws_toInt64S.f k l3).bind fun t233 => ((laws_toPacketS.f k l4).bind fun t236 => ((spec_BoxTick.f k bt225.1 bt225.2.1 bt225.2.2 a1 bt228.1 bt228.2.1 bt228.2.2.1 bt228.2.2.2.1 bt228.2.2.2.2 t233 t236).bind fun bt239 => ((laws_toInt64S.f k l3).bind fun t249 => ((laws_toPacketS.f k l4).bind fun t252 => ((laws_toRules.f a0_0 a0_1 a0_2).bind fun bt255 => ((laws_toBox.f a2_0 a2_1 a2_2 a2_3 a2_4).bind fun bt258 => ((impl_BoxTick.f k bt255.1 bt255.2.1 bt255.2.2 a1 bt258.1 bt258.2.1 bt258.2.2.1 bt258.2.2.2.1 bt258.2.2.2.2 t249 t252).bind fun bt263 => ((laws_eqBoxed.f k bt263.1 bt263.2.1 bt263.2.2.1 bt263.2.2.2.1 bt263.2.2.2.2.1 bt263.2.2.2.2.2.1 bt263.2.2.2.2.2.2 bt239.1 bt239.2.1 bt239.2.2.1 bt239.2.2.2.1 bt239.2.2.2.2.1 bt239.2.2.2.2.2.1 bt239.2.2.2.2.2.2).bind fun t273 => (if t273 = true then ((laws_toInt64S.f k l3).bind fun t274 => ((laws_eqInt64S.f k t249 t274).bind fun t277 => (if t277 = true then ((laws_toPacketS.f k l4).bind fun t278 => ((laws_eqPacketS.f k t252 t278).bind fun t281 => (if t281 = true then ((laws_markInt64S.f k t249 1).bind fun bt282 => ((laws_markPacketS.f k t252 bt282.1).bind fun bt284 => (if bt284.1 < 0 then (laws_FnExactBoxTick.j0 k a1 l3 l4 true a0_0 a0_1 a0_2 a2_0 a2_1 a2_2 a2_3 a2_4 bt239.1 bt239.2.1 bt239.2.2.1 bt239.2.2.2.1 bt239.2.2.2.2.1 bt239.2.2.2.2.2.1 bt239.2.2.2.2.2.2 bt263.1 bt263.2.1 bt263.2.2.1 bt263.2.2.2.1 bt263.2.2.2.2.1 bt263.2.2.2.2.2.1 bt263.2.2.2.2.2.2) else ((laws_eqBoxed.f k bt263.1 bt263.2.1 bt263.2.2.1 bt263.2.2.2.1 bt263.2.2.2.2.1 bt263.2.2.2.2.2.1 bt263.2.2.2.2.2.2 bt239.1 bt239.2.1 bt239.2.2.1 bt239.2.2.2.1 bt239.2.2.2.2.1 bt239.2.2.2.2.2.1 bt239.2.2.2.2.2.2).bind fun t286 => (laws_FnExactBoxTick.j0 k a1 l3 l4 (!t286) a0_0 a0_1 a0_2 a2_0 a2_1 a2_2 a2_3 a2_4 bt239.1 bt239.2.1 bt239.2.2.1 bt239.2.2.2.1 bt239.2.2.2.2.1 bt239.2.2.2.2.2.1 bt239.2.2.2.2.2.2 bt263.1 bt263.2.1 bt263.2.2.1 bt263.2.2.2.1 bt263.2.2.2.2.1 bt263.2.2.2.2.2.1 bt263.2.2.2.2.2.2))))) else (some false)))) else (some false)))) else (some false)))))))))))))))) = some true := h
 clear h
 by_cases c6 : (l3.length : Int) > 1048576
 ·rw [if_pos c6] at H
  have c6b0 : decide (1048576 < (l3.length : Int)) = true := decide_eq_true c6
  have c6b1 : decide (1048576 < l3.length) = true := decide_eq_true (by omega)
  clear c6
  go_enter Try.func3, Try.ntmps3
  go_wp2_with (first | ((with_reducible refine gate_dst (N := 5) rfl ?_); refine box_event ?hg (N := 5) ?hd (cs := #[.int .i64 a0_0, .int .i64 a0_1, .int .i64 a0_2]) (t := 23) ?hr ?_; (case hd => rfl); (case hg => rfl); (case hr => first | (go_simp; done) | (go_simp; rfl)); intro gb222 hg w7 hbox hb; have n0_ := bst HB hb; have n1_ := Aside0.mk (hbox); have n2_ := nge HB hg; have n3_ := nge HB hg; clear HB; have HB := n0_; have BK222 := n1_; have GW222 := n2_; have GE222 := n3_; clear n0_ n1_ n2_ n3_; clear hb hbox hg) | ((with_reducible refine gate_dst (N := 7) rfl ?_); refine box_event ?hg (N := 7) ?hd (cs := #[.int .i64 a2_0, .int .i64 a2_1, .int .i64 a2_2, .int .i64 a2_3, .int .i64 a2_4]) (t := 25) ?hr ?_; (case hd => rfl); (case hg => rfl); (case hr => first | (go_simp; done) | (go_simp; rfl)); intro gb223 hg w8 hbox hb; have n0_ := bkb BK222 hb; have n1_ := bst HB hb; have n2_ := Aside0.mk (hbox); have n3_ := nge HB hg; have n4_ := nge HB hg; have n5_ := nlt BK222 hg; have n6_ := ngt BK222 hg; clear BK222; clear HB; have BK222 := n0_; have HB := n1_; have BK223 := n2_; have GW223 := n3_; have GE223 := n4_; have NB222_223 := n5_; have NB223_222 := n6_; clear n0_ n1_ n2_ n3_ n4_ n5_ n6_; clear hb hbox hg))
  go_ret
  exact ⟨by first | rfl | (simp [errW_none, errW_some] <;> rfl) | (simp [*, errW_none, errW_some] <;> rfl), by repeat (first | (with_reducible first | exact HB.out | apply below_alloc | apply pw_below_drewN | apply below_drew1 | refine below_set ?_ GE222.out | refine below_set ?_ GE223.out) | exact HB.out)⟩
 rw [if_neg c6] at H
 have c6b0 : decide (1048576 < (l3.length : Int)) = false := decide_eq_false c6
 have c6b1 : decide (1048576 < l3.length) = false := decide_eq_false (by omega)
 clear c6
 replace H := Option.bind_eq_some_iff.mp H
 obtain ⟨t224, A90, H⟩ := H
 replace H : (if t224 < 0 then (some true) else ((laws_toRules.f a0_0 a0_1 a0_2).bind fun bt225 => ((laws_toBox.f a2_0 a2_1 a2_2 a2_3 a2_4).bind fun bt228 => ((laws_toInt64S.f k l3).bind fun t233 => ((laws_toPacketS.f k l4).bind fun t236 => ((spec_BoxTick.f k bt225.1 bt225.2.1 bt225.2.2 a1 bt228.1 bt228.2.1 bt228.2.2.1 bt228.2.2.2.1 bt228.2.2.2.2 t233 t236).bind fun bt239 => ((laws_toInt64S.f k l3).bind fun t249 => ((laws_toPacketS.f k l4).bind fun t252 => ((laws_toRules.f a0_0 a0_1 a0_2).bind fun bt255 => ((laws_toBox.f a2_0 a2_1 a2_2 a2_3 a2_4).bind fun bt258 => ((impl_BoxTick.f k bt255.1 bt255.2.1 bt255.2.2 a1 bt258.1 bt258.2.1 bt258.2.2.1 bt258.2.2.2.1 bt258.2.2.2.2 t249 t252).bind fun bt263 => ((laws_eqBoxed.f k bt263.1 bt263.2.1 bt263.2.2.1 bt263.2.2.2.1 bt263.2.2.2.2.1 bt263.2.2.2.2.2.1 bt263.2.2.2.2.2.2 bt239.1 bt239.2.1 bt239.2.2.1 bt239.2.2.2.1 bt239.2.2.2.2.1 bt239.2.2.2.2.2.1 bt239.2.2.2.2.2.2).bind fun t273 => (if t273 = true then ((laws_toInt64S.f k l3).bind fun t274 => ((laws_eqInt64S.f k t249 t274).bind fun t277 => (if t277 = true then ((laws_toPacketS.f k l4).bind fun t278 => ((laws_eqPacketS.f k t252 t278).bind fun t281 => (if t281 = true then ((laws_markInt64S.f k t249 1).bind fun bt282 => ((laws_markPacketS.f k t252 bt282.1).bind fun bt284 => (if bt284.1 < 0 then (laws_FnExactBoxTick.j0 k a1 l3 l4 true a0_0 a0_1 a0_2 a2_0 a2_1 a2_2 a2_3 a2_4 bt239.1 bt239.2.1 bt239.2.2.1 bt239.2.2.2.1 bt239.2.2.2.2.1 bt239.2.2.2.2.2.1 bt239.2.2.2.2.2.2 bt263.1 bt263.2.1 bt263.2.2.1 bt263.2.2.2.1 bt263.2.2.2.2.1 bt263.2.2.2.2.2.1 bt263.2.2.2.2.2.2) else ((laws_eqBoxed.f k bt263.1 bt263.2.1 bt263.2.2.1 bt263.2.2.2.1 bt263.2.2.2.2.1 bt263.2.2.2.2.2.1 bt263.2.2.2.2.2.2 bt239.1 bt239.2.1 bt239.2.2.1 bt239.2.2.2.1 bt239.2.2.2.2.1 bt239.2.2.2.2.2.1 bt239.2.2.2.2.2.2).bind fun t286 => (laws_FnExactBoxTick.j0 k a1 l3 l4 (!t286) a0_0 a0_1 a0_2 a2_0 a2_1 a2_2 a2_3 a2_4 bt239.1 bt239.2.1 bt239.2.2.1 bt239.2.2.2.1 bt239.2.2.2.2.1 bt239.2.2.2.2.2.1 bt239.2.2.2.2.2.2 bt263.1 bt263.2.1 bt263.2.2.1 bt263.2.2.2.1 bt263.2.2.2.2.1 bt263.2.2.2.2.2.1 bt263.2.2.2.2.2.2))))) else (some false)))) else (some false)))) else (some false)))))))))))))) = some true := H
 have A9 := Aside0.mk A90
 clear A90
 by_cases c10 : t224 < 0
 ·rw [if_pos c10] at H
  have c10b0 : decide (t224 < 0) = true := decide_eq_true c10
  clear c10
  go_enter Try.func3, Try.ntmps3
  go_wp2_with (first | ((with_reducible refine gate_dst (N := 5) rfl ?_); refine box_event ?hg (N := 5) ?hd (cs := #[.int .i64 a0_0, .int .i64 a0_1, .int .i64 a0_2]) (t := 23) ?hr ?_; (case hd => rfl); (case hg => rfl); (case hr => first | (go_simp; done) | (go_simp; rfl)); intro gb222 hg w11 hbox hb; have n0_ := bst HB hb; have n1_ := Aside0.mk (hbox); have n2_ := nge HB hg; have n3_ := nge HB hg; clear HB; have HB := n0_; have BK222 := n1_; have GW222 := n2_; have GE222 := n3_; clear n0_ n1_ n2_ n3_; clear hb hbox hg) | ((with_reducible refine gate_dst (N := 7) rfl ?_); refine box_event ?hg (N := 7) ?hd (cs := #[.int .i64 a2_0, .int .i64 a2_1, .int .i64 a2_2, .int .i64 a2_3, .int .i64 a2_4]) (t := 25) ?hr ?_; (case hd => rfl); (case hg => rfl); (case hr => first | (go_simp; done) | (go_simp; rfl)); intro gb223 hg w12 hbox hb; have n0_ := bkb BK222 hb; have n1_ := bst HB hb; have n2_ := Aside0.mk (hbox); have n3_ := nge HB hg; have n4_ := nge HB hg; have n5_ := nlt BK222 hg; have n6_ := ngt BK222 hg; clear BK222; clear HB; have BK222 := n0_; have HB := n1_; have BK223 := n2_; have GW223 := n3_; have GE223 := n4_; have NB222_223 := n5_; have NB223_222 := n6_; clear n0_ n1_ n2_ n3_ n4_ n5_ n6_; clear hb hbox hg) | ((with_reducible refine gate_callee (f := 11) rfl ?_); refine goesLA (some 25) rfl Try.func11 #[.slice A4 l4.length c4, .int .i64 1048576] ?_; (with_reducible refine (laws_szPacketS.calls _ _ l4 1048576 t224 _ ?side1 ?side2 A9.out).mono ?_); (case side1 => exact qc (Kd.C_below HR4.out HB.out)); (case side2 => exact HC4.out); rintro e w' ⟨rfl, ⟨nd, rfl⟩⟩; refine ⟨_, rfl, ?_⟩))
  go_ret
  exact ⟨by first | rfl | (simp [errW_none, errW_some] <;> rfl) | (simp [*, errW_none, errW_some] <;> rfl), by repeat (first | (with_reducible first | exact HB.out | apply below_alloc | apply pw_below_drewN | apply below_drew1 | refine below_set ?_ GE222.out | refine below_set ?_ GE223.out) | exact HB.out)⟩
 rw [if_neg c10] at H
 have c10b0 : decide (t224 < 0) = false := decide_eq_false c10
 clear c10
 replace H := Option.bind_eq_some_iff.mp H
 obtain ⟨⟨t225, t226, t227⟩, A130, H⟩ := H
 replace H : ((laws_toBox.f a2_0 a2_1 a2_2 a2_3 a2_4).bind fun bt228 => ((laws_toInt64S.f k l3).bind fun t233 => ((laws_toPacketS.f k l4).bind fun t236 => ((spec_BoxTick.f k t225 t226 t227 a1 bt228.1 bt228.2.1 bt228.2.2.1 bt228.2.2.2.1 bt228.2.2.2.2 t233 t236).bind fun bt239 => ((laws_toInt64S.f k l3).bind fun t249 => ((laws_toPacketS.f k l4).bind fun t252 => ((laws_toRules.f a0_0 a0_1 a0_2).bind fun bt255 => ((laws_toBox.f a2_0 a2_1 a2_2 a2_3 a2_4).bind fun bt258 => ((impl_BoxTick.f k bt255.1 bt255.2.1 bt255.2.2 a1 bt258.1 bt258.2.1 bt258.2.2.1 bt258.2.2.2.1 bt258.2.2.2.2 t249 t252).bind fun bt263 => ((laws_eqBoxed.f k bt263.1 bt263.2.1 bt263.2.2.1 bt263.2.2.2.1 bt263.2.2.2.2.1 bt263.2.2.2.2.2.1 bt263.2.2.2.2.2.2 bt239.1 bt239.2.1 bt239.2.2.1 bt239.2.2.2.1 bt239.2.2.2.2.1 bt239.2.2.2.2.2.1 bt239.2.2.2.2.2.2).bind fun t273 => (if t273 = true then ((laws_toInt64S.f k l3).bind fun t274 => ((laws_eqInt64S.f k t249 t274).bind fun t277 => (if t277 = true then ((laws_toPacketS.f k l4).bind fun t278 => ((laws_eqPacketS.f k t252 t278).bind fun t281 => (if t281 = true then ((laws_markInt64S.f k t249 1).bind fun bt282 => ((laws_markPacketS.f k t252 bt282.1).bind fun bt284 => (if bt284.1 < 0 then (laws_FnExactBoxTick.j0 k a1 l3 l4 true a0_0 a0_1 a0_2 a2_0 a2_1 a2_2 a2_3 a2_4 bt239.1 bt239.2.1 bt239.2.2.1 bt239.2.2.2.1 bt239.2.2.2.2.1 bt239.2.2.2.2.2.1 bt239.2.2.2.2.2.2 bt263.1 bt263.2.1 bt263.2.2.1 bt263.2.2.2.1 bt263.2.2.2.2.1 bt263.2.2.2.2.2.1 bt263.2.2.2.2.2.2) else ((laws_eqBoxed.f k bt263.1 bt263.2.1 bt263.2.2.1 bt263.2.2.2.1 bt263.2.2.2.2.1 bt263.2.2.2.2.2.1 bt263.2.2.2.2.2.2 bt239.1 bt239.2.1 bt239.2.2.1 bt239.2.2.2.1 bt239.2.2.2.2.1 bt239.2.2.2.2.2.1 bt239.2.2.2.2.2.2).bind fun t286 => (laws_FnExactBoxTick.j0 k a1 l3 l4 (!t286) a0_0 a0_1 a0_2 a2_0 a2_1 a2_2 a2_3 a2_4 bt239.1 bt239.2.1 bt239.2.2.1 bt239.2.2.2.1 bt239.2.2.2.2.1 bt239.2.2.2.2.2.1 bt239.2.2.2.2.2.2 bt263.1 bt263.2.1 bt263.2.2.1 bt263.2.2.2.1 bt263.2.2.2.2.1 bt263.2.2.2.2.2.1 bt263.2.2.2.2.2.2))))) else (some false)))) else (some false)))) else (some false)))))))))))) = some true := H
 have A13 := Aside0.mk A130
 clear A130
 replace H := Option.bind_eq_some_iff.mp H
 obtain ⟨⟨t228, t229, t230, t231, t232⟩, A140, H⟩ := H
 replace H : ((laws_toInt64S.f k l3).bind fun t233 => ((laws_toPacketS.f k l4).bind fun t236 => ((spec_BoxTick.f k t225 t226 t227 a1 t228 t229 t230 t231 t232 t233 t236).bind fun bt239 => ((laws_toInt64S.f k l3).bind fun t249 => ((laws_toPacketS.f k l4).bind fun t252 => ((laws_toRules.f a0_0 a0_1 a0_2).bind fun bt255 => ((laws_toBox.f a2_0 a2_1 a2_2 a2_3 a2_4).bind fun bt258 => ((impl_BoxTick.f k bt255.1 bt255.2.1 bt255.2.2 a1 bt258.1 bt258.2.1 bt258.2.2.1 bt258.2.2.2.1 bt258.2.2.2.2 t249 t252).bind fun bt263 => ((laws_eqBoxed.f k bt263.1 bt263.2.1 bt263.2.2.1 bt263.2.2.2.1 bt263.2.2.2.2.1 bt263.2.2.2.2.2.1 bt263.2.2.2.2.2.2 bt239.1 bt239.2.1 bt239.2.2.1 bt239.2.2.2.1 bt239.2.2.2.2.1 bt239.2.2.2.2.2.1 bt239.2.2.2.2.2.2).bind fun t273 => (if t273 = true then ((laws_toInt64S.f k l3).bind fun t274 => ((laws_eqInt64S.f k t249 t274).bind fun t277 => (if t277 = true then ((laws_toPacketS.f k l4).bind fun t278 => ((laws_eqPacketS.f k t252 t278).bind fun t281 => (if t281 = true then ((laws_markInt64S.f k t249 1).bind fun bt282 => ((laws_markPacketS.f k t252 bt282.1).bind fun bt284 => (if bt284.1 < 0 then (laws_FnExactBoxTick.j0 k a1 l3 l4 true a0_0 a0_1 a0_2 a2_0 a2_1 a2_2 a2_3 a2_4 bt239.1 bt239.2.1 bt239.2.2.1 bt239.2.2.2.1 bt239.2.2.2.2.1 bt239.2.2.2.2.2.1 bt239.2.2.2.2.2.2 bt263.1 bt263.2.1 bt263.2.2.1 bt263.2.2.2.1 bt263.2.2.2.2.1 bt263.2.2.2.2.2.1 bt263.2.2.2.2.2.2) else ((laws_eqBoxed.f k bt263.1 bt263.2.1 bt263.2.2.1 bt263.2.2.2.1 bt263.2.2.2.2.1 bt263.2.2.2.2.2.1 bt263.2.2.2.2.2.2 bt239.1 bt239.2.1 bt239.2.2.1 bt239.2.2.2.1 bt239.2.2.2.2.1 bt239.2.2.2.2.2.1 bt239.2.2.2.2.2.2).bind fun t286 => (laws_FnExactBoxTick.j0 k a1 l3 l4 (!t286) a0_0 a0_1 a0_2 a2_0 a2_1 a2_2 a2_3 a2_4 bt239.1 bt239.2.1 bt239.2.2.1 bt239.2.2.2.1 bt239.2.2.2.2.1 bt239.2.2.2.2.2.1 bt239.2.2.2.2.2.2 bt263.1 bt263.2.1 bt263.2.2.1 bt263.2.2.2.1 bt263.2.2.2.2.1 bt263.2.2.2.2.2.1 bt263.2.2.2.2.2.2))))) else (some false)))) else (some false)))) else (some false))))))))))) = some true := H
 have A14 := Aside0.mk A140
 clear A140
 replace H := Option.bind_eq_some_iff.mp H
 obtain ⟨t233, A150, H⟩ := H
 replace H : ((laws_toPacketS.f k l4).bind fun t236 => ((spec_BoxTick.f k t225 t226 t227 a1 t228 t229 t230 t231 t232 t233 t236).bind fun bt239 => ((laws_toInt64S.f k l3).bind fun t249 => ((laws_toPacketS.f k l4).bind fun t252 => ((laws_toRules.f a0_0 a0_1 a0_2).bind fun bt255 => ((laws_toBox.f a2_0 a2_1 a2_2 a2_3 a2_4).bind fun bt258 => ((impl_BoxTick.f k bt255.1 bt255.2.1 bt255.2.2 a1 bt258.1 bt258.2.1 bt258.2.2.1 bt258.2.2.2.1 bt258.2.2.2.2 t249 t252).bind fun bt263 => ((laws_eqBoxed.f k bt263.1 bt263.2.1 bt263.2.2.1 bt263.2.2.2.1 bt263.2.2.2.2.1 bt263.2.2.2.2.2.1 bt263.2.2.2.2.2.2 bt239.1 bt239.2.1 bt239.2.2.1 bt239.2.2.2.1 bt239.2.2.2.2.1 bt239.2.2.2.2.2.1 bt239.2.2.2.2.2.2).bind fun t273 => (if t273 = true then ((laws_toInt64S.f k l3).bind fun t274 => ((laws_eqInt64S.f k t249 t274).bind fun t277 => (if t277 = true then ((laws_toPacketS.f k l4).bind fun t278 => ((laws_eqPacketS.f k t252 t278).bind fun t281 => (if t281 = true then ((laws_markInt64S.f k t249 1).bind fun bt282 => ((laws_markPacketS.f k t252 bt282.1).bind fun bt284 => (if bt284.1 < 0 then (laws_FnExactBoxTick.j0 k a1 l3 l4 true a0_0 a0_1 a0_2 a2_0 a2_1 a2_2 a2_3 a2_4 bt239.1 bt239.2.1 bt239.2.2.1 bt239.2.2.2.1 bt239.2.2.2.2.1 bt239.2.2.2.2.2.1 bt239.2.2.2.2.2.2 bt263.1 bt263.2.1 bt263.2.2.1 bt263.2.2.2.1 bt263.2.2.2.2.1 bt263.2.2.2.2.2.1 bt263.2.2.2.2.2.2) else ((laws_eqBoxed.f k bt263.1 bt263.2.1 bt263.2.2.1 bt263.2.2.2.1 bt263.2.2.2.2.1 bt263.2.2.2.2.2.1 bt263.2.2.2.2.2.2 bt239.1 bt239.2.1 bt239.2.2.1 bt239.2.2.2.1 bt239.2.2.2.2.1 bt239.2.2.2.2.2.1 bt239.2.2.2.2.2.2).bind fun t286 => (laws_FnExactBoxTick.j0 k a1 l3 l4 (!t286) a0_0 a0_1 a0_2 a2_0 a2_1 a2_2 a2_3 a2_4 bt239.1 bt239.2.1 bt239.2.2.1 bt239.2.2.2.1 bt239.2.2.2.2.1 bt239.2.2.2.2.2.1 bt239.2.2.2.2.2.2 bt263.1 bt263.2.1 bt263.2.2.1 bt263.2.2.2.1 bt263.2.2.2.2.1 bt263.2.2.2.2.2.1 bt263.2.2.2.2.2.2))))) else (some false)))) else (some false)))) else (some false)))))))))) = some true := H
 have A15 := Aside0.mk A150
 clear A150
 replace H := Option.bind_eq_some_iff.mp H
 obtain ⟨t236, A160, H⟩ := H
 replace H : ((spec_BoxTick.f k t225 t226 t227 a1 t228 t229 t230 t231 t232 t233 t236).bind fun bt239 => ((laws_toInt64S.f k l3).bind fun t249 => ((laws_toPacketS.f k l4).bind fun t252 => ((laws_toRules.f a0_0 a0_1 a0_2).bind fun bt255 => ((laws_toBox.f a2_0 a2_1 a2_2 a2_3 a2_4).bind fun bt258 => ((impl_BoxTick.f k bt255.1 bt255.2.1 bt255.2.2 a1 bt258.1 bt258.2.1 bt258.2.2.1 bt258.2.2.2.1 bt258.2.2.2.2 t249 t252).bind fun bt263 => ((laws_eqBoxed.f k bt263.1 bt263.2.1 bt263.2.2.1 bt263.2.2.2.1 bt263.2.2.2.2.1 bt263.2.2.2.2.2.1 bt263.2.2.2.2.2.2 bt239.1 bt239.2.1 bt239.2.2.1 bt239.2.2.2.1 bt239.2.2.2.2.1 bt239.2.2.2.2.2.1 bt239.2.2.2.2.2.2).bind fun t273 => (if t273 = true then ((laws_toInt64S.f k l3).bind fun t274 => ((laws_eqInt64S.f k t249 t274).bind fun t277 => (if t277 = true then ((laws_toPacketS.f k l4).bind fun t278 => ((laws_eqPacketS.f k t252 t278).bind fun t281 => (if t281 = true then ((laws_markInt64S.f k t249 1).bind fun bt282 => ((laws_markPacketS.f k t252 bt282.1).bind fun bt284 => (if bt284.1 < 0 then (laws_FnExactBoxTick.j0 k a1 l3 l4 true a0_0 a0_1 a0_2 a2_0 a2_1 a2_2 a2_3 a2_4 bt239.1 bt239.2.1 bt239.2.2.1 bt239.2.2.2.1 bt239.2.2.2.2.1 bt239.2.2.2.2.2.1 bt239.2.2.2.2.2.2 bt263.1 bt263.2.1 bt263.2.2.1 bt263.2.2.2.1 bt263.2.2.2.2.1 bt263.2.2.2.2.2.1 bt263.2.2.2.2.2.2) else ((laws_eqBoxed.f k bt263.1 bt263.2.1 bt263.2.2.1 bt263.2.2.2.1 bt263.2.2.2.2.1 bt263.2.2.2.2.2.1 bt263.2.2.2.2.2.2 bt239.1 bt239.2.1 bt239.2.2.1 bt239.2.2.2.1 bt239.2.2.2.2.1 bt239.2.2.2.2.2.1 bt239.2.2.2.2.2.2).bind fun t286 => (laws_FnExactBoxTick.j0 k a1 l3 l4 (!t286) a0_0 a0_1 a0_2 a2_0 a2_1 a2_2 a2_3 a2_4 bt239.1 bt239.2.1 bt239.2.2.1 bt239.2.2.2.1 bt239.2.2.2.2.1 bt239.2.2.2.2.2.1 bt239.2.2.2.2.2.2 bt263.1 bt263.2.1 bt263.2.2.1 bt263.2.2.2.1 bt263.2.2.2.2.1 bt263.2.2.2.2.2.1 bt263.2.2.2.2.2.2))))) else (some false)))) else (some false)))) else (some false))))))))) = some true := H
 have A16 := Aside0.mk A160
 clear A160
 replace H := Option.bind_eq_some_iff.mp H
 obtain ⟨⟨t239, t240, t241, t242, t243, t244, t245⟩, A170, H⟩ := H
 replace H : ((laws_toInt64S.f k l3).bind fun t249 => ((laws_toPacketS.f k l4).bind fun t252 => ((laws_toRules.f a0_0 a0_1 a0_2).bind fun bt255 => ((laws_toBox.f a2_0 a2_1 a2_2 a2_3 a2_4).bind fun bt258 => ((impl_BoxTick.f k bt255.1 bt255.2.1 bt255.2.2 a1 bt258.1 bt258.2.1 bt258.2.2.1 bt258.2.2.2.1 bt258.2.2.2.2 t249 t252).bind fun bt263 => ((laws_eqBoxed.f k bt263.1 bt263.2.1 bt263.2.2.1 bt263.2.2.2.1 bt263.2.2.2.2.1 bt263.2.2.2.2.2.1 bt263.2.2.2.2.2.2 t239 t240 t241 t242 t243 t244 t245).bind fun t273 => (if t273 = true then ((laws_toInt64S.f k l3).bind fun t274 => ((laws_eqInt64S.f k t249 t274).bind fun t277 => (if t277 = true then ((laws_toPacketS.f k l4).bind fun t278 => ((laws_eqPacketS.f k t252 t278).bind fun t281 => (if t281 = true then ((laws_markInt64S.f k t249 1).bind fun bt282 => ((laws_markPacketS.f k t252 bt282.1).bind fun bt284 => (if bt284.1 < 0 then (laws_FnExactBoxTick.j0 k a1 l3 l4 true a0_0 a0_1 a0_2 a2_0 a2_1 a2_2 a2_3 a2_4 t239 t240 t241 t242 t243 t244 t245 bt263.1 bt263.2.1 bt263.2.2.1 bt263.2.2.2.1 bt263.2.2.2.2.1 bt263.2.2.2.2.2.1 bt263.2.2.2.2.2.2) else ((laws_eqBoxed.f k bt263.1 bt263.2.1 bt263.2.2.1 bt263.2.2.2.1 bt263.2.2.2.2.1 bt263.2.2.2.2.2.1 bt263.2.2.2.2.2.2 t239 t240 t241 t242 t243 t244 t245).bind fun t286 => (laws_FnExactBoxTick.j0 k a1 l3 l4 (!t286) a0_0 a0_1 a0_2 a2_0 a2_1 a2_2 a2_3 a2_4 t239 t240 t241 t242 t243 t244 t245 bt263.1 bt263.2.1 bt263.2.2.1 bt263.2.2.2.1 bt263.2.2.2.2.1 bt263.2.2.2.2.2.1 bt263.2.2.2.2.2.2))))) else (some false)))) else (some false)))) else (some false)))))))) = some true := H
 have A17 := Aside0.mk A170
 clear A170
 replace H := Option.bind_eq_some_iff.mp H
 obtain ⟨t249, A180, H⟩ := H
 replace H : ((laws_toPacketS.f k l4).bind fun t252 => ((laws_toRules.f a0_0 a0_1 a0_2).bind fun bt255 => ((laws_toBox.f a2_0 a2_1 a2_2 a2_3 a2_4).bind fun bt258 => ((impl_BoxTick.f k bt255.1 bt255.2.1 bt255.2.2 a1 bt258.1 bt258.2.1 bt258.2.2.1 bt258.2.2.2.1 bt258.2.2.2.2 t249 t252).bind fun bt263 => ((laws_eqBoxed.f k bt263.1 bt263.2.1 bt263.2.2.1 bt263.2.2.2.1 bt263.2.2.2.2.1 bt263.2.2.2.2.2.1 bt263.2.2.2.2.2.2 t239 t240 t241 t242 t243 t244 t245).bind fun t273 => (if t273 = true then ((laws_toInt64S.f k l3).bind fun t274 => ((laws_eqInt64S.f k t249 t274).bind fun t277 => (if t277 = true then ((laws_toPacketS.f k l4).bind fun t278 => ((laws_eqPacketS.f k t252 t278).bind fun t281 => (if t281 = true then ((laws_markInt64S.f k t249 1).bind fun bt282 => ((laws_markPacketS.f k t252 bt282.1).bind fun bt284 => (if bt284.1 < 0 then (laws_FnExactBoxTick.j0 k a1 l3 l4 true a0_0 a0_1 a0_2 a2_0 a2_1 a2_2 a2_3 a2_4 t239 t240 t241 t242 t243 t244 t245 bt263.1 bt263.2.1 bt263.2.2.1 bt263.2.2.2.1 bt263.2.2.2.2.1 bt263.2.2.2.2.2.1 bt263.2.2.2.2.2.2) else ((laws_eqBoxed.f k bt263.1 bt263.2.1 bt263.2.2.1 bt263.2.2.2.1 bt263.2.2.2.2.1 bt263.2.2.2.2.2.1 bt263.2.2.2.2.2.2 t239 t240 t241 t242 t243 t244 t245).bind fun t286 => (laws_FnExactBoxTick.j0 k a1 l3 l4 (!t286) a0_0 a0_1 a0_2 a2_0 a2_1 a2_2 a2_3 a2_4 t239 t240 t241 t242 t243 t244 t245 bt263.1 bt263.2.1 bt263.2.2.1 bt263.2.2.2.1 bt263.2.2.2.2.1 bt263.2.2.2.2.2.1 bt263.2.2.2.2.2.2))))) else (some false)))) else (some false)))) else (some false))))))) = some true := H
 have A18 := Aside0.mk A180
 clear A180
 replace H := Option.bind_eq_some_iff.mp H
 obtain ⟨t252, A190, H⟩ := H
 replace H : ((laws_toRules.f a0_0 a0_1 a0_2).bind fun bt255 => ((laws_toBox.f a2_0 a2_1 a2_2 a2_3 a2_4).bind fun bt258 => ((impl_BoxTick.f k bt255.1 bt255.2.1 bt255.2.2 a1 bt258.1 bt258.2.1 bt258.2.2.1 bt258.2.2.2.1 bt258.2.2.2.2 t249 t252).bind fun bt263 => ((laws_eqBoxed.f k bt263.1 bt263.2.1 bt263.2.2.1 bt263.2.2.2.1 bt263.2.2.2.2.1 bt263.2.2.2.2.2.1 bt263.2.2.2.2.2.2 t239 t240 t241 t242 t243 t244 t245).bind fun t273 => (if t273 = true then ((laws_toInt64S.f k l3).bind fun t274 => ((laws_eqInt64S.f k t249 t274).bind fun t277 => (if t277 = true then ((laws_toPacketS.f k l4).bind fun t278 => ((laws_eqPacketS.f k t252 t278).bind fun t281 => (if t281 = true then ((laws_markInt64S.f k t249 1).bind fun bt282 => ((laws_markPacketS.f k t252 bt282.1).bind fun bt284 => (if bt284.1 < 0 then (laws_FnExactBoxTick.j0 k a1 l3 l4 true a0_0 a0_1 a0_2 a2_0 a2_1 a2_2 a2_3 a2_4 t239 t240 t241 t242 t243 t244 t245 bt263.1 bt263.2.1 bt263.2.2.1 bt263.2.2.2.1 bt263.2.2.2.2.1 bt263.2.2.2.2.2.1 bt263.2.2.2.2.2.2) else ((laws_eqBoxed.f k bt263.1 bt263.2.1 bt263.2.2.1 bt263.2.2.2.1 bt263.2.2.2.2.1 bt263.2.2.2.2.2.1 bt263.2.2.2.2.2.2 t239 t240 t241 t242 t243 t244 t245).bind fun t286 => (laws_FnExactBoxTick.j0 k a1 l3 l4 (!t286) a0_0 a0_1 a0_2 a2_0 a2_1 a2_2 a2_3 a2_4 t239 t240 t241 t242 t243 t244 t245 bt263.1 bt263.2.1 bt263.2.2.1 bt263.2.2.2.1 bt263.2.2.2.2.1 bt263.2.2.2.2.2.1 bt263.2.2.2.2.2.2))))) else (some false)))) else (some false)))) else (some false)))))) = some true := H
 have A19 := Aside0.mk A190
 clear A190
 replace H := Option.bind_eq_some_iff.mp H
 obtain ⟨⟨t255, t256, t257⟩, A200, H⟩ := H
 replace H : ((laws_toBox.f a2_0 a2_1 a2_2 a2_3 a2_4).bind fun bt258 => ((impl_BoxTick.f k t255 t256 t257 a1 bt258.1 bt258.2.1 bt258.2.2.1 bt258.2.2.2.1 bt258.2.2.2.2 t249 t252).bind fun bt263 => ((laws_eqBoxed.f k bt263.1 bt263.2.1 bt263.2.2.1 bt263.2.2.2.1 bt263.2.2.2.2.1 bt263.2.2.2.2.2.1 bt263.2.2.2.2.2.2 t239 t240 t241 t242 t243 t244 t245).bind fun t273 => (if t273 = true then ((laws_toInt64S.f k l3).bind fun t274 => ((laws_eqInt64S.f k t249 t274).bind fun t277 => (if t277 = true then ((laws_toPacketS.f k l4).bind fun t278 => ((laws_eqPacketS.f k t252 t278).bind fun t281 => (if t281 = true then ((laws_markInt64S.f k t249 1).bind fun bt282 => ((laws_markPacketS.f k t252 bt282.1).bind fun bt284 => (if bt284.1 < 0 then (laws_FnExactBoxTick.j0 k a1 l3 l4 true a0_0 a0_1 a0_2 a2_0 a2_1 a2_2 a2_3 a2_4 t239 t240 t241 t242 t243 t244 t245 bt263.1 bt263.2.1 bt263.2.2.1 bt263.2.2.2.1 bt263.2.2.2.2.1 bt263.2.2.2.2.2.1 bt263.2.2.2.2.2.2) else ((laws_eqBoxed.f k bt263.1 bt263.2.1 bt263.2.2.1 bt263.2.2.2.1 bt263.2.2.2.2.1 bt263.2.2.2.2.2.1 bt263.2.2.2.2.2.2 t239 t240 t241 t242 t243 t244 t245).bind fun t286 => (laws_FnExactBoxTick.j0 k a1 l3 l4 (!t286) a0_0 a0_1 a0_2 a2_0 a2_1 a2_2 a2_3 a2_4 t239 t240 t241 t242 t243 t244 t245 bt263.1 bt263.2.1 bt263.2.2.1 bt263.2.2.2.1 bt263.2.2.2.2.1 bt263.2.2.2.2.2.1 bt263.2.2.2.2.2.2))))) else (some false)))) else (some false)))) else (some false))))) = some true := H
 have A20 := Aside0.mk A200
 clear A200
 replace H := Option.bind_eq_some_iff.mp H
 obtain ⟨⟨t258, t259, t260, t261, t262⟩, A210, H⟩ := H
 replace H : ((impl_BoxTick.f k t255 t256 t257 a1 t258 t259 t260 t261 t262 t249 t252).bind fun bt263 => ((laws_eqBoxed.f k bt263.1 bt263.2.1 bt263.2.2.1 bt263.2.2.2.1 bt263.2.2.2.2.1 bt263.2.2.2.2.2.1 bt263.2.2.2.2.2.2 t239 t240 t241 t242 t243 t244 t245).bind fun t273 => (if t273 = true then ((laws_toInt64S.f k l3).bind fun t274 => ((laws_eqInt64S.f k t249 t274).bind fun t277 => (if t277 = true then ((laws_toPacketS.f k l4).bind fun t278 => ((laws_eqPacketS.f k t252 t278).bind fun t281 => (if t281 = true then ((laws_markInt64S.f k t249 1).bind fun bt282 => ((laws_markPacketS.f k t252 bt282.1).bind fun bt284 => (if bt284.1 < 0 then (laws_FnExactBoxTick.j0 k a1 l3 l4 true a0_0 a0_1 a0_2 a2_0 a2_1 a2_2 a2_3 a2_4 t239 t240 t241 t242 t243 t244 t245 bt263.1 bt263.2.1 bt263.2.2.1 bt263.2.2.2.1 bt263.2.2.2.2.1 bt263.2.2.2.2.2.1 bt263.2.2.2.2.2.2) else ((laws_eqBoxed.f k bt263.1 bt263.2.1 bt263.2.2.1 bt263.2.2.2.1 bt263.2.2.2.2.1 bt263.2.2.2.2.2.1 bt263.2.2.2.2.2.2 t239 t240 t241 t242 t243 t244 t245).bind fun t286 => (laws_FnExactBoxTick.j0 k a1 l3 l4 (!t286) a0_0 a0_1 a0_2 a2_0 a2_1 a2_2 a2_3 a2_4 t239 t240 t241 t242 t243 t244 t245 bt263.1 bt263.2.1 bt263.2.2.1 bt263.2.2.2.1 bt263.2.2.2.2.1 bt263.2.2.2.2.2.1 bt263.2.2.2.2.2.2))))) else (some false)))) else (some false)))) else (some false)))) = some true := H
 have A21 := Aside0.mk A210
 clear A210
 replace H := Option.bind_eq_some_iff.mp H
 obtain ⟨⟨t263, t264, t265, t266, t267, t268, t269⟩, A220, H⟩ := H
 replace H : ((laws_eqBoxed.f k t263 t264 t265 t266 t267 t268 t269 t239 t240 t241 t242 t243 t244 t245).bind fun t273 => (if t273 = true then ((laws_toInt64S.f k l3).bind fun t274 => ((laws_eqInt64S.f k t249 t274).bind fun t277 => (if t277 = true then ((laws_toPacketS.f k l4).bind fun t278 => ((laws_eqPacketS.f k t252 t278).bind fun t281 => (if t281 = true then ((laws_markInt64S.f k t249 1).bind fun bt282 => ((laws_markPacketS.f k t252 bt282.1).bind fun bt284 => (if bt284.1 < 0 then (laws_FnExactBoxTick.j0 k a1 l3 l4 true a0_0 a0_1 a0_2 a2_0 a2_1 a2_2 a2_3 a2_4 t239 t240 t241 t242 t243 t244 t245 t263 t264 t265 t266 t267 t268 t269) else ((laws_eqBoxed.f k t263 t264 t265 t266 t267 t268 t269 t239 t240 t241 t242 t243 t244 t245).bind fun t286 => (laws_FnExactBoxTick.j0 k a1 l3 l4 (!t286) a0_0 a0_1 a0_2 a2_0 a2_1 a2_2 a2_3 a2_4 t239 t240 t241 t242 t243 t244 t245 t263 t264 t265 t266 t267 t268 t269))))) else (some false)))) else (some false)))) else (some false))) = some true := H
 have A22 := Aside0.mk A220
 clear A220
 replace H := Option.bind_eq_some_iff.mp H
 obtain ⟨t273, A230, H⟩ := H
 replace H : (if t273 = true then ((laws_toInt64S.f k l3).bind fun t274 => ((laws_eqInt64S.f k t249 t274).bind fun t277 => (if t277 = true then ((laws_toPacketS.f k l4).bind fun t278 => ((laws_eqPacketS.f k t252 t278).bind fun t281 => (if t281 = true then ((laws_markInt64S.f k t249 1).bind fun bt282 => ((laws_markPacketS.f k t252 bt282.1).bind fun bt284 => (if bt284.1 < 0 then (laws_FnExactBoxTick.j0 k a1 l3 l4 true a0_0 a0_1 a0_2 a2_0 a2_1 a2_2 a2_3 a2_4 t239 t240 t241 t242 t243 t244 t245 t263 t264 t265 t266 t267 t268 t269) else ((laws_eqBoxed.f k t263 t264 t265 t266 t267 t268 t269 t239 t240 t241 t242 t243 t244 t245).bind fun t286 => (laws_FnExactBoxTick.j0 k a1 l3 l4 (!t286) a0_0 a0_1 a0_2 a2_0 a2_1 a2_2 a2_3 a2_4 t239 t240 t241 t242 t243 t244 t245 t263 t264 t265 t266 t267 t268 t269))))) else (some false)))) else (some false)))) else (some false)) = some true := H
 have A23 := Aside0.mk A230
 clear A230
 by_cases c24 : t273 = true
 ·subst c24
  have H1 : ((laws_toInt64S.f k l3).bind fun t274 => ((laws_eqInt64S.f k t249 t274).bind fun t277 => (if t277 = true then ((laws_toPacketS.f k l4).bind fun t278 => ((laws_eqPacketS.f k t252 t278).bind fun t281 => (if t281 = true then ((laws_markInt64S.f k t249 1).bind fun bt282 => ((laws_markPacketS.f k t252 bt282.1).bind fun bt284 => (if bt284.1 < 0 then (laws_FnExactBoxTick.j0 k a1 l3 l4 true a0_0 a0_1 a0_2 a2_0 a2_1 a2_2 a2_3 a2_4 t239 t240 t241 t242 t243 t244 t245 t263 t264 t265 t266 t267 t268 t269) else ((laws_eqBoxed.f k t263 t264 t265 t266 t267 t268 t269 t239 t240 t241 t242 t243 t244 t245).bind fun t286 => (laws_FnExactBoxTick.j0 k a1 l3 l4 (!t286) a0_0 a0_1 a0_2 a2_0 a2_1 a2_2 a2_3 a2_4 t239 t240 t241 t242 t243 t244 t245 t263 t264 t265 t266 t267 t268 t269))))) else (some false)))) else (some false)))) = some true := by rw [if_pos rfl] at H; exact H
  clear H; have H := H1; clear H1
  replace H := Option.bind_eq_some_iff.mp H
  obtain ⟨t274, A250, H⟩ := H
  replace H : ((laws_eqInt64S.f k t249 t274).bind fun t277 => (if t277 = true then ((laws_toPacketS.f k l4).bind fun t278 => ((laws_eqPacketS.f k t252 t278).bind fun t281 => (if t281 = true then ((laws_markInt64S.f k t249 1).bind fun bt282 => ((laws_markPacketS.f k t252 bt282.1).bind fun bt284 => (if bt284.1 < 0 then (laws_FnExactBoxTick.j0 k a1 l3 l4 true a0_0 a0_1 a0_2 a2_0 a2_1 a2_2 a2_3 a2_4 t239 t240 t241 t242 t243 t244 t245 t263 t264 t265 t266 t267 t268 t269) else ((laws_eqBoxed.f k t263 t264 t265 t266 t267 t268 t269 t239 t240 t241 t242 t243 t244 t245).bind fun t286 => (laws_FnExactBoxTick.j0 k a1 l3 l4 (!t286) a0_0 a0_1 a0_2 a2_0 a2_1 a2_2 a2_3 a2_4 t239 t240 t241 t242 t243 t244 t245 t263 t264 t265 t266 t267 t268 t269))))) else (some false)))) else (some false))) = some true := H
  have A25 := Aside0.mk A250
  clear A250
  replace H := Option.bind_eq_some_iff.mp H
  obtain ⟨t277, A260, H⟩ := H
  replace H : (if t277 = true then ((laws_toPacketS.f k l4).bind fun t278 => ((laws_eqPacketS.f k t252 t278).bind fun t281 => (if t281 = true then ((laws_markInt64S.f k t249 1).bind fun bt282 => ((laws_markPacketS.f k t252 bt282.1).bind fun bt284 => (if bt284.1 < 0 then (laws_FnExactBoxTick.j0 k a1 l3 l4 true a0_0 a0_1 a0_2 a2_0 a2_1 a2_2 a2_3 a2_4 t239 t240 t241 t242 t243 t244 t245 t263 t264 t265 t266 t267 t268 t269) else ((laws_eqBoxed.f k t263 t264 t265 t266 t267 t268 t269 t239 t240 t241 t242 t243 t244 t245).bind fun t286 => (laws_FnExactBoxTick.j0 k a1 l3 l4 (!t286) a0_0 a0_1 a0_2 a2_0 a2_1 a2_2 a2_3 a2_4 t239 t240 t241 t242 t243 t244 t245 t263 t264 t265 t266 t267 t268 t269))))) else (some false)))) else (some false)) = some true := H
  have A26 := Aside0.mk A260
  clear A260
  by_cases c27 : t277 = true
  ·subst c27
   have H1 : ((laws_toPacketS.f k l4).bind fun t278 => ((laws_eqPacketS.f k t252 t278).bind fun t281 => (if t281 = true then ((laws_markInt64S.f k t249 1).bind fun bt282 => ((laws_markPacketS.f k t252 bt282.1).bind fun bt284 => (if bt284.1 < 0 then (laws_FnExactBoxTick.j0 k a1 l3 l4 true a0_0 a0_1 a0_2 a2_0 a2_1 a2_2 a2_3 a2_4 t239 t240 t241 t242 t243 t244 t245 t263 t264 t265 t266 t267 t268 t269) else ((laws_eqBoxed.f k t263 t264 t265 t266 t267 t268 t269 t239 t240 t241 t242 t243 t244 t245).bind fun t286 => (laws_FnExactBoxTick.j0 k a1 l3 l4 (!t286) a0_0 a0_1 a0_2 a2_0 a2_1 a2_2 a2_3 a2_4 t239 t240 t241 t242 t243 t244 t245 t263 t264 t265 t266 t267 t268 t269))))) else (some false)))) = some true := by rw [if_pos rfl] at H; exact H
   clear H; have H := H1; clear H1
   replace H := Option.bind_eq_some_iff.mp H
   obtain ⟨t278, A280, H⟩ := H
   replace H : ((laws_eqPacketS.f k t252 t278).bind fun t281 => (if t281 = true then ((laws_markInt64S.f k t249 1).bind fun bt282 => ((laws_markPacketS.f k t252 bt282.1).bind fun bt284 => (if bt284.1 < 0 then (laws_FnExactBoxTick.j0 k a1 l3 l4 true a0_0 a0_1 a0_2 a2_0 a2_1 a2_2 a2_3 a2_4 t239 t240 t241 t242 t243 t244 t245 t263 t264 t265 t266 t267 t268 t269) else ((laws_eqBoxed.f k t263 t264 t265 t266 t267 t268 t269 t239 t240 t241 t242 t243 t244 t245).bind fun t286 => (laws_FnExactBoxTick.j0 k a1 l3 l4 (!t286) a0_0 a0_1 a0_2 a2_0 a2_1 a2_2 a2_3 a2_4 t239 t240 t241 t242 t243 t244 t245 t263 t264 t265 t266 t267 t268 t269))))) else (some false))) = some true := H
   have A28 := Aside0.mk A280
   clear A280
   replace H := Option.bind_eq_some_iff.mp H
   obtain ⟨t281, A290, H⟩ := H
   replace H : (if t281 = true then ((laws_markInt64S.f k t249 1).bind fun bt282 => ((laws_markPacketS.f k t252 bt282.1).bind fun bt284 => (if bt284.1 < 0 then (laws_FnExactBoxTick.j0 k a1 l3 l4 true a0_0 a0_1 a0_2 a2_0 a2_1 a2_2 a2_3 a2_4 t239 t240 t241 t242 t243 t244 t245 t263 t264 t265 t266 t267 t268 t269) else ((laws_eqBoxed.f k t263 t264 t265 t266 t267 t268 t269 t239 t240 t241 t242 t243 t244 t245).bind fun t286 => (laws_FnExactBoxTick.j0 k a1 l3 l4 (!t286) a0_0 a0_1 a0_2 a2_0 a2_1 a2_2 a2_3 a2_4 t239 t240 t241 t242 t243 t244 t245 t263 t264 t265 t266 t267 t268 t269))))) else (some false)) = some true := H
   have A29 := Aside0.mk A290
   clear A290
   by_cases c30 : t281 = true
   ·subst c30
    have H1 : ((laws_markInt64S.f k t249 1).bind fun bt282 => ((laws_markPacketS.f k t252 bt282.1).bind fun bt284 => (if bt284.1 < 0 then (laws_FnExactBoxTick.j0 k a1 l3 l4 true a0_0 a0_1 a0_2 a2_0 a2_1 a2_2 a2_3 a2_4 t239 t240 t241 t242 t243 t244 t245 t263 t264 t265 t266 t267 t268 t269) else ((laws_eqBoxed.f k t263 t264 t265 t266 t267 t268 t269 t239 t240 t241 t242 t243 t244 t245).bind fun t286 => (laws_FnExactBoxTick.j0 k a1 l3 l4 (!t286) a0_0 a0_1 a0_2 a2_0 a2_1 a2_2 a2_3 a2_4 t239 t240 t241 t242 t243 t244 t245 t263 t264 t265 t266 t267 t268 t269))))) = some true := by rw [if_pos rfl] at H; exact H
    clear H; have H := H1; clear H1
    replace H := Option.bind_eq_some_iff.mp H
    obtain ⟨⟨t282, t283⟩, A310, H⟩ := H
    replace H : ((laws_markPacketS.f k t252 t282).bind fun bt284 => (if bt284.1 < 0 then (laws_FnExactBoxTick.j0 k a1 l3 l4 true a0_0 a0_1 a0_2 a2_0 a2_1 a2_2 a2_3 a2_4 t239 t240 t241 t242 t243 t244 t245 t263 t264 t265 t266 t267 t268 t269) else ((laws_eqBoxed.f k t263 t264 t265 t266 t267 t268 t269 t239 t240 t241 t242 t243 t244 t245).bind fun t286 => (laws_FnExactBoxTick.j0 k a1 l3 l4 (!t286) a0_0 a0_1 a0_2 a2_0 a2_1 a2_2 a2_3 a2_4 t239 t240 t241 t242 t243 t244 t245 t263 t264 t265 t266 t267 t268 t269)))) = some true := H
    have A31 := Aside0.mk A310
    clear A310
    replace H := Option.bind_eq_some_iff.mp H
    obtain ⟨⟨t284, t285⟩, A320, H⟩ := H
    replace H : (if t284 < 0 then (laws_FnExactBoxTick.j0 k a1 l3 l4 true a0_0 a0_1 a0_2 a2_0 a2_1 a2_2 a2_3 a2_4 t239 t240 t241 t242 t243 t244 t245 t263 t264 t265 t266 t267 t268 t269) else ((laws_eqBoxed.f k t263 t264 t265 t266 t267 t268 t269 t239 t240 t241 t242 t243 t244 t245).bind fun t286 => (laws_FnExactBoxTick.j0 k a1 l3 l4 (!t286) a0_0 a0_1 a0_2 a2_0 a2_1 a2_2 a2_3 a2_4 t239 t240 t241 t242 t243 t244 t245 t263 t264 t265 t266 t267 t268 t269))) = some true := H
    have A32 := Aside0.mk A320
    clear A320
    have HC33 := Aside0.mk H
    clear H
    go_enter Try.func3, Try.ntmps3
    try go_wp2_with (first | ((with_reducible refine gate_dst (N := 5) rfl ?_); refine box_event ?hg (N := 5) ?hd (cs := #[.int .i64 a0_0, .int .i64 a0_1, .int .i64 a0_2]) (t := 23) ?hr ?_; (case hd => rfl); (case hg => rfl); (case hr => first | (go_simp; done) | (go_simp; rfl)); intro gb222 hg w34 hbox hb; have n0_ := bst HB hb; have n1_ := Aside0.mk (hbox); have n2_ := nge HB hg; have n3_ := nge HB hg; clear HB; have HB := n0_; have BK222 := n1_; have GW222 := n2_; have GE222 := n3_; clear n0_ n1_ n2_ n3_; clear hb hbox hg) | ((with_reducible refine gate_dst (N := 7) rfl ?_); refine box_event ?hg (N := 7) ?hd (cs := #[.int .i64 a2_0, .int .i64 a2_1, .int .i64 a2_2, .int .i64 a2_3, .int .i64 a2_4]) (t := 25) ?hr ?_; (case hd => rfl); (case hg => rfl); (case hr => first | (go_simp; done) | (go_simp; rfl)); intro gb223 hg w35 hbox hb; have n0_ := bkb BK222 hb; have n1_ := bst HB hb; have n2_ := Aside0.mk (hbox); have n3_ := nge HB hg; have n4_ := nge HB hg; have n5_ := nlt BK222 hg; have n6_ := ngt BK222 hg; clear BK222; clear HB; have BK222 := n0_; have HB := n1_; have BK223 := n2_; have GW223 := n3_; have GE223 := n4_; have NB222_223 := n5_; have NB223_222 := n6_; clear n0_ n1_ n2_ n3_ n4_ n5_ n6_; clear hb hbox hg) | ((with_reducible refine gate_callee (f := 11) rfl ?_); refine goesLA (some 25) rfl Try.func11 #[.slice A4 l4.length c4, .int .i64 1048576] ?_; (with_reducible refine (laws_szPacketS.calls _ _ l4 1048576 t224 _ ?side1 ?side2 A9.out).mono ?_); (case side1 => exact qc (Kd.C_below HR4.out HB.out)); (case side2 => exact HC4.out); rintro e w' ⟨rfl, ⟨nd, rfl⟩⟩; refine ⟨_, rfl, ?_⟩; (try (rw [drewN_self w35]; generalize hq_ : World.drewN w35 _ = w35; have n0_ : Aside0 (w35.heap[gb222]? = some (.cells #[.int .i64 a0_0, .int .i64 a0_1, .int .i64 a0_2] 23 (0, 0))) := ⟨by rw [← hq_]; exact (qb BK222)⟩; have n1_ : Aside0 (w35.heap[gb223]? = some (.cells #[.int .i64 a2_0, .int .i64 a2_1, .int .i64 a2_2, .int .i64 a2_3, .int .i64 a2_4] 25 (0, 0))) := ⟨by rw [← hq_]; exact (qb BK223)⟩; have n2_ : Aside0 (Below w.heap.size w w35) := ⟨by rw [← hq_]; exact (qs HB)⟩; clear BK222 BK223 HB hq_; have BK222 := n0_; have BK223 := n1_; have HB := n2_; clear n0_ n1_ n2_))))
    have n0_ := Aside0.mk (blk_drew BK222.out)
    have n1_ := Aside0.mk (blk_drew BK223.out)
    have n2_ := Aside0.mk (below_drew1 HB.out)
    clear BK222 BK223 HB; have BK222 := n0_; have BK223 := n1_; have HB := n2_; clear n0_ n1_ n2_
    refine start_ (n := 12) (S := fun w' => w'.cell? ⟨gb222, 0, none⟩ = some (.int .i64 a0_0) ∧ w'.cell? ⟨gb222, 1, none⟩ = some (.int .i64 a0_1) ∧ w'.cell? ⟨gb222, 2, none⟩ = some (.int .i64 a0_2) ∧ w'.cell? ⟨gb223, 0, none⟩ = some (.int .i64 a2_0) ∧ w'.cell? ⟨gb223, 1, none⟩ = some (.int .i64 a2_1) ∧ w'.cell? ⟨gb223, 2, none⟩ = some (.int .i64 a2_2) ∧ w'.cell? ⟨gb223, 3, none⟩ = some (.int .i64 a2_3) ∧ w'.cell? ⟨gb223, 4, none⟩ = some (.int .i64 a2_4)) (ds := []) #[false, false, false, false, false, false, false, false, false, false, false, false] (by kernel_rfl) rfl rfl ⟨bc BK222 0, bc BK222 1, bc BK222 2, bc BK223 0, bc BK223 1, bc BK223 2, bc BK223 3, bc BK223 4⟩ (fun hHeld => ?_); refine with_tabW laws_FnExactBoxTick.tab7 laws_FnExactBoxTick.bits7 (fun HT_ HW_ => ?_)
    generalize w35.drew = w36 at BK222 BK223 HB hHeld ⊢
    refine pure_ (i := 2) (N := some 30) (v := ?_) (a' := ?_) #[false, false, true, false, false, false, false, false, false, false, false, false] rfl rfl (any_of HT_.out (by kernel_rfl)) (fun _ _ _ h => h) (Or.inl ⟨by rfl, ?_⟩) ?_ ?_
    rotate_left
    ·intro w'
     go_simp
     with_reducible rfl
    rotate_left
    ·simp only [Act.put, List.setIfInBounds_toArray, List.set_cons_zero, List.set_cons_succ, i64_w, i32_w]
     rfl
    refine pure_ (i := 5) (N := some 33) (v := ?_) (a' := ?_) #[false, false, true, false, false, true, false, false, false, false, false, false] rfl rfl (any_of HT_.out (by kernel_rfl)) (fun _ _ _ h => h) (Or.inl ⟨by rfl, ?_⟩) ?_ ?_
    rotate_left
    ·intro w'
     go_simp
     with_reducible rfl
    rotate_left
    ·simp only [Act.put, List.setIfInBounds_toArray, List.set_cons_zero, List.set_cons_succ, i64_w, i32_w]
     rfl
    refine pure_ (i := 7) (N := some 35) (v := ?_) (a' := ?_) #[false, false, true, false, false, true, false, true, false, false, false, false] rfl rfl (any_of HT_.out (by kernel_rfl)) (fun _ _ _ h => h) (Or.inl ⟨by rfl, ?_⟩) ?_ ?_
    rotate_left
    ·intro w'
     go_simp
     with_reducible rfl
    rotate_left
    ·simp only [Act.put, List.setIfInBounds_toArray, List.set_cons_zero, List.set_cons_succ, i64_w, i32_w]
     rfl
    refine take_ (i := 0) (N := some 28) (v := ?_) (a' := ?_) #[true, false, true, false, false, true, false, true, false, false, false, false] rfl rfl (take_ofW HT_.out HW_.out (by kernel_rfl)) (fun _ _ _ h => h) (Or.inl ⟨by rfl, ?_⟩) hHeld ?_ ?_
    rotate_left
    ·rintro w' ⟨s0, s1, s2, s3, s4, s5, s6, s7⟩
     go_simp
     with_reducible rfl
    rotate_left
    ·simp only [Act.put, List.setIfInBounds_toArray, List.set_cons_zero, List.set_cons_succ, i64_w, i32_w]
     rfl
    refine take_ (i := 3) (N := some 31) (v := ?_) (a' := ?_) #[true, false, true, true, false, true, false, true, false, false, false, false] rfl rfl (take_ofW HT_.out HW_.out (by kernel_rfl)) (fun _ _ _ h => h) (Or.inl ⟨by rfl, ?_⟩) hHeld ?_ ?_
    rotate_left
    ·rintro w' ⟨s0, s1, s2, s3, s4, s5, s6, s7⟩
     go_simp
     with_reducible rfl
    rotate_left
    ·simp only [Act.put, List.setIfInBounds_toArray, List.set_cons_zero, List.set_cons_succ, i64_w, i32_w]
     rfl
    refine join_ (σ := Value × Value × Value × Nat) 1 #[true, true, true, true, true, true, true, true, true, true, true, false] (fun s_ => [(29, .agg #[.int .i64 t225, .int .i64 t226, .int .i64 t227]), (32, .agg #[.int .i64 t228, .int .i64 t229, .int .i64 t230, .int .i64 t231, .int .i64 t232]), (34, s_.1), (36, s_.2.1), (37, .agg #[.bool t239, .int .i64 t240, .int .i64 t241, .int .i64 t242, .int .i64 t243, .int .i64 t244, s_.2.2.1]), (12, .pointer (some ⟨s_.2.2.2, 0, none⟩))]) (fun s_ w' => (w'.cell? ⟨gb222, 0, none⟩ = some (.int .i64 a0_0) ∧ w'.cell? ⟨gb222, 1, none⟩ = some (.int .i64 a0_1) ∧ w'.cell? ⟨gb222, 2, none⟩ = some (.int .i64 a0_2) ∧ w'.cell? ⟨gb223, 0, none⟩ = some (.int .i64 a2_0) ∧ w'.cell? ⟨gb223, 1, none⟩ = some (.int .i64 a2_1) ∧ w'.cell? ⟨gb223, 2, none⟩ = some (.int .i64 a2_2) ∧ w'.cell? ⟨gb223, 3, none⟩ = some (.int .i64 a2_3) ∧ w'.cell? ⟨gb223, 4, none⟩ = some (.int .i64 a2_4)) ∧ (Kd.R (Kd.int .i64) 2 w' w.heap.size (fun _ => True) s_.1 t233) ∧ (Kd.R k60 60 w' w.heap.size (fun k_ => some k_ ≠ (s_.2.2.1 : Value).ownBlock) s_.2.1 t236) ∧ (Kd.R k60 60 w' w.heap.size (fun k_ => some k_ ≠ (s_.2.1 : Value).ownBlock) s_.2.2.1 t245) ∧ (w'.heap[gb222]? = some (.cells #[.int .i64 a0_0, .int .i64 a0_1, .int .i64 a0_2] 23 (0, 0))) ∧ (w'.heap[gb223]? = some (.cells #[.int .i64 a2_0, .int .i64 a2_1, .int .i64 a2_2, .int .i64 a2_3, .int .i64 a2_4] 25 (0, 0))) ∧ (w'.heap[s_.2.2.2]? = some (.cells #[.bool false, .int .i64 0, .int .i64 0, .int .i64 0, .int .i64 0, .int .i64 0, .slice none 0 0] 32 (0, 0))) ∧ (w.heap.size ≤ s_.2.2.2) ∧ (w.heap.size ≤ s_.2.2.2) ∧ (gb222 ≠ s_.2.2.2) ∧ (s_.2.2.2 ≠ gb222) ∧ (gb223 ≠ s_.2.2.2) ∧ (s_.2.2.2 ≠ gb223) ∧ (Below w.heap.size w w')) ?_ ?_
    rotate_left
    ·intro hJ1_4_6_8_9_10
     refine join_ (σ := Value × Value × Value) 2 #[true, true, true, true, true, true, true, true, true, true, false, false] (fun s_ => [(29, .agg #[.int .i64 t225, .int .i64 t226, .int .i64 t227]), (32, .agg #[.int .i64 t228, .int .i64 t229, .int .i64 t230, .int .i64 t231, .int .i64 t232]), (34, s_.1), (36, s_.2.1), (37, .agg #[.bool t239, .int .i64 t240, .int .i64 t241, .int .i64 t242, .int .i64 t243, .int .i64 t244, s_.2.2])]) (fun s_ w' => (w'.cell? ⟨gb222, 0, none⟩ = some (.int .i64 a0_0) ∧ w'.cell? ⟨gb222, 1, none⟩ = some (.int .i64 a0_1) ∧ w'.cell? ⟨gb222, 2, none⟩ = some (.int .i64 a0_2) ∧ w'.cell? ⟨gb223, 0, none⟩ = some (.int .i64 a2_0) ∧ w'.cell? ⟨gb223, 1, none⟩ = some (.int .i64 a2_1) ∧ w'.cell? ⟨gb223, 2, none⟩ = some (.int .i64 a2_2) ∧ w'.cell? ⟨gb223, 3, none⟩ = some (.int .i64 a2_3) ∧ w'.cell? ⟨gb223, 4, none⟩ = some (.int .i64 a2_4)) ∧ (Kd.R (Kd.int .i64) 2 w' w.heap.size (fun _ => True) s_.1 t233) ∧ (Kd.R k60 60 w' w.heap.size (fun k_ => some k_ ≠ (s_.2.2 : Value).ownBlock) s_.2.1 t236) ∧ (Kd.R k60 60 w' w.heap.size (fun k_ => some k_ ≠ (s_.2.1 : Value).ownBlock) s_.2.2 t245) ∧ (w'.heap[gb222]? = some (.cells #[.int .i64 a0_0, .int .i64 a0_1, .int .i64 a0_2] 23 (0, 0))) ∧ (w'.heap[gb223]? = some (.cells #[.int .i64 a2_0, .int .i64 a2_1, .int .i64 a2_2, .int .i64 a2_3, .int .i64 a2_4] 25 (0, 0))) ∧ (Below w.heap.size w w')) ?_ ?_
     rotate_left
     ·intro hJ1_4_6_8_9
      refine join_ (σ := Value × Value × Nat) 2 #[true, true, true, true, true, true, true, true, true, false, true, false] (fun s_ => [(29, .agg #[.int .i64 t225, .int .i64 t226, .int .i64 t227]), (32, .agg #[.int .i64 t228, .int .i64 t229, .int .i64 t230, .int .i64 t231, .int .i64 t232]), (34, s_.1), (36, s_.2.1), (12, .pointer (some ⟨s_.2.2, 0, none⟩))]) (fun s_ w' => (w'.cell? ⟨gb222, 0, none⟩ = some (.int .i64 a0_0) ∧ w'.cell? ⟨gb222, 1, none⟩ = some (.int .i64 a0_1) ∧ w'.cell? ⟨gb222, 2, none⟩ = some (.int .i64 a0_2) ∧ w'.cell? ⟨gb223, 0, none⟩ = some (.int .i64 a2_0) ∧ w'.cell? ⟨gb223, 1, none⟩ = some (.int .i64 a2_1) ∧ w'.cell? ⟨gb223, 2, none⟩ = some (.int .i64 a2_2) ∧ w'.cell? ⟨gb223, 3, none⟩ = some (.int .i64 a2_3) ∧ w'.cell? ⟨gb223, 4, none⟩ = some (.int .i64 a2_4)) ∧ (Kd.R (Kd.int .i64) 2 w' w.heap.size (fun _ => True) s_.1 t233) ∧ (Kd.R k60 60 w' w.heap.size (fun _ => True) s_.2.1 t236) ∧ (w'.heap[gb222]? = some (.cells #[.int .i64 a0_0, .int .i64 a0_1, .int .i64 a0_2] 23 (0, 0))) ∧ (w'.heap[gb223]? = some (.cells #[.int .i64 a2_0, .int .i64 a2_1, .int .i64 a2_2, .int .i64 a2_3, .int .i64 a2_4] 25 (0, 0))) ∧ (w'.heap[s_.2.2]? = some (.cells #[.bool false, .int .i64 0, .int .i64 0, .int .i64 0, .int .i64 0, .int .i64 0, .slice none 0 0] 32 (0, 0))) ∧ (w.heap.size ≤ s_.2.2) ∧ (w.heap.size ≤ s_.2.2) ∧ (gb222 ≠ s_.2.2) ∧ (s_.2.2 ≠ gb222) ∧ (gb223 ≠ s_.2.2) ∧ (s_.2.2 ≠ gb223) ∧ (Below w.heap.size w w')) ?_ ?_
      rotate_left
      ·intro hJ1_4_6_8_10
       refine join_ (σ := Value × Value) 3 #[true, true, true, true, true, true, true, true, true, false, false, false] (fun s_ => [(29, .agg #[.int .i64 t225, .int .i64 t226, .int .i64 t227]), (32, .agg #[.int .i64 t228, .int .i64 t229, .int .i64 t230, .int .i64 t231, .int .i64 t232]), (34, s_.1), (36, s_.2)]) (fun s_ w' => (w'.cell? ⟨gb222, 0, none⟩ = some (.int .i64 a0_0) ∧ w'.cell? ⟨gb222, 1, none⟩ = some (.int .i64 a0_1) ∧ w'.cell? ⟨gb222, 2, none⟩ = some (.int .i64 a0_2) ∧ w'.cell? ⟨gb223, 0, none⟩ = some (.int .i64 a2_0) ∧ w'.cell? ⟨gb223, 1, none⟩ = some (.int .i64 a2_1) ∧ w'.cell? ⟨gb223, 2, none⟩ = some (.int .i64 a2_2) ∧ w'.cell? ⟨gb223, 3, none⟩ = some (.int .i64 a2_3) ∧ w'.cell? ⟨gb223, 4, none⟩ = some (.int .i64 a2_4)) ∧ (Kd.R (Kd.int .i64) 2 w' w.heap.size (fun _ => True) s_.1 t233) ∧ (Kd.R k60 60 w' w.heap.size (fun _ => True) s_.2 t236) ∧ (w'.heap[gb222]? = some (.cells #[.int .i64 a0_0, .int .i64 a0_1, .int .i64 a0_2] 23 (0, 0))) ∧ (w'.heap[gb223]? = some (.cells #[.int .i64 a2_0, .int .i64 a2_1, .int .i64 a2_2, .int .i64 a2_3, .int .i64 a2_4] 25 (0, 0))) ∧ (Below w.heap.size w w')) ?_ ?_
       rotate_left
       ·intro hJ1_4_6_8
        refine join_ (σ := Value × Nat) 3 #[true, true, true, true, true, true, true, true, false, false, true, false] (fun s_ => [(29, .agg #[.int .i64 t225, .int .i64 t226, .int .i64 t227]), (32, .agg #[.int .i64 t228, .int .i64 t229, .int .i64 t230, .int .i64 t231, .int .i64 t232]), (34, s_.1), (12, .pointer (some ⟨s_.2, 0, none⟩))]) (fun s_ w' => (w'.cell? ⟨gb222, 0, none⟩ = some (.int .i64 a0_0) ∧ w'.cell? ⟨gb222, 1, none⟩ = some (.int .i64 a0_1) ∧ w'.cell? ⟨gb222, 2, none⟩ = some (.int .i64 a0_2) ∧ w'.cell? ⟨gb223, 0, none⟩ = some (.int .i64 a2_0) ∧ w'.cell? ⟨gb223, 1, none⟩ = some (.int .i64 a2_1) ∧ w'.cell? ⟨gb223, 2, none⟩ = some (.int .i64 a2_2) ∧ w'.cell? ⟨gb223, 3, none⟩ = some (.int .i64 a2_3) ∧ w'.cell? ⟨gb223, 4, none⟩ = some (.int .i64 a2_4)) ∧ (Kd.R (Kd.int .i64) 2 w' w.heap.size (fun _ => True) s_.1 t233) ∧ (w'.heap[gb222]? = some (.cells #[.int .i64 a0_0, .int .i64 a0_1, .int .i64 a0_2] 23 (0, 0))) ∧ (w'.heap[gb223]? = some (.cells #[.int .i64 a2_0, .int .i64 a2_1, .int .i64 a2_2, .int .i64 a2_3, .int .i64 a2_4] 25 (0, 0))) ∧ (w'.heap[s_.2]? = some (.cells #[.bool false, .int .i64 0, .int .i64 0, .int .i64 0, .int .i64 0, .int .i64 0, .slice none 0 0] 32 (0, 0))) ∧ (w.heap.size ≤ s_.2) ∧ (w.heap.size ≤ s_.2) ∧ (gb222 ≠ s_.2) ∧ (s_.2 ≠ gb222) ∧ (gb223 ≠ s_.2) ∧ (s_.2 ≠ gb223) ∧ (Below w.heap.size w w')) ?_ ?_
        rotate_left
        ·intro hJ1_4_6_10
         refine join_ (σ := Value) 4 #[true, true, true, true, true, true, true, true, false, false, false, false] (fun s_ => [(29, .agg #[.int .i64 t225, .int .i64 t226, .int .i64 t227]), (32, .agg #[.int .i64 t228, .int .i64 t229, .int .i64 t230, .int .i64 t231, .int .i64 t232]), (34, s_)]) (fun s_ w' => (w'.cell? ⟨gb222, 0, none⟩ = some (.int .i64 a0_0) ∧ w'.cell? ⟨gb222, 1, none⟩ = some (.int .i64 a0_1) ∧ w'.cell? ⟨gb222, 2, none⟩ = some (.int .i64 a0_2) ∧ w'.cell? ⟨gb223, 0, none⟩ = some (.int .i64 a2_0) ∧ w'.cell? ⟨gb223, 1, none⟩ = some (.int .i64 a2_1) ∧ w'.cell? ⟨gb223, 2, none⟩ = some (.int .i64 a2_2) ∧ w'.cell? ⟨gb223, 3, none⟩ = some (.int .i64 a2_3) ∧ w'.cell? ⟨gb223, 4, none⟩ = some (.int .i64 a2_4)) ∧ (Kd.R (Kd.int .i64) 2 w' w.heap.size (fun _ => True) s_ t233) ∧ (w'.heap[gb222]? = some (.cells #[.int .i64 a0_0, .int .i64 a0_1, .int .i64 a0_2] 23 (0, 0))) ∧ (w'.heap[gb223]? = some (.cells #[.int .i64 a2_0, .int .i64 a2_1, .int .i64 a2_2, .int .i64 a2_3, .int .i64 a2_4] 25 (0, 0))) ∧ (Below w.heap.size w w')) ?_ ?_
         rotate_left
         ·intro hJ1_4_6
          refine join_ (σ := Nat) 4 #[true, true, true, true, true, true, false, true, false, false, true, false] (fun s_ => [(29, .agg #[.int .i64 t225, .int .i64 t226, .int .i64 t227]), (32, .agg #[.int .i64 t228, .int .i64 t229, .int .i64 t230, .int .i64 t231, .int .i64 t232]), (12, .pointer (some ⟨s_, 0, none⟩))]) (fun s_ w' => (w'.cell? ⟨gb222, 0, none⟩ = some (.int .i64 a0_0) ∧ w'.cell? ⟨gb222, 1, none⟩ = some (.int .i64 a0_1) ∧ w'.cell? ⟨gb222, 2, none⟩ = some (.int .i64 a0_2) ∧ w'.cell? ⟨gb223, 0, none⟩ = some (.int .i64 a2_0) ∧ w'.cell? ⟨gb223, 1, none⟩ = some (.int .i64 a2_1) ∧ w'.cell? ⟨gb223, 2, none⟩ = some (.int .i64 a2_2) ∧ w'.cell? ⟨gb223, 3, none⟩ = some (.int .i64 a2_3) ∧ w'.cell? ⟨gb223, 4, none⟩ = some (.int .i64 a2_4)) ∧ (w'.heap[gb222]? = some (.cells #[.int .i64 a0_0, .int .i64 a0_1, .int .i64 a0_2] 23 (0, 0))) ∧ (w'.heap[gb223]? = some (.cells #[.int .i64 a2_0, .int .i64 a2_1, .int .i64 a2_2, .int .i64 a2_3, .int .i64 a2_4] 25 (0, 0))) ∧ (w'.heap[s_]? = some (.cells #[.bool false, .int .i64 0, .int .i64 0, .int .i64 0, .int .i64 0, .int .i64 0, .slice none 0 0] 32 (0, 0))) ∧ (w.heap.size ≤ s_) ∧ (w.heap.size ≤ s_) ∧ (gb222 ≠ s_) ∧ (s_ ≠ gb222) ∧ (gb223 ≠ s_) ∧ (s_ ≠ gb223) ∧ (Below w.heap.size w w')) ?_ ?_
          rotate_left
          ·intro hJ1_4_10
           refine join_ (σ := Unit) 5 #[true, true, true, true, true, true, false, true, false, false, false, false] (fun s_ => [(29, .agg #[.int .i64 t225, .int .i64 t226, .int .i64 t227]), (32, .agg #[.int .i64 t228, .int .i64 t229, .int .i64 t230, .int .i64 t231, .int .i64 t232])]) (fun s_ w' => (w'.cell? ⟨gb222, 0, none⟩ = some (.int .i64 a0_0) ∧ w'.cell? ⟨gb222, 1, none⟩ = some (.int .i64 a0_1) ∧ w'.cell? ⟨gb222, 2, none⟩ = some (.int .i64 a0_2) ∧ w'.cell? ⟨gb223, 0, none⟩ = some (.int .i64 a2_0) ∧ w'.cell? ⟨gb223, 1, none⟩ = some (.int .i64 a2_1) ∧ w'.cell? ⟨gb223, 2, none⟩ = some (.int .i64 a2_2) ∧ w'.cell? ⟨gb223, 3, none⟩ = some (.int .i64 a2_3) ∧ w'.cell? ⟨gb223, 4, none⟩ = some (.int .i64 a2_4)) ∧ (w'.heap[gb222]? = some (.cells #[.int .i64 a0_0, .int .i64 a0_1, .int .i64 a0_2] 23 (0, 0))) ∧ (w'.heap[gb223]? = some (.cells #[.int .i64 a2_0, .int .i64 a2_1, .int .i64 a2_2, .int .i64 a2_3, .int .i64 a2_4] 25 (0, 0))) ∧ (Below w.heap.size w w')) ?_ ?_
           rotate_left
           ·intro hJ1_4
            refine join_ (σ := Nat) 5 #[true, true, true, true, false, true, false, true, false, false, true, false] (fun s_ => [(29, .agg #[.int .i64 t225, .int .i64 t226, .int .i64 t227]), (12, .pointer (some ⟨s_, 0, none⟩))]) (fun s_ w' => (w'.cell? ⟨gb222, 0, none⟩ = some (.int .i64 a0_0) ∧ w'.cell? ⟨gb222, 1, none⟩ = some (.int .i64 a0_1) ∧ w'.cell? ⟨gb222, 2, none⟩ = some (.int .i64 a0_2) ∧ w'.cell? ⟨gb223, 0, none⟩ = some (.int .i64 a2_0) ∧ w'.cell? ⟨gb223, 1, none⟩ = some (.int .i64 a2_1) ∧ w'.cell? ⟨gb223, 2, none⟩ = some (.int .i64 a2_2) ∧ w'.cell? ⟨gb223, 3, none⟩ = some (.int .i64 a2_3) ∧ w'.cell? ⟨gb223, 4, none⟩ = some (.int .i64 a2_4)) ∧ (w'.heap[gb222]? = some (.cells #[.int .i64 a0_0, .int .i64 a0_1, .int .i64 a0_2] 23 (0, 0))) ∧ (w'.heap[gb223]? = some (.cells #[.int .i64 a2_0, .int .i64 a2_1, .int .i64 a2_2, .int .i64 a2_3, .int .i64 a2_4] 25 (0, 0))) ∧ (w'.heap[s_]? = some (.cells #[.bool false, .int .i64 0, .int .i64 0, .int .i64 0, .int .i64 0, .int .i64 0, .slice none 0 0] 32 (0, 0))) ∧ (w.heap.size ≤ s_) ∧ (w.heap.size ≤ s_) ∧ (gb222 ≠ s_) ∧ (s_ ≠ gb222) ∧ (gb223 ≠ s_) ∧ (s_ ≠ gb223) ∧ (Below w.heap.size w w')) ?_ ?_
            rotate_left
            ·intro hJ1_10
             refine join_ (σ := Unit) 6 #[true, true, true, true, false, true, false, true, false, false, false, false] (fun s_ => [(29, .agg #[.int .i64 t225, .int .i64 t226, .int .i64 t227])]) (fun s_ w' => (w'.cell? ⟨gb222, 0, none⟩ = some (.int .i64 a0_0) ∧ w'.cell? ⟨gb222, 1, none⟩ = some (.int .i64 a0_1) ∧ w'.cell? ⟨gb222, 2, none⟩ = some (.int .i64 a0_2) ∧ w'.cell? ⟨gb223, 0, none⟩ = some (.int .i64 a2_0) ∧ w'.cell? ⟨gb223, 1, none⟩ = some (.int .i64 a2_1) ∧ w'.cell? ⟨gb223, 2, none⟩ = some (.int .i64 a2_2) ∧ w'.cell? ⟨gb223, 3, none⟩ = some (.int .i64 a2_3) ∧ w'.cell? ⟨gb223, 4, none⟩ = some (.int .i64 a2_4)) ∧ (w'.heap[gb222]? = some (.cells #[.int .i64 a0_0, .int .i64 a0_1, .int .i64 a0_2] 23 (0, 0))) ∧ (w'.heap[gb223]? = some (.cells #[.int .i64 a2_0, .int .i64 a2_1, .int .i64 a2_2, .int .i64 a2_3, .int .i64 a2_4] 25 (0, 0))) ∧ (Below w.heap.size w w')) ?_ ?_
             rotate_left
             ·intro hJ1
              refine join_ (σ := Nat) 6 #[true, false, true, true, false, true, false, true, false, false, true, false] (fun s_ => [(12, .pointer (some ⟨s_, 0, none⟩))]) (fun s_ w' => (w'.cell? ⟨gb222, 0, none⟩ = some (.int .i64 a0_0) ∧ w'.cell? ⟨gb222, 1, none⟩ = some (.int .i64 a0_1) ∧ w'.cell? ⟨gb222, 2, none⟩ = some (.int .i64 a0_2) ∧ w'.cell? ⟨gb223, 0, none⟩ = some (.int .i64 a2_0) ∧ w'.cell? ⟨gb223, 1, none⟩ = some (.int .i64 a2_1) ∧ w'.cell? ⟨gb223, 2, none⟩ = some (.int .i64 a2_2) ∧ w'.cell? ⟨gb223, 3, none⟩ = some (.int .i64 a2_3) ∧ w'.cell? ⟨gb223, 4, none⟩ = some (.int .i64 a2_4)) ∧ (w'.heap[gb222]? = some (.cells #[.int .i64 a0_0, .int .i64 a0_1, .int .i64 a0_2] 23 (0, 0))) ∧ (w'.heap[gb223]? = some (.cells #[.int .i64 a2_0, .int .i64 a2_1, .int .i64 a2_2, .int .i64 a2_3, .int .i64 a2_4] 25 (0, 0))) ∧ (w'.heap[s_]? = some (.cells #[.bool false, .int .i64 0, .int .i64 0, .int .i64 0, .int .i64 0, .int .i64 0, .slice none 0 0] 32 (0, 0))) ∧ (w.heap.size ≤ s_) ∧ (w.heap.size ≤ s_) ∧ (gb222 ≠ s_) ∧ (s_ ≠ gb222) ∧ (gb223 ≠ s_) ∧ (s_ ≠ gb223) ∧ (Below w.heap.size w w')) ?_ ?_
              rotate_left
              ·intro hJ10
               refine two_ (i := 1) (j := 10) (Ni := some 29) (Nj := some 12) #[true, true, true, true, false, true, false, true, false, false, false, false] #[true, false, true, true, false, true, false, true, false, false, true, false] rfl rfl rfl rfl (two_of HT_.out (by kernel_rfl)) (by decide) (by decide) (fun K hK => ?_) (fun K hK => ?_)
               ·skip
                refine goesA Try.func13 #[.agg #[.int .i64 a0_0, .int .i64 a0_1, .int .i64 a0_2]] ?_
                with_reducible refine (laws_toRules.calls a0_0 a0_1 a0_2 t225 t226 t227 _ A13.out).mono ?_
                rintro e w37 ⟨rfl, hb⟩
                refine ⟨_, rfl, ?_⟩
                have n0_ := bkb BK222 hb; have n1_ := bkb BK223 hb; have n2_ := bst HB hb; clear BK222 BK223 HB; have BK222 := n0_; have BK223 := n1_; have HB := n2_; clear n0_ n1_ n2_; (try clear hb); (try clear hb2); (try clear hk); (try clear hi)
                refine hK.out _ _ ⟨bc BK222 0, bc BK222 1, bc BK222 2, bc BK223 0, bc BK223 1, bc BK223 2, bc BK223 3, bc BK223 4⟩ (fun hHeld => ?_)
                clear hK K
                refine normP ?_
                exact normA (hJ1 () _ ⟨hHeld, (qb BK222), (qb BK223), (qs HB)⟩)
               skip
               refine box_step ?hg (N := 12) ?hd (cs := #[.bool false, .int .i64 0, .int .i64 0, .int .i64 0, .int .i64 0, .int .i64 0, .slice none 0 0]) (t := 32) ?hr ?_; (case hd => rfl); (case hg => rfl); (case hr => first | (go_simp; done) | (go_simp; rfl))
               intro gb248 hg w37 hbox hb
               have n0_ := bkb BK222 hb; have n1_ := bkb BK223 hb; have n2_ := bst HB hb
               have n3_ := Aside0.mk (hbox)
               have n4_ := nge HB hg; have n5_ := nge HB hg; have n6_ := nlt BK222 hg; have n7_ := ngt BK222 hg; have n8_ := nlt BK223 hg; have n9_ := ngt BK223 hg; clear BK222 BK223 HB; have BK222 := n0_; have BK223 := n1_; have HB := n2_; have BK248 := n3_; have GW248 := n4_; have GE248 := n5_; have NB222_248 := n6_; have NB248_222 := n7_; have NB223_248 := n8_; have NB248_223 := n9_; clear n0_ n1_ n2_ n3_ n4_ n5_ n6_ n7_ n8_ n9_ hb hbox hg
               refine hK.out _ _ ⟨bc BK222 0, bc BK222 1, bc BK222 2, bc BK223 0, bc BK223 1, bc BK223 2, bc BK223 3, bc BK223 4⟩ (fun hHeld => ?_)
               clear hK K
               refine normP ?_
               exact normA (hJ10 (gb248) _ ⟨hHeld, (qb BK222), (qb BK223), (qb BK248), GW248.out, GE248.out, NB222_248.out, NB248_222.out, NB223_248.out, NB248_223.out, (qs HB)⟩)
              skip
              rintro gb248 w38 ⟨hS_, h0_, h1_, h2_, h3_, h4_, h5_, h6_, h7_, h8_, h9_⟩
              have n0_ := Aside0.mk h0_; have n1_ := Aside0.mk h1_; have n2_ := Aside0.mk h2_; have n3_ := Aside0.mk h3_; have n4_ := Aside0.mk h4_; have n5_ := Aside0.mk h5_; have n6_ := Aside0.mk h6_; have n7_ := Aside0.mk h7_; have n8_ := Aside0.mk h8_; have n9_ := Aside0.mk h9_
              clear BK222 BK223 HB h0_ h1_ h2_ h3_ h4_ h5_ h6_ h7_ h8_ h9_; have BK222 := n0_; have BK223 := n1_; have BK248 := n2_; have GW248 := n3_; have GE248 := n4_; have NB222_248 := n5_; have NB248_222 := n6_; have NB223_248 := n7_; have NB248_223 := n8_; have HB := n9_; clear n0_ n1_ n2_ n3_ n4_ n5_ n6_ n7_ n8_ n9_
              have hHeld := hS_
              refine normQ ?_
              refine one_ (i := 1) (N := some 29) #[true, true, true, true, false, true, false, true, false, false, true, false] rfl rfl (one_of HT_.out (by kernel_rfl)) (by decide) (fun K hK => ?_)
              refine goesA Try.func13 #[.agg #[.int .i64 a0_0, .int .i64 a0_1, .int .i64 a0_2]] ?_
              with_reducible refine (laws_toRules.calls a0_0 a0_1 a0_2 t225 t226 t227 _ A13.out).mono ?_
              rintro e w39 ⟨rfl, hb⟩
              refine ⟨_, rfl, ?_⟩
              have n0_ := bkb BK222 hb; have n1_ := bkb BK223 hb; have n2_ := bkb BK248 hb; have n3_ := bst HB hb; clear BK222 BK223 BK248 HB; have BK222 := n0_; have BK223 := n1_; have BK248 := n2_; have HB := n3_; clear n0_ n1_ n2_ n3_; (try clear hb); (try clear hb2); (try clear hk); (try clear hi)
              refine hK.out _ _ ⟨bc BK222 0, bc BK222 1, bc BK222 2, bc BK223 0, bc BK223 1, bc BK223 2, bc BK223 3, bc BK223 4⟩ (fun hHeld => ?_)
              clear hK K
              refine normP ?_
              exact normA (hJ1_10 (gb248) _ ⟨hHeld, (qb BK222), (qb BK223), (qb BK248), GW248.out, GE248.out, NB222_248.out, NB248_222.out, NB223_248.out, NB248_223.out, (qs HB)⟩)
             skip
             rintro _ w38 ⟨hS_, h0_, h1_, h2_⟩
             have n0_ := Aside0.mk h0_; have n1_ := Aside0.mk h1_; have n2_ := Aside0.mk h2_
             clear BK222 BK223 HB h0_ h1_ h2_; have BK222 := n0_; have BK223 := n1_; have HB := n2_; clear n0_ n1_ n2_
             have hHeld := hS_
             refine normQ ?_
             refine two_ (i := 4) (j := 10) (Ni := some 32) (Nj := some 12) #[true, true, true, true, true, true, false, true, false, false, false, false] #[true, true, true, true, false, true, false, true, false, false, true, false] rfl rfl rfl rfl (two_of HT_.out (by kernel_rfl)) (by decide) (by decide) (fun K hK => ?_) (fun K hK => ?_)
             ·skip
              refine goesA Try.func14 #[.agg #[.int .i64 a2_0, .int .i64 a2_1, .int .i64 a2_2, .int .i64 a2_3, .int .i64 a2_4]] ?_
              with_reducible refine (laws_toBox.calls a2_0 a2_1 a2_2 a2_3 a2_4 t228 t229 t230 t231 t232 _ A14.out).mono ?_
              rintro e w39 ⟨rfl, hb⟩
              refine ⟨_, rfl, ?_⟩
              have n0_ := bkb BK222 hb; have n1_ := bkb BK223 hb; have n2_ := bst HB hb; clear BK222 BK223 HB; have BK222 := n0_; have BK223 := n1_; have HB := n2_; clear n0_ n1_ n2_; (try clear hb); (try clear hb2); (try clear hk); (try clear hi)
              refine hK.out _ _ ⟨bc BK222 0, bc BK222 1, bc BK222 2, bc BK223 0, bc BK223 1, bc BK223 2, bc BK223 3, bc BK223 4⟩ (fun hHeld => ?_)
              clear hK K
              refine normP ?_
              exact normA (hJ1_4 () _ ⟨hHeld, (qb BK222), (qb BK223), (qs HB)⟩)
             skip
             refine box_step ?hg (N := 12) ?hd (cs := #[.bool false, .int .i64 0, .int .i64 0, .int .i64 0, .int .i64 0, .int .i64 0, .slice none 0 0]) (t := 32) ?hr ?_; (case hd => rfl); (case hg => rfl); (case hr => first | (go_simp; done) | (go_simp; rfl))
             intro gb248 hg w39 hbox hb
             have n0_ := bkb BK222 hb; have n1_ := bkb BK223 hb; have n2_ := bst HB hb
             have n3_ := Aside0.mk (hbox)
             have n4_ := nge HB hg; have n5_ := nge HB hg; have n6_ := nlt BK222 hg; have n7_ := ngt BK222 hg; have n8_ := nlt BK223 hg; have n9_ := ngt BK223 hg; clear BK222 BK223 HB; have BK222 := n0_; have BK223 := n1_; have HB := n2_; have BK248 := n3_; have GW248 := n4_; have GE248 := n5_; have NB222_248 := n6_; have NB248_222 := n7_; have NB223_248 := n8_; have NB248_223 := n9_; clear n0_ n1_ n2_ n3_ n4_ n5_ n6_ n7_ n8_ n9_ hb hbox hg
             refine hK.out _ _ ⟨bc BK222 0, bc BK222 1, bc BK222 2, bc BK223 0, bc BK223 1, bc BK223 2, bc BK223 3, bc BK223 4⟩ (fun hHeld => ?_)
             clear hK K
             refine normP ?_
             exact normA (hJ1_10 (gb248) _ ⟨hHeld, (qb BK222), (qb BK223), (qb BK248), GW248.out, GE248.out, NB222_248.out, NB248_222.out, NB223_248.out, NB248_223.out, (qs HB)⟩)
            skip
            rintro gb248 w39 ⟨hS_, h0_, h1_, h2_, h3_, h4_, h5_, h6_, h7_, h8_, h9_⟩
            have n0_ := Aside0.mk h0_; have n1_ := Aside0.mk h1_; have n2_ := Aside0.mk h2_; have n3_ := Aside0.mk h3_; have n4_ := Aside0.mk h4_; have n5_ := Aside0.mk h5_; have n6_ := Aside0.mk h6_; have n7_ := Aside0.mk h7_; have n8_ := Aside0.mk h8_; have n9_ := Aside0.mk h9_
            clear BK222 BK223 HB h0_ h1_ h2_ h3_ h4_ h5_ h6_ h7_ h8_ h9_; have BK222 := n0_; have BK223 := n1_; have BK248 := n2_; have GW248 := n3_; have GE248 := n4_; have NB222_248 := n5_; have NB248_222 := n6_; have NB223_248 := n7_; have NB248_223 := n8_; have HB := n9_; clear n0_ n1_ n2_ n3_ n4_ n5_ n6_ n7_ n8_ n9_
            have hHeld := hS_
            refine normQ ?_
            refine one_ (i := 4) (N := some 32) #[true, true, true, true, true, true, false, true, false, false, true, false] rfl rfl (one_of HT_.out (by kernel_rfl)) (by decide) (fun K hK => ?_)
            refine goesA Try.func14 #[.agg #[.int .i64 a2_0, .int .i64 a2_1, .int .i64 a2_2, .int .i64 a2_3, .int .i64 a2_4]] ?_
            with_reducible refine (laws_toBox.calls a2_0 a2_1 a2_2 a2_3 a2_4 t228 t229 t230 t231 t232 _ A14.out).mono ?_
            rintro e w40 ⟨rfl, hb⟩
            refine ⟨_, rfl, ?_⟩
            have n0_ := bkb BK222 hb; have n1_ := bkb BK223 hb; have n2_ := bkb BK248 hb; have n3_ := bst HB hb; clear BK222 BK223 BK248 HB; have BK222 := n0_; have BK223 := n1_; have BK248 := n2_; have HB := n3_; clear n0_ n1_ n2_ n3_; (try clear hb); (try clear hb2); (try clear hk); (try clear hi)
            refine hK.out _ _ ⟨bc BK222 0, bc BK222 1, bc BK222 2, bc BK223 0, bc BK223 1, bc BK223 2, bc BK223 3, bc BK223 4⟩ (fun hHeld => ?_)
            clear hK K
            refine normP ?_
            exact normA (hJ1_4_10 (gb248) _ ⟨hHeld, (qb BK222), (qb BK223), (qb BK248), GW248.out, GE248.out, NB222_248.out, NB248_222.out, NB223_248.out, NB248_223.out, (qs HB)⟩)
           skip
           rintro _ w39 ⟨hS_, h0_, h1_, h2_⟩
           have n0_ := Aside0.mk h0_; have n1_ := Aside0.mk h1_; have n2_ := Aside0.mk h2_
           clear BK222 BK223 HB h0_ h1_ h2_; have BK222 := n0_; have BK223 := n1_; have HB := n2_; clear n0_ n1_ n2_
           have hHeld := hS_
           refine normQ ?_
           refine two_ (i := 6) (j := 10) (Ni := some 34) (Nj := some 12) #[true, true, true, true, true, true, true, true, false, false, false, false] #[true, true, true, true, true, true, false, true, false, false, true, false] rfl rfl rfl rfl (two_of HT_.out (by kernel_rfl)) (by decide) (by decide) (fun K hK => ?_) (fun K hK => ?_)
           ·skip
            refine goesA Try.func15 #[.slice A3 l3.length c3] ?_
            with_reducible refine (laws_toInt64S.calls k _ _ l3 t233 _ ?side1 ?side2 A15.out).mono ?_
            (case side1 => exact qc (Kd.C_below HR3.out HB.out))
            (case side2 => exact HC3.out)
            rintro e w40 ⟨v234, rfl, ho0, hb⟩
            refine ⟨_, rfl, ?_⟩
            have n0_ := Aside0.mk (Kd.R_lower ho0 (below_size (qs HB)))
            have n1_ := bkb BK222 hb; have n2_ := bkb BK223 hb; have n3_ := bst HB hb; clear BK222 BK223 HB; have HO235 := n0_; have BK222 := n1_; have BK223 := n2_; have HB := n3_; clear n0_ n1_ n2_ n3_; (try clear hb); (try clear hb2); (try clear hk); (try clear hi); (try clear ho0)
            refine hK.out _ _ ⟨bc BK222 0, bc BK222 1, bc BK222 2, bc BK223 0, bc BK223 1, bc BK223 2, bc BK223 3, bc BK223 4⟩ (fun hHeld => ?_)
            clear hK K
            refine normP ?_
            exact normA (hJ1_4_6 (v234) _ ⟨hHeld, (qr HO235), (qb BK222), (qb BK223), (qs HB)⟩)
           skip
           refine box_step ?hg (N := 12) ?hd (cs := #[.bool false, .int .i64 0, .int .i64 0, .int .i64 0, .int .i64 0, .int .i64 0, .slice none 0 0]) (t := 32) ?hr ?_; (case hd => rfl); (case hg => rfl); (case hr => first | (go_simp; done) | (go_simp; rfl))
           intro gb248 hg w40 hbox hb
           have n0_ := bkb BK222 hb; have n1_ := bkb BK223 hb; have n2_ := bst HB hb
           have n3_ := Aside0.mk (hbox)
           have n4_ := nge HB hg; have n5_ := nge HB hg; have n6_ := nlt BK222 hg; have n7_ := ngt BK222 hg; have n8_ := nlt BK223 hg; have n9_ := ngt BK223 hg; clear BK222 BK223 HB; have BK222 := n0_; have BK223 := n1_; have HB := n2_; have BK248 := n3_; have GW248 := n4_; have GE248 := n5_; have NB222_248 := n6_; have NB248_222 := n7_; have NB223_248 := n8_; have NB248_223 := n9_; clear n0_ n1_ n2_ n3_ n4_ n5_ n6_ n7_ n8_ n9_ hb hbox hg
           refine hK.out _ _ ⟨bc BK222 0, bc BK222 1, bc BK222 2, bc BK223 0, bc BK223 1, bc BK223 2, bc BK223 3, bc BK223 4⟩ (fun hHeld => ?_)
           clear hK K
           refine normP ?_
           exact normA (hJ1_4_10 (gb248) _ ⟨hHeld, (qb BK222), (qb BK223), (qb BK248), GW248.out, GE248.out, NB222_248.out, NB248_222.out, NB223_248.out, NB248_223.out, (qs HB)⟩)
          skip
          rintro gb248 w40 ⟨hS_, h0_, h1_, h2_, h3_, h4_, h5_, h6_, h7_, h8_, h9_⟩
          have n0_ := Aside0.mk h0_; have n1_ := Aside0.mk h1_; have n2_ := Aside0.mk h2_; have n3_ := Aside0.mk h3_; have n4_ := Aside0.mk h4_; have n5_ := Aside0.mk h5_; have n6_ := Aside0.mk h6_; have n7_ := Aside0.mk h7_; have n8_ := Aside0.mk h8_; have n9_ := Aside0.mk h9_
          clear BK222 BK223 HB h0_ h1_ h2_ h3_ h4_ h5_ h6_ h7_ h8_ h9_; have BK222 := n0_; have BK223 := n1_; have BK248 := n2_; have GW248 := n3_; have GE248 := n4_; have NB222_248 := n5_; have NB248_222 := n6_; have NB223_248 := n7_; have NB248_223 := n8_; have HB := n9_; clear n0_ n1_ n2_ n3_ n4_ n5_ n6_ n7_ n8_ n9_
          have hHeld := hS_
          refine normQ ?_
          refine one_ (i := 6) (N := some 34) #[true, true, true, true, true, true, true, true, false, false, true, false] rfl rfl (one_of HT_.out (by kernel_rfl)) (by decide) (fun K hK => ?_)
          refine goesA Try.func15 #[.slice A3 l3.length c3] ?_
          with_reducible refine (laws_toInt64S.calls k _ _ l3 t233 _ ?side1 ?side2 A15.out).mono ?_
          (case side1 => exact qc (Kd.C_below HR3.out HB.out))
          (case side2 => exact HC3.out)
          rintro e w41 ⟨v234, rfl, ho0, hb⟩
          refine ⟨_, rfl, ?_⟩
          have n0_ := Aside0.mk (Kd.R_lower ho0 (below_size (qs HB)))
          have n1_ := bkb BK222 hb; have n2_ := bkb BK223 hb; have n3_ := bkb BK248 hb; have n4_ := bst HB hb; clear BK222 BK223 BK248 HB; have HO235 := n0_; have BK222 := n1_; have BK223 := n2_; have BK248 := n3_; have HB := n4_; clear n0_ n1_ n2_ n3_ n4_; (try clear hb); (try clear hb2); (try clear hk); (try clear hi); (try clear ho0)
          refine hK.out _ _ ⟨bc BK222 0, bc BK222 1, bc BK222 2, bc BK223 0, bc BK223 1, bc BK223 2, bc BK223 3, bc BK223 4⟩ (fun hHeld => ?_)
          clear hK K
          refine normP ?_
          exact normA (hJ1_4_6_10 (v234, gb248) _ ⟨hHeld, (qr HO235), (qb BK222), (qb BK223), (qb BK248), GW248.out, GE248.out, NB222_248.out, NB248_222.out, NB223_248.out, NB248_223.out, (qs HB)⟩)
         skip
         rintro v234 w40 ⟨hS_, h0_, h1_, h2_, h3_⟩
         have n0_ := Aside0.mk h0_; have n1_ := Aside0.mk h1_; have n2_ := Aside0.mk h2_; have n3_ := Aside0.mk h3_
         clear BK222 BK223 HB h0_ h1_ h2_ h3_; have HO235 := n0_; have BK222 := n1_; have BK223 := n2_; have HB := n3_; clear n0_ n1_ n2_ n3_
         have hHeld := hS_
         refine normQ ?_
         refine two_ (i := 8) (j := 10) (Ni := some 36) (Nj := some 12) #[true, true, true, true, true, true, true, true, true, false, false, false] #[true, true, true, true, true, true, true, true, false, false, true, false] rfl rfl rfl rfl (two_of HT_.out (by kernel_rfl)) (by decide) (by decide) (fun K hK => ?_) (fun K hK => ?_)
         ·skip
          refine goesA Try.func16 #[.slice A4 l4.length c4] ?_
          with_reducible refine (laws_toPacketS.calls k _ _ l4 t236 _ ?side1 ?side2 A16.out).mono ?_
          (case side1 => exact qc (Kd.C_below HR4.out HB.out))
          (case side2 => exact HC4.out)
          rintro e w41 ⟨v237, rfl, ho0, hb⟩
          refine ⟨_, rfl, ?_⟩
          have n0_ := rbl HO235 hb
          have n1_ := Aside0.mk (Kd.R_lower ho0 (below_size (qs HB)))
          have n2_ := bkb BK222 hb; have n3_ := bkb BK223 hb; have n4_ := bst HB hb; clear HO235 BK222 BK223 HB; have HO235 := n0_; have HO238 := n1_; have BK222 := n2_; have BK223 := n3_; have HB := n4_; clear n0_ n1_ n2_ n3_ n4_; (try clear hb); (try clear hb2); (try clear hk); (try clear hi); (try clear ho0)
          refine hK.out _ _ ⟨bc BK222 0, bc BK222 1, bc BK222 2, bc BK223 0, bc BK223 1, bc BK223 2, bc BK223 3, bc BK223 4⟩ (fun hHeld => ?_)
          clear hK K
          refine normP ?_
          exact normA (hJ1_4_6_8 (v234, v237) _ ⟨hHeld, (qr HO235), (qr HO238), (qb BK222), (qb BK223), (qs HB)⟩)
         skip
         refine box_step ?hg (N := 12) ?hd (cs := #[.bool false, .int .i64 0, .int .i64 0, .int .i64 0, .int .i64 0, .int .i64 0, .slice none 0 0]) (t := 32) ?hr ?_; (case hd => rfl); (case hg => rfl); (case hr => first | (go_simp; done) | (go_simp; rfl))
         intro gb248 hg w41 hbox hb
         have n0_ := rbl HO235 hb; have n1_ := bkb BK222 hb; have n2_ := bkb BK223 hb; have n3_ := bst HB hb
         have n4_ := Aside0.mk (hbox)
         have n5_ := nge HB hg; have n6_ := nge HB hg; have n7_ := nlt BK222 hg; have n8_ := ngt BK222 hg; have n9_ := nlt BK223 hg; have n10_ := ngt BK223 hg; clear HO235 BK222 BK223 HB; have HO235 := n0_; have BK222 := n1_; have BK223 := n2_; have HB := n3_; have BK248 := n4_; have GW248 := n5_; have GE248 := n6_; have NB222_248 := n7_; have NB248_222 := n8_; have NB223_248 := n9_; have NB248_223 := n10_; clear n0_ n1_ n2_ n3_ n4_ n5_ n6_ n7_ n8_ n9_ n10_ hb hbox hg
         refine hK.out _ _ ⟨bc BK222 0, bc BK222 1, bc BK222 2, bc BK223 0, bc BK223 1, bc BK223 2, bc BK223 3, bc BK223 4⟩ (fun hHeld => ?_)
         clear hK K
         refine normP ?_
         exact normA (hJ1_4_6_10 (v234, gb248) _ ⟨hHeld, (qr HO235), (qb BK222), (qb BK223), (qb BK248), GW248.out, GE248.out, NB222_248.out, NB248_222.out, NB223_248.out, NB248_223.out, (qs HB)⟩)
        skip
        rintro ⟨v234, gb248⟩ w41 ⟨hS_, h0_, h1_, h2_, h3_, h4_, h5_, h6_, h7_, h8_, h9_, h10_⟩
        have n0_ : Aside0 (Kd.R (Kd.int .i64) 2 w41 w.heap.size (fun _ => True) v234 t233) := ⟨h0_⟩
        have n1_ := Aside0.mk h1_; have n2_ := Aside0.mk h2_
        have n3_ : Aside0 (w41.heap[gb248]? = some (.cells #[.bool false, .int .i64 0, .int .i64 0, .int .i64 0, .int .i64 0, .int .i64 0, .slice none 0 0] 32 (0, 0))) := ⟨h3_⟩
        have n4_ : Aside0 (w.heap.size ≤ gb248) := ⟨h4_⟩
        have n5_ : Aside0 (w.heap.size ≤ gb248) := ⟨h5_⟩
        have n6_ : Aside0 (gb222 ≠ gb248) := ⟨h6_⟩
        have n7_ : Aside0 (gb248 ≠ gb222) := ⟨h7_⟩
        have n8_ : Aside0 (gb223 ≠ gb248) := ⟨h8_⟩
        have n9_ : Aside0 (gb248 ≠ gb223) := ⟨h9_⟩
        have n10_ := Aside0.mk h10_
        clear BK222 BK223 HB h0_ h1_ h2_ h3_ h4_ h5_ h6_ h7_ h8_ h9_ h10_; have HO235 := n0_; have BK222 := n1_; have BK223 := n2_; have BK248 := n3_; have GW248 := n4_; have GE248 := n5_; have NB222_248 := n6_; have NB248_222 := n7_; have NB223_248 := n8_; have NB248_223 := n9_; have HB := n10_; clear n0_ n1_ n2_ n3_ n4_ n5_ n6_ n7_ n8_ n9_ n10_
        have hHeld := hS_
        refine normQ ?_
        refine one_ (i := 8) (N := some 36) #[true, true, true, true, true, true, true, true, true, false, true, false] rfl rfl (one_of HT_.out (by kernel_rfl)) (by decide) (fun K hK => ?_)
        refine goesA Try.func16 #[.slice A4 l4.length c4] ?_
        with_reducible refine (laws_toPacketS.calls k _ _ l4 t236 _ ?side1 ?side2 A16.out).mono ?_
        (case side1 => exact qc (Kd.C_below HR4.out HB.out))
        (case side2 => exact HC4.out)
        rintro e w42 ⟨v237, rfl, ho0, hb⟩
        refine ⟨_, rfl, ?_⟩
        have n0_ := rbl HO235 hb
        have n1_ := Aside0.mk (Kd.R_lower ho0 (below_size (qs HB)))
        have n2_ := bkb BK222 hb; have n3_ := bkb BK223 hb; have n4_ := bkb BK248 hb; have n5_ := bst HB hb; clear HO235 BK222 BK223 BK248 HB; have HO235 := n0_; have HO238 := n1_; have BK222 := n2_; have BK223 := n3_; have BK248 := n4_; have HB := n5_; clear n0_ n1_ n2_ n3_ n4_ n5_; (try clear hb); (try clear hb2); (try clear hk); (try clear hi); (try clear ho0)
        refine hK.out _ _ ⟨bc BK222 0, bc BK222 1, bc BK222 2, bc BK223 0, bc BK223 1, bc BK223 2, bc BK223 3, bc BK223 4⟩ (fun hHeld => ?_)
        clear hK K
        refine normP ?_
        exact normA (hJ1_4_6_8_10 (v234, v237, gb248) _ ⟨hHeld, (qr HO235), (qr HO238), (qb BK222), (qb BK223), (qb BK248), GW248.out, GE248.out, NB222_248.out, NB248_222.out, NB223_248.out, NB248_223.out, (qs HB)⟩)
       skip
       rintro ⟨v234, v237⟩ w41 ⟨hS_, h0_, h1_, h2_, h3_, h4_⟩
       have n0_ : Aside0 (Kd.R (Kd.int .i64) 2 w41 w.heap.size (fun _ => True) v234 t233) := ⟨h0_⟩
       have n1_ : Aside0 (Kd.R k60 60 w41 w.heap.size (fun _ => True) v237 t236) := ⟨h1_⟩
       have n2_ := Aside0.mk h2_; have n3_ := Aside0.mk h3_; have n4_ := Aside0.mk h4_
       clear BK222 BK223 HB h0_ h1_ h2_ h3_ h4_; have HO235 := n0_; have HO238 := n1_; have BK222 := n2_; have BK223 := n3_; have HB := n4_; clear n0_ n1_ n2_ n3_ n4_
       have hHeld := hS_
       obtain ⟨Ao42, co42, eo42⟩ := Kd.R_slice HO235.out
       (first | subst eo42 | (injection eo42 with f1_ f2_ f3_; have f4_ := f1_.symm; have f5_ := f3_.symm; clear f1_ f2_ f3_; subst f4_; subst f5_))
       obtain ⟨Ao43, co43, eo43⟩ := Kd.R_slice HO238.out
       (first | subst eo43 | (injection eo43 with f1_ f2_ f3_; have f4_ := f1_.symm; have f5_ := f3_.symm; clear f1_ f2_ f3_; subst f4_; subst f5_))
       refine normQ ?_
       refine two_ (i := 9) (j := 10) (Ni := some 37) (Nj := some 12) #[true, true, true, true, true, true, true, true, true, true, false, false] #[true, true, true, true, true, true, true, true, true, false, true, false] rfl rfl rfl rfl (two_of HT_.out (by kernel_rfl)) (by decide) (by decide) (fun K hK => ?_) (fun K hK => ?_)
       ·skip
        refine goesA Try.func12 #[.agg #[.int .i64 t225, .int .i64 t226, .int .i64 t227], .int .i64 a1, .agg #[.int .i64 t228, .int .i64 t229, .int .i64 t230, .int .i64 t231, .int .i64 t232], .slice Ao42 t233.length co42, .slice Ao43 t236.length co43] ?_
        with_reducible refine (spec_BoxTick.calls k t225 t226 t227 a1 t228 t229 t230 t231 t232 _ _ t233 _ _ t236 t239 t240 t241 t242 t243 t244 t245 _ ?side1 ?side2 ?side3 ?side4 A17.out).mono ?_
        (case side1 => exact qc (Kd.R_reads' HO235.out).2.2)
        (case side2 => exact (Kd.R_reads' HO235.out).2.1)
        (case side3 => exact qc (Kd.R_reads' HO238.out).2.2)
        (case side4 => exact (Kd.R_reads' HO238.out).2.1)
        rintro e w44 ⟨v246, rfl, ho0, hb⟩
        refine ⟨_, rfl, ?_⟩
        have n0_ := rbl HO235 hb
        have n1_ := Aside0.mk (Kd.R_elder' (qr HO238) (Kd.R_base ho0) hb)
        have n2_ := Aside0.mk (Kd.R_lower (Kd.R_new' ho0 (Kd.R_lt (qr HO238))) (below_size (qs HB)))
        have n3_ := bkb BK222 hb; have n4_ := bkb BK223 hb; have n5_ := bst HB hb; clear HO235 HO238 BK222 BK223 HB; have HO235 := n0_; have HO238 := n1_; have HO247 := n2_; have BK222 := n3_; have BK223 := n4_; have HB := n5_; clear n0_ n1_ n2_ n3_ n4_ n5_; (try clear hb); (try clear hb2); (try clear hk); (try clear hi); (try clear ho0)
        refine hK.out _ _ ⟨bc BK222 0, bc BK222 1, bc BK222 2, bc BK223 0, bc BK223 1, bc BK223 2, bc BK223 3, bc BK223 4⟩ (fun hHeld => ?_)
        clear hK K
        refine normP ?_
        exact normA (hJ1_4_6_8_9 (.slice Ao42 t233.length co42, .slice Ao43 t236.length co43, v246) _ ⟨hHeld, (qr HO235), (qm HO238 (fun _ hk => hk.2)), (qm HO247 (fun _ hk => hk.2)), (qb BK222), (qb BK223), (qs HB)⟩)
       skip
       refine box_step ?hg (N := 12) ?hd (cs := #[.bool false, .int .i64 0, .int .i64 0, .int .i64 0, .int .i64 0, .int .i64 0, .slice none 0 0]) (t := 32) ?hr ?_; (case hd => rfl); (case hg => rfl); (case hr => first | (go_simp; done) | (go_simp; rfl))
       intro gb248 hg w42 hbox hb
       have n0_ := rbl HO235 hb; have n1_ := rbl HO238 hb; have n2_ := bkb BK222 hb; have n3_ := bkb BK223 hb; have n4_ := bst HB hb
       have n5_ := Aside0.mk (hbox)
       have n6_ := nge HB hg; have n7_ := nge HB hg; have n8_ := nlt BK222 hg; have n9_ := ngt BK222 hg; have n10_ := nlt BK223 hg; have n11_ := ngt BK223 hg; clear HO235 HO238 BK222 BK223 HB; have HO235 := n0_; have HO238 := n1_; have BK222 := n2_; have BK223 := n3_; have HB := n4_; have BK248 := n5_; have GW248 := n6_; have GE248 := n7_; have NB222_248 := n8_; have NB248_222 := n9_; have NB223_248 := n10_; have NB248_223 := n11_; clear n0_ n1_ n2_ n3_ n4_ n5_ n6_ n7_ n8_ n9_ n10_ n11_ hb hbox hg
       refine hK.out _ _ ⟨bc BK222 0, bc BK222 1, bc BK222 2, bc BK223 0, bc BK223 1, bc BK223 2, bc BK223 3, bc BK223 4⟩ (fun hHeld => ?_)
       clear hK K
       refine normP ?_
       exact normA (hJ1_4_6_8_10 (.slice Ao42 t233.length co42, .slice Ao43 t236.length co43, gb248) _ ⟨hHeld, (qr HO235), (qr HO238), (qb BK222), (qb BK223), (qb BK248), GW248.out, GE248.out, NB222_248.out, NB248_222.out, NB223_248.out, NB248_223.out, (qs HB)⟩)
      skip
      rintro ⟨v234, v237, gb248⟩ w42 ⟨hS_, h0_, h1_, h2_, h3_, h4_, h5_, h6_, h7_, h8_, h9_, h10_, h11_⟩
      have n0_ : Aside0 (Kd.R (Kd.int .i64) 2 w42 w.heap.size (fun _ => True) v234 t233) := ⟨h0_⟩
      have n1_ : Aside0 (Kd.R k60 60 w42 w.heap.size (fun _ => True) v237 t236) := ⟨h1_⟩
      have n2_ := Aside0.mk h2_; have n3_ := Aside0.mk h3_
      have n4_ : Aside0 (w42.heap[gb248]? = some (.cells #[.bool false, .int .i64 0, .int .i64 0, .int .i64 0, .int .i64 0, .int .i64 0, .slice none 0 0] 32 (0, 0))) := ⟨h4_⟩
      have n5_ : Aside0 (w.heap.size ≤ gb248) := ⟨h5_⟩
      have n6_ : Aside0 (w.heap.size ≤ gb248) := ⟨h6_⟩
      have n7_ : Aside0 (gb222 ≠ gb248) := ⟨h7_⟩
      have n8_ : Aside0 (gb248 ≠ gb222) := ⟨h8_⟩
      have n9_ : Aside0 (gb223 ≠ gb248) := ⟨h9_⟩
      have n10_ : Aside0 (gb248 ≠ gb223) := ⟨h10_⟩
      have n11_ := Aside0.mk h11_
      clear BK222 BK223 HB h0_ h1_ h2_ h3_ h4_ h5_ h6_ h7_ h8_ h9_ h10_ h11_; have HO235 := n0_; have HO238 := n1_; have BK222 := n2_; have BK223 := n3_; have BK248 := n4_; have GW248 := n5_; have GE248 := n6_; have NB222_248 := n7_; have NB248_222 := n8_; have NB223_248 := n9_; have NB248_223 := n10_; have HB := n11_; clear n0_ n1_ n2_ n3_ n4_ n5_ n6_ n7_ n8_ n9_ n10_ n11_
      have hHeld := hS_
      obtain ⟨Ao43, co43, eo43⟩ := Kd.R_slice HO235.out
      (first | subst eo43 | (injection eo43 with f1_ f2_ f3_; have f4_ := f1_.symm; have f5_ := f3_.symm; clear f1_ f2_ f3_; subst f4_; subst f5_))
      obtain ⟨Ao44, co44, eo44⟩ := Kd.R_slice HO238.out
      (first | subst eo44 | (injection eo44 with f1_ f2_ f3_; have f4_ := f1_.symm; have f5_ := f3_.symm; clear f1_ f2_ f3_; subst f4_; subst f5_))
      refine normQ ?_
      refine one_ (i := 9) (N := some 37) #[true, true, true, true, true, true, true, true, true, true, true, false] rfl rfl (one_of HT_.out (by kernel_rfl)) (by decide) (fun K hK => ?_)
      refine goesA Try.func12 #[.agg #[.int .i64 t225, .int .i64 t226, .int .i64 t227], .int .i64 a1, .agg #[.int .i64 t228, .int .i64 t229, .int .i64 t230, .int .i64 t231, .int .i64 t232], .slice Ao43 t233.length co43, .slice Ao44 t236.length co44] ?_
      with_reducible refine (spec_BoxTick.calls k t225 t226 t227 a1 t228 t229 t230 t231 t232 _ _ t233 _ _ t236 t239 t240 t241 t242 t243 t244 t245 _ ?side1 ?side2 ?side3 ?side4 A17.out).mono ?_
      (case side1 => exact qc (Kd.R_reads' HO235.out).2.2)
      (case side2 => exact (Kd.R_reads' HO235.out).2.1)
      (case side3 => exact qc (Kd.R_reads' HO238.out).2.2)
      (case side4 => exact (Kd.R_reads' HO238.out).2.1)
      rintro e w45 ⟨v246, rfl, ho0, hb⟩
      refine ⟨_, rfl, ?_⟩
      have n0_ := rbl HO235 hb
      have n1_ := Aside0.mk (Kd.R_elder' (qr HO238) (Kd.R_base ho0) hb)
      have n2_ := Aside0.mk (Kd.R_lower (Kd.R_new' ho0 (Kd.R_lt (qr HO238))) (below_size (qs HB)))
      have n3_ := bkb BK222 hb; have n4_ := bkb BK223 hb; have n5_ := bkb BK248 hb; have n6_ := bst HB hb; clear HO235 HO238 BK222 BK223 BK248 HB; have HO235 := n0_; have HO238 := n1_; have HO247 := n2_; have BK222 := n3_; have BK223 := n4_; have BK248 := n5_; have HB := n6_; clear n0_ n1_ n2_ n3_ n4_ n5_ n6_; (try clear hb); (try clear hb2); (try clear hk); (try clear hi); (try clear ho0)
      refine hK.out _ _ ⟨bc BK222 0, bc BK222 1, bc BK222 2, bc BK223 0, bc BK223 1, bc BK223 2, bc BK223 3, bc BK223 4⟩ (fun hHeld => ?_)
      clear hK K
      refine normP ?_
      exact normA (hJ1_4_6_8_9_10 (.slice Ao43 t233.length co43, .slice Ao44 t236.length co44, v246, gb248) _ ⟨hHeld, (qr HO235), (qm HO238 (fun _ hk => hk.2)), (qm HO247 (fun _ hk => hk.2)), (qb BK222), (qb BK223), (qb BK248), GW248.out, GE248.out, NB222_248.out, NB248_222.out, NB223_248.out, NB248_223.out, (qs HB)⟩)
     skip
     rintro ⟨v234, v237, v246⟩ w44 ⟨hS_, h0_, h1_, h2_, h3_, h4_, h5_⟩
     have n0_ : Aside0 (Kd.R (Kd.int .i64) 2 w44 w.heap.size (fun _ => True) v234 t233) := ⟨h0_⟩
     have n1_ : Aside0 (Kd.R k60 60 w44 w.heap.size (fun k_ => some k_ ≠ (v246 : Value).ownBlock) v237 t236) := ⟨h1_⟩
     have n2_ : Aside0 (Kd.R k60 60 w44 w.heap.size (fun k_ => some k_ ≠ (v237 : Value).ownBlock) v246 t245) := ⟨h2_⟩
     have n3_ := Aside0.mk h3_; have n4_ := Aside0.mk h4_; have n5_ := Aside0.mk h5_
     clear BK222 BK223 HB h0_ h1_ h2_ h3_ h4_ h5_; have HO235 := n0_; have HO238 := n1_; have HO247 := n2_; have BK222 := n3_; have BK223 := n4_; have HB := n5_; clear n0_ n1_ n2_ n3_ n4_ n5_
     have hHeld := hS_
     refine normQ ?_
     refine one_ (i := 10) (N := some 12) #[true, true, true, true, true, true, true, true, true, true, true, false] rfl rfl (one_of HT_.out (by kernel_rfl)) (by decide) (fun K hK => ?_)
     refine box_step ?hg (N := 12) ?hd (cs := #[.bool false, .int .i64 0, .int .i64 0, .int .i64 0, .int .i64 0, .int .i64 0, .slice none 0 0]) (t := 32) ?hr ?_; (case hd => rfl); (case hg => rfl); (case hr => first | (go_simp; done) | (go_simp; rfl))
     intro gb248 hg w45 hbox hb
     have n0_ := rbl HO235 hb; have n1_ := rbl HO238 hb; have n2_ := rbl HO247 hb; have n3_ := bkb BK222 hb; have n4_ := bkb BK223 hb; have n5_ := bst HB hb
     have n6_ := Aside0.mk (hbox)
     have n7_ := nge HB hg; have n8_ := nge HB hg; have n9_ := nlt BK222 hg; have n10_ := ngt BK222 hg; have n11_ := nlt BK223 hg; have n12_ := ngt BK223 hg; clear HO235 HO238 HO247 BK222 BK223 HB; have HO235 := n0_; have HO238 := n1_; have HO247 := n2_; have BK222 := n3_; have BK223 := n4_; have HB := n5_; have BK248 := n6_; have GW248 := n7_; have GE248 := n8_; have NB222_248 := n9_; have NB248_222 := n10_; have NB223_248 := n11_; have NB248_223 := n12_; clear n0_ n1_ n2_ n3_ n4_ n5_ n6_ n7_ n8_ n9_ n10_ n11_ n12_ hb hbox hg
     refine hK.out _ _ ⟨bc BK222 0, bc BK222 1, bc BK222 2, bc BK223 0, bc BK223 1, bc BK223 2, bc BK223 3, bc BK223 4⟩ (fun hHeld => ?_)
     clear hK K
     refine normP ?_
     exact normA (hJ1_4_6_8_9_10 (v234, v237, v246, gb248) _ ⟨hHeld, (qr HO235), (qr HO238), (qr HO247), (qb BK222), (qb BK223), (qb BK248), GW248.out, GE248.out, NB222_248.out, NB248_222.out, NB223_248.out, NB248_223.out, (qs HB)⟩)
    rintro ⟨v234, v237, v246, gb248⟩ w45 ⟨hS_, h0_, h1_, h2_, h3_, h4_, h5_, h6_, h7_, h8_, h9_, h10_, h11_, h12_⟩
    have n0_ : Aside0 (Kd.R (Kd.int .i64) 2 w45 w.heap.size (fun _ => True) v234 t233) := ⟨h0_⟩
    have n1_ : Aside0 (Kd.R k60 60 w45 w.heap.size (fun k_ => some k_ ≠ (v246 : Value).ownBlock) v237 t236) := ⟨h1_⟩
    have n2_ : Aside0 (Kd.R k60 60 w45 w.heap.size (fun k_ => some k_ ≠ (v237 : Value).ownBlock) v246 t245) := ⟨h2_⟩
    have n3_ := Aside0.mk h3_; have n4_ := Aside0.mk h4_
    have n5_ : Aside0 (w45.heap[gb248]? = some (.cells #[.bool false, .int .i64 0, .int .i64 0, .int .i64 0, .int .i64 0, .int .i64 0, .slice none 0 0] 32 (0, 0))) := ⟨h5_⟩
    have n6_ : Aside0 (w.heap.size ≤ gb248) := ⟨h6_⟩
    have n7_ : Aside0 (w.heap.size ≤ gb248) := ⟨h7_⟩
    have n8_ : Aside0 (gb222 ≠ gb248) := ⟨h8_⟩
    have n9_ : Aside0 (gb248 ≠ gb222) := ⟨h9_⟩
    have n10_ : Aside0 (gb223 ≠ gb248) := ⟨h10_⟩
    have n11_ : Aside0 (gb248 ≠ gb223) := ⟨h11_⟩
    have n12_ := Aside0.mk h12_
    clear BK222 BK223 HB h0_ h1_ h2_ h3_ h4_ h5_ h6_ h7_ h8_ h9_ h10_ h11_ h12_; have HO235 := n0_; have HO238 := n1_; have HO247 := n2_; have BK222 := n3_; have BK223 := n4_; have BK248 := n5_; have GW248 := n6_; have GE248 := n7_; have NB222_248 := n8_; have NB248_222 := n9_; have NB223_248 := n10_; have NB248_223 := n11_; have HB := n12_; clear n0_ n1_ n2_ n3_ n4_ n5_ n6_ n7_ n8_ n9_ n10_ n11_ n12_
    have hHeld := hS_
    obtain ⟨Ao52, co52, eo52⟩ := Kd.R_slice HO247.out
    (first | subst eo52 | (injection eo52 with f1_ f2_ f3_; have f4_ := f1_.symm; have f5_ := f3_.symm; clear f1_ f2_ f3_; subst f4_; subst f5_))
    refine normQ ?_
    refine one_ (i := 11) (N := none) #[true, true, true, true, true, true, true, true, true, true, true, true] rfl rfl (one_of HT_.out (by kernel_rfl)) (by decide) (fun K hK => ?_)
    have hs46 : w45.cell? ⟨gb248, 0, none⟩ = some (.bool false) := bc BK248 0
    have hfs46 := blk_frozen BK248.out 0; have hns46_0 := NB222_248.out; have hns46_1 := NB223_248.out; have hms46_0 := NB248_222.out; have hms46_1 := NB248_223.out
    have hs47 : w45.cell? ⟨gb248, 1, none⟩ = some (.int .i64 0) := bc BK248 1
    have hfs47 := blk_frozen BK248.out 1; have hns47_0 := NB222_248.out; have hns47_1 := NB223_248.out; have hms47_0 := NB248_222.out; have hms47_1 := NB248_223.out
    have hs48 : w45.cell? ⟨gb248, 2, none⟩ = some (.int .i64 0) := bc BK248 2
    have hfs48 := blk_frozen BK248.out 2; have hns48_0 := NB222_248.out; have hns48_1 := NB223_248.out; have hms48_0 := NB248_222.out; have hms48_1 := NB248_223.out
    have hs49 : w45.cell? ⟨gb248, 3, none⟩ = some (.int .i64 0) := bc BK248 3
    have hfs49 := blk_frozen BK248.out 3; have hns49_0 := NB222_248.out; have hns49_1 := NB223_248.out; have hms49_0 := NB248_222.out; have hms49_1 := NB248_223.out
    have hs50 : w45.cell? ⟨gb248, 4, none⟩ = some (.int .i64 0) := bc BK248 4
    have hfs50 := blk_frozen BK248.out 4; have hns50_0 := NB222_248.out; have hns50_1 := NB223_248.out; have hms50_0 := NB248_222.out; have hms50_1 := NB248_223.out
    have hs51 : w45.cell? ⟨gb248, 5, none⟩ = some (.int .i64 0) := bc BK248 5
    have hfs51 := blk_frozen BK248.out 5; have hns51_0 := NB222_248.out; have hns51_1 := NB223_248.out; have hms51_0 := NB248_222.out; have hms51_1 := NB248_223.out
    have hs53 : w45.cell? ⟨gb248, 6, none⟩ = some (.slice none 0 0) := bc BK248 6
    have hfs53 := blk_frozen BK248.out 6; have hns53_0 := NB222_248.out; have hns53_1 := NB223_248.out; have hms53_0 := NB248_222.out; have hms53_1 := NB248_223.out
    refine skip_ (w1 := ?_) (by rfl) rfl ?_ ?_
    rotate_left
    ·go_simp
     rfl
    refine hK.out _ _ ⟨(cf NB222_248 ((cf NB222_248 ((cf NB222_248 ((cf NB222_248 ((cf NB222_248 ((cf NB222_248 ((cf NB222_248 (hHeld.1)))))))))))))), (cf NB222_248 ((cf NB222_248 ((cf NB222_248 ((cf NB222_248 ((cf NB222_248 ((cf NB222_248 ((cf NB222_248 (hHeld.2.1)))))))))))))), (cf NB222_248 ((cf NB222_248 ((cf NB222_248 ((cf NB222_248 ((cf NB222_248 ((cf NB222_248 ((cf NB222_248 (hHeld.2.2.1)))))))))))))), (cf NB223_248 ((cf NB223_248 ((cf NB223_248 ((cf NB223_248 ((cf NB223_248 ((cf NB223_248 ((cf NB223_248 (hHeld.2.2.2.1)))))))))))))), (cf NB223_248 ((cf NB223_248 ((cf NB223_248 ((cf NB223_248 ((cf NB223_248 ((cf NB223_248 ((cf NB223_248 (hHeld.2.2.2.2.1)))))))))))))), (cf NB223_248 ((cf NB223_248 ((cf NB223_248 ((cf NB223_248 ((cf NB223_248 ((cf NB223_248 ((cf NB223_248 (hHeld.2.2.2.2.2.1)))))))))))))), (cf NB223_248 ((cf NB223_248 ((cf NB223_248 ((cf NB223_248 ((cf NB223_248 ((cf NB223_248 ((cf NB223_248 (hHeld.2.2.2.2.2.2.1)))))))))))))), (cf NB223_248 ((cf NB223_248 ((cf NB223_248 ((cf NB223_248 ((cf NB223_248 ((cf NB223_248 ((cf NB223_248 (hHeld.2.2.2.2.2.2.2))))))))))))))⟩ (fun hHeld => ?_)
    clear hK K
    refine done_ (done_of HT_.out (by kernel_rfl)) ?_
    try go_wp2_with (first | ((with_reducible refine gate_callee (f := 15) rfl ?_); refine goesLA (some 39) rfl Try.func15 #[.slice A3 l3.length c3] ?_; (with_reducible refine (laws_toInt64S.calls k _ _ l3 t249 _ ?side1 ?side2 A18.out).mono ?_); (case side1 => exact Kd.C_below HR3.out (qs HB)); (case side2 => exact HC3.out); rintro e w54 ⟨v250, rfl, ho0, hb⟩; refine ⟨_, rfl, ?_⟩; have n0_ := Aside0.mk (Kd.R_elder' (by (with_reducible repeat (first | apply Kd.R_alloc | apply Kd.R_drewN | apply Kd.R_drew)); exact (Kd.R_mono (Kd.R_far (p := ⟨gb248, 6, none⟩) (Kd.R_far (p := ⟨gb248, 5, none⟩) (Kd.R_far (p := ⟨gb248, 4, none⟩) (Kd.R_far (p := ⟨gb248, 3, none⟩) (Kd.R_far (p := ⟨gb248, 2, none⟩) (Kd.R_far (p := ⟨gb248, 1, none⟩) (Kd.R_far (p := ⟨gb248, 0, none⟩) (Kd.R_types HO235.out BK248.out (by decide)) (fun _ hk => hk.2) (.bool t239)) (fun _ hk => hk.2) (.int .i64 t240)) (fun _ hk => hk.2) (.int .i64 t241)) (fun _ hk => hk.2) (.int .i64 t242)) (fun _ hk => hk.2) (.int .i64 t243)) (fun _ hk => hk.2) (.int .i64 t244)) (fun _ hk => hk.2) (.slice Ao52 t245.length co52)) (fun _ h_ => h_.1))) (Kd.R_base ho0) hb); have n1_ := Aside0.mk (Kd.R_below (by (with_reducible repeat (first | apply Kd.R_alloc | apply Kd.R_drewN | apply Kd.R_drew)); exact (Kd.R_mono (Kd.R_far (p := ⟨gb248, 6, none⟩) (Kd.R_far (p := ⟨gb248, 5, none⟩) (Kd.R_far (p := ⟨gb248, 4, none⟩) (Kd.R_far (p := ⟨gb248, 3, none⟩) (Kd.R_far (p := ⟨gb248, 2, none⟩) (Kd.R_far (p := ⟨gb248, 1, none⟩) (Kd.R_far (p := ⟨gb248, 0, none⟩) (Kd.R_types HO238.out BK248.out (by decide)) (fun _ hk => hk.2) (.bool t239)) (fun _ hk => hk.2) (.int .i64 t240)) (fun _ hk => hk.2) (.int .i64 t241)) (fun _ hk => hk.2) (.int .i64 t242)) (fun _ hk => hk.2) (.int .i64 t243)) (fun _ hk => hk.2) (.int .i64 t244)) (fun _ hk => hk.2) (.slice Ao52 t245.length co52)) (fun _ h_ => h_.1))) hb); have n2_ := Aside0.mk (Kd.R_below (by (with_reducible repeat (first | apply Kd.R_alloc | apply Kd.R_drewN | apply Kd.R_drew)); exact (Kd.R_mono (Kd.R_far (p := ⟨gb248, 6, none⟩) (Kd.R_far (p := ⟨gb248, 5, none⟩) (Kd.R_far (p := ⟨gb248, 4, none⟩) (Kd.R_far (p := ⟨gb248, 3, none⟩) (Kd.R_far (p := ⟨gb248, 2, none⟩) (Kd.R_far (p := ⟨gb248, 1, none⟩) (Kd.R_far (p := ⟨gb248, 0, none⟩) (Kd.R_types HO247.out BK248.out (by decide)) (fun _ hk => hk.2) (.bool t239)) (fun _ hk => hk.2) (.int .i64 t240)) (fun _ hk => hk.2) (.int .i64 t241)) (fun _ hk => hk.2) (.int .i64 t242)) (fun _ hk => hk.2) (.int .i64 t243)) (fun _ hk => hk.2) (.int .i64 t244)) (fun _ hk => hk.2) (.slice Ao52 t245.length co52)) (fun _ h_ => h_.1))) hb); have n3_ := Aside0.mk (Kd.R_lower (Kd.R_new' ho0 (Kd.R_lt (by (with_reducible repeat (first | apply Kd.R_alloc | apply Kd.R_drewN | apply Kd.R_drew)); exact (Kd.R_mono (Kd.R_far (p := ⟨gb248, 6, none⟩) (Kd.R_far (p := ⟨gb248, 5, none⟩) (Kd.R_far (p := ⟨gb248, 4, none⟩) (Kd.R_far (p := ⟨gb248, 3, none⟩) (Kd.R_far (p := ⟨gb248, 2, none⟩) (Kd.R_far (p := ⟨gb248, 1, none⟩) (Kd.R_far (p := ⟨gb248, 0, none⟩) (Kd.R_types HO235.out BK248.out (by decide)) (fun _ hk => hk.2) (.bool t239)) (fun _ hk => hk.2) (.int .i64 t240)) (fun _ hk => hk.2) (.int .i64 t241)) (fun _ hk => hk.2) (.int .i64 t242)) (fun _ hk => hk.2) (.int .i64 t243)) (fun _ hk => hk.2) (.int .i64 t244)) (fun _ hk => hk.2) (.slice Ao52 t245.length co52)) (fun _ h_ => h_.1))))) (below_size (qs HB))); have n4_ := Aside0.mk (blk_below (g := gb222) (o := .cells #[.int .i64 a0_0, .int .i64 a0_1, .int .i64 a0_2] 23 (0, 0)) (by (with_reducible repeat (first | refine blk_drewN ?_ _ | refine blk_drew ?_ | refine blk_alloc ?_ _)); refine blk_far ?_ NB222_248.out _; (with_reducible repeat (first | refine blk_drewN ?_ _ | refine blk_drew ?_ | refine blk_alloc ?_ _)); refine blk_far ?_ NB222_248.out _; (with_reducible repeat (first | refine blk_drewN ?_ _ | refine blk_drew ?_ | refine blk_alloc ?_ _)); refine blk_far ?_ NB222_248.out _; (with_reducible repeat (first | refine blk_drewN ?_ _ | refine blk_drew ?_ | refine blk_alloc ?_ _)); refine blk_far ?_ NB222_248.out _; (with_reducible repeat (first | refine blk_drewN ?_ _ | refine blk_drew ?_ | refine blk_alloc ?_ _)); refine blk_far ?_ NB222_248.out _; (with_reducible repeat (first | refine blk_drewN ?_ _ | refine blk_drew ?_ | refine blk_alloc ?_ _)); refine blk_far ?_ NB222_248.out _; (with_reducible repeat (first | refine blk_drewN ?_ _ | refine blk_drew ?_ | refine blk_alloc ?_ _)); refine blk_far ?_ NB222_248.out _; (with_reducible repeat (first | refine blk_drewN ?_ _ | refine blk_drew ?_ | refine blk_alloc ?_ _)); exact BK222.out) hb); have n5_ := Aside0.mk (blk_below (g := gb223) (o := .cells #[.int .i64 a2_0, .int .i64 a2_1, .int .i64 a2_2, .int .i64 a2_3, .int .i64 a2_4] 25 (0, 0)) (by (with_reducible repeat (first | refine blk_drewN ?_ _ | refine blk_drew ?_ | refine blk_alloc ?_ _)); refine blk_far ?_ NB223_248.out _; (with_reducible repeat (first | refine blk_drewN ?_ _ | refine blk_drew ?_ | refine blk_alloc ?_ _)); refine blk_far ?_ NB223_248.out _; (with_reducible repeat (first | refine blk_drewN ?_ _ | refine blk_drew ?_ | refine blk_alloc ?_ _)); refine blk_far ?_ NB223_248.out _; (with_reducible repeat (first | refine blk_drewN ?_ _ | refine blk_drew ?_ | refine blk_alloc ?_ _)); refine blk_far ?_ NB223_248.out _; (with_reducible repeat (first | refine blk_drewN ?_ _ | refine blk_drew ?_ | refine blk_alloc ?_ _)); refine blk_far ?_ NB223_248.out _; (with_reducible repeat (first | refine blk_drewN ?_ _ | refine blk_drew ?_ | refine blk_alloc ?_ _)); refine blk_far ?_ NB223_248.out _; (with_reducible repeat (first | refine blk_drewN ?_ _ | refine blk_drew ?_ | refine blk_alloc ?_ _)); refine blk_far ?_ NB223_248.out _; (with_reducible repeat (first | refine blk_drewN ?_ _ | refine blk_drew ?_ | refine blk_alloc ?_ _)); exact BK223.out) hb); have n6_ := Aside0.mk (blk_below (g := gb248) (o := .cells #[.bool t239, .int .i64 t240, .int .i64 t241, .int .i64 t242, .int .i64 t243, .int .i64 t244, .slice Ao52 t245.length co52] 32 (0, 0)) (by (with_reducible repeat (first | refine blk_drewN ?_ _ | refine blk_drew ?_ | refine blk_alloc ?_ _)); refine blk_put (cs := #[.bool t239, .int .i64 t240, .int .i64 t241, .int .i64 t242, .int .i64 t243, .int .i64 t244, .slice none 0 0]) ?_ 6 _ rfl; (with_reducible repeat (first | refine blk_drewN ?_ _ | refine blk_drew ?_ | refine blk_alloc ?_ _)); refine blk_put (cs := #[.bool t239, .int .i64 t240, .int .i64 t241, .int .i64 t242, .int .i64 t243, .int .i64 0, .slice none 0 0]) ?_ 5 _ rfl; (with_reducible repeat (first | refine blk_drewN ?_ _ | refine blk_drew ?_ | refine blk_alloc ?_ _)); refine blk_put (cs := #[.bool t239, .int .i64 t240, .int .i64 t241, .int .i64 t242, .int .i64 0, .int .i64 0, .slice none 0 0]) ?_ 4 _ rfl; (with_reducible repeat (first | refine blk_drewN ?_ _ | refine blk_drew ?_ | refine blk_alloc ?_ _)); refine blk_put (cs := #[.bool t239, .int .i64 t240, .int .i64 t241, .int .i64 0, .int .i64 0, .int .i64 0, .slice none 0 0]) ?_ 3 _ rfl; (with_reducible repeat (first | refine blk_drewN ?_ _ | refine blk_drew ?_ | refine blk_alloc ?_ _)); refine blk_put (cs := #[.bool t239, .int .i64 t240, .int .i64 0, .int .i64 0, .int .i64 0, .int .i64 0, .slice none 0 0]) ?_ 2 _ rfl; (with_reducible repeat (first | refine blk_drewN ?_ _ | refine blk_drew ?_ | refine blk_alloc ?_ _)); refine blk_put (cs := #[.bool t239, .int .i64 0, .int .i64 0, .int .i64 0, .int .i64 0, .int .i64 0, .slice none 0 0]) ?_ 1 _ rfl; (with_reducible repeat (first | refine blk_drewN ?_ _ | refine blk_drew ?_ | refine blk_alloc ?_ _)); refine blk_put (cs := #[.bool false, .int .i64 0, .int .i64 0, .int .i64 0, .int .i64 0, .int .i64 0, .slice none 0 0]) ?_ 0 _ rfl; (with_reducible repeat (first | refine blk_drewN ?_ _ | refine blk_drew ?_ | refine blk_alloc ?_ _)); exact BK248.out) hb); have n7_ := bst HB hb; clear HO235; clear HO238; clear HO247; clear BK222; clear BK223; clear BK248; clear HB; have HO235 := n0_; have HO238 := n1_; have HO247 := n2_; have HO251 := n3_; have BK222 := n4_; have BK223 := n5_; have BK248 := n6_; have HB := n7_; clear n0_ n1_ n2_ n3_ n4_ n5_ n6_ n7_; (try clear hb); (try clear hb2); (try clear hk); (try clear hi); (try clear ho0)) | ((with_reducible refine gate_callee (f := 16) rfl ?_); refine goesLA (some 41) rfl Try.func16 #[.slice A4 l4.length c4] ?_; (with_reducible refine (laws_toPacketS.calls k _ _ l4 t252 _ ?side1 ?side2 A19.out).mono ?_); (case side1 => exact qc (Kd.C_below HR4.out HB.out)); (case side2 => exact HC4.out); rintro e w55 ⟨v253, rfl, ho0, hb⟩; refine ⟨_, rfl, ?_⟩; have n0_ := rbl HO235 hb; have n1_ := Aside0.mk (Kd.R_elder' (qr HO238) (Kd.R_base ho0) hb); have n2_ := Aside0.mk (Kd.R_elder' (qr HO247) (Kd.R_base ho0) hb); have n3_ := rbl HO251 hb; have n4_ := Aside0.mk (Kd.R_lower (Kd.R_new' (Kd.R_new' ho0 (Kd.R_lt (qr HO238))) (Kd.R_lt (qr HO247))) (below_size (qs HB))); have n5_ := bkb BK222 hb; have n6_ := bkb BK223 hb; have n7_ := bkb BK248 hb; have n8_ := bst HB hb; clear HO235; clear HO238; clear HO247; clear HO251; clear BK222; clear BK223; clear BK248; clear HB; have HO235 := n0_; have HO238 := n1_; have HO247 := n2_; have HO251 := n3_; have HO254 := n4_; have BK222 := n5_; have BK223 := n6_; have BK248 := n7_; have HB := n8_; clear n0_ n1_ n2_ n3_ n4_ n5_ n6_ n7_ n8_; (try clear hb); (try clear hb2); (try clear hk); (try clear hi); (try clear ho0); obtain ⟨Ao56, co56, eo56⟩ := Kd.R_slice HO251.out; subst eo56; obtain ⟨Ao57, co57, eo57⟩ := Kd.R_slice HO254.out; subst eo57))
    have n0_ := Aside0.mk (Kd.R_drew HO235.out)
    have n1_ := Aside0.mk (Kd.R_drew HO238.out)
    have n2_ := Aside0.mk (Kd.R_drew HO247.out)
    have n3_ := Aside0.mk (Kd.R_drew HO251.out)
    have n4_ := Aside0.mk (Kd.R_drew HO254.out)
    have n5_ := Aside0.mk (blk_drew BK222.out)
    have n6_ := Aside0.mk (blk_drew BK223.out)
    have n7_ := Aside0.mk (blk_drew BK248.out)
    have n8_ := Aside0.mk (below_drew1 HB.out)
    clear HO235 HO238 HO247 HO251 HO254 BK222 BK223 BK248 HB; have HO235 := n0_; have HO238 := n1_; have HO247 := n2_; have HO251 := n3_; have HO254 := n4_; have BK222 := n5_; have BK223 := n6_; have BK248 := n7_; have HB := n8_; clear n0_ n1_ n2_ n3_ n4_ n5_ n6_ n7_ n8_
    refine start_ (n := 10) (S := fun w' => w'.cell? ⟨gb222, 0, none⟩ = some (.int .i64 a0_0) ∧ w'.cell? ⟨gb222, 1, none⟩ = some (.int .i64 a0_1) ∧ w'.cell? ⟨gb222, 2, none⟩ = some (.int .i64 a0_2) ∧ w'.cell? ⟨gb223, 0, none⟩ = some (.int .i64 a2_0) ∧ w'.cell? ⟨gb223, 1, none⟩ = some (.int .i64 a2_1) ∧ w'.cell? ⟨gb223, 2, none⟩ = some (.int .i64 a2_2) ∧ w'.cell? ⟨gb223, 3, none⟩ = some (.int .i64 a2_3) ∧ w'.cell? ⟨gb223, 4, none⟩ = some (.int .i64 a2_4)) (ds := []) #[false, false, false, false, false, false, false, false, false, false] (by kernel_rfl) rfl rfl ⟨bc BK222 0, bc BK222 1, bc BK222 2, bc BK223 0, bc BK223 1, bc BK223 2, bc BK223 3, bc BK223 4⟩ (fun hHeld => ?_); refine with_tabW laws_FnExactBoxTick.tab10 laws_FnExactBoxTick.bits10 (fun HT_ HW_ => ?_)
    generalize w55.drew = w58 at HO235 HO238 HO247 HO251 HO254 BK222 BK223 BK248 HB hHeld ⊢
    refine pure_ (i := 2) (N := some 44) (v := ?_) (a' := ?_) #[false, false, true, false, false, false, false, false, false, false] rfl rfl (any_of HT_.out (by kernel_rfl)) (fun _ _ _ h => h) (Or.inl ⟨by rfl, ?_⟩) ?_ ?_
    rotate_left
    ·intro w'
     go_simp
     with_reducible rfl
    rotate_left
    ·simp only [Act.put, List.setIfInBounds_toArray, List.set_cons_zero, List.set_cons_succ, i64_w, i32_w]
     rfl
    refine pure_ (i := 5) (N := some 47) (v := ?_) (a' := ?_) #[false, false, true, false, false, true, false, false, false, false] rfl rfl (any_of HT_.out (by kernel_rfl)) (fun _ _ _ h => h) (Or.inl ⟨by rfl, ?_⟩) ?_ ?_
    rotate_left
    ·intro w'
     go_simp
     with_reducible rfl
    rotate_left
    ·simp only [Act.put, List.setIfInBounds_toArray, List.set_cons_zero, List.set_cons_succ, i64_w, i32_w]
     rfl
    refine pure_ (i := 6) (N := some 48) (v := ?_) (a' := ?_) #[false, false, true, false, false, true, true, false, false, false] rfl rfl (any_of HT_.out (by kernel_rfl)) (fun _ _ _ h => h) (Or.inl ⟨by rfl, ?_⟩) ?_ ?_
    rotate_left
    ·intro w'
     go_simp
     with_reducible rfl
    rotate_left
    ·simp only [Act.put, List.setIfInBounds_toArray, List.set_cons_zero, List.set_cons_succ, i64_w, i32_w]
     rfl
    refine take_ (i := 0) (N := some 42) (v := ?_) (a' := ?_) #[true, false, true, false, false, true, true, false, false, false] rfl rfl (take_ofW HT_.out HW_.out (by kernel_rfl)) (fun _ _ _ h => h) (Or.inl ⟨by rfl, ?_⟩) hHeld ?_ ?_
    rotate_left
    ·rintro w' ⟨s0, s1, s2, s3, s4, s5, s6, s7⟩
     go_simp
     with_reducible rfl
    rotate_left
    ·simp only [Act.put, List.setIfInBounds_toArray, List.set_cons_zero, List.set_cons_succ, i64_w, i32_w]
     rfl
    refine take_ (i := 3) (N := some 45) (v := ?_) (a' := ?_) #[true, false, true, true, false, true, true, false, false, false] rfl rfl (take_ofW HT_.out HW_.out (by kernel_rfl)) (fun _ _ _ h => h) (Or.inl ⟨by rfl, ?_⟩) hHeld ?_ ?_
    rotate_left
    ·rintro w' ⟨s0, s1, s2, s3, s4, s5, s6, s7⟩
     go_simp
     with_reducible rfl
    rotate_left
    ·simp only [Act.put, List.setIfInBounds_toArray, List.set_cons_zero, List.set_cons_succ, i64_w, i32_w]
     rfl
    refine join_ (σ := Value × Nat) 1 #[true, true, true, true, true, true, true, true, true, false] (fun s_ => [(43, .agg #[.int .i64 t255, .int .i64 t256, .int .i64 t257]), (46, .agg #[.int .i64 t258, .int .i64 t259, .int .i64 t260, .int .i64 t261, .int .i64 t262]), (49, .agg #[.bool t263, .int .i64 t264, .int .i64 t265, .int .i64 t266, .int .i64 t267, .int .i64 t268, s_.1]), (15, .pointer (some ⟨s_.2, 0, none⟩))]) (fun s_ w' => (w'.cell? ⟨gb222, 0, none⟩ = some (.int .i64 a0_0) ∧ w'.cell? ⟨gb222, 1, none⟩ = some (.int .i64 a0_1) ∧ w'.cell? ⟨gb222, 2, none⟩ = some (.int .i64 a0_2) ∧ w'.cell? ⟨gb223, 0, none⟩ = some (.int .i64 a2_0) ∧ w'.cell? ⟨gb223, 1, none⟩ = some (.int .i64 a2_1) ∧ w'.cell? ⟨gb223, 2, none⟩ = some (.int .i64 a2_2) ∧ w'.cell? ⟨gb223, 3, none⟩ = some (.int .i64 a2_3) ∧ w'.cell? ⟨gb223, 4, none⟩ = some (.int .i64 a2_4)) ∧ (Kd.R (Kd.int .i64) 2 w' w.heap.size (fun k_ => some k_ ≠ (.slice Ao56 t249.length co56 : Value).ownBlock) v234 t233) ∧ (Kd.R k60 60 w' w.heap.size (fun k_ => some k_ ≠ (.slice Ao52 t245.length co52 : Value).ownBlock ∧ some k_ ≠ (.slice Ao57 t252.length co57 : Value).ownBlock ∧ some k_ ≠ (s_.1 : Value).ownBlock) v237 t236) ∧ (Kd.R k60 60 w' w.heap.size (fun k_ => some k_ ≠ (v237 : Value).ownBlock ∧ some k_ ≠ (.slice Ao57 t252.length co57 : Value).ownBlock ∧ some k_ ≠ (s_.1 : Value).ownBlock) (.slice Ao52 t245.length co52) t245) ∧ (Kd.R (Kd.int .i64) 2 w' w.heap.size (fun k_ => some k_ ≠ (v234 : Value).ownBlock) (.slice Ao56 t249.length co56) t249) ∧ (Kd.R k60 60 w' w.heap.size (fun k_ => some k_ ≠ (v237 : Value).ownBlock ∧ some k_ ≠ (.slice Ao52 t245.length co52 : Value).ownBlock ∧ some k_ ≠ (s_.1 : Value).ownBlock) (.slice Ao57 t252.length co57) t252) ∧ (Kd.R k60 60 w' w.heap.size (fun k_ => some k_ ≠ (v237 : Value).ownBlock ∧ some k_ ≠ (.slice Ao52 t245.length co52 : Value).ownBlock ∧ some k_ ≠ (.slice Ao57 t252.length co57 : Value).ownBlock) s_.1 t269) ∧ (w'.heap[gb222]? = some (.cells #[.int .i64 a0_0, .int .i64 a0_1, .int .i64 a0_2] 23 (0, 0))) ∧ (w'.heap[gb223]? = some (.cells #[.int .i64 a2_0, .int .i64 a2_1, .int .i64 a2_2, .int .i64 a2_3, .int .i64 a2_4] 25 (0, 0))) ∧ (w'.heap[gb248]? = some (.cells #[.bool t239, .int .i64 t240, .int .i64 t241, .int .i64 t242, .int .i64 t243, .int .i64 t244, .slice Ao52 t245.length co52] 32 (0, 0))) ∧ (w'.heap[s_.2]? = some (.cells #[.bool false, .int .i64 0, .int .i64 0, .int .i64 0, .int .i64 0, .int .i64 0, .slice none 0 0] 32 (0, 0))) ∧ (w.heap.size ≤ s_.2) ∧ (w.heap.size ≤ s_.2) ∧ (gb222 ≠ s_.2) ∧ (s_.2 ≠ gb222) ∧ (gb223 ≠ s_.2) ∧ (s_.2 ≠ gb223) ∧ (gb248 ≠ s_.2) ∧ (s_.2 ≠ gb248) ∧ (Below w.heap.size w w')) ?_ ?_
    rotate_left
    ·intro hCont
     refine two_ (i := 1) (j := 8) (Ni := some 43) (Nj := some 15) #[true, true, true, true, false, true, true, false, false, false] #[true, false, true, true, false, true, true, false, true, false] rfl rfl rfl rfl (two_of HT_.out (by kernel_rfl)) (by decide) (by decide) (fun K hK => ?_) (fun K hK => ?_)
     ·skip
      refine goesA Try.func13 #[.agg #[.int .i64 a0_0, .int .i64 a0_1, .int .i64 a0_2]] ?_
      with_reducible refine (laws_toRules.calls a0_0 a0_1 a0_2 t255 t256 t257 _ A20.out).mono ?_
      rintro e w59 ⟨rfl, hb⟩
      refine ⟨_, rfl, ?_⟩
      have n0_ := rbl HO235 hb; have n1_ := rbl HO238 hb; have n2_ := rbl HO247 hb; have n3_ := rbl HO251 hb; have n4_ := rbl HO254 hb; have n5_ := bkb BK222 hb; have n6_ := bkb BK223 hb; have n7_ := bkb BK248 hb; have n8_ := bst HB hb; clear HO235 HO238 HO247 HO251 HO254 BK222 BK223 BK248 HB; have HO235 := n0_; have HO238 := n1_; have HO247 := n2_; have HO251 := n3_; have HO254 := n4_; have BK222 := n5_; have BK223 := n6_; have BK248 := n7_; have HB := n8_; clear n0_ n1_ n2_ n3_ n4_ n5_ n6_ n7_ n8_; (try clear hb); (try clear hb2); (try clear hk); (try clear hi)
      refine hK.out _ _ ⟨bc BK222 0, bc BK222 1, bc BK222 2, bc BK223 0, bc BK223 1, bc BK223 2, bc BK223 3, bc BK223 4⟩ (fun hHeld => ?_)
      clear hK K
      refine normP ?_
      refine two_ (i := 4) (j := 8) (Ni := some 46) (Nj := some 15) #[true, true, true, true, true, true, true, false, false, false] #[true, true, true, true, false, true, true, false, true, false] rfl rfl rfl rfl (two_of HT_.out (by kernel_rfl)) (by decide) (by decide) (fun K hK => ?_) (fun K hK => ?_)
      ·skip
       refine goesA Try.func14 #[.agg #[.int .i64 a2_0, .int .i64 a2_1, .int .i64 a2_2, .int .i64 a2_3, .int .i64 a2_4]] ?_
       with_reducible refine (laws_toBox.calls a2_0 a2_1 a2_2 a2_3 a2_4 t258 t259 t260 t261 t262 _ A21.out).mono ?_
       rintro e w60 ⟨rfl, hb⟩
       refine ⟨_, rfl, ?_⟩
       have n0_ := rbl HO235 hb; have n1_ := rbl HO238 hb; have n2_ := rbl HO247 hb; have n3_ := rbl HO251 hb; have n4_ := rbl HO254 hb; have n5_ := bkb BK222 hb; have n6_ := bkb BK223 hb; have n7_ := bkb BK248 hb; have n8_ := bst HB hb; clear HO235 HO238 HO247 HO251 HO254 BK222 BK223 BK248 HB; have HO235 := n0_; have HO238 := n1_; have HO247 := n2_; have HO251 := n3_; have HO254 := n4_; have BK222 := n5_; have BK223 := n6_; have BK248 := n7_; have HB := n8_; clear n0_ n1_ n2_ n3_ n4_ n5_ n6_ n7_ n8_; (try clear hb); (try clear hb2); (try clear hk); (try clear hi)
       refine hK.out _ _ ⟨bc BK222 0, bc BK222 1, bc BK222 2, bc BK223 0, bc BK223 1, bc BK223 2, bc BK223 3, bc BK223 4⟩ (fun hHeld => ?_)
       clear hK K
       refine normP ?_
       refine two_ (i := 7) (j := 8) (Ni := some 49) (Nj := some 15) #[true, true, true, true, true, true, true, true, false, false] #[true, true, true, true, true, true, true, false, true, false] rfl rfl rfl rfl (two_of HT_.out (by kernel_rfl)) (by decide) (by decide) (fun K hK => ?_) (fun K hK => ?_)
       ·skip
        refine goesA Try.func17 #[.agg #[.int .i64 t255, .int .i64 t256, .int .i64 t257], .int .i64 a1, .agg #[.int .i64 t258, .int .i64 t259, .int .i64 t260, .int .i64 t261, .int .i64 t262], .slice Ao56 t249.length co56, .slice Ao57 t252.length co57] ?_
        with_reducible refine (impl_BoxTick.calls k t255 t256 t257 a1 t258 t259 t260 t261 t262 _ _ t249 _ _ t252 t263 t264 t265 t266 t267 t268 t269 _ ?side1 ?side2 ?side3 ?side4 A22.out).mono ?_
        (case side1 => exact qc (Kd.R_reads' HO251.out).2.2)
        (case side2 => exact (Kd.R_reads' HO251.out).2.1)
        (case side3 => exact qc (Kd.R_reads' HO254.out).2.2)
        (case side4 => exact (Kd.R_reads' HO254.out).2.1)
        rintro e w61 ⟨v270, rfl, ho0, hb⟩
        refine ⟨_, rfl, ?_⟩
        have n0_ := rbl HO235 hb
        have n1_ := Aside0.mk (Kd.R_elder' (qr HO238) (Kd.R_base ho0) hb)
        have n2_ := Aside0.mk (Kd.R_elder' (qr HO247) (Kd.R_base ho0) hb)
        have n3_ := rbl HO251 hb
        have n4_ := Aside0.mk (Kd.R_elder' (qr HO254) (Kd.R_base ho0) hb)
        have n5_ := Aside0.mk (Kd.R_lower (Kd.R_new' (Kd.R_new' (Kd.R_new' ho0 (Kd.R_lt (qr HO238))) (Kd.R_lt (qr HO247))) (Kd.R_lt (qr HO254))) (below_size (qs HB)))
        have n6_ := bkb BK222 hb; have n7_ := bkb BK223 hb; have n8_ := bkb BK248 hb; have n9_ := bst HB hb; clear HO235 HO238 HO247 HO251 HO254 BK222 BK223 BK248 HB; have HO235 := n0_; have HO238 := n1_; have HO247 := n2_; have HO251 := n3_; have HO254 := n4_; have HO271 := n5_; have BK222 := n6_; have BK223 := n7_; have BK248 := n8_; have HB := n9_; clear n0_ n1_ n2_ n3_ n4_ n5_ n6_ n7_ n8_ n9_; (try clear hb); (try clear hb2); (try clear hk); (try clear hi); (try clear ho0)
        refine hK.out _ _ ⟨bc BK222 0, bc BK222 1, bc BK222 2, bc BK223 0, bc BK223 1, bc BK223 2, bc BK223 3, bc BK223 4⟩ (fun hHeld => ?_)
        clear hK K
        refine normP ?_
        refine one_ (i := 8) (N := some 15) #[true, true, true, true, true, true, true, true, true, false] rfl rfl (one_of HT_.out (by kernel_rfl)) (by decide) (fun K hK => ?_)
        refine box_step ?hg (N := 15) ?hd (cs := #[.bool false, .int .i64 0, .int .i64 0, .int .i64 0, .int .i64 0, .int .i64 0, .slice none 0 0]) (t := 32) ?hr ?_; (case hd => rfl); (case hg => rfl); (case hr => first | (go_simp; done) | (go_simp; rfl))
        intro gb272 hg w62 hbox hb
        have n0_ := rbl HO235 hb; have n1_ := rbl HO238 hb; have n2_ := rbl HO247 hb; have n3_ := rbl HO251 hb; have n4_ := rbl HO254 hb; have n5_ := rbl HO271 hb; have n6_ := bkb BK222 hb; have n7_ := bkb BK223 hb; have n8_ := bkb BK248 hb; have n9_ := bst HB hb
        have n10_ := Aside0.mk (hbox)
        have n11_ := nge HB hg; have n12_ := nge HB hg; have n13_ := nlt BK222 hg; have n14_ := ngt BK222 hg; have n15_ := nlt BK223 hg; have n16_ := ngt BK223 hg; have n17_ := nlt BK248 hg; have n18_ := ngt BK248 hg; clear HO235 HO238 HO247 HO251 HO254 HO271 BK222 BK223 BK248 HB; have HO235 := n0_; have HO238 := n1_; have HO247 := n2_; have HO251 := n3_; have HO254 := n4_; have HO271 := n5_; have BK222 := n6_; have BK223 := n7_; have BK248 := n8_; have HB := n9_; have BK272 := n10_; have GW272 := n11_; have GE272 := n12_; have NB222_272 := n13_; have NB272_222 := n14_; have NB223_272 := n15_; have NB272_223 := n16_; have NB248_272 := n17_; have NB272_248 := n18_; clear n0_ n1_ n2_ n3_ n4_ n5_ n6_ n7_ n8_ n9_ n10_ n11_ n12_ n13_ n14_ n15_ n16_ n17_ n18_ hb hbox hg
        refine hK.out _ _ ⟨bc BK222 0, bc BK222 1, bc BK222 2, bc BK223 0, bc BK223 1, bc BK223 2, bc BK223 3, bc BK223 4⟩ (fun hHeld => ?_)
        clear hK K
        refine normP ?_
        exact normA (hCont (v270, gb272) _ ⟨hHeld, (qm HO235 (fun _ hk => hk.2)), (qm HO238 (fun _ hk => ⟨hk.1.1, ⟨hk.1.2, hk.2⟩⟩)), (qm HO247 (fun _ hk => ⟨hk.1.1, ⟨hk.1.2, hk.2⟩⟩)), (qm HO251 (fun _ hk => hk.2)), (qm HO254 (fun _ hk => ⟨hk.1.1.2, ⟨hk.1.2, hk.2⟩⟩)), (qm HO271 (fun _ hk => ⟨hk.1.1.2, ⟨hk.1.2, hk.2⟩⟩)), (qb BK222), (qb BK223), (qb BK248), (qb BK272), GW272.out, GE272.out, NB222_272.out, NB272_222.out, NB223_272.out, NB272_223.out, NB248_272.out, NB272_248.out, (qs HB)⟩)
       skip
       refine box_step ?hg (N := 15) ?hd (cs := #[.bool false, .int .i64 0, .int .i64 0, .int .i64 0, .int .i64 0, .int .i64 0, .slice none 0 0]) (t := 32) ?hr ?_; (case hd => rfl); (case hg => rfl); (case hr => first | (go_simp; done) | (go_simp; rfl))
       intro gb272 hg w61 hbox hb
       have n0_ := rbl HO235 hb; have n1_ := rbl HO238 hb; have n2_ := rbl HO247 hb; have n3_ := rbl HO251 hb; have n4_ := rbl HO254 hb; have n5_ := bkb BK222 hb; have n6_ := bkb BK223 hb; have n7_ := bkb BK248 hb; have n8_ := bst HB hb
       have n9_ := Aside0.mk (hbox)
       have n10_ := nge HB hg; have n11_ := nge HB hg; have n12_ := nlt BK222 hg; have n13_ := ngt BK222 hg; have n14_ := nlt BK223 hg; have n15_ := ngt BK223 hg; have n16_ := nlt BK248 hg; have n17_ := ngt BK248 hg; clear HO235 HO238 HO247 HO251 HO254 BK222 BK223 BK248 HB; have HO235 := n0_; have HO238 := n1_; have HO247 := n2_; have HO251 := n3_; have HO254 := n4_; have BK222 := n5_; have BK223 := n6_; have BK248 := n7_; have HB := n8_; have BK272 := n9_; have GW272 := n10_; have GE272 := n11_; have NB222_272 := n12_; have NB272_222 := n13_; have NB223_272 := n14_; have NB272_223 := n15_; have NB248_272 := n16_; have NB272_248 := n17_; clear n0_ n1_ n2_ n3_ n4_ n5_ n6_ n7_ n8_ n9_ n10_ n11_ n12_ n13_ n14_ n15_ n16_ n17_ hb hbox hg
       refine hK.out _ _ ⟨bc BK222 0, bc BK222 1, bc BK222 2, bc BK223 0, bc BK223 1, bc BK223 2, bc BK223 3, bc BK223 4⟩ (fun hHeld => ?_)
       clear hK K
       refine normP ?_
       refine one_ (i := 7) (N := some 49) #[true, true, true, true, true, true, true, true, true, false] rfl rfl (one_of HT_.out (by kernel_rfl)) (by decide) (fun K hK => ?_)
       refine goesA Try.func17 #[.agg #[.int .i64 t255, .int .i64 t256, .int .i64 t257], .int .i64 a1, .agg #[.int .i64 t258, .int .i64 t259, .int .i64 t260, .int .i64 t261, .int .i64 t262], .slice Ao56 t249.length co56, .slice Ao57 t252.length co57] ?_
       with_reducible refine (impl_BoxTick.calls k t255 t256 t257 a1 t258 t259 t260 t261 t262 _ _ t249 _ _ t252 t263 t264 t265 t266 t267 t268 t269 _ ?side1 ?side2 ?side3 ?side4 A22.out).mono ?_
       (case side1 => exact qc (Kd.R_reads' HO251.out).2.2)
       (case side2 => exact (Kd.R_reads' HO251.out).2.1)
       (case side3 => exact qc (Kd.R_reads' HO254.out).2.2)
       (case side4 => exact (Kd.R_reads' HO254.out).2.1)
       rintro e w62 ⟨v270, rfl, ho0, hb⟩
       refine ⟨_, rfl, ?_⟩
       have n0_ := rbl HO235 hb
       have n1_ := Aside0.mk (Kd.R_elder' (qr HO238) (Kd.R_base ho0) hb)
       have n2_ := Aside0.mk (Kd.R_elder' (qr HO247) (Kd.R_base ho0) hb)
       have n3_ := rbl HO251 hb
       have n4_ := Aside0.mk (Kd.R_elder' (qr HO254) (Kd.R_base ho0) hb)
       have n5_ := Aside0.mk (Kd.R_lower (Kd.R_new' (Kd.R_new' (Kd.R_new' ho0 (Kd.R_lt (qr HO238))) (Kd.R_lt (qr HO247))) (Kd.R_lt (qr HO254))) (below_size (qs HB)))
       have n6_ := bkb BK222 hb; have n7_ := bkb BK223 hb; have n8_ := bkb BK248 hb; have n9_ := bkb BK272 hb; have n10_ := bst HB hb; clear HO235 HO238 HO247 HO251 HO254 BK222 BK223 BK248 BK272 HB; have HO235 := n0_; have HO238 := n1_; have HO247 := n2_; have HO251 := n3_; have HO254 := n4_; have HO271 := n5_; have BK222 := n6_; have BK223 := n7_; have BK248 := n8_; have BK272 := n9_; have HB := n10_; clear n0_ n1_ n2_ n3_ n4_ n5_ n6_ n7_ n8_ n9_ n10_; (try clear hb); (try clear hb2); (try clear hk); (try clear hi); (try clear ho0)
       refine hK.out _ _ ⟨bc BK222 0, bc BK222 1, bc BK222 2, bc BK223 0, bc BK223 1, bc BK223 2, bc BK223 3, bc BK223 4⟩ (fun hHeld => ?_)
       clear hK K
       refine normP ?_
       exact normA (hCont (v270, gb272) _ ⟨hHeld, (qm HO235 (fun _ hk => hk.2)), (qm HO238 (fun _ hk => ⟨hk.1.1, ⟨hk.1.2, hk.2⟩⟩)), (qm HO247 (fun _ hk => ⟨hk.1.1, ⟨hk.1.2, hk.2⟩⟩)), (qm HO251 (fun _ hk => hk.2)), (qm HO254 (fun _ hk => ⟨hk.1.1.2, ⟨hk.1.2, hk.2⟩⟩)), (qm HO271 (fun _ hk => ⟨hk.1.1.2, ⟨hk.1.2, hk.2⟩⟩)), (qb BK222), (qb BK223), (qb BK248), (qb BK272), GW272.out, GE272.out, NB222_272.out, NB272_222.out, NB223_272.out, NB272_223.out, NB248_272.out, NB272_248.out, (qs HB)⟩)
      skip
      refine box_step ?hg (N := 15) ?hd (cs := #[.bool false, .int .i64 0, .int .i64 0, .int .i64 0, .int .i64 0, .int .i64 0, .slice none 0 0]) (t := 32) ?hr ?_; (case hd => rfl); (case hg => rfl); (case hr => first | (go_simp; done) | (go_simp; rfl))
      intro gb272 hg w60 hbox hb
      have n0_ := rbl HO235 hb; have n1_ := rbl HO238 hb; have n2_ := rbl HO247 hb; have n3_ := rbl HO251 hb; have n4_ := rbl HO254 hb; have n5_ := bkb BK222 hb; have n6_ := bkb BK223 hb; have n7_ := bkb BK248 hb; have n8_ := bst HB hb
      have n9_ := Aside0.mk (hbox)
      have n10_ := nge HB hg; have n11_ := nge HB hg; have n12_ := nlt BK222 hg; have n13_ := ngt BK222 hg; have n14_ := nlt BK223 hg; have n15_ := ngt BK223 hg; have n16_ := nlt BK248 hg; have n17_ := ngt BK248 hg; clear HO235 HO238 HO247 HO251 HO254 BK222 BK223 BK248 HB; have HO235 := n0_; have HO238 := n1_; have HO247 := n2_; have HO251 := n3_; have HO254 := n4_; have BK222 := n5_; have BK223 := n6_; have BK248 := n7_; have HB := n8_; have BK272 := n9_; have GW272 := n10_; have GE272 := n11_; have NB222_272 := n12_; have NB272_222 := n13_; have NB223_272 := n14_; have NB272_223 := n15_; have NB248_272 := n16_; have NB272_248 := n17_; clear n0_ n1_ n2_ n3_ n4_ n5_ n6_ n7_ n8_ n9_ n10_ n11_ n12_ n13_ n14_ n15_ n16_ n17_ hb hbox hg
      refine hK.out _ _ ⟨bc BK222 0, bc BK222 1, bc BK222 2, bc BK223 0, bc BK223 1, bc BK223 2, bc BK223 3, bc BK223 4⟩ (fun hHeld => ?_)
      clear hK K
      refine normP ?_
      refine one_ (i := 4) (N := some 46) #[true, true, true, true, true, true, true, false, true, false] rfl rfl (one_of HT_.out (by kernel_rfl)) (by decide) (fun K hK => ?_)
      refine goesA Try.func14 #[.agg #[.int .i64 a2_0, .int .i64 a2_1, .int .i64 a2_2, .int .i64 a2_3, .int .i64 a2_4]] ?_
      with_reducible refine (laws_toBox.calls a2_0 a2_1 a2_2 a2_3 a2_4 t258 t259 t260 t261 t262 _ A21.out).mono ?_
      rintro e w61 ⟨rfl, hb⟩
      refine ⟨_, rfl, ?_⟩
      have n0_ := rbl HO235 hb; have n1_ := rbl HO238 hb; have n2_ := rbl HO247 hb; have n3_ := rbl HO251 hb; have n4_ := rbl HO254 hb; have n5_ := bkb BK222 hb; have n6_ := bkb BK223 hb; have n7_ := bkb BK248 hb; have n8_ := bkb BK272 hb; have n9_ := bst HB hb; clear HO235 HO238 HO247 HO251 HO254 BK222 BK223 BK248 BK272 HB; have HO235 := n0_; have HO238 := n1_; have HO247 := n2_; have HO251 := n3_; have HO254 := n4_; have BK222 := n5_; have BK223 := n6_; have BK248 := n7_; have BK272 := n8_; have HB := n9_; clear n0_ n1_ n2_ n3_ n4_ n5_ n6_ n7_ n8_ n9_; (try clear hb); (try clear hb2); (try clear hk); (try clear hi)
      refine hK.out _ _ ⟨bc BK222 0, bc BK222 1, bc BK222 2, bc BK223 0, bc BK223 1, bc BK223 2, bc BK223 3, bc BK223 4⟩ (fun hHeld => ?_)
      clear hK K
      refine normP ?_
      refine one_ (i := 7) (N := some 49) #[true, true, true, true, true, true, true, true, true, false] rfl rfl (one_of HT_.out (by kernel_rfl)) (by decide) (fun K hK => ?_)
      refine goesA Try.func17 #[.agg #[.int .i64 t255, .int .i64 t256, .int .i64 t257], .int .i64 a1, .agg #[.int .i64 t258, .int .i64 t259, .int .i64 t260, .int .i64 t261, .int .i64 t262], .slice Ao56 t249.length co56, .slice Ao57 t252.length co57] ?_
      with_reducible refine (impl_BoxTick.calls k t255 t256 t257 a1 t258 t259 t260 t261 t262 _ _ t249 _ _ t252 t263 t264 t265 t266 t267 t268 t269 _ ?side1 ?side2 ?side3 ?side4 A22.out).mono ?_
      (case side1 => exact qc (Kd.R_reads' HO251.out).2.2)
      (case side2 => exact (Kd.R_reads' HO251.out).2.1)
      (case side3 => exact qc (Kd.R_reads' HO254.out).2.2)
      (case side4 => exact (Kd.R_reads' HO254.out).2.1)
      rintro e w62 ⟨v270, rfl, ho0, hb⟩
      refine ⟨_, rfl, ?_⟩
      have n0_ := rbl HO235 hb
      have n1_ := Aside0.mk (Kd.R_elder' (qr HO238) (Kd.R_base ho0) hb)
      have n2_ := Aside0.mk (Kd.R_elder' (qr HO247) (Kd.R_base ho0) hb)
      have n3_ := rbl HO251 hb
      have n4_ := Aside0.mk (Kd.R_elder' (qr HO254) (Kd.R_base ho0) hb)
      have n5_ := Aside0.mk (Kd.R_lower (Kd.R_new' (Kd.R_new' (Kd.R_new' ho0 (Kd.R_lt (qr HO238))) (Kd.R_lt (qr HO247))) (Kd.R_lt (qr HO254))) (below_size (qs HB)))
      have n6_ := bkb BK222 hb; have n7_ := bkb BK223 hb; have n8_ := bkb BK248 hb; have n9_ := bkb BK272 hb; have n10_ := bst HB hb; clear HO235 HO238 HO247 HO251 HO254 BK222 BK223 BK248 BK272 HB; have HO235 := n0_; have HO238 := n1_; have HO247 := n2_; have HO251 := n3_; have HO254 := n4_; have HO271 := n5_; have BK222 := n6_; have BK223 := n7_; have BK248 := n8_; have BK272 := n9_; have HB := n10_; clear n0_ n1_ n2_ n3_ n4_ n5_ n6_ n7_ n8_ n9_ n10_; (try clear hb); (try clear hb2); (try clear hk); (try clear hi); (try clear ho0)
      refine hK.out _ _ ⟨bc BK222 0, bc BK222 1, bc BK222 2, bc BK223 0, bc BK223 1, bc BK223 2, bc BK223 3, bc BK223 4⟩ (fun hHeld => ?_)
      clear hK K
      refine normP ?_
      exact normA (hCont (v270, gb272) _ ⟨hHeld, (qm HO235 (fun _ hk => hk.2)), (qm HO238 (fun _ hk => ⟨hk.1.1, ⟨hk.1.2, hk.2⟩⟩)), (qm HO247 (fun _ hk => ⟨hk.1.1, ⟨hk.1.2, hk.2⟩⟩)), (qm HO251 (fun _ hk => hk.2)), (qm HO254 (fun _ hk => ⟨hk.1.1.2, ⟨hk.1.2, hk.2⟩⟩)), (qm HO271 (fun _ hk => ⟨hk.1.1.2, ⟨hk.1.2, hk.2⟩⟩)), (qb BK222), (qb BK223), (qb BK248), (qb BK272), GW272.out, GE272.out, NB222_272.out, NB272_222.out, NB223_272.out, NB272_223.out, NB248_272.out, NB272_248.out, (qs HB)⟩)
     skip
     refine box_step ?hg (N := 15) ?hd (cs := #[.bool false, .int .i64 0, .int .i64 0, .int .i64 0, .int .i64 0, .int .i64 0, .slice none 0 0]) (t := 32) ?hr ?_; (case hd => rfl); (case hg => rfl); (case hr => first | (go_simp; done) | (go_simp; rfl))
     intro gb272 hg w59 hbox hb
     have n0_ := rbl HO235 hb; have n1_ := rbl HO238 hb; have n2_ := rbl HO247 hb; have n3_ := rbl HO251 hb; have n4_ := rbl HO254 hb; have n5_ := bkb BK222 hb; have n6_ := bkb BK223 hb; have n7_ := bkb BK248 hb; have n8_ := bst HB hb
     have n9_ := Aside0.mk (hbox)
     have n10_ := nge HB hg; have n11_ := nge HB hg; have n12_ := nlt BK222 hg; have n13_ := ngt BK222 hg; have n14_ := nlt BK223 hg; have n15_ := ngt BK223 hg; have n16_ := nlt BK248 hg; have n17_ := ngt BK248 hg; clear HO235 HO238 HO247 HO251 HO254 BK222 BK223 BK248 HB; have HO235 := n0_; have HO238 := n1_; have HO247 := n2_; have HO251 := n3_; have HO254 := n4_; have BK222 := n5_; have BK223 := n6_; have BK248 := n7_; have HB := n8_; have BK272 := n9_; have GW272 := n10_; have GE272 := n11_; have NB222_272 := n12_; have NB272_222 := n13_; have NB223_272 := n14_; have NB272_223 := n15_; have NB248_272 := n16_; have NB272_248 := n17_; clear n0_ n1_ n2_ n3_ n4_ n5_ n6_ n7_ n8_ n9_ n10_ n11_ n12_ n13_ n14_ n15_ n16_ n17_ hb hbox hg
     refine hK.out _ _ ⟨bc BK222 0, bc BK222 1, bc BK222 2, bc BK223 0, bc BK223 1, bc BK223 2, bc BK223 3, bc BK223 4⟩ (fun hHeld => ?_)
     clear hK K
     refine normP ?_
     refine one_ (i := 1) (N := some 43) #[true, true, true, true, false, true, true, false, true, false] rfl rfl (one_of HT_.out (by kernel_rfl)) (by decide) (fun K hK => ?_)
     refine goesA Try.func13 #[.agg #[.int .i64 a0_0, .int .i64 a0_1, .int .i64 a0_2]] ?_
     with_reducible refine (laws_toRules.calls a0_0 a0_1 a0_2 t255 t256 t257 _ A20.out).mono ?_
     rintro e w60 ⟨rfl, hb⟩
     refine ⟨_, rfl, ?_⟩
     have n0_ := rbl HO235 hb; have n1_ := rbl HO238 hb; have n2_ := rbl HO247 hb; have n3_ := rbl HO251 hb; have n4_ := rbl HO254 hb; have n5_ := bkb BK222 hb; have n6_ := bkb BK223 hb; have n7_ := bkb BK248 hb; have n8_ := bkb BK272 hb; have n9_ := bst HB hb; clear HO235 HO238 HO247 HO251 HO254 BK222 BK223 BK248 BK272 HB; have HO235 := n0_; have HO238 := n1_; have HO247 := n2_; have HO251 := n3_; have HO254 := n4_; have BK222 := n5_; have BK223 := n6_; have BK248 := n7_; have BK272 := n8_; have HB := n9_; clear n0_ n1_ n2_ n3_ n4_ n5_ n6_ n7_ n8_ n9_; (try clear hb); (try clear hb2); (try clear hk); (try clear hi)
     refine hK.out _ _ ⟨bc BK222 0, bc BK222 1, bc BK222 2, bc BK223 0, bc BK223 1, bc BK223 2, bc BK223 3, bc BK223 4⟩ (fun hHeld => ?_)
     clear hK K
     refine normP ?_
     refine one_ (i := 4) (N := some 46) #[true, true, true, true, true, true, true, false, true, false] rfl rfl (one_of HT_.out (by kernel_rfl)) (by decide) (fun K hK => ?_)
     refine goesA Try.func14 #[.agg #[.int .i64 a2_0, .int .i64 a2_1, .int .i64 a2_2, .int .i64 a2_3, .int .i64 a2_4]] ?_
     with_reducible refine (laws_toBox.calls a2_0 a2_1 a2_2 a2_3 a2_4 t258 t259 t260 t261 t262 _ A21.out).mono ?_
     rintro e w61 ⟨rfl, hb⟩
     refine ⟨_, rfl, ?_⟩
     have n0_ := rbl HO235 hb; have n1_ := rbl HO238 hb; have n2_ := rbl HO247 hb; have n3_ := rbl HO251 hb; have n4_ := rbl HO254 hb; have n5_ := bkb BK222 hb; have n6_ := bkb BK223 hb; have n7_ := bkb BK248 hb; have n8_ := bkb BK272 hb; have n9_ := bst HB hb; clear HO235 HO238 HO247 HO251 HO254 BK222 BK223 BK248 BK272 HB; have HO235 := n0_; have HO238 := n1_; have HO247 := n2_; have HO251 := n3_; have HO254 := n4_; have BK222 := n5_; have BK223 := n6_; have BK248 := n7_; have BK272 := n8_; have HB := n9_; clear n0_ n1_ n2_ n3_ n4_ n5_ n6_ n7_ n8_ n9_; (try clear hb); (try clear hb2); (try clear hk); (try clear hi)
     refine hK.out _ _ ⟨bc BK222 0, bc BK222 1, bc BK222 2, bc BK223 0, bc BK223 1, bc BK223 2, bc BK223 3, bc BK223 4⟩ (fun hHeld => ?_)
     clear hK K
     refine normP ?_
     refine one_ (i := 7) (N := some 49) #[true, true, true, true, true, true, true, true, true, false] rfl rfl (one_of HT_.out (by kernel_rfl)) (by decide) (fun K hK => ?_)
     refine goesA Try.func17 #[.agg #[.int .i64 t255, .int .i64 t256, .int .i64 t257], .int .i64 a1, .agg #[.int .i64 t258, .int .i64 t259, .int .i64 t260, .int .i64 t261, .int .i64 t262], .slice Ao56 t249.length co56, .slice Ao57 t252.length co57] ?_
     with_reducible refine (impl_BoxTick.calls k t255 t256 t257 a1 t258 t259 t260 t261 t262 _ _ t249 _ _ t252 t263 t264 t265 t266 t267 t268 t269 _ ?side1 ?side2 ?side3 ?side4 A22.out).mono ?_
     (case side1 => exact qc (Kd.R_reads' HO251.out).2.2)
     (case side2 => exact (Kd.R_reads' HO251.out).2.1)
     (case side3 => exact qc (Kd.R_reads' HO254.out).2.2)
     (case side4 => exact (Kd.R_reads' HO254.out).2.1)
     rintro e w62 ⟨v270, rfl, ho0, hb⟩
     refine ⟨_, rfl, ?_⟩
     have n0_ := rbl HO235 hb
     have n1_ := Aside0.mk (Kd.R_elder' (qr HO238) (Kd.R_base ho0) hb)
     have n2_ := Aside0.mk (Kd.R_elder' (qr HO247) (Kd.R_base ho0) hb)
     have n3_ := rbl HO251 hb
     have n4_ := Aside0.mk (Kd.R_elder' (qr HO254) (Kd.R_base ho0) hb)
     have n5_ := Aside0.mk (Kd.R_lower (Kd.R_new' (Kd.R_new' (Kd.R_new' ho0 (Kd.R_lt (qr HO238))) (Kd.R_lt (qr HO247))) (Kd.R_lt (qr HO254))) (below_size (qs HB)))
     have n6_ := bkb BK222 hb; have n7_ := bkb BK223 hb; have n8_ := bkb BK248 hb; have n9_ := bkb BK272 hb; have n10_ := bst HB hb; clear HO235 HO238 HO247 HO251 HO254 BK222 BK223 BK248 BK272 HB; have HO235 := n0_; have HO238 := n1_; have HO247 := n2_; have HO251 := n3_; have HO254 := n4_; have HO271 := n5_; have BK222 := n6_; have BK223 := n7_; have BK248 := n8_; have BK272 := n9_; have HB := n10_; clear n0_ n1_ n2_ n3_ n4_ n5_ n6_ n7_ n8_ n9_ n10_; (try clear hb); (try clear hb2); (try clear hk); (try clear hi); (try clear ho0)
     refine hK.out _ _ ⟨bc BK222 0, bc BK222 1, bc BK222 2, bc BK223 0, bc BK223 1, bc BK223 2, bc BK223 3, bc BK223 4⟩ (fun hHeld => ?_)
     clear hK K
     refine normP ?_
     exact normA (hCont (v270, gb272) _ ⟨hHeld, (qm HO235 (fun _ hk => hk.2)), (qm HO238 (fun _ hk => ⟨hk.1.1, ⟨hk.1.2, hk.2⟩⟩)), (qm HO247 (fun _ hk => ⟨hk.1.1, ⟨hk.1.2, hk.2⟩⟩)), (qm HO251 (fun _ hk => hk.2)), (qm HO254 (fun _ hk => ⟨hk.1.1.2, ⟨hk.1.2, hk.2⟩⟩)), (qm HO271 (fun _ hk => ⟨hk.1.1.2, ⟨hk.1.2, hk.2⟩⟩)), (qb BK222), (qb BK223), (qb BK248), (qb BK272), GW272.out, GE272.out, NB222_272.out, NB272_222.out, NB223_272.out, NB272_223.out, NB248_272.out, NB272_248.out, (qs HB)⟩)
    rintro ⟨v270, gb272⟩ w63 ⟨hS_, h0_, h1_, h2_, h3_, h4_, h5_, h6_, h7_, h8_, h9_, h10_, h11_, h12_, h13_, h14_, h15_, h16_, h17_, h18_⟩
    have n0_ := Aside0.mk h0_
    have n1_ : Aside0 (Kd.R k60 60 w63 w.heap.size (fun k_ => some k_ ≠ (.slice Ao52 t245.length co52 : Value).ownBlock ∧ some k_ ≠ (.slice Ao57 t252.length co57 : Value).ownBlock ∧ some k_ ≠ (v270 : Value).ownBlock) v237 t236) := ⟨h1_⟩
    have n2_ : Aside0 (Kd.R k60 60 w63 w.heap.size (fun k_ => some k_ ≠ (v237 : Value).ownBlock ∧ some k_ ≠ (.slice Ao57 t252.length co57 : Value).ownBlock ∧ some k_ ≠ (v270 : Value).ownBlock) (.slice Ao52 t245.length co52) t245) := ⟨h2_⟩
    have n3_ := Aside0.mk h3_
    have n4_ : Aside0 (Kd.R k60 60 w63 w.heap.size (fun k_ => some k_ ≠ (v237 : Value).ownBlock ∧ some k_ ≠ (.slice Ao52 t245.length co52 : Value).ownBlock ∧ some k_ ≠ (v270 : Value).ownBlock) (.slice Ao57 t252.length co57) t252) := ⟨h4_⟩
    have n5_ : Aside0 (Kd.R k60 60 w63 w.heap.size (fun k_ => some k_ ≠ (v237 : Value).ownBlock ∧ some k_ ≠ (.slice Ao52 t245.length co52 : Value).ownBlock ∧ some k_ ≠ (.slice Ao57 t252.length co57 : Value).ownBlock) v270 t269) := ⟨h5_⟩
    have n6_ := Aside0.mk h6_; have n7_ := Aside0.mk h7_; have n8_ := Aside0.mk h8_
    have n9_ : Aside0 (w63.heap[gb272]? = some (.cells #[.bool false, .int .i64 0, .int .i64 0, .int .i64 0, .int .i64 0, .int .i64 0, .slice none 0 0] 32 (0, 0))) := ⟨h9_⟩
    have n10_ : Aside0 (w.heap.size ≤ gb272) := ⟨h10_⟩
    have n11_ : Aside0 (w.heap.size ≤ gb272) := ⟨h11_⟩
    have n12_ : Aside0 (gb222 ≠ gb272) := ⟨h12_⟩
    have n13_ : Aside0 (gb272 ≠ gb222) := ⟨h13_⟩
    have n14_ : Aside0 (gb223 ≠ gb272) := ⟨h14_⟩
    have n15_ : Aside0 (gb272 ≠ gb223) := ⟨h15_⟩
    have n16_ : Aside0 (gb248 ≠ gb272) := ⟨h16_⟩
    have n17_ : Aside0 (gb272 ≠ gb248) := ⟨h17_⟩
    have n18_ := Aside0.mk h18_
    clear HO235 HO238 HO247 HO251 HO254 BK222 BK223 BK248 HB h0_ h1_ h2_ h3_ h4_ h5_ h6_ h7_ h8_ h9_ h10_ h11_ h12_ h13_ h14_ h15_ h16_ h17_ h18_; have HO235 := n0_; have HO238 := n1_; have HO247 := n2_; have HO251 := n3_; have HO254 := n4_; have HO271 := n5_; have BK222 := n6_; have BK223 := n7_; have BK248 := n8_; have BK272 := n9_; have GW272 := n10_; have GE272 := n11_; have NB222_272 := n12_; have NB272_222 := n13_; have NB223_272 := n14_; have NB272_223 := n15_; have NB248_272 := n16_; have NB272_248 := n17_; have HB := n18_; clear n0_ n1_ n2_ n3_ n4_ n5_ n6_ n7_ n8_ n9_ n10_ n11_ n12_ n13_ n14_ n15_ n16_ n17_ n18_
    have hHeld := hS_
    obtain ⟨Ao70, co70, eo70⟩ := Kd.R_slice HO271.out
    (first | subst eo70 | (injection eo70 with f1_ f2_ f3_; have f4_ := f1_.symm; have f5_ := f3_.symm; clear f1_ f2_ f3_; subst f4_; subst f5_))
    refine normQ ?_
    refine one_ (i := 9) (N := none) #[true, true, true, true, true, true, true, true, true, true] rfl rfl (one_of HT_.out (by kernel_rfl)) (by decide) (fun K hK => ?_)
    have hs64 : w63.cell? ⟨gb272, 0, none⟩ = some (.bool false) := bc BK272 0
    have hfs64 := blk_frozen BK272.out 0; have hns64_0 := NB222_272.out; have hns64_1 := NB223_272.out; have hns64_2 := NB248_272.out; have hms64_0 := NB272_222.out; have hms64_1 := NB272_223.out; have hms64_2 := NB272_248.out
    have hs65 : w63.cell? ⟨gb272, 1, none⟩ = some (.int .i64 0) := bc BK272 1
    have hfs65 := blk_frozen BK272.out 1; have hns65_0 := NB222_272.out; have hns65_1 := NB223_272.out; have hns65_2 := NB248_272.out; have hms65_0 := NB272_222.out; have hms65_1 := NB272_223.out; have hms65_2 := NB272_248.out
    have hs66 : w63.cell? ⟨gb272, 2, none⟩ = some (.int .i64 0) := bc BK272 2
    have hfs66 := blk_frozen BK272.out 2; have hns66_0 := NB222_272.out; have hns66_1 := NB223_272.out; have hns66_2 := NB248_272.out; have hms66_0 := NB272_222.out; have hms66_1 := NB272_223.out; have hms66_2 := NB272_248.out
    have hs67 : w63.cell? ⟨gb272, 3, none⟩ = some (.int .i64 0) := bc BK272 3
    have hfs67 := blk_frozen BK272.out 3; have hns67_0 := NB222_272.out; have hns67_1 := NB223_272.out; have hns67_2 := NB248_272.out; have hms67_0 := NB272_222.out; have hms67_1 := NB272_223.out; have hms67_2 := NB272_248.out
    have hs68 : w63.cell? ⟨gb272, 4, none⟩ = some (.int .i64 0) := bc BK272 4
    have hfs68 := blk_frozen BK272.out 4; have hns68_0 := NB222_272.out; have hns68_1 := NB223_272.out; have hns68_2 := NB248_272.out; have hms68_0 := NB272_222.out; have hms68_1 := NB272_223.out; have hms68_2 := NB272_248.out
    have hs69 : w63.cell? ⟨gb272, 5, none⟩ = some (.int .i64 0) := bc BK272 5
    have hfs69 := blk_frozen BK272.out 5; have hns69_0 := NB222_272.out; have hns69_1 := NB223_272.out; have hns69_2 := NB248_272.out; have hms69_0 := NB272_222.out; have hms69_1 := NB272_223.out; have hms69_2 := NB272_248.out
    have hs71 : w63.cell? ⟨gb272, 6, none⟩ = some (.slice none 0 0) := bc BK272 6
    have hfs71 := blk_frozen BK272.out 6; have hns71_0 := NB222_272.out; have hns71_1 := NB223_272.out; have hns71_2 := NB248_272.out; have hms71_0 := NB272_222.out; have hms71_1 := NB272_223.out; have hms71_2 := NB272_248.out
    refine skip_ (w1 := ?_) (by rfl) rfl ?_ ?_
    rotate_left
    ·go_simp
     rfl
    refine hK.out _ _ ⟨(cf NB222_272 ((cf NB222_272 ((cf NB222_272 ((cf NB222_272 ((cf NB222_272 ((cf NB222_272 ((cf NB222_272 (hHeld.1)))))))))))))), (cf NB222_272 ((cf NB222_272 ((cf NB222_272 ((cf NB222_272 ((cf NB222_272 ((cf NB222_272 ((cf NB222_272 (hHeld.2.1)))))))))))))), (cf NB222_272 ((cf NB222_272 ((cf NB222_272 ((cf NB222_272 ((cf NB222_272 ((cf NB222_272 ((cf NB222_272 (hHeld.2.2.1)))))))))))))), (cf NB223_272 ((cf NB223_272 ((cf NB223_272 ((cf NB223_272 ((cf NB223_272 ((cf NB223_272 ((cf NB223_272 (hHeld.2.2.2.1)))))))))))))), (cf NB223_272 ((cf NB223_272 ((cf NB223_272 ((cf NB223_272 ((cf NB223_272 ((cf NB223_272 ((cf NB223_272 (hHeld.2.2.2.2.1)))))))))))))), (cf NB223_272 ((cf NB223_272 ((cf NB223_272 ((cf NB223_272 ((cf NB223_272 ((cf NB223_272 ((cf NB223_272 (hHeld.2.2.2.2.2.1)))))))))))))), (cf NB223_272 ((cf NB223_272 ((cf NB223_272 ((cf NB223_272 ((cf NB223_272 ((cf NB223_272 ((cf NB223_272 (hHeld.2.2.2.2.2.2.1)))))))))))))), (cf NB223_272 ((cf NB223_272 ((cf NB223_272 ((cf NB223_272 ((cf NB223_272 ((cf NB223_272 ((cf NB223_272 (hHeld.2.2.2.2.2.2.2))))))))))))))⟩ (fun hHeld => ?_)
    clear hK K
    refine done_ (done_of HT_.out (by kernel_rfl)) ?_
    have hnb72 := NB272_222.out; have hnc72 := NB222_272.out; have hnb73 := NB272_223.out; have hnc73 := NB223_272.out; have hnb74 := NB272_248.out; have hnc74 := NB248_272.out
    have hcz75_0 : w63.cell? ⟨gb272, 0, none⟩ = some (.bool false) := bc BK272 0
    have hcz75_1 : w63.cell? ⟨gb272, 1, none⟩ = some (.int .i64 0) := bc BK272 1
    have hcz75_2 : w63.cell? ⟨gb272, 2, none⟩ = some (.int .i64 0) := bc BK272 2
    have hcz75_3 : w63.cell? ⟨gb272, 3, none⟩ = some (.int .i64 0) := bc BK272 3
    have hcz75_4 : w63.cell? ⟨gb272, 4, none⟩ = some (.int .i64 0) := bc BK272 4
    have hcz75_5 : w63.cell? ⟨gb272, 5, none⟩ = some (.int .i64 0) := bc BK272 5
    have hcz75_6 : w63.cell? ⟨gb272, 6, none⟩ = some (.slice none 0 0) := bc BK272 6
    have hfz75_0 := blk_frozen BK272.out 0; have hfz75_1 := blk_frozen BK272.out 1; have hfz75_2 := blk_frozen BK272.out 2; have hfz75_3 := blk_frozen BK272.out 3; have hfz75_4 := blk_frozen BK272.out 4; have hfz75_5 := blk_frozen BK272.out 5; have hfz75_6 := blk_frozen BK272.out 6; have hnb76 := NB248_222.out; have hnc76 := NB222_248.out; have hnb77 := NB248_223.out; have hnc77 := NB223_248.out
    have hcz78_0 : w63.cell? ⟨gb248, 0, none⟩ = some (.bool t239) := bc BK248 0
    have hcz78_1 : w63.cell? ⟨gb248, 1, none⟩ = some (.int .i64 t240) := bc BK248 1
    have hcz78_2 : w63.cell? ⟨gb248, 2, none⟩ = some (.int .i64 t241) := bc BK248 2
    have hcz78_3 : w63.cell? ⟨gb248, 3, none⟩ = some (.int .i64 t242) := bc BK248 3
    have hcz78_4 : w63.cell? ⟨gb248, 4, none⟩ = some (.int .i64 t243) := bc BK248 4
    have hcz78_5 : w63.cell? ⟨gb248, 5, none⟩ = some (.int .i64 t244) := bc BK248 5
    have hcz78_6 : w63.cell? ⟨gb248, 6, none⟩ = some (.slice Ao52 t245.length co52) := bc BK248 6
    have hfz78_0 := blk_frozen BK248.out 0; have hfz78_1 := blk_frozen BK248.out 1; have hfz78_2 := blk_frozen BK248.out 2; have hfz78_3 := blk_frozen BK248.out 3; have hfz78_4 := blk_frozen BK248.out 4; have hfz78_5 := blk_frozen BK248.out 5; have hfz78_6 := blk_frozen BK248.out 6
    go_upto_region 20 with (first | ((with_reducible refine gate_callee (f := 18) rfl ?_); refine goesLA (some 52) rfl Try.func18 #[.agg #[.bool t263, .int .i64 t264, .int .i64 t265, .int .i64 t266, .int .i64 t267, .int .i64 t268, .slice Ao70 t269.length co70], .agg #[.bool t239, .int .i64 t240, .int .i64 t241, .int .i64 t242, .int .i64 t243, .int .i64 t244, .slice Ao52 t245.length co52]] ?_; (with_reducible refine (laws_eqBoxed.calls k t263 t264 t265 t266 t267 t268 _ _ t269 t239 t240 t241 t242 t243 t244 _ _ t245 true _ ?side1 ?side2 ?side3 ?side4 A23.out).mono ?_); (case side1 => refine (Kd.R_reads' (e := 60) (base := w.heap.size) (ok := fun k_ => (some k_ ≠ (v237 : Value).ownBlock ∧ (some k_ ≠ (.slice Ao52 t245.length co52 : Value).ownBlock ∧ some k_ ≠ (.slice Ao57 t252.length co57 : Value).ownBlock))) (n := t269.length) (c := co70) ?_).2.2; exact (by (with_reducible repeat (first | apply Kd.R_alloc | apply Kd.R_drewN | apply Kd.R_drew)); exact (Kd.R_mono (Kd.R_far (p := ⟨gb272, 6, none⟩) (Kd.R_far (p := ⟨gb272, 5, none⟩) (Kd.R_far (p := ⟨gb272, 4, none⟩) (Kd.R_far (p := ⟨gb272, 3, none⟩) (Kd.R_far (p := ⟨gb272, 2, none⟩) (Kd.R_far (p := ⟨gb272, 1, none⟩) (Kd.R_far (p := ⟨gb272, 0, none⟩) (Kd.R_types HO271.out BK272.out (by decide)) (fun _ hk => hk.2) (.bool t263)) (fun _ hk => hk.2) (.int .i64 t264)) (fun _ hk => hk.2) (.int .i64 t265)) (fun _ hk => hk.2) (.int .i64 t266)) (fun _ hk => hk.2) (.int .i64 t267)) (fun _ hk => hk.2) (.int .i64 t268)) (fun _ hk => hk.2) (.slice Ao70 t269.length co70)) (fun _ h_ => h_.1)))); (case side2 => exact (Kd.R_reads' HO271.out).2.1); (case side3 => refine (Kd.R_reads' (e := 60) (base := w.heap.size) (ok := fun k_ => (some k_ ≠ (v237 : Value).ownBlock ∧ (some k_ ≠ (.slice Ao57 t252.length co57 : Value).ownBlock ∧ some k_ ≠ (.slice Ao70 t269.length co70 : Value).ownBlock))) (n := t245.length) (c := co52) ?_).2.2; exact (by (with_reducible repeat (first | apply Kd.R_alloc | apply Kd.R_drewN | apply Kd.R_drew)); exact (Kd.R_mono (Kd.R_far (p := ⟨gb272, 6, none⟩) (Kd.R_far (p := ⟨gb272, 5, none⟩) (Kd.R_far (p := ⟨gb272, 4, none⟩) (Kd.R_far (p := ⟨gb272, 3, none⟩) (Kd.R_far (p := ⟨gb272, 2, none⟩) (Kd.R_far (p := ⟨gb272, 1, none⟩) (Kd.R_far (p := ⟨gb272, 0, none⟩) (Kd.R_types HO247.out BK272.out (by decide)) (fun _ hk => hk.2) (.bool t263)) (fun _ hk => hk.2) (.int .i64 t264)) (fun _ hk => hk.2) (.int .i64 t265)) (fun _ hk => hk.2) (.int .i64 t266)) (fun _ hk => hk.2) (.int .i64 t267)) (fun _ hk => hk.2) (.int .i64 t268)) (fun _ hk => hk.2) (.slice Ao70 t269.length co70)) (fun _ h_ => h_.1)))); (case side4 => exact (Kd.R_reads' HO247.out).2.1); rintro e w79 ⟨rfl, hb⟩; refine ⟨_, rfl, ?_⟩; have n0_ := Aside0.mk (Kd.R_below (by (with_reducible repeat (first | apply Kd.R_alloc | apply Kd.R_drewN | apply Kd.R_drew)); exact (Kd.R_mono (Kd.R_far (p := ⟨gb272, 6, none⟩) (Kd.R_far (p := ⟨gb272, 5, none⟩) (Kd.R_far (p := ⟨gb272, 4, none⟩) (Kd.R_far (p := ⟨gb272, 3, none⟩) (Kd.R_far (p := ⟨gb272, 2, none⟩) (Kd.R_far (p := ⟨gb272, 1, none⟩) (Kd.R_far (p := ⟨gb272, 0, none⟩) (Kd.R_types HO235.out BK272.out (by decide)) (fun _ hk => hk.2) (.bool t263)) (fun _ hk => hk.2) (.int .i64 t264)) (fun _ hk => hk.2) (.int .i64 t265)) (fun _ hk => hk.2) (.int .i64 t266)) (fun _ hk => hk.2) (.int .i64 t267)) (fun _ hk => hk.2) (.int .i64 t268)) (fun _ hk => hk.2) (.slice Ao70 t269.length co70)) (fun _ h_ => h_.1))) hb); have n1_ := Aside0.mk (Kd.R_below (by (with_reducible repeat (first | apply Kd.R_alloc | apply Kd.R_drewN | apply Kd.R_drew)); exact (Kd.R_mono (Kd.R_far (p := ⟨gb272, 6, none⟩) (Kd.R_far (p := ⟨gb272, 5, none⟩) (Kd.R_far (p := ⟨gb272, 4, none⟩) (Kd.R_far (p := ⟨gb272, 3, none⟩) (Kd.R_far (p := ⟨gb272, 2, none⟩) (Kd.R_far (p := ⟨gb272, 1, none⟩) (Kd.R_far (p := ⟨gb272, 0, none⟩) (Kd.R_types HO238.out BK272.out (by decide)) (fun _ hk => hk.2) (.bool t263)) (fun _ hk => hk.2) (.int .i64 t264)) (fun _ hk => hk.2) (.int .i64 t265)) (fun _ hk => hk.2) (.int .i64 t266)) (fun _ hk => hk.2) (.int .i64 t267)) (fun _ hk => hk.2) (.int .i64 t268)) (fun _ hk => hk.2) (.slice Ao70 t269.length co70)) (fun _ h_ => h_.1))) hb); have n2_ := Aside0.mk (Kd.R_below (by (with_reducible repeat (first | apply Kd.R_alloc | apply Kd.R_drewN | apply Kd.R_drew)); exact (Kd.R_mono (Kd.R_far (p := ⟨gb272, 6, none⟩) (Kd.R_far (p := ⟨gb272, 5, none⟩) (Kd.R_far (p := ⟨gb272, 4, none⟩) (Kd.R_far (p := ⟨gb272, 3, none⟩) (Kd.R_far (p := ⟨gb272, 2, none⟩) (Kd.R_far (p := ⟨gb272, 1, none⟩) (Kd.R_far (p := ⟨gb272, 0, none⟩) (Kd.R_types HO247.out BK272.out (by decide)) (fun _ hk => hk.2) (.bool t263)) (fun _ hk => hk.2) (.int .i64 t264)) (fun _ hk => hk.2) (.int .i64 t265)) (fun _ hk => hk.2) (.int .i64 t266)) (fun _ hk => hk.2) (.int .i64 t267)) (fun _ hk => hk.2) (.int .i64 t268)) (fun _ hk => hk.2) (.slice Ao70 t269.length co70)) (fun _ h_ => h_.1))) hb); have n3_ := Aside0.mk (Kd.R_below (by (with_reducible repeat (first | apply Kd.R_alloc | apply Kd.R_drewN | apply Kd.R_drew)); exact (Kd.R_mono (Kd.R_far (p := ⟨gb272, 6, none⟩) (Kd.R_far (p := ⟨gb272, 5, none⟩) (Kd.R_far (p := ⟨gb272, 4, none⟩) (Kd.R_far (p := ⟨gb272, 3, none⟩) (Kd.R_far (p := ⟨gb272, 2, none⟩) (Kd.R_far (p := ⟨gb272, 1, none⟩) (Kd.R_far (p := ⟨gb272, 0, none⟩) (Kd.R_types HO251.out BK272.out (by decide)) (fun _ hk => hk.2) (.bool t263)) (fun _ hk => hk.2) (.int .i64 t264)) (fun _ hk => hk.2) (.int .i64 t265)) (fun _ hk => hk.2) (.int .i64 t266)) (fun _ hk => hk.2) (.int .i64 t267)) (fun _ hk => hk.2) (.int .i64 t268)) (fun _ hk => hk.2) (.slice Ao70 t269.length co70)) (fun _ h_ => h_.1))) hb); have n4_ := Aside0.mk (Kd.R_below (by (with_reducible repeat (first | apply Kd.R_alloc | apply Kd.R_drewN | apply Kd.R_drew)); exact (Kd.R_mono (Kd.R_far (p := ⟨gb272, 6, none⟩) (Kd.R_far (p := ⟨gb272, 5, none⟩) (Kd.R_far (p := ⟨gb272, 4, none⟩) (Kd.R_far (p := ⟨gb272, 3, none⟩) (Kd.R_far (p := ⟨gb272, 2, none⟩) (Kd.R_far (p := ⟨gb272, 1, none⟩) (Kd.R_far (p := ⟨gb272, 0, none⟩) (Kd.R_types HO254.out BK272.out (by decide)) (fun _ hk => hk.2) (.bool t263)) (fun _ hk => hk.2) (.int .i64 t264)) (fun _ hk => hk.2) (.int .i64 t265)) (fun _ hk => hk.2) (.int .i64 t266)) (fun _ hk => hk.2) (.int .i64 t267)) (fun _ hk => hk.2) (.int .i64 t268)) (fun _ hk => hk.2) (.slice Ao70 t269.length co70)) (fun _ h_ => h_.1))) hb); have n5_ := Aside0.mk (Kd.R_below (by (with_reducible repeat (first | apply Kd.R_alloc | apply Kd.R_drewN | apply Kd.R_drew)); exact (Kd.R_mono (Kd.R_far (p := ⟨gb272, 6, none⟩) (Kd.R_far (p := ⟨gb272, 5, none⟩) (Kd.R_far (p := ⟨gb272, 4, none⟩) (Kd.R_far (p := ⟨gb272, 3, none⟩) (Kd.R_far (p := ⟨gb272, 2, none⟩) (Kd.R_far (p := ⟨gb272, 1, none⟩) (Kd.R_far (p := ⟨gb272, 0, none⟩) (Kd.R_types HO271.out BK272.out (by decide)) (fun _ hk => hk.2) (.bool t263)) (fun _ hk => hk.2) (.int .i64 t264)) (fun _ hk => hk.2) (.int .i64 t265)) (fun _ hk => hk.2) (.int .i64 t266)) (fun _ hk => hk.2) (.int .i64 t267)) (fun _ hk => hk.2) (.int .i64 t268)) (fun _ hk => hk.2) (.slice Ao70 t269.length co70)) (fun _ h_ => h_.1))) hb); have n6_ := Aside0.mk (blk_below (g := gb222) (o := .cells #[.int .i64 a0_0, .int .i64 a0_1, .int .i64 a0_2] 23 (0, 0)) (by (with_reducible repeat (first | refine blk_drewN ?_ _ | refine blk_drew ?_ | refine blk_alloc ?_ _)); refine blk_far ?_ NB222_272.out _; (with_reducible repeat (first | refine blk_drewN ?_ _ | refine blk_drew ?_ | refine blk_alloc ?_ _)); refine blk_far ?_ NB222_272.out _; (with_reducible repeat (first | refine blk_drewN ?_ _ | refine blk_drew ?_ | refine blk_alloc ?_ _)); refine blk_far ?_ NB222_272.out _; (with_reducible repeat (first | refine blk_drewN ?_ _ | refine blk_drew ?_ | refine blk_alloc ?_ _)); refine blk_far ?_ NB222_272.out _; (with_reducible repeat (first | refine blk_drewN ?_ _ | refine blk_drew ?_ | refine blk_alloc ?_ _)); refine blk_far ?_ NB222_272.out _; (with_reducible repeat (first | refine blk_drewN ?_ _ | refine blk_drew ?_ | refine blk_alloc ?_ _)); refine blk_far ?_ NB222_272.out _; (with_reducible repeat (first | refine blk_drewN ?_ _ | refine blk_drew ?_ | refine blk_alloc ?_ _)); refine blk_far ?_ NB222_272.out _; (with_reducible repeat (first | refine blk_drewN ?_ _ | refine blk_drew ?_ | refine blk_alloc ?_ _)); exact BK222.out) hb); have n7_ := Aside0.mk (blk_below (g := gb223) (o := .cells #[.int .i64 a2_0, .int .i64 a2_1, .int .i64 a2_2, .int .i64 a2_3, .int .i64 a2_4] 25 (0, 0)) (by (with_reducible repeat (first | refine blk_drewN ?_ _ | refine blk_drew ?_ | refine blk_alloc ?_ _)); refine blk_far ?_ NB223_272.out _; (with_reducible repeat (first | refine blk_drewN ?_ _ | refine blk_drew ?_ | refine blk_alloc ?_ _)); refine blk_far ?_ NB223_272.out _; (with_reducible repeat (first | refine blk_drewN ?_ _ | refine blk_drew ?_ | refine blk_alloc ?_ _)); refine blk_far ?_ NB223_272.out _; (with_reducible repeat (first | refine blk_drewN ?_ _ | refine blk_drew ?_ | refine blk_alloc ?_ _)); refine blk_far ?_ NB223_272.out _; (with_reducible repeat (first | refine blk_drewN ?_ _ | refine blk_drew ?_ | refine blk_alloc ?_ _)); refine blk_far ?_ NB223_272.out _; (with_reducible repeat (first | refine blk_drewN ?_ _ | refine blk_drew ?_ | refine blk_alloc ?_ _)); refine blk_far ?_ NB223_272.out _; (with_reducible repeat (first | refine blk_drewN ?_ _ | refine blk_drew ?_ | refine blk_alloc ?_ _)); refine blk_far ?_ NB223_272.out _; (with_reducible repeat (first | refine blk_drewN ?_ _ | refine blk_drew ?_ | refine blk_alloc ?_ _)); exact BK223.out) hb); have n8_ := Aside0.mk (blk_below (g := gb248) (o := .cells #[.bool t239, .int .i64 t240, .int .i64 t241, .int .i64 t242, .int .i64 t243, .int .i64 t244, .slice Ao52 t245.length co52] 32 (0, 0)) (by (with_reducible repeat (first | refine blk_drewN ?_ _ | refine blk_drew ?_ | refine blk_alloc ?_ _)); refine blk_far ?_ NB248_272.out _; (with_reducible repeat (first | refine blk_drewN ?_ _ | refine blk_drew ?_ | refine blk_alloc ?_ _)); refine blk_far ?_ NB248_272.out _; (with_reducible repeat (first | refine blk_drewN ?_ _ | refine blk_drew ?_ | refine blk_alloc ?_ _)); refine blk_far ?_ NB248_272.out _; (with_reducible repeat (first | refine blk_drewN ?_ _ | refine blk_drew ?_ | refine blk_alloc ?_ _)); refine blk_far ?_ NB248_272.out _; (with_reducible repeat (first | refine blk_drewN ?_ _ | refine blk_drew ?_ | refine blk_alloc ?_ _)); refine blk_far ?_ NB248_272.out _; (with_reducible repeat (first | refine blk_drewN ?_ _ | refine blk_drew ?_ | refine blk_alloc ?_ _)); refine blk_far ?_ NB248_272.out _; (with_reducible repeat (first | refine blk_drewN ?_ _ | refine blk_drew ?_ | refine blk_alloc ?_ _)); refine blk_far ?_ NB248_272.out _; (with_reducible repeat (first | refine blk_drewN ?_ _ | refine blk_drew ?_ | refine blk_alloc ?_ _)); exact BK248.out) hb); have n9_ := Aside0.mk (blk_below (g := gb272) (o := .cells #[.bool t263, .int .i64 t264, .int .i64 t265, .int .i64 t266, .int .i64 t267, .int .i64 t268, .slice Ao70 t269.length co70] 32 (0, 0)) (by (with_reducible repeat (first | refine blk_drewN ?_ _ | refine blk_drew ?_ | refine blk_alloc ?_ _)); refine blk_put (cs := #[.bool t263, .int .i64 t264, .int .i64 t265, .int .i64 t266, .int .i64 t267, .int .i64 t268, .slice none 0 0]) ?_ 6 _ rfl; (with_reducible repeat (first | refine blk_drewN ?_ _ | refine blk_drew ?_ | refine blk_alloc ?_ _)); refine blk_put (cs := #[.bool t263, .int .i64 t264, .int .i64 t265, .int .i64 t266, .int .i64 t267, .int .i64 0, .slice none 0 0]) ?_ 5 _ rfl; (with_reducible repeat (first | refine blk_drewN ?_ _ | refine blk_drew ?_ | refine blk_alloc ?_ _)); refine blk_put (cs := #[.bool t263, .int .i64 t264, .int .i64 t265, .int .i64 t266, .int .i64 0, .int .i64 0, .slice none 0 0]) ?_ 4 _ rfl; (with_reducible repeat (first | refine blk_drewN ?_ _ | refine blk_drew ?_ | refine blk_alloc ?_ _)); refine blk_put (cs := #[.bool t263, .int .i64 t264, .int .i64 t265, .int .i64 0, .int .i64 0, .int .i64 0, .slice none 0 0]) ?_ 3 _ rfl; (with_reducible repeat (first | refine blk_drewN ?_ _ | refine blk_drew ?_ | refine blk_alloc ?_ _)); refine blk_put (cs := #[.bool t263, .int .i64 t264, .int .i64 0, .int .i64 0, .int .i64 0, .int .i64 0, .slice none 0 0]) ?_ 2 _ rfl; (with_reducible repeat (first | refine blk_drewN ?_ _ | refine blk_drew ?_ | refine blk_alloc ?_ _)); refine blk_put (cs := #[.bool t263, .int .i64 0, .int .i64 0, .int .i64 0, .int .i64 0, .int .i64 0, .slice none 0 0]) ?_ 1 _ rfl; (with_reducible repeat (first | refine blk_drewN ?_ _ | refine blk_drew ?_ | refine blk_alloc ?_ _)); refine blk_put (cs := #[.bool false, .int .i64 0, .int .i64 0, .int .i64 0, .int .i64 0, .int .i64 0, .slice none 0 0]) ?_ 0 _ rfl; (with_reducible repeat (first | refine blk_drewN ?_ _ | refine blk_drew ?_ | refine blk_alloc ?_ _)); exact BK272.out) hb); have n10_ := bst HB hb; clear HO235; clear HO238; clear HO247; clear HO251; clear HO254; clear HO271; clear BK222; clear BK223; clear BK248; clear BK272; clear HB; have HO235 := n0_; have HO238 := n1_; have HO247 := n2_; have HO251 := n3_; have HO254 := n4_; have HO271 := n5_; have BK222 := n6_; have BK223 := n7_; have BK248 := n8_; have BK272 := n9_; have HB := n10_; clear n0_ n1_ n2_ n3_ n4_ n5_ n6_ n7_ n8_ n9_ n10_; (try clear hb); (try clear hb2); (try clear hk); (try clear hi)) | ((with_reducible refine gate_callee (f := 15) rfl ?_); refine goesLA (some 56) rfl Try.func15 #[.slice A3 l3.length c3] ?_; (with_reducible refine (laws_toInt64S.calls k _ _ l3 t274 _ ?side1 ?side2 A25.out).mono ?_); (case side1 => exact qc (Kd.C_below HR3.out HB.out)); (case side2 => exact HC3.out); rintro e w80 ⟨v275, rfl, ho0, hb⟩; refine ⟨_, rfl, ?_⟩; have n0_ := Aside0.mk (Kd.R_elder' (qr HO235) (Kd.R_base ho0) hb); have n1_ := rbl HO238 hb; have n2_ := rbl HO247 hb; have n3_ := Aside0.mk (Kd.R_elder' (qr HO251) (Kd.R_base ho0) hb); have n4_ := rbl HO254 hb; have n5_ := rbl HO271 hb; have n6_ := Aside0.mk (Kd.R_lower (Kd.R_new' (Kd.R_new' ho0 (Kd.R_lt (qr HO235))) (Kd.R_lt (qr HO251))) (below_size (qs HB))); have n7_ := bkb BK222 hb; have n8_ := bkb BK223 hb; have n9_ := bkb BK248 hb; have n10_ := bkb BK272 hb; have n11_ := bst HB hb; clear HO235; clear HO238; clear HO247; clear HO251; clear HO254; clear HO271; clear BK222; clear BK223; clear BK248; clear BK272; clear HB; have HO235 := n0_; have HO238 := n1_; have HO247 := n2_; have HO251 := n3_; have HO254 := n4_; have HO271 := n5_; have HO276 := n6_; have BK222 := n7_; have BK223 := n8_; have BK248 := n9_; have BK272 := n10_; have HB := n11_; clear n0_ n1_ n2_ n3_ n4_ n5_ n6_ n7_ n8_ n9_ n10_ n11_; (try clear hb); (try clear hb2); (try clear hk); (try clear hi); (try clear ho0); obtain ⟨Ao81, co81, eo81⟩ := Kd.R_slice HO276.out; subst eo81) | ((with_reducible refine gate_callee (f := 19) rfl ?_); refine goesLA (some 57) rfl Try.func19 #[.slice Ao56 t249.length co56, .slice Ao81 t274.length co81] ?_; (with_reducible refine (laws_eqInt64S.calls k _ _ t249 _ _ t274 true _ ?side1 ?side2 ?side3 ?side4 A26.out).mono ?_); (case side1 => exact qc (Kd.R_reads' HO251.out).2.2); (case side2 => exact (Kd.R_reads' HO251.out).2.1); (case side3 => exact qc (Kd.R_reads' HO276.out).2.2); (case side4 => exact (Kd.R_reads' HO276.out).2.1); rintro e w' ⟨rfl, ⟨nd, rfl⟩⟩; refine ⟨_, rfl, ?_⟩) | ((with_reducible refine gate_callee (f := 16) rfl ?_); refine goesLA (some 61) rfl Try.func16 #[.slice A4 l4.length c4] ?_; (with_reducible refine (laws_toPacketS.calls k _ _ l4 t278 _ ?side1 ?side2 A28.out).mono ?_); (case side1 => repeat (first | exact (Kd.C_below HR4.out (qs HB)) | (with_reducible refine Kd.C_alloc ?_ _) | (with_reducible refine Kd.C_drewN ?_ _) | (with_reducible refine Kd.C_drew ?_))); (case side2 => exact HC4.out); rintro e w82 ⟨v279, rfl, ho0, hb⟩; refine ⟨_, rfl, ?_⟩; have n0_ := rbl HO235 hb; have n1_ := Aside0.mk (Kd.R_elder' (qr HO238) (Kd.R_base ho0) hb); have n2_ := Aside0.mk (Kd.R_elder' (qr HO247) (Kd.R_base ho0) hb); have n3_ := rbl HO251 hb; have n4_ := Aside0.mk (Kd.R_elder' (qr HO254) (Kd.R_base ho0) hb); have n5_ := Aside0.mk (Kd.R_elder' (qr HO271) (Kd.R_base ho0) hb); have n6_ := rbl HO276 hb; have n7_ := Aside0.mk (Kd.R_lower (Kd.R_new' (Kd.R_new' (Kd.R_new' (Kd.R_new' ho0 (Kd.R_lt (qr HO238))) (Kd.R_lt (qr HO247))) (Kd.R_lt (qr HO254))) (Kd.R_lt (qr HO271))) (below_size (qs HB))); have n8_ := bkb BK222 hb; have n9_ := bkb BK223 hb; have n10_ := bkb BK248 hb; have n11_ := bkb BK272 hb; have n12_ := bst HB hb; clear HO235; clear HO238; clear HO247; clear HO251; clear HO254; clear HO271; clear HO276; clear BK222; clear BK223; clear BK248; clear BK272; clear HB; have HO235 := n0_; have HO238 := n1_; have HO247 := n2_; have HO251 := n3_; have HO254 := n4_; have HO271 := n5_; have HO276 := n6_; have HO280 := n7_; have BK222 := n8_; have BK223 := n9_; have BK248 := n10_; have BK272 := n11_; have HB := n12_; clear n0_ n1_ n2_ n3_ n4_ n5_ n6_ n7_ n8_ n9_ n10_ n11_ n12_; (try clear hb); (try clear hb2); (try clear hk); (try clear hi); (try clear ho0); obtain ⟨Ao83, co83, eo83⟩ := Kd.R_slice HO280.out; subst eo83) | ((with_reducible refine gate_callee (f := 20) rfl ?_); refine goesLA (some 62) rfl Try.func20 #[.slice Ao57 t252.length co57, .slice Ao83 t278.length co83] ?_; (with_reducible refine (laws_eqPacketS.calls k _ _ t252 _ _ t278 true _ ?side1 ?side2 ?side3 ?side4 A29.out).mono ?_); (case side1 => exact qc (Kd.R_reads' HO254.out).2.2); (case side2 => exact (Kd.R_reads' HO254.out).2.1); (case side3 => exact qc (Kd.R_reads' HO280.out).2.2); (case side4 => exact (Kd.R_reads' HO280.out).2.1); rintro e w84 ⟨rfl, hb⟩; refine ⟨_, rfl, ?_⟩; have n0_ := rbl HO235 hb; have n1_ := rbl HO238 hb; have n2_ := rbl HO247 hb; have n3_ := rbl HO251 hb; have n4_ := rbl HO254 hb; have n5_ := rbl HO271 hb; have n6_ := rbl HO276 hb; have n7_ := rbl HO280 hb; have n8_ := bkb BK222 hb; have n9_ := bkb BK223 hb; have n10_ := bkb BK248 hb; have n11_ := bkb BK272 hb; have n12_ := bst HB hb; clear HO235; clear HO238; clear HO247; clear HO251; clear HO254; clear HO271; clear HO276; clear HO280; clear BK222; clear BK223; clear BK248; clear BK272; clear HB; have HO235 := n0_; have HO238 := n1_; have HO247 := n2_; have HO251 := n3_; have HO254 := n4_; have HO271 := n5_; have HO276 := n6_; have HO280 := n7_; have BK222 := n8_; have BK223 := n9_; have BK248 := n10_; have BK272 := n11_; have HB := n12_; clear n0_ n1_ n2_ n3_ n4_ n5_ n6_ n7_ n8_ n9_ n10_ n11_ n12_; (try clear hb); (try clear hb2); (try clear hk); (try clear hi)) | ((with_reducible refine gate_callee (f := 21) rfl ?_); refine goesLA (some 66) rfl Try.func21 #[.slice Ao56 t249.length co56, .int .i64 1] ?_; (with_reducible refine (laws_markInt64S.calls k (fun k_ => some k_ = (.slice Ao56 t249.length co56 : Value).ownBlock) (.slice Ao56 t249.length co56) t249 1 t282 t283 w _ ?side1 ?side2 A31.out).mono ?_); (case side1 => repeat (first | (with_reducible first | exact HB.out | apply below_alloc | apply pw_below_drewN | apply below_drew1 | refine below_set ?_ GE222.out | refine below_set ?_ GE223.out | refine below_set ?_ GE248.out | refine below_set ?_ GE272.out) | exact HB.out)); (case side2 => exact Kd.R_tight rfl HO251.out); rintro e w85 ⟨rfl, hy0, hb, hkp⟩; refine ⟨_, rfl, ?_⟩; have n0_ := Aside0.mk (blk_kept (qb BK222) hkp (fun hs_ => (fun e_ => (Kd.R_ne HO251.out BK222.out (by decide)) e_) hs_)); have n1_ := Aside0.mk (blk_kept (qb BK223) hkp (fun hs_ => (fun e_ => (Kd.R_ne HO251.out BK223.out (by decide)) e_) hs_)); have n2_ := Aside0.mk (Kd.R_mono (ok' := fun k_ => some k_ ≠ (.slice Ao56 t249.length co56 : Value).ownBlock ∧ some k_ ≠ (.slice Ao81 t274.length co81 : Value).ownBlock) (Kd.R_keptB (HO235.out) hkp (fun k_ hk_ hs_ => (hk_.1) hs_)) (fun k_ hk_ => ⟨hk_.1.1, hk_.1.2⟩)); have n3_ := Aside0.mk (Kd.R_mono (ok' := fun k_ => some k_ ≠ (.slice Ao52 t245.length co52 : Value).ownBlock ∧ some k_ ≠ (.slice Ao57 t252.length co57 : Value).ownBlock ∧ some k_ ≠ (.slice Ao70 t269.length co70 : Value).ownBlock ∧ some k_ ≠ (.slice Ao83 t278.length co83 : Value).ownBlock) (Kd.R_keptB ((Kd.R_apart' HO238.out (Kd.R_typed HO251.out) (by decide))) hkp (fun k_ hk_ hs_ => (hk_.2) hs_)) (fun k_ hk_ => ⟨hk_.1.1.1.1, hk_.1.1.1.2.1, hk_.1.1.1.2.2, hk_.1.1.2⟩)); have n4_ := Aside0.mk (Kd.R_mono (ok' := fun k_ => some k_ ≠ (v237 : Value).ownBlock ∧ some k_ ≠ (.slice Ao57 t252.length co57 : Value).ownBlock ∧ some k_ ≠ (.slice Ao70 t269.length co70 : Value).ownBlock ∧ some k_ ≠ (.slice Ao83 t278.length co83 : Value).ownBlock) (Kd.R_keptB ((Kd.R_apart' HO247.out (Kd.R_typed HO251.out) (by decide))) hkp (fun k_ hk_ hs_ => (hk_.2) hs_)) (fun k_ hk_ => ⟨hk_.1.1.1.1, hk_.1.1.1.2.1, hk_.1.1.1.2.2, hk_.1.1.2⟩)); have n5_ := Aside0.mk (blk_kept (qb BK248) hkp (fun hs_ => (fun e_ => (Kd.R_ne HO251.out BK248.out (by decide)) e_) hs_)); have n6_ := Aside0.mk (Kd.R_reok rfl hy0 (fun k_ e_ => HO251.out.1 k_ e_)); have n7_ := Aside0.mk (Kd.R_mono (ok' := fun k_ => some k_ ≠ (v237 : Value).ownBlock ∧ some k_ ≠ (.slice Ao52 t245.length co52 : Value).ownBlock ∧ some k_ ≠ (.slice Ao70 t269.length co70 : Value).ownBlock ∧ some k_ ≠ (.slice Ao83 t278.length co83 : Value).ownBlock) (Kd.R_keptB ((Kd.R_apart' HO254.out (Kd.R_typed HO251.out) (by decide))) hkp (fun k_ hk_ hs_ => (hk_.2) hs_)) (fun k_ hk_ => ⟨hk_.1.1.1.1, hk_.1.1.1.2.1, hk_.1.1.1.2.2, hk_.1.1.2⟩)); have n8_ := Aside0.mk (Kd.R_mono (ok' := fun k_ => some k_ ≠ (v237 : Value).ownBlock ∧ some k_ ≠ (.slice Ao52 t245.length co52 : Value).ownBlock ∧ some k_ ≠ (.slice Ao57 t252.length co57 : Value).ownBlock ∧ some k_ ≠ (.slice Ao83 t278.length co83 : Value).ownBlock) (Kd.R_keptB ((Kd.R_apart' HO271.out (Kd.R_typed HO251.out) (by decide))) hkp (fun k_ hk_ hs_ => (hk_.2) hs_)) (fun k_ hk_ => ⟨hk_.1.1.1.1, hk_.1.1.1.2.1, hk_.1.1.1.2.2, hk_.1.1.2⟩)); have n9_ := Aside0.mk (blk_kept (qb BK272) hkp (fun hs_ => (fun e_ => (Kd.R_ne HO251.out BK272.out (by decide)) e_) hs_)); have n10_ := Aside0.mk (Kd.R_mono (ok' := fun k_ => some k_ ≠ (v234 : Value).ownBlock ∧ some k_ ≠ (.slice Ao56 t249.length co56 : Value).ownBlock) (Kd.R_keptB (HO276.out) hkp (fun k_ hk_ hs_ => (hk_.2) hs_)) (fun k_ hk_ => ⟨hk_.1.1.2, hk_.1.2⟩)); have n11_ := Aside0.mk (Kd.R_mono (ok' := fun k_ => some k_ ≠ (v237 : Value).ownBlock ∧ some k_ ≠ (.slice Ao52 t245.length co52 : Value).ownBlock ∧ some k_ ≠ (.slice Ao57 t252.length co57 : Value).ownBlock ∧ some k_ ≠ (.slice Ao70 t269.length co70 : Value).ownBlock) (Kd.R_keptB ((Kd.R_apart' HO280.out (Kd.R_typed HO251.out) (by decide))) hkp (fun k_ hk_ hs_ => (hk_.2) hs_)) (fun k_ hk_ => ⟨hk_.1.1.1.1.1.2, hk_.1.1.1.1.2, hk_.1.1.1.2, hk_.1.1.2⟩)); have n12_ := Aside0.mk (hb); clear BK222; clear BK223; clear HO235; clear HO238; clear HO247; clear BK248; clear HO251; clear HO254; clear HO271; clear BK272; clear HO276; clear HO280; clear HB; have BK222 := n0_; have BK223 := n1_; have HO235 := n2_; have HO238 := n3_; have HO247 := n4_; have BK248 := n5_; have HO251 := n6_; have HO254 := n7_; have HO271 := n8_; have BK272 := n9_; have HO276 := n10_; have HO280 := n11_; have HB := n12_; clear n0_ n1_ n2_ n3_ n4_ n5_ n6_ n7_ n8_ n9_ n10_ n11_ n12_; (try clear hb); (try clear hkp); (try clear hy0)) | ((with_reducible refine gate_callee (f := 22) rfl ?_); refine goesLA (some 69) rfl Try.func22 #[.slice Ao57 t252.length co57, .int .i64 t282] ?_; (with_reducible refine (laws_markPacketS.calls k (fun k_ => some k_ = (.slice Ao57 t252.length co57 : Value).ownBlock) (.slice Ao57 t252.length co57) t252 t282 t284 t285 w _ ?side1 ?side2 A32.out).mono ?_); (case side1 => repeat (first | (with_reducible first | exact HB.out | apply below_alloc | apply pw_below_drewN | apply below_drew1 | refine below_set ?_ GE222.out | refine below_set ?_ GE223.out | refine below_set ?_ GE248.out | refine below_set ?_ GE272.out) | exact HB.out)); (case side2 => exact Kd.R_tight rfl HO254.out); rintro e w86 ⟨rfl, hy0, hb, hkp⟩; refine ⟨_, rfl, ?_⟩; have n0_ := Aside0.mk (blk_kept (qb BK222) hkp (fun hs_ => (fun e_ => (Kd.R_ne HO254.out BK222.out (by decide)) e_) hs_)); have n1_ := Aside0.mk (blk_kept (qb BK223) hkp (fun hs_ => (fun e_ => (Kd.R_ne HO254.out BK223.out (by decide)) e_) hs_)); have n2_ := Aside0.mk (Kd.R_mono (ok' := fun k_ => some k_ ≠ (.slice Ao56 t249.length co56 : Value).ownBlock ∧ some k_ ≠ (.slice Ao81 t274.length co81 : Value).ownBlock) (Kd.R_keptB ((Kd.R_apart' HO235.out (Kd.R_typed HO254.out) (by decide))) hkp (fun k_ hk_ hs_ => (hk_.2) hs_)) (fun k_ hk_ => ⟨hk_.1.1.1, hk_.1.1.2⟩)); have n3_ := Aside0.mk (Kd.R_mono (ok' := fun k_ => some k_ ≠ (.slice Ao52 t245.length co52 : Value).ownBlock ∧ some k_ ≠ (.slice Ao57 t252.length co57 : Value).ownBlock ∧ some k_ ≠ (.slice Ao70 t269.length co70 : Value).ownBlock ∧ some k_ ≠ (.slice Ao83 t278.length co83 : Value).ownBlock) (Kd.R_keptB (HO238.out) hkp (fun k_ hk_ hs_ => (hk_.2.1) hs_)) (fun k_ hk_ => ⟨hk_.1.1, hk_.1.2.1, hk_.1.2.2.1, hk_.1.2.2.2⟩)); have n4_ := Aside0.mk (Kd.R_mono (ok' := fun k_ => some k_ ≠ (v237 : Value).ownBlock ∧ some k_ ≠ (.slice Ao57 t252.length co57 : Value).ownBlock ∧ some k_ ≠ (.slice Ao70 t269.length co70 : Value).ownBlock ∧ some k_ ≠ (.slice Ao83 t278.length co83 : Value).ownBlock) (Kd.R_keptB (HO247.out) hkp (fun k_ hk_ hs_ => (hk_.2.1) hs_)) (fun k_ hk_ => ⟨hk_.1.1, hk_.1.2.1, hk_.1.2.2.1, hk_.1.2.2.2⟩)); have n5_ := Aside0.mk (blk_kept (qb BK248) hkp (fun hs_ => (fun e_ => (Kd.R_ne HO254.out BK248.out (by decide)) e_) hs_)); have n6_ := Aside0.mk (Kd.R_mono (ok' := fun k_ => some k_ ≠ (v234 : Value).ownBlock ∧ some k_ ≠ (.slice Ao81 t274.length co81 : Value).ownBlock) (Kd.R_keptB ((Kd.R_apart' HO251.out (Kd.R_typed HO254.out) (by decide))) hkp (fun k_ hk_ hs_ => (hk_.2) hs_)) (fun k_ hk_ => ⟨hk_.1.1.1, hk_.1.1.2⟩)); have n7_ := Aside0.mk (Kd.R_reok rfl hy0 (fun k_ e_ => HO254.out.1 k_ e_)); have n8_ := Aside0.mk (Kd.R_mono (ok' := fun k_ => some k_ ≠ (v237 : Value).ownBlock ∧ some k_ ≠ (.slice Ao52 t245.length co52 : Value).ownBlock ∧ some k_ ≠ (.slice Ao57 t252.length co57 : Value).ownBlock ∧ some k_ ≠ (.slice Ao83 t278.length co83 : Value).ownBlock) (Kd.R_keptB (HO271.out) hkp (fun k_ hk_ hs_ => (hk_.2.2.1) hs_)) (fun k_ hk_ => ⟨hk_.1.1, hk_.1.2.1, hk_.1.2.2.1, hk_.1.2.2.2⟩)); have n9_ := Aside0.mk (blk_kept (qb BK272) hkp (fun hs_ => (fun e_ => (Kd.R_ne HO254.out BK272.out (by decide)) e_) hs_)); have n10_ := Aside0.mk (Kd.R_mono (ok' := fun k_ => some k_ ≠ (v234 : Value).ownBlock ∧ some k_ ≠ (.slice Ao56 t249.length co56 : Value).ownBlock) (Kd.R_keptB ((Kd.R_apart' HO276.out (Kd.R_typed HO254.out) (by decide))) hkp (fun k_ hk_ hs_ => (hk_.2) hs_)) (fun k_ hk_ => ⟨hk_.1.1.1, hk_.1.1.2⟩)); have n11_ := Aside0.mk (Kd.R_mono (ok' := fun k_ => some k_ ≠ (v237 : Value).ownBlock ∧ some k_ ≠ (.slice Ao52 t245.length co52 : Value).ownBlock ∧ some k_ ≠ (.slice Ao57 t252.length co57 : Value).ownBlock ∧ some k_ ≠ (.slice Ao70 t269.length co70 : Value).ownBlock) (Kd.R_keptB (HO280.out) hkp (fun k_ hk_ hs_ => (hk_.2.2.1) hs_)) (fun k_ hk_ => ⟨hk_.1.1, hk_.1.2.1, hk_.1.2.2.1, hk_.1.2.2.2⟩)); have n12_ := Aside0.mk (hb); clear BK222; clear BK223; clear HO235; clear HO238; clear HO247; clear BK248; clear HO251; clear HO254; clear HO271; clear BK272; clear HO276; clear HO280; clear HB; have BK222 := n0_; have BK223 := n1_; have HO235 := n2_; have HO238 := n3_; have HO247 := n4_; have BK248 := n5_; have HO251 := n6_; have HO254 := n7_; have HO271 := n8_; have BK272 := n9_; have HO276 := n10_; have HO280 := n11_; have HB := n12_; clear n0_ n1_ n2_ n3_ n4_ n5_ n6_ n7_ n8_ n9_ n10_ n11_ n12_; (try clear hb); (try clear hkp); (try clear hy0)))
    (try simp only [Act.put, List.setIfInBounds_toArray, List.set_cons_zero, List.set_cons_succ])
    go_cut [77] (fun v77 wc => ∃ (kq : Nat) (x77_32 : Bool), v77 = .bool x77_32 ∧ Aside0 (laws_FnExactBoxTick.j0 kq a1 l3 l4 x77_32 a0_0 a0_1 a0_2 a2_0 a2_1 a2_2 a2_3 a2_4 t239 t240 t241 t242 t243 t244 t245 t263 t264 t265 t266 t267 t268 t269 = some true) ∧ Aside0 (kq ≤ k) ∧ Aside0 (Kd.R k60 60 wc w.heap.size (fun k_ => some k_ ≠ ((.slice Ao70 t269.length co70) : Value).ownBlock) (.slice Ao52 t245.length co52) t245) ∧ Aside0 (Kd.R k60 60 wc w.heap.size (fun k_ => some k_ ≠ ((.slice Ao52 t245.length co52) : Value).ownBlock) (.slice Ao70 t269.length co70) t269) ∧ Aside0 (wc.heap[gb222]? = some (.cells #[.int .i64 a0_0, .int .i64 a0_1, .int .i64 a0_2] 23 (0, 0))) ∧ Aside0 (wc.heap[gb223]? = some (.cells #[.int .i64 a2_0, .int .i64 a2_1, .int .i64 a2_2, .int .i64 a2_3, .int .i64 a2_4] 25 (0, 0))) ∧ Aside0 (wc.heap[gb248]? = some (.cells #[.bool t239, .int .i64 t240, .int .i64 t241, .int .i64 t242, .int .i64 t243, .int .i64 t244, (.slice Ao52 t245.length co52)] 32 (0, 0))) ∧ Aside0 (wc.heap[gb272]? = some (.cells #[.bool t263, .int .i64 t264, .int .i64 t265, .int .i64 t266, .int .i64 t267, .int .i64 t268, (.slice Ao70 t269.length co70)] 32 (0, 0))) ∧ Aside0 (Below w.heap.size w wc))
    case first =>
     have H := HC33.out
     clear HC33
     by_cases c87 : t284 < 0
     ·rw [if_pos c87] at H
      have c87b0 : decide (t284 < 0) = true := decide_eq_true c87
      clear c87
      (first | rw [c87b0] | (simp only [i64_w, i32_w]; rw [c87b0]) | skip)
      have H' := Aside0.mk H
      clear H
      go_wp2
      go_meet
      case rel => exact ⟨_, (true), (by first | rfl | (simp; done) | (simp [*]; done)), H', ⟨by first | omega | exact Nat.le_refl _⟩, ⟨by (with_reducible repeat (first | apply Kd.R_alloc | apply Kd.R_drewN | apply Kd.R_drew)); exact Kd.R_mono HO247.out (fun _ hk => hk.2.2.1)⟩, ⟨by (with_reducible repeat (first | apply Kd.R_alloc | apply Kd.R_drewN | apply Kd.R_drew)); exact Kd.R_mono HO271.out (fun _ hk => hk.2.1)⟩, ⟨by (with_reducible repeat (first | refine blk_drewN ?_ _ | refine blk_drew ?_ | refine blk_alloc ?_ _)); exact BK222.out⟩, ⟨by (with_reducible repeat (first | refine blk_drewN ?_ _ | refine blk_drew ?_ | refine blk_alloc ?_ _)); exact BK223.out⟩, ⟨by (with_reducible repeat (first | refine blk_drewN ?_ _ | refine blk_drew ?_ | refine blk_alloc ?_ _)); exact BK248.out⟩, ⟨by (with_reducible repeat (first | refine blk_drewN ?_ _ | refine blk_drew ?_ | refine blk_alloc ?_ _)); exact BK272.out⟩, ⟨by repeat (first | (with_reducible first | exact HB.out | apply below_alloc | apply pw_below_drewN | apply below_drew1 | refine below_set ?_ GE222.out | refine below_set ?_ GE223.out | refine below_set ?_ GE248.out | refine below_set ?_ GE272.out) | exact HB.out)⟩⟩
     rw [if_neg c87] at H
     have c87b0 : decide (t284 < 0) = false := decide_eq_false c87
     clear c87
     (first | rw [c87b0] | (simp only [i64_w, i32_w]; rw [c87b0]) | skip)
     replace H := Option.bind_eq_some_iff.mp H
     obtain ⟨t286, A880, H⟩ := H
     replace H : (laws_FnExactBoxTick.j0 k a1 l3 l4 (!t286) a0_0 a0_1 a0_2 a2_0 a2_1 a2_2 a2_3 a2_4 t239 t240 t241 t242 t243 t244 t245 t263 t264 t265 t266 t267 t268 t269) = some true := H
     have A88 := Aside0.mk A880
     clear A880
     have H' := Aside0.mk H
     clear H
     have hnb89 := NB272_222.out; have hnc89 := NB222_272.out; have hnb90 := NB272_223.out; have hnc90 := NB223_272.out; have hnb91 := NB272_248.out; have hnc91 := NB248_272.out
     have hcz92_0 : w86.cell? ⟨gb272, 0, none⟩ = some (.bool t263) := bc BK272 0
     have hcz92_1 : w86.cell? ⟨gb272, 1, none⟩ = some (.int .i64 t264) := bc BK272 1
     have hcz92_2 : w86.cell? ⟨gb272, 2, none⟩ = some (.int .i64 t265) := bc BK272 2
     have hcz92_3 : w86.cell? ⟨gb272, 3, none⟩ = some (.int .i64 t266) := bc BK272 3
     have hcz92_4 : w86.cell? ⟨gb272, 4, none⟩ = some (.int .i64 t267) := bc BK272 4
     have hcz92_5 : w86.cell? ⟨gb272, 5, none⟩ = some (.int .i64 t268) := bc BK272 5
     have hcz92_6 : w86.cell? ⟨gb272, 6, none⟩ = some (.slice Ao70 t269.length co70) := bc BK272 6
     have hfz92_0 := blk_frozen BK272.out 0; have hfz92_1 := blk_frozen BK272.out 1; have hfz92_2 := blk_frozen BK272.out 2; have hfz92_3 := blk_frozen BK272.out 3; have hfz92_4 := blk_frozen BK272.out 4; have hfz92_5 := blk_frozen BK272.out 5; have hfz92_6 := blk_frozen BK272.out 6; have hnb93 := NB248_222.out; have hnc93 := NB222_248.out; have hnb94 := NB248_223.out; have hnc94 := NB223_248.out
     have hcz95_0 : w86.cell? ⟨gb248, 0, none⟩ = some (.bool t239) := bc BK248 0
     have hcz95_1 : w86.cell? ⟨gb248, 1, none⟩ = some (.int .i64 t240) := bc BK248 1
     have hcz95_2 : w86.cell? ⟨gb248, 2, none⟩ = some (.int .i64 t241) := bc BK248 2
     have hcz95_3 : w86.cell? ⟨gb248, 3, none⟩ = some (.int .i64 t242) := bc BK248 3
     have hcz95_4 : w86.cell? ⟨gb248, 4, none⟩ = some (.int .i64 t243) := bc BK248 4
     have hcz95_5 : w86.cell? ⟨gb248, 5, none⟩ = some (.int .i64 t244) := bc BK248 5
     have hcz95_6 : w86.cell? ⟨gb248, 6, none⟩ = some (.slice Ao52 t245.length co52) := bc BK248 6
     have hfz95_0 := blk_frozen BK248.out 0; have hfz95_1 := blk_frozen BK248.out 1; have hfz95_2 := blk_frozen BK248.out 2; have hfz95_3 := blk_frozen BK248.out 3; have hfz95_4 := blk_frozen BK248.out 4; have hfz95_5 := blk_frozen BK248.out 5; have hfz95_6 := blk_frozen BK248.out 6
     go_wp2_with (first | (go_at_call 18; (with_reducible refine (laws_eqBoxed.calls k t263 t264 t265 t266 t267 t268 _ _ t269 t239 t240 t241 t242 t243 t244 _ _ t245 t286 _ ?side1 ?side2 ?side3 ?side4 A88.out).mono ?_); (case side1 => exact qc (Kd.R_reads' HO271.out).2.2); (case side2 => exact (Kd.R_reads' HO271.out).2.1); (case side3 => exact qc (Kd.R_reads' HO247.out).2.2); (case side4 => exact (Kd.R_reads' HO247.out).2.1); rintro e w96 ⟨rfl, hb⟩; have n0_ := rbl HO235 hb; have n1_ := rbl HO238 hb; have n2_ := rbl HO247 hb; have n3_ := rbl HO251 hb; have n4_ := rbl HO254 hb; have n5_ := rbl HO271 hb; have n6_ := rbl HO276 hb; have n7_ := rbl HO280 hb; have n8_ := bkb BK222 hb; have n9_ := bkb BK223 hb; have n10_ := bkb BK248 hb; have n11_ := bkb BK272 hb; have n12_ := bst HB hb; clear HO235; clear HO238; clear HO247; clear HO251; clear HO254; clear HO271; clear HO276; clear HO280; clear BK222; clear BK223; clear BK248; clear BK272; clear HB; have HO235 := n0_; have HO238 := n1_; have HO247 := n2_; have HO251 := n3_; have HO254 := n4_; have HO271 := n5_; have HO276 := n6_; have HO280 := n7_; have BK222 := n8_; have BK223 := n9_; have BK248 := n10_; have BK272 := n11_; have HB := n12_; clear n0_ n1_ n2_ n3_ n4_ n5_ n6_ n7_ n8_ n9_ n10_ n11_ n12_; (try clear hb); (try clear hb2); (try clear hk); (try clear hi)))
     go_meet
     case rel => exact ⟨_, (!t286), (by first | rfl | (simp; done) | (simp [*]; done)), H', ⟨by first | omega | exact Nat.le_refl _⟩, ⟨by (with_reducible repeat (first | apply Kd.R_alloc | apply Kd.R_drewN | apply Kd.R_drew)); exact Kd.R_mono HO247.out (fun _ hk => hk.2.2.1)⟩, ⟨by (with_reducible repeat (first | apply Kd.R_alloc | apply Kd.R_drewN | apply Kd.R_drew)); exact Kd.R_mono HO271.out (fun _ hk => hk.2.1)⟩, ⟨by (with_reducible repeat (first | refine blk_drewN ?_ _ | refine blk_drew ?_ | refine blk_alloc ?_ _)); exact BK222.out⟩, ⟨by (with_reducible repeat (first | refine blk_drewN ?_ _ | refine blk_drew ?_ | refine blk_alloc ?_ _)); exact BK223.out⟩, ⟨by (with_reducible repeat (first | refine blk_drewN ?_ _ | refine blk_drew ?_ | refine blk_alloc ?_ _)); exact BK248.out⟩, ⟨by (with_reducible repeat (first | refine blk_drewN ?_ _ | refine blk_drew ?_ | refine blk_alloc ?_ _)); exact BK272.out⟩, ⟨by repeat (first | (with_reducible first | exact HB.out | apply below_alloc | apply pw_below_drewN | apply below_drew1 | refine below_set ?_ GE222.out | refine below_set ?_ GE223.out | refine below_set ?_ GE248.out | refine below_set ?_ GE272.out) | exact HB.out)⟩⟩
    case rest =>
     clear HC33
     try clear c1
     try clear c2
     try clear p2
     try clear c3
     try clear c4
     try clear c7
     try clear c8
     try clear c9
     try clear c13
     try clear c14
     try clear c15
     try clear c16
     try clear c17
     try clear c18
     try clear c19
     try clear c20
     try clear c21
     try clear c22
     try clear c72
     try clear c73
     try clear c74
     try clear c76
     try clear c77
     try clear c87
     try clear c87b0
     try clear c89
     try clear c90
     try clear c91
     try clear c93
     try clear c94
     try clear hcz75_0
     try clear hcz75_1
     try clear hcz75_2
     try clear hcz75_3
     try clear hcz75_4
     try clear hcz75_5
     try clear hcz75_6
     try clear hcz78_0
     try clear hcz78_1
     try clear hcz78_2
     try clear hcz78_3
     try clear hcz78_4
     try clear hcz78_5
     try clear hcz78_6
     try clear hcz92_0
     try clear hcz92_1
     try clear hcz92_2
     try clear hcz92_3
     try clear hcz92_4
     try clear hcz92_5
     try clear hcz92_6
     try clear hcz95_0
     try clear hcz95_1
     try clear hcz95_2
     try clear hcz95_3
     try clear hcz95_4
     try clear hcz95_5
     try clear hcz95_6
     try clear hfz75_0
     try clear hfz75_1
     try clear hfz75_2
     try clear hfz75_3
     try clear hfz75_4
     try clear hfz75_5
     try clear hfz75_6
     try clear hfz78_0
     try clear hfz78_1
     try clear hfz78_2
     try clear hfz78_3
     try clear hfz78_4
     try clear hfz78_5
     try clear hfz78_6
     try clear hfz92_0
     try clear hfz92_1
     try clear hfz92_2
     try clear hfz92_3
     try clear hfz92_4
     try clear hfz92_5
     try clear hfz92_6
     try clear hfz95_0
     try clear hfz95_1
     try clear hfz95_2
     try clear hfz95_3
     try clear hfz95_4
     try clear hfz95_5
     try clear hfz95_6
     obtain ⟨kq, x77_32, rfl, HA, HJ32, HO_249006, HO_273006, BK222, BK223, BK248, BK272, HB⟩ := hcut
     cases kq with
     | zero => exact absurd HA.out (by simp [laws_FnExactBoxTick.j0])
     | succ kj32 =>
      have H := HA.out
      clear HA
      simp only [laws_FnExactBoxTick.j0] at H
      by_cases c97 : x77_32 = true
      ·subst c97
       have H1 : (some false) = some true := by rw [if_pos rfl] at H; exact H
       clear H; have H := H1; clear H1
       exact absurd H (by simp)
      replace c97 := Bool.eq_false_iff.mpr c97
      subst c97
      have H1 : ((laws_markBoxed.f kj32 t263 t264 t265 t266 t267 t268 t269 1).bind fun bt287 => ((laws_heldBoxed.f kj32 t263 t264 t265 t266 t267 t268 bt287.2 1).bind fun t289 => (if t289 < 0 then (some false) else (if t289 = bt287.1 then ((laws_toRules.f a0_0 a0_1 a0_2).bind fun bt290 => ((laws_toBox.f a2_0 a2_1 a2_2 a2_3 a2_4).bind fun bt293 => ((laws_toInt64S.f kj32 l3).bind fun t298 => ((laws_toPacketS.f kj32 l4).bind fun t301 => ((impl_BoxTick.f kj32 bt290.1 bt290.2.1 bt290.2.2 a1 bt293.1 bt293.2.1 bt293.2.2.1 bt293.2.2.2.1 bt293.2.2.2.2 t298 t301).bind fun bt304 => ((laws_eqBoxed.f kj32 bt304.1 bt304.2.1 bt304.2.2.1 bt304.2.2.2.1 bt304.2.2.2.2.1 bt304.2.2.2.2.2.1 bt304.2.2.2.2.2.2 t239 t240 t241 t242 t243 t244 t245).bind fun t314 => (if t314 = true then ((laws_heldBoxed.f kj32 t263 t264 t265 t266 t267 t268 bt287.2 1).bind fun t315 => (if t315 < 0 then (some false) else (if t315 = bt287.1 then (some true) else (some false)))) else (some false)))))))) else (some false))))) = some true := by rw [if_neg (show ¬ (false = true) by decide)] at H; exact H
      clear H; have H := H1; clear H1
      replace H := Option.bind_eq_some_iff.mp H
      obtain ⟨⟨t287, t288⟩, A980, H⟩ := H
      replace H : ((laws_heldBoxed.f kj32 t263 t264 t265 t266 t267 t268 t288 1).bind fun t289 => (if t289 < 0 then (some false) else (if t289 = t287 then ((laws_toRules.f a0_0 a0_1 a0_2).bind fun bt290 => ((laws_toBox.f a2_0 a2_1 a2_2 a2_3 a2_4).bind fun bt293 => ((laws_toInt64S.f kj32 l3).bind fun t298 => ((laws_toPacketS.f kj32 l4).bind fun t301 => ((impl_BoxTick.f kj32 bt290.1 bt290.2.1 bt290.2.2 a1 bt293.1 bt293.2.1 bt293.2.2.1 bt293.2.2.2.1 bt293.2.2.2.2 t298 t301).bind fun bt304 => ((laws_eqBoxed.f kj32 bt304.1 bt304.2.1 bt304.2.2.1 bt304.2.2.2.1 bt304.2.2.2.2.1 bt304.2.2.2.2.2.1 bt304.2.2.2.2.2.2 t239 t240 t241 t242 t243 t244 t245).bind fun t314 => (if t314 = true then ((laws_heldBoxed.f kj32 t263 t264 t265 t266 t267 t268 t288 1).bind fun t315 => (if t315 < 0 then (some false) else (if t315 = t287 then (some true) else (some false)))) else (some false)))))))) else (some false)))) = some true := H
      have A98 := Aside0.mk A980
      clear A980
      replace H := Option.bind_eq_some_iff.mp H
      obtain ⟨t289, A990, H⟩ := H
      replace H : (if t289 < 0 then (some false) else (if t289 = t287 then ((laws_toRules.f a0_0 a0_1 a0_2).bind fun bt290 => ((laws_toBox.f a2_0 a2_1 a2_2 a2_3 a2_4).bind fun bt293 => ((laws_toInt64S.f kj32 l3).bind fun t298 => ((laws_toPacketS.f kj32 l4).bind fun t301 => ((impl_BoxTick.f kj32 bt290.1 bt290.2.1 bt290.2.2 a1 bt293.1 bt293.2.1 bt293.2.2.1 bt293.2.2.2.1 bt293.2.2.2.2 t298 t301).bind fun bt304 => ((laws_eqBoxed.f kj32 bt304.1 bt304.2.1 bt304.2.2.1 bt304.2.2.2.1 bt304.2.2.2.2.1 bt304.2.2.2.2.2.1 bt304.2.2.2.2.2.2 t239 t240 t241 t242 t243 t244 t245).bind fun t314 => (if t314 = true then ((laws_heldBoxed.f kj32 t263 t264 t265 t266 t267 t268 t288 1).bind fun t315 => (if t315 < 0 then (some false) else (if t315 = t287 then (some true) else (some false)))) else (some false)))))))) else (some false))) = some true := H
      have A99 := Aside0.mk A990
      clear A990
      by_cases c100 : t289 < 0
      ·rw [if_pos c100] at H
       have c100b0 : decide (t289 < 0) = true := decide_eq_true c100
       clear c100
       exact absurd H (by simp)
      rw [if_neg c100] at H
      have c100b0 : decide (t289 < 0) = false := decide_eq_false c100
      clear c100
      by_cases c101 : t289 = t287
      ·rw [if_pos c101] at H
       have c101b0 : (t289 == t287) = true := beq_iff_eq.mpr c101
       have c101b1 : (t289 != t287) = false := bne_eq_false_iff_eq.mpr c101
       clear c101
       replace H := Option.bind_eq_some_iff.mp H
       obtain ⟨⟨t290, t291, t292⟩, A1020, H⟩ := H
       replace H : ((laws_toBox.f a2_0 a2_1 a2_2 a2_3 a2_4).bind fun bt293 => ((laws_toInt64S.f kj32 l3).bind fun t298 => ((laws_toPacketS.f kj32 l4).bind fun t301 => ((impl_BoxTick.f kj32 t290 t291 t292 a1 bt293.1 bt293.2.1 bt293.2.2.1 bt293.2.2.2.1 bt293.2.2.2.2 t298 t301).bind fun bt304 => ((laws_eqBoxed.f kj32 bt304.1 bt304.2.1 bt304.2.2.1 bt304.2.2.2.1 bt304.2.2.2.2.1 bt304.2.2.2.2.2.1 bt304.2.2.2.2.2.2 t239 t240 t241 t242 t243 t244 t245).bind fun t314 => (if t314 = true then ((laws_heldBoxed.f kj32 t263 t264 t265 t266 t267 t268 t288 1).bind fun t315 => (if t315 < 0 then (some false) else (if t315 = t287 then (some true) else (some false)))) else (some false))))))) = some true := H
       have A102 := Aside0.mk A1020
       clear A1020
       replace H := Option.bind_eq_some_iff.mp H
       obtain ⟨⟨t293, t294, t295, t296, t297⟩, A1030, H⟩ := H
       replace H : ((laws_toInt64S.f kj32 l3).bind fun t298 => ((laws_toPacketS.f kj32 l4).bind fun t301 => ((impl_BoxTick.f kj32 t290 t291 t292 a1 t293 t294 t295 t296 t297 t298 t301).bind fun bt304 => ((laws_eqBoxed.f kj32 bt304.1 bt304.2.1 bt304.2.2.1 bt304.2.2.2.1 bt304.2.2.2.2.1 bt304.2.2.2.2.2.1 bt304.2.2.2.2.2.2 t239 t240 t241 t242 t243 t244 t245).bind fun t314 => (if t314 = true then ((laws_heldBoxed.f kj32 t263 t264 t265 t266 t267 t268 t288 1).bind fun t315 => (if t315 < 0 then (some false) else (if t315 = t287 then (some true) else (some false)))) else (some false)))))) = some true := H
       have A103 := Aside0.mk A1030
       clear A1030
       replace H := Option.bind_eq_some_iff.mp H
       obtain ⟨t298, A1040, H⟩ := H
       replace H : ((laws_toPacketS.f kj32 l4).bind fun t301 => ((impl_BoxTick.f kj32 t290 t291 t292 a1 t293 t294 t295 t296 t297 t298 t301).bind fun bt304 => ((laws_eqBoxed.f kj32 bt304.1 bt304.2.1 bt304.2.2.1 bt304.2.2.2.1 bt304.2.2.2.2.1 bt304.2.2.2.2.2.1 bt304.2.2.2.2.2.2 t239 t240 t241 t242 t243 t244 t245).bind fun t314 => (if t314 = true then ((laws_heldBoxed.f kj32 t263 t264 t265 t266 t267 t268 t288 1).bind fun t315 => (if t315 < 0 then (some false) else (if t315 = t287 then (some true) else (some false)))) else (some false))))) = some true := H
       have A104 := Aside0.mk A1040
       clear A1040
       replace H := Option.bind_eq_some_iff.mp H
       obtain ⟨t301, A1050, H⟩ := H
       replace H : ((impl_BoxTick.f kj32 t290 t291 t292 a1 t293 t294 t295 t296 t297 t298 t301).bind fun bt304 => ((laws_eqBoxed.f kj32 bt304.1 bt304.2.1 bt304.2.2.1 bt304.2.2.2.1 bt304.2.2.2.2.1 bt304.2.2.2.2.2.1 bt304.2.2.2.2.2.2 t239 t240 t241 t242 t243 t244 t245).bind fun t314 => (if t314 = true then ((laws_heldBoxed.f kj32 t263 t264 t265 t266 t267 t268 t288 1).bind fun t315 => (if t315 < 0 then (some false) else (if t315 = t287 then (some true) else (some false)))) else (some false)))) = some true := H
       have A105 := Aside0.mk A1050
       clear A1050
       replace H := Option.bind_eq_some_iff.mp H
       obtain ⟨⟨t304, t305, t306, t307, t308, t309, t310⟩, A1060, H⟩ := H
       replace H : ((laws_eqBoxed.f kj32 t304 t305 t306 t307 t308 t309 t310 t239 t240 t241 t242 t243 t244 t245).bind fun t314 => (if t314 = true then ((laws_heldBoxed.f kj32 t263 t264 t265 t266 t267 t268 t288 1).bind fun t315 => (if t315 < 0 then (some false) else (if t315 = t287 then (some true) else (some false)))) else (some false))) = some true := H
       have A106 := Aside0.mk A1060
       clear A1060
       replace H := Option.bind_eq_some_iff.mp H
       obtain ⟨t314, A1070, H⟩ := H
       replace H : (if t314 = true then ((laws_heldBoxed.f kj32 t263 t264 t265 t266 t267 t268 t288 1).bind fun t315 => (if t315 < 0 then (some false) else (if t315 = t287 then (some true) else (some false)))) else (some false)) = some true := H
       have A107 := Aside0.mk A1070
       clear A1070
       by_cases c108 : t314 = true
       ·subst c108
        have H1 : ((laws_heldBoxed.f kj32 t263 t264 t265 t266 t267 t268 t288 1).bind fun t315 => (if t315 < 0 then (some false) else (if t315 = t287 then (some true) else (some false)))) = some true := by rw [if_pos rfl] at H; exact H
        clear H; have H := H1; clear H1
        replace H := Option.bind_eq_some_iff.mp H
        obtain ⟨t315, A1090, H⟩ := H
        replace H : (if t315 < 0 then (some false) else (if t315 = t287 then (some true) else (some false))) = some true := H
        have A109 := Aside0.mk A1090
        clear A1090
        by_cases c110 : t315 < 0
        ·rw [if_pos c110] at H
         have c110b0 : decide (t315 < 0) = true := decide_eq_true c110
         clear c110
         exact absurd H (by simp)
        rw [if_neg c110] at H
        have c110b0 : decide (t315 < 0) = false := decide_eq_false c110
        clear c110
        by_cases c111 : t315 = t287
        ·rw [if_pos c111] at H
         have c111b0 : (t315 == t287) = true := beq_iff_eq.mpr c111
         have c111b1 : (t315 != t287) = false := bne_eq_false_iff_eq.mpr c111
         clear c111
         have hnb112 := NB272_222.out; have hnc112 := NB222_272.out; have hnb113 := NB272_223.out; have hnc113 := NB223_272.out; have hnb114 := NB272_248.out; have hnc114 := NB248_272.out
         have hcz115_0 : wc.cell? ⟨gb272, 0, none⟩ = some (.bool t263) := bc BK272 0
         have hcz115_1 : wc.cell? ⟨gb272, 1, none⟩ = some (.int .i64 t264) := bc BK272 1
         have hcz115_2 : wc.cell? ⟨gb272, 2, none⟩ = some (.int .i64 t265) := bc BK272 2
         have hcz115_3 : wc.cell? ⟨gb272, 3, none⟩ = some (.int .i64 t266) := bc BK272 3
         have hcz115_4 : wc.cell? ⟨gb272, 4, none⟩ = some (.int .i64 t267) := bc BK272 4
         have hcz115_5 : wc.cell? ⟨gb272, 5, none⟩ = some (.int .i64 t268) := bc BK272 5
         have hcz115_6 : wc.cell? ⟨gb272, 6, none⟩ = some (.slice Ao70 t269.length co70) := bc BK272 6
         have hfz115_0 := blk_frozen BK272.out 0; have hfz115_1 := blk_frozen BK272.out 1; have hfz115_2 := blk_frozen BK272.out 2; have hfz115_3 := blk_frozen BK272.out 3; have hfz115_4 := blk_frozen BK272.out 4; have hfz115_5 := blk_frozen BK272.out 5; have hfz115_6 := blk_frozen BK272.out 6
         try go_wp2_with (first | ((with_reducible refine gate_callee (f := 23) rfl ?_); refine goesLA (some 80) rfl Try.func23 #[.agg #[.bool t263, .int .i64 t264, .int .i64 t265, .int .i64 t266, .int .i64 t267, .int .i64 t268, .slice Ao70 t269.length co70], .int .i64 1] ?_; (with_reducible refine (laws_markBoxed.calls kj32 t263 t264 t265 t266 t267 t268 (fun k_ => some k_ = (.slice Ao70 t269.length co70 : Value).ownBlock) (.slice Ao70 t269.length co70) t269 1 t287 t288 w _ ?side1 ?side2 A98.out).mono ?_); (case side1 => repeat (first | (with_reducible first | exact HB.out | apply below_alloc | apply pw_below_drewN | apply below_drew1 | refine below_set ?_ GE222.out | refine below_set ?_ GE223.out | refine below_set ?_ GE248.out | refine below_set ?_ GE272.out) | exact HB.out)); (case side2 => exact Kd.R_tight rfl HO_273006.out); rintro e w116 ⟨rfl, hy0, hb, hkp⟩; refine ⟨_, rfl, ?_⟩; have n0_ := Aside0.mk (Kd.R_mono (ok' := fun k_ => some k_ ≠ (.slice Ao70 t269.length co70 : Value).ownBlock) (Kd.R_keptB (HO_249006.out) hkp (fun k_ hk_ hs_ => (hk_) hs_)) (fun k_ hk_ => hk_.1)); have n1_ := Aside0.mk (Kd.R_reok rfl hy0 (fun k_ e_ => HO_273006.out.1 k_ e_)); have n2_ := Aside0.mk (blk_kept (qb BK222) hkp (fun hs_ => (fun e_ => (Kd.R_ne HO_273006.out BK222.out (by decide)) e_) hs_)); have n3_ := Aside0.mk (blk_kept (qb BK223) hkp (fun hs_ => (fun e_ => (Kd.R_ne HO_273006.out BK223.out (by decide)) e_) hs_)); have n4_ := Aside0.mk (blk_kept (qb BK248) hkp (fun hs_ => (fun e_ => (Kd.R_ne HO_273006.out BK248.out (by decide)) e_) hs_)); have n5_ := Aside0.mk (blk_kept (qb BK272) hkp (fun hs_ => (fun e_ => (Kd.R_ne HO_273006.out BK272.out (by decide)) e_) hs_)); have n6_ := Aside0.mk (hb); clear HO_249006; clear HO_273006; clear BK222; clear BK223; clear BK248; clear BK272; clear HB; have HO_249006 := n0_; have HO_273006 := n1_; have BK222 := n2_; have BK223 := n3_; have BK248 := n4_; have BK272 := n5_; have HB := n6_; clear n0_ n1_ n2_ n3_ n4_ n5_ n6_; (try clear hb); (try clear hkp); (try clear hy0); have hcz117_0 : w116.cell? ⟨gb272, 0, none⟩ = some (.bool t263) := bc BK272 0; have hcz117_1 : w116.cell? ⟨gb272, 1, none⟩ = some (.int .i64 t264) := bc BK272 1; have hcz117_2 : w116.cell? ⟨gb272, 2, none⟩ = some (.int .i64 t265) := bc BK272 2; have hcz117_3 : w116.cell? ⟨gb272, 3, none⟩ = some (.int .i64 t266) := bc BK272 3; have hcz117_4 : w116.cell? ⟨gb272, 4, none⟩ = some (.int .i64 t267) := bc BK272 4; have hcz117_5 : w116.cell? ⟨gb272, 5, none⟩ = some (.int .i64 t268) := bc BK272 5; have hcz117_6 : w116.cell? ⟨gb272, 6, none⟩ = some (.slice Ao70 t269.length co70) := bc BK272 6; have hfz117_0 := blk_frozen BK272.out 0; have hfz117_1 := blk_frozen BK272.out 1; have hfz117_2 := blk_frozen BK272.out 2; have hfz117_3 := blk_frozen BK272.out 3; have hfz117_4 := blk_frozen BK272.out 4; have hfz117_5 := blk_frozen BK272.out 5; have hfz117_6 := blk_frozen BK272.out 6) | ((with_reducible refine gate_callee (f := 24) rfl ?_); refine goesL_ (some 83) rfl rfl Try.func24 (by kernel_rfl) rfl #[.agg #[.bool t263, .int .i64 t264, .int .i64 t265, .int .i64 t266, .int .i64 t267, .int .i64 t268, .slice Ao70 t288.length co70], .int .i64 1] rfl (by (try simp only [List.map_toArray, List.map_cons, List.map_nil]); first | done | (rw [show t288.length = t269.length from (Kd.R_reads' HO_273006.out).1.symm] <;> rfl) | rfl | (simp only [List.length_drop, List.length_take]; rfl)) ?_; (with_reducible refine (laws_heldBoxed.calls kj32 t263 t264 t265 t266 t267 t268 _ _ t288 1 t289 _ ?side1 ?side2 A99.out).mono ?_); (case side1 => exact qc (Kd.R_reads' HO_273006.out).2.2); (case side2 => rw [show t288.length = t269.length from (Kd.R_reads' HO_273006.out).1.symm]; exact (Kd.R_reads' HO_273006.out).2.1); rintro e w118 ⟨rfl, hb⟩; refine ⟨_, rfl, ?_⟩; have n0_ := rbl HO_249006 hb; have n1_ := rbl HO_273006 hb; have n2_ := bkb BK222 hb; have n3_ := bkb BK223 hb; have n4_ := bkb BK248 hb; have n5_ := bkb BK272 hb; have n6_ := bst HB hb; clear HO_249006; clear HO_273006; clear BK222; clear BK223; clear BK248; clear BK272; clear HB; have HO_249006 := n0_; have HO_273006 := n1_; have BK222 := n2_; have BK223 := n3_; have BK248 := n4_; have BK272 := n5_; have HB := n6_; clear n0_ n1_ n2_ n3_ n4_ n5_ n6_; (try clear hb); (try clear hb2); (try clear hk); (try clear hi)))
         have n0_ := Aside0.mk (Kd.R_drew HO_249006.out)
         have n1_ := Aside0.mk (Kd.R_drew HO_273006.out)
         have n2_ := Aside0.mk (blk_drew BK222.out)
         have n3_ := Aside0.mk (blk_drew BK223.out)
         have n4_ := Aside0.mk (blk_drew BK248.out)
         have n5_ := Aside0.mk (blk_drew BK272.out)
         have n6_ := Aside0.mk (below_drew1 HB.out)
         clear HO_249006 HO_273006 BK222 BK223 BK248 BK272 HB; have HO_249006 := n0_; have HO_273006 := n1_; have BK222 := n2_; have BK223 := n3_; have BK248 := n4_; have BK272 := n5_; have HB := n6_; clear n0_ n1_ n2_ n3_ n4_ n5_ n6_
         refine start_ (n := 12) (S := fun w' => w'.cell? ⟨gb222, 0, none⟩ = some (.int .i64 a0_0) ∧ w'.cell? ⟨gb222, 1, none⟩ = some (.int .i64 a0_1) ∧ w'.cell? ⟨gb222, 2, none⟩ = some (.int .i64 a0_2) ∧ w'.cell? ⟨gb223, 0, none⟩ = some (.int .i64 a2_0) ∧ w'.cell? ⟨gb223, 1, none⟩ = some (.int .i64 a2_1) ∧ w'.cell? ⟨gb223, 2, none⟩ = some (.int .i64 a2_2) ∧ w'.cell? ⟨gb223, 3, none⟩ = some (.int .i64 a2_3) ∧ w'.cell? ⟨gb223, 4, none⟩ = some (.int .i64 a2_4)) (ds := []) #[false, false, false, false, false, false, false, false, false, false, false, false] (by kernel_rfl) rfl rfl ⟨bc BK222 0, bc BK222 1, bc BK222 2, bc BK223 0, bc BK223 1, bc BK223 2, bc BK223 3, bc BK223 4⟩ (fun hHeld => ?_); refine with_tabW laws_FnExactBoxTick.tab30 laws_FnExactBoxTick.bits30 (fun HT_ HW_ => ?_)
         generalize w118.drew = w119 at HO_249006 HO_273006 BK222 BK223 BK248 BK272 HB hHeld ⊢
         refine pure_ (i := 2) (N := some 91) (v := ?_) (a' := ?_) #[false, false, true, false, false, false, false, false, false, false, false, false] rfl rfl (any_of HT_.out (by kernel_rfl)) (fun _ _ _ h => h) (Or.inl ⟨by rfl, ?_⟩) ?_ ?_
         rotate_left
         ·intro w'
          go_simp
          with_reducible rfl
         rotate_left
         ·simp only [Act.put, List.setIfInBounds_toArray, List.set_cons_zero, List.set_cons_succ, i64_w, i32_w]
          rfl
         refine pure_ (i := 5) (N := some 94) (v := ?_) (a' := ?_) #[false, false, true, false, false, true, false, false, false, false, false, false] rfl rfl (any_of HT_.out (by kernel_rfl)) (fun _ _ _ h => h) (Or.inl ⟨by rfl, ?_⟩) ?_ ?_
         rotate_left
         ·intro w'
          go_simp
          with_reducible rfl
         rotate_left
         ·simp only [Act.put, List.setIfInBounds_toArray, List.set_cons_zero, List.set_cons_succ, i64_w, i32_w]
          rfl
         refine pure_ (i := 7) (N := some 96) (v := ?_) (a' := ?_) #[false, false, true, false, false, true, false, true, false, false, false, false] rfl rfl (any_of HT_.out (by kernel_rfl)) (fun _ _ _ h => h) (Or.inl ⟨by rfl, ?_⟩) ?_ ?_
         rotate_left
         ·intro w'
          go_simp
          with_reducible rfl
         rotate_left
         ·simp only [Act.put, List.setIfInBounds_toArray, List.set_cons_zero, List.set_cons_succ, i64_w, i32_w]
          rfl
         refine take_ (i := 0) (N := some 89) (v := ?_) (a' := ?_) #[true, false, true, false, false, true, false, true, false, false, false, false] rfl rfl (take_ofW HT_.out HW_.out (by kernel_rfl)) (fun _ _ _ h => h) (Or.inl ⟨by rfl, ?_⟩) hHeld ?_ ?_
         rotate_left
         ·rintro w' ⟨s0, s1, s2, s3, s4, s5, s6, s7⟩
          go_simp
          with_reducible rfl
         rotate_left
         ·simp only [Act.put, List.setIfInBounds_toArray, List.set_cons_zero, List.set_cons_succ, i64_w, i32_w]
          rfl
         refine take_ (i := 3) (N := some 92) (v := ?_) (a' := ?_) #[true, false, true, true, false, true, false, true, false, false, false, false] rfl rfl (take_ofW HT_.out HW_.out (by kernel_rfl)) (fun _ _ _ h => h) (Or.inl ⟨by rfl, ?_⟩) hHeld ?_ ?_
         rotate_left
         ·rintro w' ⟨s0, s1, s2, s3, s4, s5, s6, s7⟩
          go_simp
          with_reducible rfl
         rotate_left
         ·simp only [Act.put, List.setIfInBounds_toArray, List.set_cons_zero, List.set_cons_succ, i64_w, i32_w]
          rfl
         refine join_ (σ := Value × Value × Value × Nat) 1 #[true, true, true, true, true, true, true, true, true, true, true, false] (fun s_ => [(90, .agg #[.int .i64 t290, .int .i64 t291, .int .i64 t292]), (93, .agg #[.int .i64 t293, .int .i64 t294, .int .i64 t295, .int .i64 t296, .int .i64 t297]), (95, s_.1), (97, s_.2.1), (98, .agg #[.bool t304, .int .i64 t305, .int .i64 t306, .int .i64 t307, .int .i64 t308, .int .i64 t309, s_.2.2.1]), (19, .pointer (some ⟨s_.2.2.2, 0, none⟩))]) (fun s_ w' => (w'.cell? ⟨gb222, 0, none⟩ = some (.int .i64 a0_0) ∧ w'.cell? ⟨gb222, 1, none⟩ = some (.int .i64 a0_1) ∧ w'.cell? ⟨gb222, 2, none⟩ = some (.int .i64 a0_2) ∧ w'.cell? ⟨gb223, 0, none⟩ = some (.int .i64 a2_0) ∧ w'.cell? ⟨gb223, 1, none⟩ = some (.int .i64 a2_1) ∧ w'.cell? ⟨gb223, 2, none⟩ = some (.int .i64 a2_2) ∧ w'.cell? ⟨gb223, 3, none⟩ = some (.int .i64 a2_3) ∧ w'.cell? ⟨gb223, 4, none⟩ = some (.int .i64 a2_4)) ∧ (Kd.R (Kd.int .i64) 2 w' w.heap.size (fun _ => True) s_.1 t298) ∧ (Kd.R k60 60 w' w.heap.size (fun k_ => some k_ ≠ (s_.2.2.1 : Value).ownBlock ∧ some k_ ≠ (.slice Ao52 t245.length co52 : Value).ownBlock ∧ some k_ ≠ (.slice Ao70 t269.length co70 : Value).ownBlock) s_.2.1 t301) ∧ (Kd.R k60 60 w' w.heap.size (fun k_ => some k_ ≠ (s_.2.1 : Value).ownBlock ∧ some k_ ≠ (.slice Ao52 t245.length co52 : Value).ownBlock ∧ some k_ ≠ (.slice Ao70 t269.length co70 : Value).ownBlock) s_.2.2.1 t310) ∧ (Kd.R k60 60 w' w.heap.size (fun k_ => some k_ ≠ (s_.2.1 : Value).ownBlock ∧ some k_ ≠ (s_.2.2.1 : Value).ownBlock ∧ some k_ ≠ (.slice Ao70 t269.length co70 : Value).ownBlock) (.slice Ao52 t245.length co52) t245) ∧ (Kd.R k60 60 w' w.heap.size (fun k_ => some k_ ≠ (s_.2.1 : Value).ownBlock ∧ some k_ ≠ (s_.2.2.1 : Value).ownBlock ∧ some k_ ≠ (.slice Ao52 t245.length co52 : Value).ownBlock) (.slice Ao70 t269.length co70) t288) ∧ (w'.heap[gb222]? = some (.cells #[.int .i64 a0_0, .int .i64 a0_1, .int .i64 a0_2] 23 (0, 0))) ∧ (w'.heap[gb223]? = some (.cells #[.int .i64 a2_0, .int .i64 a2_1, .int .i64 a2_2, .int .i64 a2_3, .int .i64 a2_4] 25 (0, 0))) ∧ (w'.heap[gb248]? = some (.cells #[.bool t239, .int .i64 t240, .int .i64 t241, .int .i64 t242, .int .i64 t243, .int .i64 t244, .slice Ao52 t245.length co52] 32 (0, 0))) ∧ (w'.heap[gb272]? = some (.cells #[.bool t263, .int .i64 t264, .int .i64 t265, .int .i64 t266, .int .i64 t267, .int .i64 t268, .slice Ao70 t269.length co70] 32 (0, 0))) ∧ (w'.heap[s_.2.2.2]? = some (.cells #[.bool false, .int .i64 0, .int .i64 0, .int .i64 0, .int .i64 0, .int .i64 0, .slice none 0 0] 32 (0, 0))) ∧ (w.heap.size ≤ s_.2.2.2) ∧ (w.heap.size ≤ s_.2.2.2) ∧ (gb222 ≠ s_.2.2.2) ∧ (s_.2.2.2 ≠ gb222) ∧ (gb223 ≠ s_.2.2.2) ∧ (s_.2.2.2 ≠ gb223) ∧ (gb248 ≠ s_.2.2.2) ∧ (s_.2.2.2 ≠ gb248) ∧ (gb272 ≠ s_.2.2.2) ∧ (s_.2.2.2 ≠ gb272) ∧ (Below w.heap.size w w')) ?_ ?_
         rotate_left
         ·intro hJ1_4_6_8_9_10
          refine join_ (σ := Value × Value × Value) 2 #[true, true, true, true, true, true, true, true, true, true, false, false] (fun s_ => [(90, .agg #[.int .i64 t290, .int .i64 t291, .int .i64 t292]), (93, .agg #[.int .i64 t293, .int .i64 t294, .int .i64 t295, .int .i64 t296, .int .i64 t297]), (95, s_.1), (97, s_.2.1), (98, .agg #[.bool t304, .int .i64 t305, .int .i64 t306, .int .i64 t307, .int .i64 t308, .int .i64 t309, s_.2.2])]) (fun s_ w' => (w'.cell? ⟨gb222, 0, none⟩ = some (.int .i64 a0_0) ∧ w'.cell? ⟨gb222, 1, none⟩ = some (.int .i64 a0_1) ∧ w'.cell? ⟨gb222, 2, none⟩ = some (.int .i64 a0_2) ∧ w'.cell? ⟨gb223, 0, none⟩ = some (.int .i64 a2_0) ∧ w'.cell? ⟨gb223, 1, none⟩ = some (.int .i64 a2_1) ∧ w'.cell? ⟨gb223, 2, none⟩ = some (.int .i64 a2_2) ∧ w'.cell? ⟨gb223, 3, none⟩ = some (.int .i64 a2_3) ∧ w'.cell? ⟨gb223, 4, none⟩ = some (.int .i64 a2_4)) ∧ (Kd.R (Kd.int .i64) 2 w' w.heap.size (fun _ => True) s_.1 t298) ∧ (Kd.R k60 60 w' w.heap.size (fun k_ => some k_ ≠ (s_.2.2 : Value).ownBlock ∧ some k_ ≠ (.slice Ao52 t245.length co52 : Value).ownBlock ∧ some k_ ≠ (.slice Ao70 t269.length co70 : Value).ownBlock) s_.2.1 t301) ∧ (Kd.R k60 60 w' w.heap.size (fun k_ => some k_ ≠ (s_.2.1 : Value).ownBlock ∧ some k_ ≠ (.slice Ao52 t245.length co52 : Value).ownBlock ∧ some k_ ≠ (.slice Ao70 t269.length co70 : Value).ownBlock) s_.2.2 t310) ∧ (Kd.R k60 60 w' w.heap.size (fun k_ => some k_ ≠ (s_.2.1 : Value).ownBlock ∧ some k_ ≠ (s_.2.2 : Value).ownBlock ∧ some k_ ≠ (.slice Ao70 t269.length co70 : Value).ownBlock) (.slice Ao52 t245.length co52) t245) ∧ (Kd.R k60 60 w' w.heap.size (fun k_ => some k_ ≠ (s_.2.1 : Value).ownBlock ∧ some k_ ≠ (s_.2.2 : Value).ownBlock ∧ some k_ ≠ (.slice Ao52 t245.length co52 : Value).ownBlock) (.slice Ao70 t269.length co70) t288) ∧ (w'.heap[gb222]? = some (.cells #[.int .i64 a0_0, .int .i64 a0_1, .int .i64 a0_2] 23 (0, 0))) ∧ (w'.heap[gb223]? = some (.cells #[.int .i64 a2_0, .int .i64 a2_1, .int .i64 a2_2, .int .i64 a2_3, .int .i64 a2_4] 25 (0, 0))) ∧ (w'.heap[gb248]? = some (.cells #[.bool t239, .int .i64 t240, .int .i64 t241, .int .i64 t242, .int .i64 t243, .int .i64 t244, .slice Ao52 t245.length co52] 32 (0, 0))) ∧ (w'.heap[gb272]? = some (.cells #[.bool t263, .int .i64 t264, .int .i64 t265, .int .i64 t266, .int .i64 t267, .int .i64 t268, .slice Ao70 t269.length co70] 32 (0, 0))) ∧ (Below w.heap.size w w')) ?_ ?_
          rotate_left
          ·intro hJ1_4_6_8_9
           refine join_ (σ := Value × Value × Nat) 2 #[true, true, true, true, true, true, true, true, true, false, true, false] (fun s_ => [(90, .agg #[.int .i64 t290, .int .i64 t291, .int .i64 t292]), (93, .agg #[.int .i64 t293, .int .i64 t294, .int .i64 t295, .int .i64 t296, .int .i64 t297]), (95, s_.1), (97, s_.2.1), (19, .pointer (some ⟨s_.2.2, 0, none⟩))]) (fun s_ w' => (w'.cell? ⟨gb222, 0, none⟩ = some (.int .i64 a0_0) ∧ w'.cell? ⟨gb222, 1, none⟩ = some (.int .i64 a0_1) ∧ w'.cell? ⟨gb222, 2, none⟩ = some (.int .i64 a0_2) ∧ w'.cell? ⟨gb223, 0, none⟩ = some (.int .i64 a2_0) ∧ w'.cell? ⟨gb223, 1, none⟩ = some (.int .i64 a2_1) ∧ w'.cell? ⟨gb223, 2, none⟩ = some (.int .i64 a2_2) ∧ w'.cell? ⟨gb223, 3, none⟩ = some (.int .i64 a2_3) ∧ w'.cell? ⟨gb223, 4, none⟩ = some (.int .i64 a2_4)) ∧ (Kd.R (Kd.int .i64) 2 w' w.heap.size (fun _ => True) s_.1 t298) ∧ (Kd.R k60 60 w' w.heap.size (fun k_ => some k_ ≠ (.slice Ao52 t245.length co52 : Value).ownBlock ∧ some k_ ≠ (.slice Ao70 t269.length co70 : Value).ownBlock) s_.2.1 t301) ∧ (Kd.R k60 60 w' w.heap.size (fun k_ => some k_ ≠ (s_.2.1 : Value).ownBlock ∧ some k_ ≠ (.slice Ao70 t269.length co70 : Value).ownBlock) (.slice Ao52 t245.length co52) t245) ∧ (Kd.R k60 60 w' w.heap.size (fun k_ => some k_ ≠ (s_.2.1 : Value).ownBlock ∧ some k_ ≠ (.slice Ao52 t245.length co52 : Value).ownBlock) (.slice Ao70 t269.length co70) t288) ∧ (w'.heap[gb222]? = some (.cells #[.int .i64 a0_0, .int .i64 a0_1, .int .i64 a0_2] 23 (0, 0))) ∧ (w'.heap[gb223]? = some (.cells #[.int .i64 a2_0, .int .i64 a2_1, .int .i64 a2_2, .int .i64 a2_3, .int .i64 a2_4] 25 (0, 0))) ∧ (w'.heap[gb248]? = some (.cells #[.bool t239, .int .i64 t240, .int .i64 t241, .int .i64 t242, .int .i64 t243, .int .i64 t244, .slice Ao52 t245.length co52] 32 (0, 0))) ∧ (w'.heap[gb272]? = some (.cells #[.bool t263, .int .i64 t264, .int .i64 t265, .int .i64 t266, .int .i64 t267, .int .i64 t268, .slice Ao70 t269.length co70] 32 (0, 0))) ∧ (w'.heap[s_.2.2]? = some (.cells #[.bool false, .int .i64 0, .int .i64 0, .int .i64 0, .int .i64 0, .int .i64 0, .slice none 0 0] 32 (0, 0))) ∧ (w.heap.size ≤ s_.2.2) ∧ (w.heap.size ≤ s_.2.2) ∧ (gb222 ≠ s_.2.2) ∧ (s_.2.2 ≠ gb222) ∧ (gb223 ≠ s_.2.2) ∧ (s_.2.2 ≠ gb223) ∧ (gb248 ≠ s_.2.2) ∧ (s_.2.2 ≠ gb248) ∧ (gb272 ≠ s_.2.2) ∧ (s_.2.2 ≠ gb272) ∧ (Below w.heap.size w w')) ?_ ?_
           rotate_left
           ·intro hJ1_4_6_8_10
            refine join_ (σ := Value × Value) 3 #[true, true, true, true, true, true, true, true, true, false, false, false] (fun s_ => [(90, .agg #[.int .i64 t290, .int .i64 t291, .int .i64 t292]), (93, .agg #[.int .i64 t293, .int .i64 t294, .int .i64 t295, .int .i64 t296, .int .i64 t297]), (95, s_.1), (97, s_.2)]) (fun s_ w' => (w'.cell? ⟨gb222, 0, none⟩ = some (.int .i64 a0_0) ∧ w'.cell? ⟨gb222, 1, none⟩ = some (.int .i64 a0_1) ∧ w'.cell? ⟨gb222, 2, none⟩ = some (.int .i64 a0_2) ∧ w'.cell? ⟨gb223, 0, none⟩ = some (.int .i64 a2_0) ∧ w'.cell? ⟨gb223, 1, none⟩ = some (.int .i64 a2_1) ∧ w'.cell? ⟨gb223, 2, none⟩ = some (.int .i64 a2_2) ∧ w'.cell? ⟨gb223, 3, none⟩ = some (.int .i64 a2_3) ∧ w'.cell? ⟨gb223, 4, none⟩ = some (.int .i64 a2_4)) ∧ (Kd.R (Kd.int .i64) 2 w' w.heap.size (fun _ => True) s_.1 t298) ∧ (Kd.R k60 60 w' w.heap.size (fun k_ => some k_ ≠ (.slice Ao52 t245.length co52 : Value).ownBlock ∧ some k_ ≠ (.slice Ao70 t269.length co70 : Value).ownBlock) s_.2 t301) ∧ (Kd.R k60 60 w' w.heap.size (fun k_ => some k_ ≠ (s_.2 : Value).ownBlock ∧ some k_ ≠ (.slice Ao70 t269.length co70 : Value).ownBlock) (.slice Ao52 t245.length co52) t245) ∧ (Kd.R k60 60 w' w.heap.size (fun k_ => some k_ ≠ (s_.2 : Value).ownBlock ∧ some k_ ≠ (.slice Ao52 t245.length co52 : Value).ownBlock) (.slice Ao70 t269.length co70) t288) ∧ (w'.heap[gb222]? = some (.cells #[.int .i64 a0_0, .int .i64 a0_1, .int .i64 a0_2] 23 (0, 0))) ∧ (w'.heap[gb223]? = some (.cells #[.int .i64 a2_0, .int .i64 a2_1, .int .i64 a2_2, .int .i64 a2_3, .int .i64 a2_4] 25 (0, 0))) ∧ (w'.heap[gb248]? = some (.cells #[.bool t239, .int .i64 t240, .int .i64 t241, .int .i64 t242, .int .i64 t243, .int .i64 t244, .slice Ao52 t245.length co52] 32 (0, 0))) ∧ (w'.heap[gb272]? = some (.cells #[.bool t263, .int .i64 t264, .int .i64 t265, .int .i64 t266, .int .i64 t267, .int .i64 t268, .slice Ao70 t269.length co70] 32 (0, 0))) ∧ (Below w.heap.size w w')) ?_ ?_
            rotate_left
            ·intro hJ1_4_6_8
             refine join_ (σ := Value × Nat) 3 #[true, true, true, true, true, true, true, true, false, false, true, false] (fun s_ => [(90, .agg #[.int .i64 t290, .int .i64 t291, .int .i64 t292]), (93, .agg #[.int .i64 t293, .int .i64 t294, .int .i64 t295, .int .i64 t296, .int .i64 t297]), (95, s_.1), (19, .pointer (some ⟨s_.2, 0, none⟩))]) (fun s_ w' => (w'.cell? ⟨gb222, 0, none⟩ = some (.int .i64 a0_0) ∧ w'.cell? ⟨gb222, 1, none⟩ = some (.int .i64 a0_1) ∧ w'.cell? ⟨gb222, 2, none⟩ = some (.int .i64 a0_2) ∧ w'.cell? ⟨gb223, 0, none⟩ = some (.int .i64 a2_0) ∧ w'.cell? ⟨gb223, 1, none⟩ = some (.int .i64 a2_1) ∧ w'.cell? ⟨gb223, 2, none⟩ = some (.int .i64 a2_2) ∧ w'.cell? ⟨gb223, 3, none⟩ = some (.int .i64 a2_3) ∧ w'.cell? ⟨gb223, 4, none⟩ = some (.int .i64 a2_4)) ∧ (Kd.R (Kd.int .i64) 2 w' w.heap.size (fun _ => True) s_.1 t298) ∧ (Kd.R k60 60 w' w.heap.size (fun k_ => some k_ ≠ (.slice Ao70 t269.length co70 : Value).ownBlock) (.slice Ao52 t245.length co52) t245) ∧ (Kd.R k60 60 w' w.heap.size (fun k_ => some k_ ≠ (.slice Ao52 t245.length co52 : Value).ownBlock) (.slice Ao70 t269.length co70) t288) ∧ (w'.heap[gb222]? = some (.cells #[.int .i64 a0_0, .int .i64 a0_1, .int .i64 a0_2] 23 (0, 0))) ∧ (w'.heap[gb223]? = some (.cells #[.int .i64 a2_0, .int .i64 a2_1, .int .i64 a2_2, .int .i64 a2_3, .int .i64 a2_4] 25 (0, 0))) ∧ (w'.heap[gb248]? = some (.cells #[.bool t239, .int .i64 t240, .int .i64 t241, .int .i64 t242, .int .i64 t243, .int .i64 t244, .slice Ao52 t245.length co52] 32 (0, 0))) ∧ (w'.heap[gb272]? = some (.cells #[.bool t263, .int .i64 t264, .int .i64 t265, .int .i64 t266, .int .i64 t267, .int .i64 t268, .slice Ao70 t269.length co70] 32 (0, 0))) ∧ (w'.heap[s_.2]? = some (.cells #[.bool false, .int .i64 0, .int .i64 0, .int .i64 0, .int .i64 0, .int .i64 0, .slice none 0 0] 32 (0, 0))) ∧ (w.heap.size ≤ s_.2) ∧ (w.heap.size ≤ s_.2) ∧ (gb222 ≠ s_.2) ∧ (s_.2 ≠ gb222) ∧ (gb223 ≠ s_.2) ∧ (s_.2 ≠ gb223) ∧ (gb248 ≠ s_.2) ∧ (s_.2 ≠ gb248) ∧ (gb272 ≠ s_.2) ∧ (s_.2 ≠ gb272) ∧ (Below w.heap.size w w')) ?_ ?_
             rotate_left
             ·intro hJ1_4_6_10
              refine join_ (σ := Value) 4 #[true, true, true, true, true, true, true, true, false, false, false, false] (fun s_ => [(90, .agg #[.int .i64 t290, .int .i64 t291, .int .i64 t292]), (93, .agg #[.int .i64 t293, .int .i64 t294, .int .i64 t295, .int .i64 t296, .int .i64 t297]), (95, s_)]) (fun s_ w' => (w'.cell? ⟨gb222, 0, none⟩ = some (.int .i64 a0_0) ∧ w'.cell? ⟨gb222, 1, none⟩ = some (.int .i64 a0_1) ∧ w'.cell? ⟨gb222, 2, none⟩ = some (.int .i64 a0_2) ∧ w'.cell? ⟨gb223, 0, none⟩ = some (.int .i64 a2_0) ∧ w'.cell? ⟨gb223, 1, none⟩ = some (.int .i64 a2_1) ∧ w'.cell? ⟨gb223, 2, none⟩ = some (.int .i64 a2_2) ∧ w'.cell? ⟨gb223, 3, none⟩ = some (.int .i64 a2_3) ∧ w'.cell? ⟨gb223, 4, none⟩ = some (.int .i64 a2_4)) ∧ (Kd.R (Kd.int .i64) 2 w' w.heap.size (fun _ => True) s_ t298) ∧ (Kd.R k60 60 w' w.heap.size (fun k_ => some k_ ≠ (.slice Ao70 t269.length co70 : Value).ownBlock) (.slice Ao52 t245.length co52) t245) ∧ (Kd.R k60 60 w' w.heap.size (fun k_ => some k_ ≠ (.slice Ao52 t245.length co52 : Value).ownBlock) (.slice Ao70 t269.length co70) t288) ∧ (w'.heap[gb222]? = some (.cells #[.int .i64 a0_0, .int .i64 a0_1, .int .i64 a0_2] 23 (0, 0))) ∧ (w'.heap[gb223]? = some (.cells #[.int .i64 a2_0, .int .i64 a2_1, .int .i64 a2_2, .int .i64 a2_3, .int .i64 a2_4] 25 (0, 0))) ∧ (w'.heap[gb248]? = some (.cells #[.bool t239, .int .i64 t240, .int .i64 t241, .int .i64 t242, .int .i64 t243, .int .i64 t244, .slice Ao52 t245.length co52] 32 (0, 0))) ∧ (w'.heap[gb272]? = some (.cells #[.bool t263, .int .i64 t264, .int .i64 t265, .int .i64 t266, .int .i64 t267, .int .i64 t268, .slice Ao70 t269.length co70] 32 (0, 0))) ∧ (Below w.heap.size w w')) ?_ ?_
              rotate_left
              ·intro hJ1_4_6
               refine join_ (σ := Nat) 4 #[true, true, true, true, true, true, false, true, false, false, true, false] (fun s_ => [(90, .agg #[.int .i64 t290, .int .i64 t291, .int .i64 t292]), (93, .agg #[.int .i64 t293, .int .i64 t294, .int .i64 t295, .int .i64 t296, .int .i64 t297]), (19, .pointer (some ⟨s_, 0, none⟩))]) (fun s_ w' => (w'.cell? ⟨gb222, 0, none⟩ = some (.int .i64 a0_0) ∧ w'.cell? ⟨gb222, 1, none⟩ = some (.int .i64 a0_1) ∧ w'.cell? ⟨gb222, 2, none⟩ = some (.int .i64 a0_2) ∧ w'.cell? ⟨gb223, 0, none⟩ = some (.int .i64 a2_0) ∧ w'.cell? ⟨gb223, 1, none⟩ = some (.int .i64 a2_1) ∧ w'.cell? ⟨gb223, 2, none⟩ = some (.int .i64 a2_2) ∧ w'.cell? ⟨gb223, 3, none⟩ = some (.int .i64 a2_3) ∧ w'.cell? ⟨gb223, 4, none⟩ = some (.int .i64 a2_4)) ∧ (Kd.R k60 60 w' w.heap.size (fun k_ => some k_ ≠ (.slice Ao70 t269.length co70 : Value).ownBlock) (.slice Ao52 t245.length co52) t245) ∧ (Kd.R k60 60 w' w.heap.size (fun k_ => some k_ ≠ (.slice Ao52 t245.length co52 : Value).ownBlock) (.slice Ao70 t269.length co70) t288) ∧ (w'.heap[gb222]? = some (.cells #[.int .i64 a0_0, .int .i64 a0_1, .int .i64 a0_2] 23 (0, 0))) ∧ (w'.heap[gb223]? = some (.cells #[.int .i64 a2_0, .int .i64 a2_1, .int .i64 a2_2, .int .i64 a2_3, .int .i64 a2_4] 25 (0, 0))) ∧ (w'.heap[gb248]? = some (.cells #[.bool t239, .int .i64 t240, .int .i64 t241, .int .i64 t242, .int .i64 t243, .int .i64 t244, .slice Ao52 t245.length co52] 32 (0, 0))) ∧ (w'.heap[gb272]? = some (.cells #[.bool t263, .int .i64 t264, .int .i64 t265, .int .i64 t266, .int .i64 t267, .int .i64 t268, .slice Ao70 t269.length co70] 32 (0, 0))) ∧ (w'.heap[s_]? = some (.cells #[.bool false, .int .i64 0, .int .i64 0, .int .i64 0, .int .i64 0, .int .i64 0, .slice none 0 0] 32 (0, 0))) ∧ (w.heap.size ≤ s_) ∧ (w.heap.size ≤ s_) ∧ (gb222 ≠ s_) ∧ (s_ ≠ gb222) ∧ (gb223 ≠ s_) ∧ (s_ ≠ gb223) ∧ (gb248 ≠ s_) ∧ (s_ ≠ gb248) ∧ (gb272 ≠ s_) ∧ (s_ ≠ gb272) ∧ (Below w.heap.size w w')) ?_ ?_
               rotate_left
               ·intro hJ1_4_10
                refine join_ (σ := Unit) 5 #[true, true, true, true, true, true, false, true, false, false, false, false] (fun s_ => [(90, .agg #[.int .i64 t290, .int .i64 t291, .int .i64 t292]), (93, .agg #[.int .i64 t293, .int .i64 t294, .int .i64 t295, .int .i64 t296, .int .i64 t297])]) (fun s_ w' => (w'.cell? ⟨gb222, 0, none⟩ = some (.int .i64 a0_0) ∧ w'.cell? ⟨gb222, 1, none⟩ = some (.int .i64 a0_1) ∧ w'.cell? ⟨gb222, 2, none⟩ = some (.int .i64 a0_2) ∧ w'.cell? ⟨gb223, 0, none⟩ = some (.int .i64 a2_0) ∧ w'.cell? ⟨gb223, 1, none⟩ = some (.int .i64 a2_1) ∧ w'.cell? ⟨gb223, 2, none⟩ = some (.int .i64 a2_2) ∧ w'.cell? ⟨gb223, 3, none⟩ = some (.int .i64 a2_3) ∧ w'.cell? ⟨gb223, 4, none⟩ = some (.int .i64 a2_4)) ∧ (Kd.R k60 60 w' w.heap.size (fun k_ => some k_ ≠ (.slice Ao70 t269.length co70 : Value).ownBlock) (.slice Ao52 t245.length co52) t245) ∧ (Kd.R k60 60 w' w.heap.size (fun k_ => some k_ ≠ (.slice Ao52 t245.length co52 : Value).ownBlock) (.slice Ao70 t269.length co70) t288) ∧ (w'.heap[gb222]? = some (.cells #[.int .i64 a0_0, .int .i64 a0_1, .int .i64 a0_2] 23 (0, 0))) ∧ (w'.heap[gb223]? = some (.cells #[.int .i64 a2_0, .int .i64 a2_1, .int .i64 a2_2, .int .i64 a2_3, .int .i64 a2_4] 25 (0, 0))) ∧ (w'.heap[gb248]? = some (.cells #[.bool t239, .int .i64 t240, .int .i64 t241, .int .i64 t242, .int .i64 t243, .int .i64 t244, .slice Ao52 t245.length co52] 32 (0, 0))) ∧ (w'.heap[gb272]? = some (.cells #[.bool t263, .int .i64 t264, .int .i64 t265, .int .i64 t266, .int .i64 t267, .int .i64 t268, .slice Ao70 t269.length co70] 32 (0, 0))) ∧ (Below w.heap.size w w')) ?_ ?_
                rotate_left
                ·intro hJ1_4
                 refine join_ (σ := Nat) 5 #[true, true, true, true, false, true, false, true, false, false, true, false] (fun s_ => [(90, .agg #[.int .i64 t290, .int .i64 t291, .int .i64 t292]), (19, .pointer (some ⟨s_, 0, none⟩))]) (fun s_ w' => (w'.cell? ⟨gb222, 0, none⟩ = some (.int .i64 a0_0) ∧ w'.cell? ⟨gb222, 1, none⟩ = some (.int .i64 a0_1) ∧ w'.cell? ⟨gb222, 2, none⟩ = some (.int .i64 a0_2) ∧ w'.cell? ⟨gb223, 0, none⟩ = some (.int .i64 a2_0) ∧ w'.cell? ⟨gb223, 1, none⟩ = some (.int .i64 a2_1) ∧ w'.cell? ⟨gb223, 2, none⟩ = some (.int .i64 a2_2) ∧ w'.cell? ⟨gb223, 3, none⟩ = some (.int .i64 a2_3) ∧ w'.cell? ⟨gb223, 4, none⟩ = some (.int .i64 a2_4)) ∧ (Kd.R k60 60 w' w.heap.size (fun k_ => some k_ ≠ (.slice Ao70 t269.length co70 : Value).ownBlock) (.slice Ao52 t245.length co52) t245) ∧ (Kd.R k60 60 w' w.heap.size (fun k_ => some k_ ≠ (.slice Ao52 t245.length co52 : Value).ownBlock) (.slice Ao70 t269.length co70) t288) ∧ (w'.heap[gb222]? = some (.cells #[.int .i64 a0_0, .int .i64 a0_1, .int .i64 a0_2] 23 (0, 0))) ∧ (w'.heap[gb223]? = some (.cells #[.int .i64 a2_0, .int .i64 a2_1, .int .i64 a2_2, .int .i64 a2_3, .int .i64 a2_4] 25 (0, 0))) ∧ (w'.heap[gb248]? = some (.cells #[.bool t239, .int .i64 t240, .int .i64 t241, .int .i64 t242, .int .i64 t243, .int .i64 t244, .slice Ao52 t245.length co52] 32 (0, 0))) ∧ (w'.heap[gb272]? = some (.cells #[.bool t263, .int .i64 t264, .int .i64 t265, .int .i64 t266, .int .i64 t267, .int .i64 t268, .slice Ao70 t269.length co70] 32 (0, 0))) ∧ (w'.heap[s_]? = some (.cells #[.bool false, .int .i64 0, .int .i64 0, .int .i64 0, .int .i64 0, .int .i64 0, .slice none 0 0] 32 (0, 0))) ∧ (w.heap.size ≤ s_) ∧ (w.heap.size ≤ s_) ∧ (gb222 ≠ s_) ∧ (s_ ≠ gb222) ∧ (gb223 ≠ s_) ∧ (s_ ≠ gb223) ∧ (gb248 ≠ s_) ∧ (s_ ≠ gb248) ∧ (gb272 ≠ s_) ∧ (s_ ≠ gb272) ∧ (Below w.heap.size w w')) ?_ ?_
                 rotate_left
                 ·intro hJ1_10
                  refine join_ (σ := Unit) 6 #[true, true, true, true, false, true, false, true, false, false, false, false] (fun s_ => [(90, .agg #[.int .i64 t290, .int .i64 t291, .int .i64 t292])]) (fun s_ w' => (w'.cell? ⟨gb222, 0, none⟩ = some (.int .i64 a0_0) ∧ w'.cell? ⟨gb222, 1, none⟩ = some (.int .i64 a0_1) ∧ w'.cell? ⟨gb222, 2, none⟩ = some (.int .i64 a0_2) ∧ w'.cell? ⟨gb223, 0, none⟩ = some (.int .i64 a2_0) ∧ w'.cell? ⟨gb223, 1, none⟩ = some (.int .i64 a2_1) ∧ w'.cell? ⟨gb223, 2, none⟩ = some (.int .i64 a2_2) ∧ w'.cell? ⟨gb223, 3, none⟩ = some (.int .i64 a2_3) ∧ w'.cell? ⟨gb223, 4, none⟩ = some (.int .i64 a2_4)) ∧ (Kd.R k60 60 w' w.heap.size (fun k_ => some k_ ≠ (.slice Ao70 t269.length co70 : Value).ownBlock) (.slice Ao52 t245.length co52) t245) ∧ (Kd.R k60 60 w' w.heap.size (fun k_ => some k_ ≠ (.slice Ao52 t245.length co52 : Value).ownBlock) (.slice Ao70 t269.length co70) t288) ∧ (w'.heap[gb222]? = some (.cells #[.int .i64 a0_0, .int .i64 a0_1, .int .i64 a0_2] 23 (0, 0))) ∧ (w'.heap[gb223]? = some (.cells #[.int .i64 a2_0, .int .i64 a2_1, .int .i64 a2_2, .int .i64 a2_3, .int .i64 a2_4] 25 (0, 0))) ∧ (w'.heap[gb248]? = some (.cells #[.bool t239, .int .i64 t240, .int .i64 t241, .int .i64 t242, .int .i64 t243, .int .i64 t244, .slice Ao52 t245.length co52] 32 (0, 0))) ∧ (w'.heap[gb272]? = some (.cells #[.bool t263, .int .i64 t264, .int .i64 t265, .int .i64 t266, .int .i64 t267, .int .i64 t268, .slice Ao70 t269.length co70] 32 (0, 0))) ∧ (Below w.heap.size w w')) ?_ ?_
                  rotate_left
                  ·intro hJ1
                   refine join_ (σ := Nat) 6 #[true, false, true, true, false, true, false, true, false, false, true, false] (fun s_ => [(19, .pointer (some ⟨s_, 0, none⟩))]) (fun s_ w' => (w'.cell? ⟨gb222, 0, none⟩ = some (.int .i64 a0_0) ∧ w'.cell? ⟨gb222, 1, none⟩ = some (.int .i64 a0_1) ∧ w'.cell? ⟨gb222, 2, none⟩ = some (.int .i64 a0_2) ∧ w'.cell? ⟨gb223, 0, none⟩ = some (.int .i64 a2_0) ∧ w'.cell? ⟨gb223, 1, none⟩ = some (.int .i64 a2_1) ∧ w'.cell? ⟨gb223, 2, none⟩ = some (.int .i64 a2_2) ∧ w'.cell? ⟨gb223, 3, none⟩ = some (.int .i64 a2_3) ∧ w'.cell? ⟨gb223, 4, none⟩ = some (.int .i64 a2_4)) ∧ (Kd.R k60 60 w' w.heap.size (fun k_ => some k_ ≠ (.slice Ao70 t269.length co70 : Value).ownBlock) (.slice Ao52 t245.length co52) t245) ∧ (Kd.R k60 60 w' w.heap.size (fun k_ => some k_ ≠ (.slice Ao52 t245.length co52 : Value).ownBlock) (.slice Ao70 t269.length co70) t288) ∧ (w'.heap[gb222]? = some (.cells #[.int .i64 a0_0, .int .i64 a0_1, .int .i64 a0_2] 23 (0, 0))) ∧ (w'.heap[gb223]? = some (.cells #[.int .i64 a2_0, .int .i64 a2_1, .int .i64 a2_2, .int .i64 a2_3, .int .i64 a2_4] 25 (0, 0))) ∧ (w'.heap[gb248]? = some (.cells #[.bool t239, .int .i64 t240, .int .i64 t241, .int .i64 t242, .int .i64 t243, .int .i64 t244, .slice Ao52 t245.length co52] 32 (0, 0))) ∧ (w'.heap[gb272]? = some (.cells #[.bool t263, .int .i64 t264, .int .i64 t265, .int .i64 t266, .int .i64 t267, .int .i64 t268, .slice Ao70 t269.length co70] 32 (0, 0))) ∧ (w'.heap[s_]? = some (.cells #[.bool false, .int .i64 0, .int .i64 0, .int .i64 0, .int .i64 0, .int .i64 0, .slice none 0 0] 32 (0, 0))) ∧ (w.heap.size ≤ s_) ∧ (w.heap.size ≤ s_) ∧ (gb222 ≠ s_) ∧ (s_ ≠ gb222) ∧ (gb223 ≠ s_) ∧ (s_ ≠ gb223) ∧ (gb248 ≠ s_) ∧ (s_ ≠ gb248) ∧ (gb272 ≠ s_) ∧ (s_ ≠ gb272) ∧ (Below w.heap.size w w')) ?_ ?_
                   rotate_left
                   ·intro hJ10
                    refine two_ (i := 1) (j := 10) (Ni := some 90) (Nj := some 19) #[true, true, true, true, false, true, false, true, false, false, false, false] #[true, false, true, true, false, true, false, true, false, false, true, false] rfl rfl rfl rfl (two_of HT_.out (by kernel_rfl)) (by decide) (by decide) (fun K hK => ?_) (fun K hK => ?_)
                    ·skip
                     refine goesA Try.func13 #[.agg #[.int .i64 a0_0, .int .i64 a0_1, .int .i64 a0_2]] ?_
                     with_reducible refine (laws_toRules.calls a0_0 a0_1 a0_2 t290 t291 t292 _ A102.out).mono ?_
                     rintro e w120 ⟨rfl, hb⟩
                     refine ⟨_, rfl, ?_⟩
                     have n0_ := rbl HO_249006 hb; have n1_ := rbl HO_273006 hb; have n2_ := bkb BK222 hb; have n3_ := bkb BK223 hb; have n4_ := bkb BK248 hb; have n5_ := bkb BK272 hb; have n6_ := bst HB hb; clear HO_249006 HO_273006 BK222 BK223 BK248 BK272 HB; have HO_249006 := n0_; have HO_273006 := n1_; have BK222 := n2_; have BK223 := n3_; have BK248 := n4_; have BK272 := n5_; have HB := n6_; clear n0_ n1_ n2_ n3_ n4_ n5_ n6_; (try clear hb); (try clear hb2); (try clear hk); (try clear hi)
                     refine hK.out _ _ ⟨bc BK222 0, bc BK222 1, bc BK222 2, bc BK223 0, bc BK223 1, bc BK223 2, bc BK223 3, bc BK223 4⟩ (fun hHeld => ?_)
                     clear hK K
                     refine normP ?_
                     exact normA (hJ1 () _ ⟨hHeld, (qr HO_249006), (qr HO_273006), (qb BK222), (qb BK223), (qb BK248), (qb BK272), (qs HB)⟩)
                    skip
                    refine box_step ?hg (N := 19) ?hd (cs := #[.bool false, .int .i64 0, .int .i64 0, .int .i64 0, .int .i64 0, .int .i64 0, .slice none 0 0]) (t := 32) ?hr ?_; (case hd => rfl); (case hg => rfl); (case hr => first | (go_simp; done) | (go_simp; rfl))
                    intro gb313 hg w120 hbox hb
                    have n0_ := rbl HO_249006 hb; have n1_ := rbl HO_273006 hb; have n2_ := bkb BK222 hb; have n3_ := bkb BK223 hb; have n4_ := bkb BK248 hb; have n5_ := bkb BK272 hb; have n6_ := bst HB hb
                    have n7_ := Aside0.mk (hbox)
                    have n8_ := nge HB hg; have n9_ := nge HB hg; have n10_ := nlt BK222 hg; have n11_ := ngt BK222 hg; have n12_ := nlt BK223 hg; have n13_ := ngt BK223 hg; have n14_ := nlt BK248 hg; have n15_ := ngt BK248 hg; have n16_ := nlt BK272 hg; have n17_ := ngt BK272 hg; clear HO_249006 HO_273006 BK222 BK223 BK248 BK272 HB; have HO_249006 := n0_; have HO_273006 := n1_; have BK222 := n2_; have BK223 := n3_; have BK248 := n4_; have BK272 := n5_; have HB := n6_; have BK313 := n7_; have GW313 := n8_; have GE313 := n9_; have NB222_313 := n10_; have NB313_222 := n11_; have NB223_313 := n12_; have NB313_223 := n13_; have NB248_313 := n14_; have NB313_248 := n15_; have NB272_313 := n16_; have NB313_272 := n17_; clear n0_ n1_ n2_ n3_ n4_ n5_ n6_ n7_ n8_ n9_ n10_ n11_ n12_ n13_ n14_ n15_ n16_ n17_ hb hbox hg
                    refine hK.out _ _ ⟨bc BK222 0, bc BK222 1, bc BK222 2, bc BK223 0, bc BK223 1, bc BK223 2, bc BK223 3, bc BK223 4⟩ (fun hHeld => ?_)
                    clear hK K
                    refine normP ?_
                    exact normA (hJ10 (gb313) _ ⟨hHeld, (qr HO_249006), (qr HO_273006), (qb BK222), (qb BK223), (qb BK248), (qb BK272), (qb BK313), GW313.out, GE313.out, NB222_313.out, NB313_222.out, NB223_313.out, NB313_223.out, NB248_313.out, NB313_248.out, NB272_313.out, NB313_272.out, (qs HB)⟩)
                   skip
                   rintro gb313 w121 ⟨hS_, h0_, h1_, h2_, h3_, h4_, h5_, h6_, h7_, h8_, h9_, h10_, h11_, h12_, h13_, h14_, h15_, h16_, h17_⟩
                   have n0_ := Aside0.mk h0_; have n1_ := Aside0.mk h1_; have n2_ := Aside0.mk h2_; have n3_ := Aside0.mk h3_; have n4_ := Aside0.mk h4_; have n5_ := Aside0.mk h5_; have n6_ := Aside0.mk h6_; have n7_ := Aside0.mk h7_; have n8_ := Aside0.mk h8_; have n9_ := Aside0.mk h9_; have n10_ := Aside0.mk h10_; have n11_ := Aside0.mk h11_; have n12_ := Aside0.mk h12_; have n13_ := Aside0.mk h13_; have n14_ := Aside0.mk h14_; have n15_ := Aside0.mk h15_; have n16_ := Aside0.mk h16_; have n17_ := Aside0.mk h17_
                   clear HO_249006 HO_273006 BK222 BK223 BK248 BK272 HB h0_ h1_ h2_ h3_ h4_ h5_ h6_ h7_ h8_ h9_ h10_ h11_ h12_ h13_ h14_ h15_ h16_ h17_; have HO_249006 := n0_; have HO_273006 := n1_; have BK222 := n2_; have BK223 := n3_; have BK248 := n4_; have BK272 := n5_; have BK313 := n6_; have GW313 := n7_; have GE313 := n8_; have NB222_313 := n9_; have NB313_222 := n10_; have NB223_313 := n11_; have NB313_223 := n12_; have NB248_313 := n13_; have NB313_248 := n14_; have NB272_313 := n15_; have NB313_272 := n16_; have HB := n17_; clear n0_ n1_ n2_ n3_ n4_ n5_ n6_ n7_ n8_ n9_ n10_ n11_ n12_ n13_ n14_ n15_ n16_ n17_
                   have hHeld := hS_
                   refine normQ ?_
                   refine one_ (i := 1) (N := some 90) #[true, true, true, true, false, true, false, true, false, false, true, false] rfl rfl (one_of HT_.out (by kernel_rfl)) (by decide) (fun K hK => ?_)
                   refine goesA Try.func13 #[.agg #[.int .i64 a0_0, .int .i64 a0_1, .int .i64 a0_2]] ?_
                   with_reducible refine (laws_toRules.calls a0_0 a0_1 a0_2 t290 t291 t292 _ A102.out).mono ?_
                   rintro e w122 ⟨rfl, hb⟩
                   refine ⟨_, rfl, ?_⟩
                   have n0_ := rbl HO_249006 hb; have n1_ := rbl HO_273006 hb; have n2_ := bkb BK222 hb; have n3_ := bkb BK223 hb; have n4_ := bkb BK248 hb; have n5_ := bkb BK272 hb; have n6_ := bkb BK313 hb; have n7_ := bst HB hb; clear HO_249006 HO_273006 BK222 BK223 BK248 BK272 BK313 HB; have HO_249006 := n0_; have HO_273006 := n1_; have BK222 := n2_; have BK223 := n3_; have BK248 := n4_; have BK272 := n5_; have BK313 := n6_; have HB := n7_; clear n0_ n1_ n2_ n3_ n4_ n5_ n6_ n7_; (try clear hb); (try clear hb2); (try clear hk); (try clear hi)
                   refine hK.out _ _ ⟨bc BK222 0, bc BK222 1, bc BK222 2, bc BK223 0, bc BK223 1, bc BK223 2, bc BK223 3, bc BK223 4⟩ (fun hHeld => ?_)
                   clear hK K
                   refine normP ?_
                   exact normA (hJ1_10 (gb313) _ ⟨hHeld, (qr HO_249006), (qr HO_273006), (qb BK222), (qb BK223), (qb BK248), (qb BK272), (qb BK313), GW313.out, GE313.out, NB222_313.out, NB313_222.out, NB223_313.out, NB313_223.out, NB248_313.out, NB313_248.out, NB272_313.out, NB313_272.out, (qs HB)⟩)
                  skip
                  rintro _ w121 ⟨hS_, h0_, h1_, h2_, h3_, h4_, h5_, h6_⟩
                  have n0_ := Aside0.mk h0_; have n1_ := Aside0.mk h1_; have n2_ := Aside0.mk h2_; have n3_ := Aside0.mk h3_; have n4_ := Aside0.mk h4_; have n5_ := Aside0.mk h5_; have n6_ := Aside0.mk h6_
                  clear HO_249006 HO_273006 BK222 BK223 BK248 BK272 HB h0_ h1_ h2_ h3_ h4_ h5_ h6_; have HO_249006 := n0_; have HO_273006 := n1_; have BK222 := n2_; have BK223 := n3_; have BK248 := n4_; have BK272 := n5_; have HB := n6_; clear n0_ n1_ n2_ n3_ n4_ n5_ n6_
                  have hHeld := hS_
                  refine normQ ?_
                  refine two_ (i := 4) (j := 10) (Ni := some 93) (Nj := some 19) #[true, true, true, true, true, true, false, true, false, false, false, false] #[true, true, true, true, false, true, false, true, false, false, true, false] rfl rfl rfl rfl (two_of HT_.out (by kernel_rfl)) (by decide) (by decide) (fun K hK => ?_) (fun K hK => ?_)
                  ·skip
                   refine goesA Try.func14 #[.agg #[.int .i64 a2_0, .int .i64 a2_1, .int .i64 a2_2, .int .i64 a2_3, .int .i64 a2_4]] ?_
                   with_reducible refine (laws_toBox.calls a2_0 a2_1 a2_2 a2_3 a2_4 t293 t294 t295 t296 t297 _ A103.out).mono ?_
                   rintro e w122 ⟨rfl, hb⟩
                   refine ⟨_, rfl, ?_⟩
                   have n0_ := rbl HO_249006 hb; have n1_ := rbl HO_273006 hb; have n2_ := bkb BK222 hb; have n3_ := bkb BK223 hb; have n4_ := bkb BK248 hb; have n5_ := bkb BK272 hb; have n6_ := bst HB hb; clear HO_249006 HO_273006 BK222 BK223 BK248 BK272 HB; have HO_249006 := n0_; have HO_273006 := n1_; have BK222 := n2_; have BK223 := n3_; have BK248 := n4_; have BK272 := n5_; have HB := n6_; clear n0_ n1_ n2_ n3_ n4_ n5_ n6_; (try clear hb); (try clear hb2); (try clear hk); (try clear hi)
                   refine hK.out _ _ ⟨bc BK222 0, bc BK222 1, bc BK222 2, bc BK223 0, bc BK223 1, bc BK223 2, bc BK223 3, bc BK223 4⟩ (fun hHeld => ?_)
                   clear hK K
                   refine normP ?_
                   exact normA (hJ1_4 () _ ⟨hHeld, (qr HO_249006), (qr HO_273006), (qb BK222), (qb BK223), (qb BK248), (qb BK272), (qs HB)⟩)
                  skip
                  refine box_step ?hg (N := 19) ?hd (cs := #[.bool false, .int .i64 0, .int .i64 0, .int .i64 0, .int .i64 0, .int .i64 0, .slice none 0 0]) (t := 32) ?hr ?_; (case hd => rfl); (case hg => rfl); (case hr => first | (go_simp; done) | (go_simp; rfl))
                  intro gb313 hg w122 hbox hb
                  have n0_ := rbl HO_249006 hb; have n1_ := rbl HO_273006 hb; have n2_ := bkb BK222 hb; have n3_ := bkb BK223 hb; have n4_ := bkb BK248 hb; have n5_ := bkb BK272 hb; have n6_ := bst HB hb
                  have n7_ := Aside0.mk (hbox)
                  have n8_ := nge HB hg; have n9_ := nge HB hg; have n10_ := nlt BK222 hg; have n11_ := ngt BK222 hg; have n12_ := nlt BK223 hg; have n13_ := ngt BK223 hg; have n14_ := nlt BK248 hg; have n15_ := ngt BK248 hg; have n16_ := nlt BK272 hg; have n17_ := ngt BK272 hg; clear HO_249006 HO_273006 BK222 BK223 BK248 BK272 HB; have HO_249006 := n0_; have HO_273006 := n1_; have BK222 := n2_; have BK223 := n3_; have BK248 := n4_; have BK272 := n5_; have HB := n6_; have BK313 := n7_; have GW313 := n8_; have GE313 := n9_; have NB222_313 := n10_; have NB313_222 := n11_; have NB223_313 := n12_; have NB313_223 := n13_; have NB248_313 := n14_; have NB313_248 := n15_; have NB272_313 := n16_; have NB313_272 := n17_; clear n0_ n1_ n2_ n3_ n4_ n5_ n6_ n7_ n8_ n9_ n10_ n11_ n12_ n13_ n14_ n15_ n16_ n17_ hb hbox hg
                  refine hK.out _ _ ⟨bc BK222 0, bc BK222 1, bc BK222 2, bc BK223 0, bc BK223 1, bc BK223 2, bc BK223 3, bc BK223 4⟩ (fun hHeld => ?_)
                  clear hK K
                  refine normP ?_
                  exact normA (hJ1_10 (gb313) _ ⟨hHeld, (qr HO_249006), (qr HO_273006), (qb BK222), (qb BK223), (qb BK248), (qb BK272), (qb BK313), GW313.out, GE313.out, NB222_313.out, NB313_222.out, NB223_313.out, NB313_223.out, NB248_313.out, NB313_248.out, NB272_313.out, NB313_272.out, (qs HB)⟩)
                 skip
                 rintro gb313 w122 ⟨hS_, h0_, h1_, h2_, h3_, h4_, h5_, h6_, h7_, h8_, h9_, h10_, h11_, h12_, h13_, h14_, h15_, h16_, h17_⟩
                 have n0_ := Aside0.mk h0_; have n1_ := Aside0.mk h1_; have n2_ := Aside0.mk h2_; have n3_ := Aside0.mk h3_; have n4_ := Aside0.mk h4_; have n5_ := Aside0.mk h5_; have n6_ := Aside0.mk h6_; have n7_ := Aside0.mk h7_; have n8_ := Aside0.mk h8_; have n9_ := Aside0.mk h9_; have n10_ := Aside0.mk h10_; have n11_ := Aside0.mk h11_; have n12_ := Aside0.mk h12_; have n13_ := Aside0.mk h13_; have n14_ := Aside0.mk h14_; have n15_ := Aside0.mk h15_; have n16_ := Aside0.mk h16_; have n17_ := Aside0.mk h17_
                 clear HO_249006 HO_273006 BK222 BK223 BK248 BK272 HB h0_ h1_ h2_ h3_ h4_ h5_ h6_ h7_ h8_ h9_ h10_ h11_ h12_ h13_ h14_ h15_ h16_ h17_; have HO_249006 := n0_; have HO_273006 := n1_; have BK222 := n2_; have BK223 := n3_; have BK248 := n4_; have BK272 := n5_; have BK313 := n6_; have GW313 := n7_; have GE313 := n8_; have NB222_313 := n9_; have NB313_222 := n10_; have NB223_313 := n11_; have NB313_223 := n12_; have NB248_313 := n13_; have NB313_248 := n14_; have NB272_313 := n15_; have NB313_272 := n16_; have HB := n17_; clear n0_ n1_ n2_ n3_ n4_ n5_ n6_ n7_ n8_ n9_ n10_ n11_ n12_ n13_ n14_ n15_ n16_ n17_
                 have hHeld := hS_
                 refine normQ ?_
                 refine one_ (i := 4) (N := some 93) #[true, true, true, true, true, true, false, true, false, false, true, false] rfl rfl (one_of HT_.out (by kernel_rfl)) (by decide) (fun K hK => ?_)
                 refine goesA Try.func14 #[.agg #[.int .i64 a2_0, .int .i64 a2_1, .int .i64 a2_2, .int .i64 a2_3, .int .i64 a2_4]] ?_
                 with_reducible refine (laws_toBox.calls a2_0 a2_1 a2_2 a2_3 a2_4 t293 t294 t295 t296 t297 _ A103.out).mono ?_
                 rintro e w123 ⟨rfl, hb⟩
                 refine ⟨_, rfl, ?_⟩
                 have n0_ := rbl HO_249006 hb; have n1_ := rbl HO_273006 hb; have n2_ := bkb BK222 hb; have n3_ := bkb BK223 hb; have n4_ := bkb BK248 hb; have n5_ := bkb BK272 hb; have n6_ := bkb BK313 hb; have n7_ := bst HB hb; clear HO_249006 HO_273006 BK222 BK223 BK248 BK272 BK313 HB; have HO_249006 := n0_; have HO_273006 := n1_; have BK222 := n2_; have BK223 := n3_; have BK248 := n4_; have BK272 := n5_; have BK313 := n6_; have HB := n7_; clear n0_ n1_ n2_ n3_ n4_ n5_ n6_ n7_; (try clear hb); (try clear hb2); (try clear hk); (try clear hi)
                 refine hK.out _ _ ⟨bc BK222 0, bc BK222 1, bc BK222 2, bc BK223 0, bc BK223 1, bc BK223 2, bc BK223 3, bc BK223 4⟩ (fun hHeld => ?_)
                 clear hK K
                 refine normP ?_
                 exact normA (hJ1_4_10 (gb313) _ ⟨hHeld, (qr HO_249006), (qr HO_273006), (qb BK222), (qb BK223), (qb BK248), (qb BK272), (qb BK313), GW313.out, GE313.out, NB222_313.out, NB313_222.out, NB223_313.out, NB313_223.out, NB248_313.out, NB313_248.out, NB272_313.out, NB313_272.out, (qs HB)⟩)
                skip
                rintro _ w122 ⟨hS_, h0_, h1_, h2_, h3_, h4_, h5_, h6_⟩
                have n0_ := Aside0.mk h0_; have n1_ := Aside0.mk h1_; have n2_ := Aside0.mk h2_; have n3_ := Aside0.mk h3_; have n4_ := Aside0.mk h4_; have n5_ := Aside0.mk h5_; have n6_ := Aside0.mk h6_
                clear HO_249006 HO_273006 BK222 BK223 BK248 BK272 HB h0_ h1_ h2_ h3_ h4_ h5_ h6_; have HO_249006 := n0_; have HO_273006 := n1_; have BK222 := n2_; have BK223 := n3_; have BK248 := n4_; have BK272 := n5_; have HB := n6_; clear n0_ n1_ n2_ n3_ n4_ n5_ n6_
                have hHeld := hS_
                refine normQ ?_
                refine two_ (i := 6) (j := 10) (Ni := some 95) (Nj := some 19) #[true, true, true, true, true, true, true, true, false, false, false, false] #[true, true, true, true, true, true, false, true, false, false, true, false] rfl rfl rfl rfl (two_of HT_.out (by kernel_rfl)) (by decide) (by decide) (fun K hK => ?_) (fun K hK => ?_)
                ·skip
                 refine goesA Try.func15 #[.slice A3 l3.length c3] ?_
                 with_reducible refine (laws_toInt64S.calls kj32 _ _ l3 t298 _ ?side1 ?side2 A104.out).mono ?_
                 (case side1 => exact qc (Kd.C_below HR3.out HB.out))
                 (case side2 => exact HC3.out)
                 rintro e w123 ⟨v299, rfl, ho0, hb⟩
                 refine ⟨_, rfl, ?_⟩
                 have n0_ := rbl HO_249006 hb; have n1_ := rbl HO_273006 hb
                 have n2_ := Aside0.mk (Kd.R_lower ho0 (below_size (qs HB)))
                 have n3_ := bkb BK222 hb; have n4_ := bkb BK223 hb; have n5_ := bkb BK248 hb; have n6_ := bkb BK272 hb; have n7_ := bst HB hb; clear HO_249006 HO_273006 BK222 BK223 BK248 BK272 HB; have HO_249006 := n0_; have HO_273006 := n1_; have HO300 := n2_; have BK222 := n3_; have BK223 := n4_; have BK248 := n5_; have BK272 := n6_; have HB := n7_; clear n0_ n1_ n2_ n3_ n4_ n5_ n6_ n7_; (try clear hb); (try clear hb2); (try clear hk); (try clear hi); (try clear ho0)
                 refine hK.out _ _ ⟨bc BK222 0, bc BK222 1, bc BK222 2, bc BK223 0, bc BK223 1, bc BK223 2, bc BK223 3, bc BK223 4⟩ (fun hHeld => ?_)
                 clear hK K
                 refine normP ?_
                 exact normA (hJ1_4_6 (v299) _ ⟨hHeld, (qr HO300), (qr HO_249006), (qr HO_273006), (qb BK222), (qb BK223), (qb BK248), (qb BK272), (qs HB)⟩)
                skip
                refine box_step ?hg (N := 19) ?hd (cs := #[.bool false, .int .i64 0, .int .i64 0, .int .i64 0, .int .i64 0, .int .i64 0, .slice none 0 0]) (t := 32) ?hr ?_; (case hd => rfl); (case hg => rfl); (case hr => first | (go_simp; done) | (go_simp; rfl))
                intro gb313 hg w123 hbox hb
                have n0_ := rbl HO_249006 hb; have n1_ := rbl HO_273006 hb; have n2_ := bkb BK222 hb; have n3_ := bkb BK223 hb; have n4_ := bkb BK248 hb; have n5_ := bkb BK272 hb; have n6_ := bst HB hb
                have n7_ := Aside0.mk (hbox)
                have n8_ := nge HB hg; have n9_ := nge HB hg; have n10_ := nlt BK222 hg; have n11_ := ngt BK222 hg; have n12_ := nlt BK223 hg; have n13_ := ngt BK223 hg; have n14_ := nlt BK248 hg; have n15_ := ngt BK248 hg; have n16_ := nlt BK272 hg; have n17_ := ngt BK272 hg; clear HO_249006 HO_273006 BK222 BK223 BK248 BK272 HB; have HO_249006 := n0_; have HO_273006 := n1_; have BK222 := n2_; have BK223 := n3_; have BK248 := n4_; have BK272 := n5_; have HB := n6_; have BK313 := n7_; have GW313 := n8_; have GE313 := n9_; have NB222_313 := n10_; have NB313_222 := n11_; have NB223_313 := n12_; have NB313_223 := n13_; have NB248_313 := n14_; have NB313_248 := n15_; have NB272_313 := n16_; have NB313_272 := n17_; clear n0_ n1_ n2_ n3_ n4_ n5_ n6_ n7_ n8_ n9_ n10_ n11_ n12_ n13_ n14_ n15_ n16_ n17_ hb hbox hg
                refine hK.out _ _ ⟨bc BK222 0, bc BK222 1, bc BK222 2, bc BK223 0, bc BK223 1, bc BK223 2, bc BK223 3, bc BK223 4⟩ (fun hHeld => ?_)
                clear hK K
                refine normP ?_
                exact normA (hJ1_4_10 (gb313) _ ⟨hHeld, (qr HO_249006), (qr HO_273006), (qb BK222), (qb BK223), (qb BK248), (qb BK272), (qb BK313), GW313.out, GE313.out, NB222_313.out, NB313_222.out, NB223_313.out, NB313_223.out, NB248_313.out, NB313_248.out, NB272_313.out, NB313_272.out, (qs HB)⟩)
               skip
               rintro gb313 w123 ⟨hS_, h0_, h1_, h2_, h3_, h4_, h5_, h6_, h7_, h8_, h9_, h10_, h11_, h12_, h13_, h14_, h15_, h16_, h17_⟩
               have n0_ := Aside0.mk h0_; have n1_ := Aside0.mk h1_; have n2_ := Aside0.mk h2_; have n3_ := Aside0.mk h3_; have n4_ := Aside0.mk h4_; have n5_ := Aside0.mk h5_; have n6_ := Aside0.mk h6_; have n7_ := Aside0.mk h7_; have n8_ := Aside0.mk h8_; have n9_ := Aside0.mk h9_; have n10_ := Aside0.mk h10_; have n11_ := Aside0.mk h11_; have n12_ := Aside0.mk h12_; have n13_ := Aside0.mk h13_; have n14_ := Aside0.mk h14_; have n15_ := Aside0.mk h15_; have n16_ := Aside0.mk h16_; have n17_ := Aside0.mk h17_
               clear HO_249006 HO_273006 BK222 BK223 BK248 BK272 HB h0_ h1_ h2_ h3_ h4_ h5_ h6_ h7_ h8_ h9_ h10_ h11_ h12_ h13_ h14_ h15_ h16_ h17_; have HO_249006 := n0_; have HO_273006 := n1_; have BK222 := n2_; have BK223 := n3_; have BK248 := n4_; have BK272 := n5_; have BK313 := n6_; have GW313 := n7_; have GE313 := n8_; have NB222_313 := n9_; have NB313_222 := n10_; have NB223_313 := n11_; have NB313_223 := n12_; have NB248_313 := n13_; have NB313_248 := n14_; have NB272_313 := n15_; have NB313_272 := n16_; have HB := n17_; clear n0_ n1_ n2_ n3_ n4_ n5_ n6_ n7_ n8_ n9_ n10_ n11_ n12_ n13_ n14_ n15_ n16_ n17_
               have hHeld := hS_
               refine normQ ?_
               refine one_ (i := 6) (N := some 95) #[true, true, true, true, true, true, true, true, false, false, true, false] rfl rfl (one_of HT_.out (by kernel_rfl)) (by decide) (fun K hK => ?_)
               refine goesA Try.func15 #[.slice A3 l3.length c3] ?_
               with_reducible refine (laws_toInt64S.calls kj32 _ _ l3 t298 _ ?side1 ?side2 A104.out).mono ?_
               (case side1 => exact qc (Kd.C_below HR3.out HB.out))
               (case side2 => exact HC3.out)
               rintro e w124 ⟨v299, rfl, ho0, hb⟩
               refine ⟨_, rfl, ?_⟩
               have n0_ := rbl HO_249006 hb; have n1_ := rbl HO_273006 hb
               have n2_ := Aside0.mk (Kd.R_lower ho0 (below_size (qs HB)))
               have n3_ := bkb BK222 hb; have n4_ := bkb BK223 hb; have n5_ := bkb BK248 hb; have n6_ := bkb BK272 hb; have n7_ := bkb BK313 hb; have n8_ := bst HB hb; clear HO_249006 HO_273006 BK222 BK223 BK248 BK272 BK313 HB; have HO_249006 := n0_; have HO_273006 := n1_; have HO300 := n2_; have BK222 := n3_; have BK223 := n4_; have BK248 := n5_; have BK272 := n6_; have BK313 := n7_; have HB := n8_; clear n0_ n1_ n2_ n3_ n4_ n5_ n6_ n7_ n8_; (try clear hb); (try clear hb2); (try clear hk); (try clear hi); (try clear ho0)
               refine hK.out _ _ ⟨bc BK222 0, bc BK222 1, bc BK222 2, bc BK223 0, bc BK223 1, bc BK223 2, bc BK223 3, bc BK223 4⟩ (fun hHeld => ?_)
               clear hK K
               refine normP ?_
               exact normA (hJ1_4_6_10 (v299, gb313) _ ⟨hHeld, (qr HO300), (qr HO_249006), (qr HO_273006), (qb BK222), (qb BK223), (qb BK248), (qb BK272), (qb BK313), GW313.out, GE313.out, NB222_313.out, NB313_222.out, NB223_313.out, NB313_223.out, NB248_313.out, NB313_248.out, NB272_313.out, NB313_272.out, (qs HB)⟩)
              skip
              rintro v299 w123 ⟨hS_, h0_, h1_, h2_, h3_, h4_, h5_, h6_, h7_⟩
              have n0_ := Aside0.mk h0_; have n1_ := Aside0.mk h1_; have n2_ := Aside0.mk h2_; have n3_ := Aside0.mk h3_; have n4_ := Aside0.mk h4_; have n5_ := Aside0.mk h5_; have n6_ := Aside0.mk h6_; have n7_ := Aside0.mk h7_
              clear HO_249006 HO_273006 BK222 BK223 BK248 BK272 HB h0_ h1_ h2_ h3_ h4_ h5_ h6_ h7_; have HO300 := n0_; have HO_249006 := n1_; have HO_273006 := n2_; have BK222 := n3_; have BK223 := n4_; have BK248 := n5_; have BK272 := n6_; have HB := n7_; clear n0_ n1_ n2_ n3_ n4_ n5_ n6_ n7_
              have hHeld := hS_
              refine normQ ?_
              refine two_ (i := 8) (j := 10) (Ni := some 97) (Nj := some 19) #[true, true, true, true, true, true, true, true, true, false, false, false] #[true, true, true, true, true, true, true, true, false, false, true, false] rfl rfl rfl rfl (two_of HT_.out (by kernel_rfl)) (by decide) (by decide) (fun K hK => ?_) (fun K hK => ?_)
              ·skip
               refine goesA Try.func16 #[.slice A4 l4.length c4] ?_
               with_reducible refine (laws_toPacketS.calls kj32 _ _ l4 t301 _ ?side1 ?side2 A105.out).mono ?_
               (case side1 => exact qc (Kd.C_below HR4.out HB.out))
               (case side2 => exact HC4.out)
               rintro e w124 ⟨v302, rfl, ho0, hb⟩
               refine ⟨_, rfl, ?_⟩
               have n0_ := Aside0.mk (Kd.R_elder' (qr HO_249006) (Kd.R_base ho0) hb)
               have n1_ := Aside0.mk (Kd.R_elder' (qr HO_273006) (Kd.R_base ho0) hb)
               have n2_ := rbl HO300 hb
               have n3_ := Aside0.mk (Kd.R_lower (Kd.R_new' (Kd.R_new' ho0 (Kd.R_lt (qr HO_249006))) (Kd.R_lt (qr HO_273006))) (below_size (qs HB)))
               have n4_ := bkb BK222 hb; have n5_ := bkb BK223 hb; have n6_ := bkb BK248 hb; have n7_ := bkb BK272 hb; have n8_ := bst HB hb; clear HO_249006 HO_273006 HO300 BK222 BK223 BK248 BK272 HB; have HO_249006 := n0_; have HO_273006 := n1_; have HO300 := n2_; have HO303 := n3_; have BK222 := n4_; have BK223 := n5_; have BK248 := n6_; have BK272 := n7_; have HB := n8_; clear n0_ n1_ n2_ n3_ n4_ n5_ n6_ n7_ n8_; (try clear hb); (try clear hb2); (try clear hk); (try clear hi); (try clear ho0)
               refine hK.out _ _ ⟨bc BK222 0, bc BK222 1, bc BK222 2, bc BK223 0, bc BK223 1, bc BK223 2, bc BK223 3, bc BK223 4⟩ (fun hHeld => ?_)
               clear hK K
               refine normP ?_
               exact normA (hJ1_4_6_8 (v299, v302) _ ⟨hHeld, (qr HO300), (qm HO303 (fun _ hk => ⟨hk.1.2, hk.2⟩)), (qm HO_249006 (fun _ hk => ⟨hk.2, hk.1⟩)), (qm HO_273006 (fun _ hk => ⟨hk.2, hk.1⟩)), (qb BK222), (qb BK223), (qb BK248), (qb BK272), (qs HB)⟩)
              skip
              refine box_step ?hg (N := 19) ?hd (cs := #[.bool false, .int .i64 0, .int .i64 0, .int .i64 0, .int .i64 0, .int .i64 0, .slice none 0 0]) (t := 32) ?hr ?_; (case hd => rfl); (case hg => rfl); (case hr => first | (go_simp; done) | (go_simp; rfl))
              intro gb313 hg w124 hbox hb
              have n0_ := rbl HO_249006 hb; have n1_ := rbl HO_273006 hb; have n2_ := rbl HO300 hb; have n3_ := bkb BK222 hb; have n4_ := bkb BK223 hb; have n5_ := bkb BK248 hb; have n6_ := bkb BK272 hb; have n7_ := bst HB hb
              have n8_ := Aside0.mk (hbox)
              have n9_ := nge HB hg; have n10_ := nge HB hg; have n11_ := nlt BK222 hg; have n12_ := ngt BK222 hg; have n13_ := nlt BK223 hg; have n14_ := ngt BK223 hg; have n15_ := nlt BK248 hg; have n16_ := ngt BK248 hg; have n17_ := nlt BK272 hg; have n18_ := ngt BK272 hg; clear HO_249006 HO_273006 HO300 BK222 BK223 BK248 BK272 HB; have HO_249006 := n0_; have HO_273006 := n1_; have HO300 := n2_; have BK222 := n3_; have BK223 := n4_; have BK248 := n5_; have BK272 := n6_; have HB := n7_; have BK313 := n8_; have GW313 := n9_; have GE313 := n10_; have NB222_313 := n11_; have NB313_222 := n12_; have NB223_313 := n13_; have NB313_223 := n14_; have NB248_313 := n15_; have NB313_248 := n16_; have NB272_313 := n17_; have NB313_272 := n18_; clear n0_ n1_ n2_ n3_ n4_ n5_ n6_ n7_ n8_ n9_ n10_ n11_ n12_ n13_ n14_ n15_ n16_ n17_ n18_ hb hbox hg
              refine hK.out _ _ ⟨bc BK222 0, bc BK222 1, bc BK222 2, bc BK223 0, bc BK223 1, bc BK223 2, bc BK223 3, bc BK223 4⟩ (fun hHeld => ?_)
              clear hK K
              refine normP ?_
              exact normA (hJ1_4_6_10 (v299, gb313) _ ⟨hHeld, (qr HO300), (qr HO_249006), (qr HO_273006), (qb BK222), (qb BK223), (qb BK248), (qb BK272), (qb BK313), GW313.out, GE313.out, NB222_313.out, NB313_222.out, NB223_313.out, NB313_223.out, NB248_313.out, NB313_248.out, NB272_313.out, NB313_272.out, (qs HB)⟩)
             skip
             rintro ⟨v299, gb313⟩ w124 ⟨hS_, h0_, h1_, h2_, h3_, h4_, h5_, h6_, h7_, h8_, h9_, h10_, h11_, h12_, h13_, h14_, h15_, h16_, h17_, h18_⟩
             have n0_ : Aside0 (Kd.R (Kd.int .i64) 2 w124 w.heap.size (fun _ => True) v299 t298) := ⟨h0_⟩
             have n1_ := Aside0.mk h1_; have n2_ := Aside0.mk h2_; have n3_ := Aside0.mk h3_; have n4_ := Aside0.mk h4_; have n5_ := Aside0.mk h5_; have n6_ := Aside0.mk h6_
             have n7_ : Aside0 (w124.heap[gb313]? = some (.cells #[.bool false, .int .i64 0, .int .i64 0, .int .i64 0, .int .i64 0, .int .i64 0, .slice none 0 0] 32 (0, 0))) := ⟨h7_⟩
             have n8_ : Aside0 (w.heap.size ≤ gb313) := ⟨h8_⟩
             have n9_ : Aside0 (w.heap.size ≤ gb313) := ⟨h9_⟩
             have n10_ : Aside0 (gb222 ≠ gb313) := ⟨h10_⟩
             have n11_ : Aside0 (gb313 ≠ gb222) := ⟨h11_⟩
             have n12_ : Aside0 (gb223 ≠ gb313) := ⟨h12_⟩
             have n13_ : Aside0 (gb313 ≠ gb223) := ⟨h13_⟩
             have n14_ : Aside0 (gb248 ≠ gb313) := ⟨h14_⟩
             have n15_ : Aside0 (gb313 ≠ gb248) := ⟨h15_⟩
             have n16_ : Aside0 (gb272 ≠ gb313) := ⟨h16_⟩
             have n17_ : Aside0 (gb313 ≠ gb272) := ⟨h17_⟩
             have n18_ := Aside0.mk h18_
             clear HO_249006 HO_273006 BK222 BK223 BK248 BK272 HB h0_ h1_ h2_ h3_ h4_ h5_ h6_ h7_ h8_ h9_ h10_ h11_ h12_ h13_ h14_ h15_ h16_ h17_ h18_; have HO300 := n0_; have HO_249006 := n1_; have HO_273006 := n2_; have BK222 := n3_; have BK223 := n4_; have BK248 := n5_; have BK272 := n6_; have BK313 := n7_; have GW313 := n8_; have GE313 := n9_; have NB222_313 := n10_; have NB313_222 := n11_; have NB223_313 := n12_; have NB313_223 := n13_; have NB248_313 := n14_; have NB313_248 := n15_; have NB272_313 := n16_; have NB313_272 := n17_; have HB := n18_; clear n0_ n1_ n2_ n3_ n4_ n5_ n6_ n7_ n8_ n9_ n10_ n11_ n12_ n13_ n14_ n15_ n16_ n17_ n18_
             have hHeld := hS_
             refine normQ ?_
             refine one_ (i := 8) (N := some 97) #[true, true, true, true, true, true, true, true, true, false, true, false] rfl rfl (one_of HT_.out (by kernel_rfl)) (by decide) (fun K hK => ?_)
             refine goesA Try.func16 #[.slice A4 l4.length c4] ?_
             with_reducible refine (laws_toPacketS.calls kj32 _ _ l4 t301 _ ?side1 ?side2 A105.out).mono ?_
             (case side1 => exact qc (Kd.C_below HR4.out HB.out))
             (case side2 => exact HC4.out)
             rintro e w125 ⟨v302, rfl, ho0, hb⟩
             refine ⟨_, rfl, ?_⟩
             have n0_ := Aside0.mk (Kd.R_elder' (qr HO_249006) (Kd.R_base ho0) hb)
             have n1_ := Aside0.mk (Kd.R_elder' (qr HO_273006) (Kd.R_base ho0) hb)
             have n2_ := rbl HO300 hb
             have n3_ := Aside0.mk (Kd.R_lower (Kd.R_new' (Kd.R_new' ho0 (Kd.R_lt (qr HO_249006))) (Kd.R_lt (qr HO_273006))) (below_size (qs HB)))
             have n4_ := bkb BK222 hb; have n5_ := bkb BK223 hb; have n6_ := bkb BK248 hb; have n7_ := bkb BK272 hb; have n8_ := bkb BK313 hb; have n9_ := bst HB hb; clear HO_249006 HO_273006 HO300 BK222 BK223 BK248 BK272 BK313 HB; have HO_249006 := n0_; have HO_273006 := n1_; have HO300 := n2_; have HO303 := n3_; have BK222 := n4_; have BK223 := n5_; have BK248 := n6_; have BK272 := n7_; have BK313 := n8_; have HB := n9_; clear n0_ n1_ n2_ n3_ n4_ n5_ n6_ n7_ n8_ n9_; (try clear hb); (try clear hb2); (try clear hk); (try clear hi); (try clear ho0)
             refine hK.out _ _ ⟨bc BK222 0, bc BK222 1, bc BK222 2, bc BK223 0, bc BK223 1, bc BK223 2, bc BK223 3, bc BK223 4⟩ (fun hHeld => ?_)
             clear hK K
             refine normP ?_
             exact normA (hJ1_4_6_8_10 (v299, v302, gb313) _ ⟨hHeld, (qr HO300), (qm HO303 (fun _ hk => ⟨hk.1.2, hk.2⟩)), (qm HO_249006 (fun _ hk => ⟨hk.2, hk.1⟩)), (qm HO_273006 (fun _ hk => ⟨hk.2, hk.1⟩)), (qb BK222), (qb BK223), (qb BK248), (qb BK272), (qb BK313), GW313.out, GE313.out, NB222_313.out, NB313_222.out, NB223_313.out, NB313_223.out, NB248_313.out, NB313_248.out, NB272_313.out, NB313_272.out, (qs HB)⟩)
            skip
            rintro ⟨v299, v302⟩ w124 ⟨hS_, h0_, h1_, h2_, h3_, h4_, h5_, h6_, h7_, h8_⟩
            have n0_ : Aside0 (Kd.R (Kd.int .i64) 2 w124 w.heap.size (fun _ => True) v299 t298) := ⟨h0_⟩
            have n1_ : Aside0 (Kd.R k60 60 w124 w.heap.size (fun k_ => some k_ ≠ (.slice Ao52 t245.length co52 : Value).ownBlock ∧ some k_ ≠ (.slice Ao70 t269.length co70 : Value).ownBlock) v302 t301) := ⟨h1_⟩
            have n2_ : Aside0 (Kd.R k60 60 w124 w.heap.size (fun k_ => some k_ ≠ (v302 : Value).ownBlock ∧ some k_ ≠ (.slice Ao70 t269.length co70 : Value).ownBlock) (.slice Ao52 t245.length co52) t245) := ⟨h2_⟩
            have n3_ : Aside0 (Kd.R k60 60 w124 w.heap.size (fun k_ => some k_ ≠ (v302 : Value).ownBlock ∧ some k_ ≠ (.slice Ao52 t245.length co52 : Value).ownBlock) (.slice Ao70 t269.length co70) t288) := ⟨h3_⟩
            have n4_ := Aside0.mk h4_; have n5_ := Aside0.mk h5_; have n6_ := Aside0.mk h6_; have n7_ := Aside0.mk h7_; have n8_ := Aside0.mk h8_
            clear HO_249006 HO_273006 BK222 BK223 BK248 BK272 HB h0_ h1_ h2_ h3_ h4_ h5_ h6_ h7_ h8_; have HO300 := n0_; have HO303 := n1_; have HO_249006 := n2_; have HO_273006 := n3_; have BK222 := n4_; have BK223 := n5_; have BK248 := n6_; have BK272 := n7_; have HB := n8_; clear n0_ n1_ n2_ n3_ n4_ n5_ n6_ n7_ n8_
            have hHeld := hS_
            obtain ⟨Ao125, co125, eo125⟩ := Kd.R_slice HO300.out
            (first | subst eo125 | (injection eo125 with f1_ f2_ f3_; have f4_ := f1_.symm; have f5_ := f3_.symm; clear f1_ f2_ f3_; subst f4_; subst f5_))
            obtain ⟨Ao126, co126, eo126⟩ := Kd.R_slice HO303.out
            (first | subst eo126 | (injection eo126 with f1_ f2_ f3_; have f4_ := f1_.symm; have f5_ := f3_.symm; clear f1_ f2_ f3_; subst f4_; subst f5_))
            refine normQ ?_
            refine two_ (i := 9) (j := 10) (Ni := some 98) (Nj := some 19) #[true, true, true, true, true, true, true, true, true, true, false, false] #[true, true, true, true, true, true, true, true, true, false, true, false] rfl rfl rfl rfl (two_of HT_.out (by kernel_rfl)) (by decide) (by decide) (fun K hK => ?_) (fun K hK => ?_)
            ·skip
             refine goesA Try.func17 #[.agg #[.int .i64 t290, .int .i64 t291, .int .i64 t292], .int .i64 a1, .agg #[.int .i64 t293, .int .i64 t294, .int .i64 t295, .int .i64 t296, .int .i64 t297], .slice Ao125 t298.length co125, .slice Ao126 t301.length co126] ?_
             with_reducible refine (impl_BoxTick.calls kj32 t290 t291 t292 a1 t293 t294 t295 t296 t297 _ _ t298 _ _ t301 t304 t305 t306 t307 t308 t309 t310 _ ?side1 ?side2 ?side3 ?side4 A106.out).mono ?_
             (case side1 => exact qc (Kd.R_reads' HO300.out).2.2)
             (case side2 => exact (Kd.R_reads' HO300.out).2.1)
             (case side3 => exact qc (Kd.R_reads' HO303.out).2.2)
             (case side4 => exact (Kd.R_reads' HO303.out).2.1)
             rintro e w127 ⟨v311, rfl, ho0, hb⟩
             refine ⟨_, rfl, ?_⟩
             have n0_ := Aside0.mk (Kd.R_elder' (qr HO_249006) (Kd.R_base ho0) hb)
             have n1_ := Aside0.mk (Kd.R_elder' (qr HO_273006) (Kd.R_base ho0) hb)
             have n2_ := rbl HO300 hb
             have n3_ := Aside0.mk (Kd.R_elder' (qr HO303) (Kd.R_base ho0) hb)
             have n4_ := Aside0.mk (Kd.R_lower (Kd.R_new' (Kd.R_new' (Kd.R_new' ho0 (Kd.R_lt (qr HO_249006))) (Kd.R_lt (qr HO_273006))) (Kd.R_lt (qr HO303))) (below_size (qs HB)))
             have n5_ := bkb BK222 hb; have n6_ := bkb BK223 hb; have n7_ := bkb BK248 hb; have n8_ := bkb BK272 hb; have n9_ := bst HB hb; clear HO_249006 HO_273006 HO300 HO303 BK222 BK223 BK248 BK272 HB; have HO_249006 := n0_; have HO_273006 := n1_; have HO300 := n2_; have HO303 := n3_; have HO312 := n4_; have BK222 := n5_; have BK223 := n6_; have BK248 := n7_; have BK272 := n8_; have HB := n9_; clear n0_ n1_ n2_ n3_ n4_ n5_ n6_ n7_ n8_ n9_; (try clear hb); (try clear hb2); (try clear hk); (try clear hi); (try clear ho0)
             refine hK.out _ _ ⟨bc BK222 0, bc BK222 1, bc BK222 2, bc BK223 0, bc BK223 1, bc BK223 2, bc BK223 3, bc BK223 4⟩ (fun hHeld => ?_)
             clear hK K
             refine normP ?_
             exact normA (hJ1_4_6_8_9 (.slice Ao125 t298.length co125, .slice Ao126 t301.length co126, v311) _ ⟨hHeld, (qr HO300), (qm HO303 (fun _ hk => ⟨hk.2, ⟨hk.1.1, hk.1.2⟩⟩)), (qm HO312 (fun _ hk => ⟨hk.2, ⟨hk.1.1.2, hk.1.2⟩⟩)), (qm HO_249006 (fun _ hk => ⟨hk.1.1, ⟨hk.2, hk.1.2⟩⟩)), (qm HO_273006 (fun _ hk => ⟨hk.1.1, ⟨hk.2, hk.1.2⟩⟩)), (qb BK222), (qb BK223), (qb BK248), (qb BK272), (qs HB)⟩)
            skip
            refine box_step ?hg (N := 19) ?hd (cs := #[.bool false, .int .i64 0, .int .i64 0, .int .i64 0, .int .i64 0, .int .i64 0, .slice none 0 0]) (t := 32) ?hr ?_; (case hd => rfl); (case hg => rfl); (case hr => first | (go_simp; done) | (go_simp; rfl))
            intro gb313 hg w125 hbox hb
            have n0_ := rbl HO_249006 hb; have n1_ := rbl HO_273006 hb; have n2_ := rbl HO300 hb; have n3_ := rbl HO303 hb; have n4_ := bkb BK222 hb; have n5_ := bkb BK223 hb; have n6_ := bkb BK248 hb; have n7_ := bkb BK272 hb; have n8_ := bst HB hb
            have n9_ := Aside0.mk (hbox)
            have n10_ := nge HB hg; have n11_ := nge HB hg; have n12_ := nlt BK222 hg; have n13_ := ngt BK222 hg; have n14_ := nlt BK223 hg; have n15_ := ngt BK223 hg; have n16_ := nlt BK248 hg; have n17_ := ngt BK248 hg; have n18_ := nlt BK272 hg; have n19_ := ngt BK272 hg; clear HO_249006 HO_273006 HO300 HO303 BK222 BK223 BK248 BK272 HB; have HO_249006 := n0_; have HO_273006 := n1_; have HO300 := n2_; have HO303 := n3_; have BK222 := n4_; have BK223 := n5_; have BK248 := n6_; have BK272 := n7_; have HB := n8_; have BK313 := n9_; have GW313 := n10_; have GE313 := n11_; have NB222_313 := n12_; have NB313_222 := n13_; have NB223_313 := n14_; have NB313_223 := n15_; have NB248_313 := n16_; have NB313_248 := n17_; have NB272_313 := n18_; have NB313_272 := n19_; clear n0_ n1_ n2_ n3_ n4_ n5_ n6_ n7_ n8_ n9_ n10_ n11_ n12_ n13_ n14_ n15_ n16_ n17_ n18_ n19_ hb hbox hg
            refine hK.out _ _ ⟨bc BK222 0, bc BK222 1, bc BK222 2, bc BK223 0, bc BK223 1, bc BK223 2, bc BK223 3, bc BK223 4⟩ (fun hHeld => ?_)
            clear hK K
            refine normP ?_
            exact normA (hJ1_4_6_8_10 (.slice Ao125 t298.length co125, .slice Ao126 t301.length co126, gb313) _ ⟨hHeld, (qr HO300), (qr HO303), (qr HO_249006), (qr HO_273006), (qb BK222), (qb BK223), (qb BK248), (qb BK272), (qb BK313), GW313.out, GE313.out, NB222_313.out, NB313_222.out, NB223_313.out, NB313_223.out, NB248_313.out, NB313_248.out, NB272_313.out, NB313_272.out, (qs HB)⟩)
           skip
           rintro ⟨v299, v302, gb313⟩ w125 ⟨hS_, h0_, h1_, h2_, h3_, h4_, h5_, h6_, h7_, h8_, h9_, h10_, h11_, h12_, h13_, h14_, h15_, h16_, h17_, h18_, h19_⟩
           have n0_ : Aside0 (Kd.R (Kd.int .i64) 2 w125 w.heap.size (fun _ => True) v299 t298) := ⟨h0_⟩
           have n1_ : Aside0 (Kd.R k60 60 w125 w.heap.size (fun k_ => some k_ ≠ (.slice Ao52 t245.length co52 : Value).ownBlock ∧ some k_ ≠ (.slice Ao70 t269.length co70 : Value).ownBlock) v302 t301) := ⟨h1_⟩
           have n2_ : Aside0 (Kd.R k60 60 w125 w.heap.size (fun k_ => some k_ ≠ (v302 : Value).ownBlock ∧ some k_ ≠ (.slice Ao70 t269.length co70 : Value).ownBlock) (.slice Ao52 t245.length co52) t245) := ⟨h2_⟩
           have n3_ : Aside0 (Kd.R k60 60 w125 w.heap.size (fun k_ => some k_ ≠ (v302 : Value).ownBlock ∧ some k_ ≠ (.slice Ao52 t245.length co52 : Value).ownBlock) (.slice Ao70 t269.length co70) t288) := ⟨h3_⟩
           have n4_ := Aside0.mk h4_; have n5_ := Aside0.mk h5_; have n6_ := Aside0.mk h6_; have n7_ := Aside0.mk h7_
           have n8_ : Aside0 (w125.heap[gb313]? = some (.cells #[.bool false, .int .i64 0, .int .i64 0, .int .i64 0, .int .i64 0, .int .i64 0, .slice none 0 0] 32 (0, 0))) := ⟨h8_⟩
           have n9_ : Aside0 (w.heap.size ≤ gb313) := ⟨h9_⟩
           have n10_ : Aside0 (w.heap.size ≤ gb313) := ⟨h10_⟩
           have n11_ : Aside0 (gb222 ≠ gb313) := ⟨h11_⟩
           have n12_ : Aside0 (gb313 ≠ gb222) := ⟨h12_⟩
           have n13_ : Aside0 (gb223 ≠ gb313) := ⟨h13_⟩
           have n14_ : Aside0 (gb313 ≠ gb223) := ⟨h14_⟩
           have n15_ : Aside0 (gb248 ≠ gb313) := ⟨h15_⟩
           have n16_ : Aside0 (gb313 ≠ gb248) := ⟨h16_⟩
           have n17_ : Aside0 (gb272 ≠ gb313) := ⟨h17_⟩
           have n18_ : Aside0 (gb313 ≠ gb272) := ⟨h18_⟩
           have n19_ := Aside0.mk h19_
           clear HO_249006 HO_273006 BK222 BK223 BK248 BK272 HB h0_ h1_ h2_ h3_ h4_ h5_ h6_ h7_ h8_ h9_ h10_ h11_ h12_ h13_ h14_ h15_ h16_ h17_ h18_ h19_; have HO300 := n0_; have HO303 := n1_; have HO_249006 := n2_; have HO_273006 := n3_; have BK222 := n4_; have BK223 := n5_; have BK248 := n6_; have BK272 := n7_; have BK313 := n8_; have GW313 := n9_; have GE313 := n10_; have NB222_313 := n11_; have NB313_222 := n12_; have NB223_313 := n13_; have NB313_223 := n14_; have NB248_313 := n15_; have NB313_248 := n16_; have NB272_313 := n17_; have NB313_272 := n18_; have HB := n19_; clear n0_ n1_ n2_ n3_ n4_ n5_ n6_ n7_ n8_ n9_ n10_ n11_ n12_ n13_ n14_ n15_ n16_ n17_ n18_ n19_
           have hHeld := hS_
           obtain ⟨Ao126, co126, eo126⟩ := Kd.R_slice HO300.out
           (first | subst eo126 | (injection eo126 with f1_ f2_ f3_; have f4_ := f1_.symm; have f5_ := f3_.symm; clear f1_ f2_ f3_; subst f4_; subst f5_))
           obtain ⟨Ao127, co127, eo127⟩ := Kd.R_slice HO303.out
           (first | subst eo127 | (injection eo127 with f1_ f2_ f3_; have f4_ := f1_.symm; have f5_ := f3_.symm; clear f1_ f2_ f3_; subst f4_; subst f5_))
           refine normQ ?_
           refine one_ (i := 9) (N := some 98) #[true, true, true, true, true, true, true, true, true, true, true, false] rfl rfl (one_of HT_.out (by kernel_rfl)) (by decide) (fun K hK => ?_)
           refine goesA Try.func17 #[.agg #[.int .i64 t290, .int .i64 t291, .int .i64 t292], .int .i64 a1, .agg #[.int .i64 t293, .int .i64 t294, .int .i64 t295, .int .i64 t296, .int .i64 t297], .slice Ao126 t298.length co126, .slice Ao127 t301.length co127] ?_
           with_reducible refine (impl_BoxTick.calls kj32 t290 t291 t292 a1 t293 t294 t295 t296 t297 _ _ t298 _ _ t301 t304 t305 t306 t307 t308 t309 t310 _ ?side1 ?side2 ?side3 ?side4 A106.out).mono ?_
           (case side1 => exact qc (Kd.R_reads' HO300.out).2.2)
           (case side2 => exact (Kd.R_reads' HO300.out).2.1)
           (case side3 => exact qc (Kd.R_reads' HO303.out).2.2)
           (case side4 => exact (Kd.R_reads' HO303.out).2.1)
           rintro e w128 ⟨v311, rfl, ho0, hb⟩
           refine ⟨_, rfl, ?_⟩
           have n0_ := Aside0.mk (Kd.R_elder' (qr HO_249006) (Kd.R_base ho0) hb)
           have n1_ := Aside0.mk (Kd.R_elder' (qr HO_273006) (Kd.R_base ho0) hb)
           have n2_ := rbl HO300 hb
           have n3_ := Aside0.mk (Kd.R_elder' (qr HO303) (Kd.R_base ho0) hb)
           have n4_ := Aside0.mk (Kd.R_lower (Kd.R_new' (Kd.R_new' (Kd.R_new' ho0 (Kd.R_lt (qr HO_249006))) (Kd.R_lt (qr HO_273006))) (Kd.R_lt (qr HO303))) (below_size (qs HB)))
           have n5_ := bkb BK222 hb; have n6_ := bkb BK223 hb; have n7_ := bkb BK248 hb; have n8_ := bkb BK272 hb; have n9_ := bkb BK313 hb; have n10_ := bst HB hb; clear HO_249006 HO_273006 HO300 HO303 BK222 BK223 BK248 BK272 BK313 HB; have HO_249006 := n0_; have HO_273006 := n1_; have HO300 := n2_; have HO303 := n3_; have HO312 := n4_; have BK222 := n5_; have BK223 := n6_; have BK248 := n7_; have BK272 := n8_; have BK313 := n9_; have HB := n10_; clear n0_ n1_ n2_ n3_ n4_ n5_ n6_ n7_ n8_ n9_ n10_; (try clear hb); (try clear hb2); (try clear hk); (try clear hi); (try clear ho0)
           refine hK.out _ _ ⟨bc BK222 0, bc BK222 1, bc BK222 2, bc BK223 0, bc BK223 1, bc BK223 2, bc BK223 3, bc BK223 4⟩ (fun hHeld => ?_)
           clear hK K
           refine normP ?_
           exact normA (hJ1_4_6_8_9_10 (.slice Ao126 t298.length co126, .slice Ao127 t301.length co127, v311, gb313) _ ⟨hHeld, (qr HO300), (qm HO303 (fun _ hk => ⟨hk.2, ⟨hk.1.1, hk.1.2⟩⟩)), (qm HO312 (fun _ hk => ⟨hk.2, ⟨hk.1.1.2, hk.1.2⟩⟩)), (qm HO_249006 (fun _ hk => ⟨hk.1.1, ⟨hk.2, hk.1.2⟩⟩)), (qm HO_273006 (fun _ hk => ⟨hk.1.1, ⟨hk.2, hk.1.2⟩⟩)), (qb BK222), (qb BK223), (qb BK248), (qb BK272), (qb BK313), GW313.out, GE313.out, NB222_313.out, NB313_222.out, NB223_313.out, NB313_223.out, NB248_313.out, NB313_248.out, NB272_313.out, NB313_272.out, (qs HB)⟩)
          skip
          rintro ⟨v299, v302, v311⟩ w127 ⟨hS_, h0_, h1_, h2_, h3_, h4_, h5_, h6_, h7_, h8_, h9_⟩
          have n0_ : Aside0 (Kd.R (Kd.int .i64) 2 w127 w.heap.size (fun _ => True) v299 t298) := ⟨h0_⟩
          have n1_ : Aside0 (Kd.R k60 60 w127 w.heap.size (fun k_ => some k_ ≠ (v311 : Value).ownBlock ∧ some k_ ≠ (.slice Ao52 t245.length co52 : Value).ownBlock ∧ some k_ ≠ (.slice Ao70 t269.length co70 : Value).ownBlock) v302 t301) := ⟨h1_⟩
          have n2_ : Aside0 (Kd.R k60 60 w127 w.heap.size (fun k_ => some k_ ≠ (v302 : Value).ownBlock ∧ some k_ ≠ (.slice Ao52 t245.length co52 : Value).ownBlock ∧ some k_ ≠ (.slice Ao70 t269.length co70 : Value).ownBlock) v311 t310) := ⟨h2_⟩
          have n3_ : Aside0 (Kd.R k60 60 w127 w.heap.size (fun k_ => some k_ ≠ (v302 : Value).ownBlock ∧ some k_ ≠ (v311 : Value).ownBlock ∧ some k_ ≠ (.slice Ao70 t269.length co70 : Value).ownBlock) (.slice Ao52 t245.length co52) t245) := ⟨h3_⟩
          have n4_ : Aside0 (Kd.R k60 60 w127 w.heap.size (fun k_ => some k_ ≠ (v302 : Value).ownBlock ∧ some k_ ≠ (v311 : Value).ownBlock ∧ some k_ ≠ (.slice Ao52 t245.length co52 : Value).ownBlock) (.slice Ao70 t269.length co70) t288) := ⟨h4_⟩
          have n5_ := Aside0.mk h5_; have n6_ := Aside0.mk h6_; have n7_ := Aside0.mk h7_; have n8_ := Aside0.mk h8_; have n9_ := Aside0.mk h9_
          clear HO_249006 HO_273006 BK222 BK223 BK248 BK272 HB h0_ h1_ h2_ h3_ h4_ h5_ h6_ h7_ h8_ h9_; have HO300 := n0_; have HO303 := n1_; have HO312 := n2_; have HO_249006 := n3_; have HO_273006 := n4_; have BK222 := n5_; have BK223 := n6_; have BK248 := n7_; have BK272 := n8_; have HB := n9_; clear n0_ n1_ n2_ n3_ n4_ n5_ n6_ n7_ n8_ n9_
          have hHeld := hS_
          refine normQ ?_
          refine one_ (i := 10) (N := some 19) #[true, true, true, true, true, true, true, true, true, true, true, false] rfl rfl (one_of HT_.out (by kernel_rfl)) (by decide) (fun K hK => ?_)
          refine box_step ?hg (N := 19) ?hd (cs := #[.bool false, .int .i64 0, .int .i64 0, .int .i64 0, .int .i64 0, .int .i64 0, .slice none 0 0]) (t := 32) ?hr ?_; (case hd => rfl); (case hg => rfl); (case hr => first | (go_simp; done) | (go_simp; rfl))
          intro gb313 hg w128 hbox hb
          have n0_ := rbl HO_249006 hb; have n1_ := rbl HO_273006 hb; have n2_ := rbl HO300 hb; have n3_ := rbl HO303 hb; have n4_ := rbl HO312 hb; have n5_ := bkb BK222 hb; have n6_ := bkb BK223 hb; have n7_ := bkb BK248 hb; have n8_ := bkb BK272 hb; have n9_ := bst HB hb
          have n10_ := Aside0.mk (hbox)
          have n11_ := nge HB hg; have n12_ := nge HB hg; have n13_ := nlt BK222 hg; have n14_ := ngt BK222 hg; have n15_ := nlt BK223 hg; have n16_ := ngt BK223 hg; have n17_ := nlt BK248 hg; have n18_ := ngt BK248 hg; have n19_ := nlt BK272 hg; have n20_ := ngt BK272 hg; clear HO_249006 HO_273006 HO300 HO303 HO312 BK222 BK223 BK248 BK272 HB; have HO_249006 := n0_; have HO_273006 := n1_; have HO300 := n2_; have HO303 := n3_; have HO312 := n4_; have BK222 := n5_; have BK223 := n6_; have BK248 := n7_; have BK272 := n8_; have HB := n9_; have BK313 := n10_; have GW313 := n11_; have GE313 := n12_; have NB222_313 := n13_; have NB313_222 := n14_; have NB223_313 := n15_; have NB313_223 := n16_; have NB248_313 := n17_; have NB313_248 := n18_; have NB272_313 := n19_; have NB313_272 := n20_; clear n0_ n1_ n2_ n3_ n4_ n5_ n6_ n7_ n8_ n9_ n10_ n11_ n12_ n13_ n14_ n15_ n16_ n17_ n18_ n19_ n20_ hb hbox hg
          refine hK.out _ _ ⟨bc BK222 0, bc BK222 1, bc BK222 2, bc BK223 0, bc BK223 1, bc BK223 2, bc BK223 3, bc BK223 4⟩ (fun hHeld => ?_)
          clear hK K
          refine normP ?_
          exact normA (hJ1_4_6_8_9_10 (v299, v302, v311, gb313) _ ⟨hHeld, (qr HO300), (qr HO303), (qr HO312), (qr HO_249006), (qr HO_273006), (qb BK222), (qb BK223), (qb BK248), (qb BK272), (qb BK313), GW313.out, GE313.out, NB222_313.out, NB313_222.out, NB223_313.out, NB313_223.out, NB248_313.out, NB313_248.out, NB272_313.out, NB313_272.out, (qs HB)⟩)
         rintro ⟨v299, v302, v311, gb313⟩ w128 ⟨hS_, h0_, h1_, h2_, h3_, h4_, h5_, h6_, h7_, h8_, h9_, h10_, h11_, h12_, h13_, h14_, h15_, h16_, h17_, h18_, h19_, h20_⟩
         have n0_ : Aside0 (Kd.R (Kd.int .i64) 2 w128 w.heap.size (fun _ => True) v299 t298) := ⟨h0_⟩
         have n1_ : Aside0 (Kd.R k60 60 w128 w.heap.size (fun k_ => some k_ ≠ (v311 : Value).ownBlock ∧ some k_ ≠ (.slice Ao52 t245.length co52 : Value).ownBlock ∧ some k_ ≠ (.slice Ao70 t269.length co70 : Value).ownBlock) v302 t301) := ⟨h1_⟩
         have n2_ : Aside0 (Kd.R k60 60 w128 w.heap.size (fun k_ => some k_ ≠ (v302 : Value).ownBlock ∧ some k_ ≠ (.slice Ao52 t245.length co52 : Value).ownBlock ∧ some k_ ≠ (.slice Ao70 t269.length co70 : Value).ownBlock) v311 t310) := ⟨h2_⟩
         have n3_ : Aside0 (Kd.R k60 60 w128 w.heap.size (fun k_ => some k_ ≠ (v302 : Value).ownBlock ∧ some k_ ≠ (v311 : Value).ownBlock ∧ some k_ ≠ (.slice Ao70 t269.length co70 : Value).ownBlock) (.slice Ao52 t245.length co52) t245) := ⟨h3_⟩
         have n4_ : Aside0 (Kd.R k60 60 w128 w.heap.size (fun k_ => some k_ ≠ (v302 : Value).ownBlock ∧ some k_ ≠ (v311 : Value).ownBlock ∧ some k_ ≠ (.slice Ao52 t245.length co52 : Value).ownBlock) (.slice Ao70 t269.length co70) t288) := ⟨h4_⟩
         have n5_ := Aside0.mk h5_; have n6_ := Aside0.mk h6_; have n7_ := Aside0.mk h7_; have n8_ := Aside0.mk h8_
         have n9_ : Aside0 (w128.heap[gb313]? = some (.cells #[.bool false, .int .i64 0, .int .i64 0, .int .i64 0, .int .i64 0, .int .i64 0, .slice none 0 0] 32 (0, 0))) := ⟨h9_⟩
         have n10_ : Aside0 (w.heap.size ≤ gb313) := ⟨h10_⟩
         have n11_ : Aside0 (w.heap.size ≤ gb313) := ⟨h11_⟩
         have n12_ : Aside0 (gb222 ≠ gb313) := ⟨h12_⟩
         have n13_ : Aside0 (gb313 ≠ gb222) := ⟨h13_⟩
         have n14_ : Aside0 (gb223 ≠ gb313) := ⟨h14_⟩
         have n15_ : Aside0 (gb313 ≠ gb223) := ⟨h15_⟩
         have n16_ : Aside0 (gb248 ≠ gb313) := ⟨h16_⟩
         have n17_ : Aside0 (gb313 ≠ gb248) := ⟨h17_⟩
         have n18_ : Aside0 (gb272 ≠ gb313) := ⟨h18_⟩
         have n19_ : Aside0 (gb313 ≠ gb272) := ⟨h19_⟩
         have n20_ := Aside0.mk h20_
         clear HO_249006 HO_273006 BK222 BK223 BK248 BK272 HB h0_ h1_ h2_ h3_ h4_ h5_ h6_ h7_ h8_ h9_ h10_ h11_ h12_ h13_ h14_ h15_ h16_ h17_ h18_ h19_ h20_; have HO300 := n0_; have HO303 := n1_; have HO312 := n2_; have HO_249006 := n3_; have HO_273006 := n4_; have BK222 := n5_; have BK223 := n6_; have BK248 := n7_; have BK272 := n8_; have BK313 := n9_; have GW313 := n10_; have GE313 := n11_; have NB222_313 := n12_; have NB313_222 := n13_; have NB223_313 := n14_; have NB313_223 := n15_; have NB248_313 := n16_; have NB313_248 := n17_; have NB272_313 := n18_; have NB313_272 := n19_; have HB := n20_; clear n0_ n1_ n2_ n3_ n4_ n5_ n6_ n7_ n8_ n9_ n10_ n11_ n12_ n13_ n14_ n15_ n16_ n17_ n18_ n19_ n20_
         have hHeld := hS_
         obtain ⟨Ao135, co135, eo135⟩ := Kd.R_slice HO312.out
         (first | subst eo135 | (injection eo135 with f1_ f2_ f3_; have f4_ := f1_.symm; have f5_ := f3_.symm; clear f1_ f2_ f3_; subst f4_; subst f5_))
         refine normQ ?_
         refine one_ (i := 11) (N := none) #[true, true, true, true, true, true, true, true, true, true, true, true] rfl rfl (one_of HT_.out (by kernel_rfl)) (by decide) (fun K hK => ?_)
         have hs129 : w128.cell? ⟨gb313, 0, none⟩ = some (.bool false) := bc BK313 0
         have hfs129 := blk_frozen BK313.out 0; have hns129_0 := NB222_313.out; have hns129_1 := NB223_313.out; have hns129_2 := NB248_313.out; have hns129_3 := NB272_313.out; have hms129_0 := NB313_222.out; have hms129_1 := NB313_223.out; have hms129_2 := NB313_248.out; have hms129_3 := NB313_272.out
         have hs130 : w128.cell? ⟨gb313, 1, none⟩ = some (.int .i64 0) := bc BK313 1
         have hfs130 := blk_frozen BK313.out 1; have hns130_0 := NB222_313.out; have hns130_1 := NB223_313.out; have hns130_2 := NB248_313.out; have hns130_3 := NB272_313.out; have hms130_0 := NB313_222.out; have hms130_1 := NB313_223.out; have hms130_2 := NB313_248.out; have hms130_3 := NB313_272.out
         have hs131 : w128.cell? ⟨gb313, 2, none⟩ = some (.int .i64 0) := bc BK313 2
         have hfs131 := blk_frozen BK313.out 2; have hns131_0 := NB222_313.out; have hns131_1 := NB223_313.out; have hns131_2 := NB248_313.out; have hns131_3 := NB272_313.out; have hms131_0 := NB313_222.out; have hms131_1 := NB313_223.out; have hms131_2 := NB313_248.out; have hms131_3 := NB313_272.out
         have hs132 : w128.cell? ⟨gb313, 3, none⟩ = some (.int .i64 0) := bc BK313 3
         have hfs132 := blk_frozen BK313.out 3; have hns132_0 := NB222_313.out; have hns132_1 := NB223_313.out; have hns132_2 := NB248_313.out; have hns132_3 := NB272_313.out; have hms132_0 := NB313_222.out; have hms132_1 := NB313_223.out; have hms132_2 := NB313_248.out; have hms132_3 := NB313_272.out
         have hs133 : w128.cell? ⟨gb313, 4, none⟩ = some (.int .i64 0) := bc BK313 4
         have hfs133 := blk_frozen BK313.out 4; have hns133_0 := NB222_313.out; have hns133_1 := NB223_313.out; have hns133_2 := NB248_313.out; have hns133_3 := NB272_313.out; have hms133_0 := NB313_222.out; have hms133_1 := NB313_223.out; have hms133_2 := NB313_248.out; have hms133_3 := NB313_272.out
         have hs134 : w128.cell? ⟨gb313, 5, none⟩ = some (.int .i64 0) := bc BK313 5
         have hfs134 := blk_frozen BK313.out 5; have hns134_0 := NB222_313.out; have hns134_1 := NB223_313.out; have hns134_2 := NB248_313.out; have hns134_3 := NB272_313.out; have hms134_0 := NB313_222.out; have hms134_1 := NB313_223.out; have hms134_2 := NB313_248.out; have hms134_3 := NB313_272.out
         have hs136 : w128.cell? ⟨gb313, 6, none⟩ = some (.slice none 0 0) := bc BK313 6
         have hfs136 := blk_frozen BK313.out 6; have hns136_0 := NB222_313.out; have hns136_1 := NB223_313.out; have hns136_2 := NB248_313.out; have hns136_3 := NB272_313.out; have hms136_0 := NB313_222.out; have hms136_1 := NB313_223.out; have hms136_2 := NB313_248.out; have hms136_3 := NB313_272.out
         refine skip_ (w1 := ?_) (by rfl) rfl ?_ ?_
         rotate_left
         ·go_simp
          rfl
         refine hK.out _ _ ⟨(cf NB222_313 ((cf NB222_313 ((cf NB222_313 ((cf NB222_313 ((cf NB222_313 ((cf NB222_313 ((cf NB222_313 (hHeld.1)))))))))))))), (cf NB222_313 ((cf NB222_313 ((cf NB222_313 ((cf NB222_313 ((cf NB222_313 ((cf NB222_313 ((cf NB222_313 (hHeld.2.1)))))))))))))), (cf NB222_313 ((cf NB222_313 ((cf NB222_313 ((cf NB222_313 ((cf NB222_313 ((cf NB222_313 ((cf NB222_313 (hHeld.2.2.1)))))))))))))), (cf NB223_313 ((cf NB223_313 ((cf NB223_313 ((cf NB223_313 ((cf NB223_313 ((cf NB223_313 ((cf NB223_313 (hHeld.2.2.2.1)))))))))))))), (cf NB223_313 ((cf NB223_313 ((cf NB223_313 ((cf NB223_313 ((cf NB223_313 ((cf NB223_313 ((cf NB223_313 (hHeld.2.2.2.2.1)))))))))))))), (cf NB223_313 ((cf NB223_313 ((cf NB223_313 ((cf NB223_313 ((cf NB223_313 ((cf NB223_313 ((cf NB223_313 (hHeld.2.2.2.2.2.1)))))))))))))), (cf NB223_313 ((cf NB223_313 ((cf NB223_313 ((cf NB223_313 ((cf NB223_313 ((cf NB223_313 ((cf NB223_313 (hHeld.2.2.2.2.2.2.1)))))))))))))), (cf NB223_313 ((cf NB223_313 ((cf NB223_313 ((cf NB223_313 ((cf NB223_313 ((cf NB223_313 ((cf NB223_313 (hHeld.2.2.2.2.2.2.2))))))))))))))⟩ (fun hHeld => ?_)
         clear hK K
         refine done_ (done_of HT_.out (by kernel_rfl)) ?_
         have hnb137 := NB313_222.out; have hnc137 := NB222_313.out; have hnb138 := NB313_223.out; have hnc138 := NB223_313.out; have hnb139 := NB313_248.out; have hnc139 := NB248_313.out; have hnb140 := NB313_272.out; have hnc140 := NB272_313.out
         have hcz141_0 : w128.cell? ⟨gb313, 0, none⟩ = some (.bool false) := bc BK313 0
         have hcz141_1 : w128.cell? ⟨gb313, 1, none⟩ = some (.int .i64 0) := bc BK313 1
         have hcz141_2 : w128.cell? ⟨gb313, 2, none⟩ = some (.int .i64 0) := bc BK313 2
         have hcz141_3 : w128.cell? ⟨gb313, 3, none⟩ = some (.int .i64 0) := bc BK313 3
         have hcz141_4 : w128.cell? ⟨gb313, 4, none⟩ = some (.int .i64 0) := bc BK313 4
         have hcz141_5 : w128.cell? ⟨gb313, 5, none⟩ = some (.int .i64 0) := bc BK313 5
         have hcz141_6 : w128.cell? ⟨gb313, 6, none⟩ = some (.slice none 0 0) := bc BK313 6
         have hfz141_0 := blk_frozen BK313.out 0; have hfz141_1 := blk_frozen BK313.out 1; have hfz141_2 := blk_frozen BK313.out 2; have hfz141_3 := blk_frozen BK313.out 3; have hfz141_4 := blk_frozen BK313.out 4; have hfz141_5 := blk_frozen BK313.out 5; have hfz141_6 := blk_frozen BK313.out 6; have hnb142 := NB248_222.out; have hnc142 := NB222_248.out; have hnb143 := NB248_223.out; have hnc143 := NB223_248.out
         have hcz144_0 : w128.cell? ⟨gb248, 0, none⟩ = some (.bool t239) := bc BK248 0
         have hcz144_1 : w128.cell? ⟨gb248, 1, none⟩ = some (.int .i64 t240) := bc BK248 1
         have hcz144_2 : w128.cell? ⟨gb248, 2, none⟩ = some (.int .i64 t241) := bc BK248 2
         have hcz144_3 : w128.cell? ⟨gb248, 3, none⟩ = some (.int .i64 t242) := bc BK248 3
         have hcz144_4 : w128.cell? ⟨gb248, 4, none⟩ = some (.int .i64 t243) := bc BK248 4
         have hcz144_5 : w128.cell? ⟨gb248, 5, none⟩ = some (.int .i64 t244) := bc BK248 5
         have hcz144_6 : w128.cell? ⟨gb248, 6, none⟩ = some (.slice Ao52 t245.length co52) := bc BK248 6
         have hfz144_0 := blk_frozen BK248.out 0; have hfz144_1 := blk_frozen BK248.out 1; have hfz144_2 := blk_frozen BK248.out 2; have hfz144_3 := blk_frozen BK248.out 3; have hfz144_4 := blk_frozen BK248.out 4; have hfz144_5 := blk_frozen BK248.out 5; have hfz144_6 := blk_frozen BK248.out 6
         try go_wp2_with (first | ((with_reducible refine gate_callee (f := 18) rfl ?_); refine goesLA (some 101) rfl Try.func18 #[.agg #[.bool t304, .int .i64 t305, .int .i64 t306, .int .i64 t307, .int .i64 t308, .int .i64 t309, .slice Ao135 t310.length co135], .agg #[.bool t239, .int .i64 t240, .int .i64 t241, .int .i64 t242, .int .i64 t243, .int .i64 t244, .slice Ao52 t245.length co52]] ?_; (with_reducible refine (laws_eqBoxed.calls kj32 t304 t305 t306 t307 t308 t309 _ _ t310 t239 t240 t241 t242 t243 t244 _ _ t245 true _ ?side1 ?side2 ?side3 ?side4 A107.out).mono ?_); (case side1 => refine (Kd.R_reads' (e := 60) (base := w.heap.size) (ok := fun k_ => (some k_ ≠ (v302 : Value).ownBlock ∧ (some k_ ≠ (.slice Ao52 t245.length co52 : Value).ownBlock ∧ some k_ ≠ (.slice Ao70 t269.length co70 : Value).ownBlock))) (n := t310.length) (c := co135) ?_).2.2; exact (by (with_reducible repeat (first | apply Kd.R_alloc | apply Kd.R_drewN | apply Kd.R_drew)); exact (Kd.R_mono (Kd.R_far (p := ⟨gb313, 6, none⟩) (Kd.R_far (p := ⟨gb313, 5, none⟩) (Kd.R_far (p := ⟨gb313, 4, none⟩) (Kd.R_far (p := ⟨gb313, 3, none⟩) (Kd.R_far (p := ⟨gb313, 2, none⟩) (Kd.R_far (p := ⟨gb313, 1, none⟩) (Kd.R_far (p := ⟨gb313, 0, none⟩) (Kd.R_types HO312.out BK313.out (by decide)) (fun _ hk => hk.2) (.bool t304)) (fun _ hk => hk.2) (.int .i64 t305)) (fun _ hk => hk.2) (.int .i64 t306)) (fun _ hk => hk.2) (.int .i64 t307)) (fun _ hk => hk.2) (.int .i64 t308)) (fun _ hk => hk.2) (.int .i64 t309)) (fun _ hk => hk.2) (.slice Ao135 t310.length co135)) (fun _ h_ => h_.1)))); (case side2 => exact (Kd.R_reads' HO312.out).2.1); (case side3 => refine (Kd.R_reads' (e := 60) (base := w.heap.size) (ok := fun k_ => (some k_ ≠ (v302 : Value).ownBlock ∧ (some k_ ≠ (.slice Ao135 t310.length co135 : Value).ownBlock ∧ some k_ ≠ (.slice Ao70 t269.length co70 : Value).ownBlock))) (n := t245.length) (c := co52) ?_).2.2; exact (by (with_reducible repeat (first | apply Kd.R_alloc | apply Kd.R_drewN | apply Kd.R_drew)); exact (Kd.R_mono (Kd.R_far (p := ⟨gb313, 6, none⟩) (Kd.R_far (p := ⟨gb313, 5, none⟩) (Kd.R_far (p := ⟨gb313, 4, none⟩) (Kd.R_far (p := ⟨gb313, 3, none⟩) (Kd.R_far (p := ⟨gb313, 2, none⟩) (Kd.R_far (p := ⟨gb313, 1, none⟩) (Kd.R_far (p := ⟨gb313, 0, none⟩) (Kd.R_types HO_249006.out BK313.out (by decide)) (fun _ hk => hk.2) (.bool t304)) (fun _ hk => hk.2) (.int .i64 t305)) (fun _ hk => hk.2) (.int .i64 t306)) (fun _ hk => hk.2) (.int .i64 t307)) (fun _ hk => hk.2) (.int .i64 t308)) (fun _ hk => hk.2) (.int .i64 t309)) (fun _ hk => hk.2) (.slice Ao135 t310.length co135)) (fun _ h_ => h_.1)))); (case side4 => exact (Kd.R_reads' HO_249006.out).2.1); rintro e w145 ⟨rfl, hb⟩; refine ⟨_, rfl, ?_⟩; have n0_ := Aside0.mk (Kd.R_below (by (with_reducible repeat (first | apply Kd.R_alloc | apply Kd.R_drewN | apply Kd.R_drew)); exact (Kd.R_mono (Kd.R_far (p := ⟨gb313, 6, none⟩) (Kd.R_far (p := ⟨gb313, 5, none⟩) (Kd.R_far (p := ⟨gb313, 4, none⟩) (Kd.R_far (p := ⟨gb313, 3, none⟩) (Kd.R_far (p := ⟨gb313, 2, none⟩) (Kd.R_far (p := ⟨gb313, 1, none⟩) (Kd.R_far (p := ⟨gb313, 0, none⟩) (Kd.R_types HO_249006.out BK313.out (by decide)) (fun _ hk => hk.2) (.bool t304)) (fun _ hk => hk.2) (.int .i64 t305)) (fun _ hk => hk.2) (.int .i64 t306)) (fun _ hk => hk.2) (.int .i64 t307)) (fun _ hk => hk.2) (.int .i64 t308)) (fun _ hk => hk.2) (.int .i64 t309)) (fun _ hk => hk.2) (.slice Ao135 t310.length co135)) (fun _ h_ => h_.1))) hb); have n1_ := Aside0.mk (Kd.R_below (by (with_reducible repeat (first | apply Kd.R_alloc | apply Kd.R_drewN | apply Kd.R_drew)); exact (Kd.R_mono (Kd.R_far (p := ⟨gb313, 6, none⟩) (Kd.R_far (p := ⟨gb313, 5, none⟩) (Kd.R_far (p := ⟨gb313, 4, none⟩) (Kd.R_far (p := ⟨gb313, 3, none⟩) (Kd.R_far (p := ⟨gb313, 2, none⟩) (Kd.R_far (p := ⟨gb313, 1, none⟩) (Kd.R_far (p := ⟨gb313, 0, none⟩) (Kd.R_types HO_273006.out BK313.out (by decide)) (fun _ hk => hk.2) (.bool t304)) (fun _ hk => hk.2) (.int .i64 t305)) (fun _ hk => hk.2) (.int .i64 t306)) (fun _ hk => hk.2) (.int .i64 t307)) (fun _ hk => hk.2) (.int .i64 t308)) (fun _ hk => hk.2) (.int .i64 t309)) (fun _ hk => hk.2) (.slice Ao135 t310.length co135)) (fun _ h_ => h_.1))) hb); have n2_ := Aside0.mk (Kd.R_below (by (with_reducible repeat (first | apply Kd.R_alloc | apply Kd.R_drewN | apply Kd.R_drew)); exact (Kd.R_mono (Kd.R_far (p := ⟨gb313, 6, none⟩) (Kd.R_far (p := ⟨gb313, 5, none⟩) (Kd.R_far (p := ⟨gb313, 4, none⟩) (Kd.R_far (p := ⟨gb313, 3, none⟩) (Kd.R_far (p := ⟨gb313, 2, none⟩) (Kd.R_far (p := ⟨gb313, 1, none⟩) (Kd.R_far (p := ⟨gb313, 0, none⟩) (Kd.R_types HO300.out BK313.out (by decide)) (fun _ hk => hk.2) (.bool t304)) (fun _ hk => hk.2) (.int .i64 t305)) (fun _ hk => hk.2) (.int .i64 t306)) (fun _ hk => hk.2) (.int .i64 t307)) (fun _ hk => hk.2) (.int .i64 t308)) (fun _ hk => hk.2) (.int .i64 t309)) (fun _ hk => hk.2) (.slice Ao135 t310.length co135)) (fun _ h_ => h_.1))) hb); have n3_ := Aside0.mk (Kd.R_below (by (with_reducible repeat (first | apply Kd.R_alloc | apply Kd.R_drewN | apply Kd.R_drew)); exact (Kd.R_mono (Kd.R_far (p := ⟨gb313, 6, none⟩) (Kd.R_far (p := ⟨gb313, 5, none⟩) (Kd.R_far (p := ⟨gb313, 4, none⟩) (Kd.R_far (p := ⟨gb313, 3, none⟩) (Kd.R_far (p := ⟨gb313, 2, none⟩) (Kd.R_far (p := ⟨gb313, 1, none⟩) (Kd.R_far (p := ⟨gb313, 0, none⟩) (Kd.R_types HO303.out BK313.out (by decide)) (fun _ hk => hk.2) (.bool t304)) (fun _ hk => hk.2) (.int .i64 t305)) (fun _ hk => hk.2) (.int .i64 t306)) (fun _ hk => hk.2) (.int .i64 t307)) (fun _ hk => hk.2) (.int .i64 t308)) (fun _ hk => hk.2) (.int .i64 t309)) (fun _ hk => hk.2) (.slice Ao135 t310.length co135)) (fun _ h_ => h_.1))) hb); have n4_ := Aside0.mk (Kd.R_below (by (with_reducible repeat (first | apply Kd.R_alloc | apply Kd.R_drewN | apply Kd.R_drew)); exact (Kd.R_mono (Kd.R_far (p := ⟨gb313, 6, none⟩) (Kd.R_far (p := ⟨gb313, 5, none⟩) (Kd.R_far (p := ⟨gb313, 4, none⟩) (Kd.R_far (p := ⟨gb313, 3, none⟩) (Kd.R_far (p := ⟨gb313, 2, none⟩) (Kd.R_far (p := ⟨gb313, 1, none⟩) (Kd.R_far (p := ⟨gb313, 0, none⟩) (Kd.R_types HO312.out BK313.out (by decide)) (fun _ hk => hk.2) (.bool t304)) (fun _ hk => hk.2) (.int .i64 t305)) (fun _ hk => hk.2) (.int .i64 t306)) (fun _ hk => hk.2) (.int .i64 t307)) (fun _ hk => hk.2) (.int .i64 t308)) (fun _ hk => hk.2) (.int .i64 t309)) (fun _ hk => hk.2) (.slice Ao135 t310.length co135)) (fun _ h_ => h_.1))) hb); have n5_ := Aside0.mk (blk_below (g := gb222) (o := .cells #[.int .i64 a0_0, .int .i64 a0_1, .int .i64 a0_2] 23 (0, 0)) (by (with_reducible repeat (first | refine blk_drewN ?_ _ | refine blk_drew ?_ | refine blk_alloc ?_ _)); refine blk_far ?_ NB222_313.out _; (with_reducible repeat (first | refine blk_drewN ?_ _ | refine blk_drew ?_ | refine blk_alloc ?_ _)); refine blk_far ?_ NB222_313.out _; (with_reducible repeat (first | refine blk_drewN ?_ _ | refine blk_drew ?_ | refine blk_alloc ?_ _)); refine blk_far ?_ NB222_313.out _; (with_reducible repeat (first | refine blk_drewN ?_ _ | refine blk_drew ?_ | refine blk_alloc ?_ _)); refine blk_far ?_ NB222_313.out _; (with_reducible repeat (first | refine blk_drewN ?_ _ | refine blk_drew ?_ | refine blk_alloc ?_ _)); refine blk_far ?_ NB222_313.out _; (with_reducible repeat (first | refine blk_drewN ?_ _ | refine blk_drew ?_ | refine blk_alloc ?_ _)); refine blk_far ?_ NB222_313.out _; (with_reducible repeat (first | refine blk_drewN ?_ _ | refine blk_drew ?_ | refine blk_alloc ?_ _)); refine blk_far ?_ NB222_313.out _; (with_reducible repeat (first | refine blk_drewN ?_ _ | refine blk_drew ?_ | refine blk_alloc ?_ _)); exact BK222.out) hb); have n6_ := Aside0.mk (blk_below (g := gb223) (o := .cells #[.int .i64 a2_0, .int .i64 a2_1, .int .i64 a2_2, .int .i64 a2_3, .int .i64 a2_4] 25 (0, 0)) (by (with_reducible repeat (first | refine blk_drewN ?_ _ | refine blk_drew ?_ | refine blk_alloc ?_ _)); refine blk_far ?_ NB223_313.out _; (with_reducible repeat (first | refine blk_drewN ?_ _ | refine blk_drew ?_ | refine blk_alloc ?_ _)); refine blk_far ?_ NB223_313.out _; (with_reducible repeat (first | refine blk_drewN ?_ _ | refine blk_drew ?_ | refine blk_alloc ?_ _)); refine blk_far ?_ NB223_313.out _; (with_reducible repeat (first | refine blk_drewN ?_ _ | refine blk_drew ?_ | refine blk_alloc ?_ _)); refine blk_far ?_ NB223_313.out _; (with_reducible repeat (first | refine blk_drewN ?_ _ | refine blk_drew ?_ | refine blk_alloc ?_ _)); refine blk_far ?_ NB223_313.out _; (with_reducible repeat (first | refine blk_drewN ?_ _ | refine blk_drew ?_ | refine blk_alloc ?_ _)); refine blk_far ?_ NB223_313.out _; (with_reducible repeat (first | refine blk_drewN ?_ _ | refine blk_drew ?_ | refine blk_alloc ?_ _)); refine blk_far ?_ NB223_313.out _; (with_reducible repeat (first | refine blk_drewN ?_ _ | refine blk_drew ?_ | refine blk_alloc ?_ _)); exact BK223.out) hb); have n7_ := Aside0.mk (blk_below (g := gb248) (o := .cells #[.bool t239, .int .i64 t240, .int .i64 t241, .int .i64 t242, .int .i64 t243, .int .i64 t244, .slice Ao52 t245.length co52] 32 (0, 0)) (by (with_reducible repeat (first | refine blk_drewN ?_ _ | refine blk_drew ?_ | refine blk_alloc ?_ _)); refine blk_far ?_ NB248_313.out _; (with_reducible repeat (first | refine blk_drewN ?_ _ | refine blk_drew ?_ | refine blk_alloc ?_ _)); refine blk_far ?_ NB248_313.out _; (with_reducible repeat (first | refine blk_drewN ?_ _ | refine blk_drew ?_ | refine blk_alloc ?_ _)); refine blk_far ?_ NB248_313.out _; (with_reducible repeat (first | refine blk_drewN ?_ _ | refine blk_drew ?_ | refine blk_alloc ?_ _)); refine blk_far ?_ NB248_313.out _; (with_reducible repeat (first | refine blk_drewN ?_ _ | refine blk_drew ?_ | refine blk_alloc ?_ _)); refine blk_far ?_ NB248_313.out _; (with_reducible repeat (first | refine blk_drewN ?_ _ | refine blk_drew ?_ | refine blk_alloc ?_ _)); refine blk_far ?_ NB248_313.out _; (with_reducible repeat (first | refine blk_drewN ?_ _ | refine blk_drew ?_ | refine blk_alloc ?_ _)); refine blk_far ?_ NB248_313.out _; (with_reducible repeat (first | refine blk_drewN ?_ _ | refine blk_drew ?_ | refine blk_alloc ?_ _)); exact BK248.out) hb); have n8_ := Aside0.mk (blk_below (g := gb272) (o := .cells #[.bool t263, .int .i64 t264, .int .i64 t265, .int .i64 t266, .int .i64 t267, .int .i64 t268, .slice Ao70 t269.length co70] 32 (0, 0)) (by (with_reducible repeat (first | refine blk_drewN ?_ _ | refine blk_drew ?_ | refine blk_alloc ?_ _)); refine blk_far ?_ NB272_313.out _; (with_reducible repeat (first | refine blk_drewN ?_ _ | refine blk_drew ?_ | refine blk_alloc ?_ _)); refine blk_far ?_ NB272_313.out _; (with_reducible repeat (first | refine blk_drewN ?_ _ | refine blk_drew ?_ | refine blk_alloc ?_ _)); refine blk_far ?_ NB272_313.out _; (with_reducible repeat (first | refine blk_drewN ?_ _ | refine blk_drew ?_ | refine blk_alloc ?_ _)); refine blk_far ?_ NB272_313.out _; (with_reducible repeat (first | refine blk_drewN ?_ _ | refine blk_drew ?_ | refine blk_alloc ?_ _)); refine blk_far ?_ NB272_313.out _; (with_reducible repeat (first | refine blk_drewN ?_ _ | refine blk_drew ?_ | refine blk_alloc ?_ _)); refine blk_far ?_ NB272_313.out _; (with_reducible repeat (first | refine blk_drewN ?_ _ | refine blk_drew ?_ | refine blk_alloc ?_ _)); refine blk_far ?_ NB272_313.out _; (with_reducible repeat (first | refine blk_drewN ?_ _ | refine blk_drew ?_ | refine blk_alloc ?_ _)); exact BK272.out) hb); have n9_ := Aside0.mk (blk_below (g := gb313) (o := .cells #[.bool t304, .int .i64 t305, .int .i64 t306, .int .i64 t307, .int .i64 t308, .int .i64 t309, .slice Ao135 t310.length co135] 32 (0, 0)) (by (with_reducible repeat (first | refine blk_drewN ?_ _ | refine blk_drew ?_ | refine blk_alloc ?_ _)); refine blk_put (cs := #[.bool t304, .int .i64 t305, .int .i64 t306, .int .i64 t307, .int .i64 t308, .int .i64 t309, .slice none 0 0]) ?_ 6 _ rfl; (with_reducible repeat (first | refine blk_drewN ?_ _ | refine blk_drew ?_ | refine blk_alloc ?_ _)); refine blk_put (cs := #[.bool t304, .int .i64 t305, .int .i64 t306, .int .i64 t307, .int .i64 t308, .int .i64 0, .slice none 0 0]) ?_ 5 _ rfl; (with_reducible repeat (first | refine blk_drewN ?_ _ | refine blk_drew ?_ | refine blk_alloc ?_ _)); refine blk_put (cs := #[.bool t304, .int .i64 t305, .int .i64 t306, .int .i64 t307, .int .i64 0, .int .i64 0, .slice none 0 0]) ?_ 4 _ rfl; (with_reducible repeat (first | refine blk_drewN ?_ _ | refine blk_drew ?_ | refine blk_alloc ?_ _)); refine blk_put (cs := #[.bool t304, .int .i64 t305, .int .i64 t306, .int .i64 0, .int .i64 0, .int .i64 0, .slice none 0 0]) ?_ 3 _ rfl; (with_reducible repeat (first | refine blk_drewN ?_ _ | refine blk_drew ?_ | refine blk_alloc ?_ _)); refine blk_put (cs := #[.bool t304, .int .i64 t305, .int .i64 0, .int .i64 0, .int .i64 0, .int .i64 0, .slice none 0 0]) ?_ 2 _ rfl; (with_reducible repeat (first | refine blk_drewN ?_ _ | refine blk_drew ?_ | refine blk_alloc ?_ _)); refine blk_put (cs := #[.bool t304, .int .i64 0, .int .i64 0, .int .i64 0, .int .i64 0, .int .i64 0, .slice none 0 0]) ?_ 1 _ rfl; (with_reducible repeat (first | refine blk_drewN ?_ _ | refine blk_drew ?_ | refine blk_alloc ?_ _)); refine blk_put (cs := #[.bool false, .int .i64 0, .int .i64 0, .int .i64 0, .int .i64 0, .int .i64 0, .slice none 0 0]) ?_ 0 _ rfl; (with_reducible repeat (first | refine blk_drewN ?_ _ | refine blk_drew ?_ | refine blk_alloc ?_ _)); exact BK313.out) hb); have n10_ := bst HB hb; clear HO_249006; clear HO_273006; clear HO300; clear HO303; clear HO312; clear BK222; clear BK223; clear BK248; clear BK272; clear BK313; clear HB; have HO_249006 := n0_; have HO_273006 := n1_; have HO300 := n2_; have HO303 := n3_; have HO312 := n4_; have BK222 := n5_; have BK223 := n6_; have BK248 := n7_; have BK272 := n8_; have BK313 := n9_; have HB := n10_; clear n0_ n1_ n2_ n3_ n4_ n5_ n6_ n7_ n8_ n9_ n10_; (try clear hb); (try clear hb2); (try clear hk); (try clear hi); have hcz146_0 : w145.cell? ⟨gb272, 0, none⟩ = some (.bool t263) := bc BK272 0; have hcz146_1 : w145.cell? ⟨gb272, 1, none⟩ = some (.int .i64 t264) := bc BK272 1; have hcz146_2 : w145.cell? ⟨gb272, 2, none⟩ = some (.int .i64 t265) := bc BK272 2; have hcz146_3 : w145.cell? ⟨gb272, 3, none⟩ = some (.int .i64 t266) := bc BK272 3; have hcz146_4 : w145.cell? ⟨gb272, 4, none⟩ = some (.int .i64 t267) := bc BK272 4; have hcz146_5 : w145.cell? ⟨gb272, 5, none⟩ = some (.int .i64 t268) := bc BK272 5; have hcz146_6 : w145.cell? ⟨gb272, 6, none⟩ = some (.slice Ao70 t269.length co70) := bc BK272 6; have hfz146_0 := blk_frozen BK272.out 0; have hfz146_1 := blk_frozen BK272.out 1; have hfz146_2 := blk_frozen BK272.out 2; have hfz146_3 := blk_frozen BK272.out 3; have hfz146_4 := blk_frozen BK272.out 4; have hfz146_5 := blk_frozen BK272.out 5; have hfz146_6 := blk_frozen BK272.out 6) | ((with_reducible refine gate_callee (f := 24) rfl ?_); refine goesL_ (some 105) rfl rfl Try.func24 (by kernel_rfl) rfl #[.agg #[.bool t263, .int .i64 t264, .int .i64 t265, .int .i64 t266, .int .i64 t267, .int .i64 t268, .slice Ao70 t288.length co70], .int .i64 1] rfl (by (try simp only [List.map_toArray, List.map_cons, List.map_nil]); first | done | (rw [show t288.length = t269.length from (Kd.R_reads' HO_273006.out).1.symm] <;> rfl) | rfl | (simp only [List.length_drop, List.length_take]; rfl)) ?_; (with_reducible refine (laws_heldBoxed.calls kj32 t263 t264 t265 t266 t267 t268 _ _ t288 1 t315 _ ?side1 ?side2 A109.out).mono ?_); (case side1 => exact qc (Kd.R_reads' HO_273006.out).2.2); (case side2 => rw [show t288.length = t269.length from (Kd.R_reads' HO_273006.out).1.symm]; exact (Kd.R_reads' HO_273006.out).2.1); rintro e w147 ⟨rfl, hb⟩; refine ⟨_, rfl, ?_⟩; have n0_ := rbl HO_249006 hb; have n1_ := rbl HO_273006 hb; have n2_ := rbl HO300 hb; have n3_ := rbl HO303 hb; have n4_ := rbl HO312 hb; have n5_ := bkb BK222 hb; have n6_ := bkb BK223 hb; have n7_ := bkb BK248 hb; have n8_ := bkb BK272 hb; have n9_ := bkb BK313 hb; have n10_ := bst HB hb; clear HO_249006; clear HO_273006; clear HO300; clear HO303; clear HO312; clear BK222; clear BK223; clear BK248; clear BK272; clear BK313; clear HB; have HO_249006 := n0_; have HO_273006 := n1_; have HO300 := n2_; have HO303 := n3_; have HO312 := n4_; have BK222 := n5_; have BK223 := n6_; have BK248 := n7_; have BK272 := n8_; have BK313 := n9_; have HB := n10_; clear n0_ n1_ n2_ n3_ n4_ n5_ n6_ n7_ n8_ n9_ n10_; (try clear hb); (try clear hb2); (try clear hk); (try clear hi)))
         go_ret
         exact ⟨by first | rfl | (simp [errW_none, errW_some] <;> rfl) | (simp [*, errW_none, errW_some] <;> rfl), by repeat (first | (with_reducible first | exact HB.out | apply below_alloc | apply pw_below_drewN | apply below_drew1 | refine below_set ?_ GE222.out | refine below_set ?_ GE223.out | refine below_set ?_ GE248.out | refine below_set ?_ GE272.out | refine below_set ?_ GE313.out) | exact HB.out)⟩
        rw [if_neg c111] at H
        have c111b0 : (t315 == t287) = false := beq_eq_false_iff_ne.mpr c111
        have c111b1 : (t315 != t287) = true := bne_iff_ne.mpr c111
        exact absurd H (by simp)
       replace c108 := Bool.eq_false_iff.mpr c108
       subst c108
       have H1 : (some false) = some true := by rw [if_neg (show ¬ (false = true) by decide)] at H; exact H
       clear H; have H := H1; clear H1
       exact absurd H (by simp)
      rw [if_neg c101] at H
      have c101b0 : (t289 == t287) = false := beq_eq_false_iff_ne.mpr c101
      have c101b1 : (t289 != t287) = true := bne_iff_ne.mpr c101
      exact absurd H (by simp)
   replace c30 := Bool.eq_false_iff.mpr c30
   subst c30
   have H1 : (some false) = some true := by rw [if_neg (show ¬ (false = true) by decide)] at H; exact H
   clear H; have H := H1; clear H1
   exact absurd H (by simp)
  replace c27 := Bool.eq_false_iff.mpr c27
  subst c27
  have H1 : (some false) = some true := by rw [if_neg (show ¬ (false = true) by decide)] at H; exact H
  clear H; have H := H1; clear H1
  exact absurd H (by simp)
 replace c24 := Bool.eq_false_iff.mpr c24
 subst c24
 have H1 : (some false) = some true := by rw [if_neg (show ¬ (false = true) by decide)] at H; exact H
 clear H; have H := H1; clear H1
 exact absurd H (by simp)
end Go.Proofs.Ytndffnacbfdnoaa.PAll
