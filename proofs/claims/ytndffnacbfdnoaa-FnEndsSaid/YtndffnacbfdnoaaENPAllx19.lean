-- Lines of PAllx19 that this claim uses.
import Derived.Test.YtndffnacbfdnoaaENSqd
import Derived.Test.YtndffnacbfdnoaaENSq
import Derived.Test.YtndffnacbfdnoaaENPAllx0
import Derived.Test.YtndffnacbfdnoaaENPAllx1
import Derived.Test.YtndffnacbfdnoaaENPAllx2
import Derived.Test.YtndffnacbfdnoaaENPAllx3
import Derived.Test.YtndffnacbfdnoaaENPAllx6
import Derived.Test.YtndffnacbfdnoaaENPAllx8
import Derived.Test.YtndffnacbfdnoaaENPAllx12
import Derived.Test.YtndffnacbfdnoaaENPAllx13
import Derived.Test.YtndffnacbfdnoaaENPAllx17
import Derived.Test.YtndffnacbfdnoaaENPAllx18
namespace Go.Proofs.Ytndffnacbfdnoaa.PAll
open Go.RowKit Go.Proofs.YtndffnacbfdnoaaW.PrintWords Go.Proofs.YtndffnacbfdnoaaW.PrintLast Go.Proofs.YtndffnacbfdnoaaW.PrintMore
attribute [local go_sem] max2_int min2_int max_two min_two max_three min_three max_four min_four   -- for this text's walks alone
set_option linter.unusedVariables false
set_option linter.unusedSimpArgs false
attribute [local go_sem high] eqA29 eqA48 eqA60
mutual
def laws_FnEnds.j0 : Nat → List Int → Bool → Bool → Int → Int → Int → Int → Int → List (S60) → Bool → Int → Int → Int → Int → Int → List (S60) → Option (Bool)
 | 0, _, _, _, _, _, _, _, _, _, _, _, _, _, _, _, _ => none
 | k + 1, x0, x61, x761000, x761001, x761002, x761003, x761004, x761005, x761006, x771000, x771001, x771002, x771003, x771004, x771005, x771006 => if x61 = true then (some false) else (laws_FnEnds.l0 k x0 (x761006.length : Int) 0 x761000 x761001 x761002 x761003 x761004 x761005 x761006 x771000 x771001 x771002 x771003 x771004 x771005 x771006)
def laws_FnEnds.l0 : Nat → List Int → Int → Int → Bool → Int → Int → Int → Int → Int → List (S60) → Bool → Int → Int → Int → Int → Int → List (S60) → Option (Bool)
 | 0, _, _, _, _, _, _, _, _, _, _, _, _, _, _, _, _, _ => none
 | k + 1, x0, x64, x65, x761000, x761001, x761002, x761003, x761004, x761005, x761006, x771000, x771001, x771002, x771003, x771004, x771005, x771006 => if x65 < x64 then (if 0 ≤ x65 then (if x65 < (x761006.length : Int) then (if x65 < (x771006.length : Int) then (if (!(((rd_T60 x761006 x65).f0) == ((rd_T60 x771006 x65).f0)) || (!(((rd_T60 x761006 x65).f1) == ((rd_T60 x771006 x65).f1)) || (!(((rd_T60 x761006 x65).f2) == ((rd_T60 x771006 x65).f2)) || (!(((rd_T60 x761006 x65).f3) == ((rd_T60 x771006 x65).f3)))))) = true then (some false) else (laws_FnEnds.l0 k x0 x64 (wrap64 (x65 + 1)) x761000 x761001 x761002 x761003 x761004 x761005 x761006 x771000 x771001 x771002 x771003 x771004 x771005 x771006)) else (none)) else (none)) else (none)) else ((spec_DrawTrainTick.f k x0).bind fun bt773 => ((impl_TrainTick.f k bt773.1 bt773.2.1 bt773.2.2.1 bt773.2.2.2.1 bt773.2.2.2.2.1 bt773.2.2.2.2.2.1 bt773.2.2.2.2.2.2.1 bt773.2.2.2.2.2.2.2).bind fun bt785 => ((spec_TrainTick.f k bt773.1 bt773.2.1 bt773.2.2.1 bt773.2.2.2.1 bt773.2.2.2.2.1 bt773.2.2.2.2.2.1 bt773.2.2.2.2.2.2.1 bt773.2.2.2.2.2.2.2).bind fun bt794 => (if (bt785.1 != bt794.1) = true then (laws_FnEnds.j2 k true bt785.1 bt785.2.1 bt785.2.2.1 bt785.2.2.2.1 bt785.2.2.2.2.1 bt785.2.2.2.2.2 bt794.1 bt794.2.1 bt794.2.2.1 bt794.2.2.2.1 bt794.2.2.2.2.1 bt794.2.2.2.2.2) else (if (!(bt785.2.1 == bt794.2.1) || (!(bt785.2.2.1 == bt794.2.2.1) || (!(bt785.2.2.2.1 == bt794.2.2.2.1)))) = true then (laws_FnEnds.j2 k true bt785.1 bt785.2.1 bt785.2.2.1 bt785.2.2.2.1 bt785.2.2.2.2.1 bt785.2.2.2.2.2 bt794.1 bt794.2.1 bt794.2.2.1 bt794.2.2.2.1 bt794.2.2.2.2.1 bt794.2.2.2.2.2) else (if bt785.2.2.2.2.2 = bt794.2.2.2.2.2 then (laws_FnEnds.j2 k ((bt785.2.2.2.2.1.length : Int) != (bt794.2.2.2.2.1.length : Int)) bt785.1 bt785.2.1 bt785.2.2.1 bt785.2.2.2.1 bt785.2.2.2.2.1 bt785.2.2.2.2.2 bt794.1 bt794.2.1 bt794.2.2.1 bt794.2.2.2.1 bt794.2.2.2.2.1 bt794.2.2.2.2.2) else (laws_FnEnds.j2 k true bt785.1 bt785.2.1 bt785.2.2.1 bt785.2.2.2.1 bt785.2.2.2.2.1 bt785.2.2.2.2.2 bt794.1 bt794.2.1 bt794.2.2.1 bt794.2.2.2.1 bt794.2.2.2.2.1 bt794.2.2.2.2.2)))))))
def laws_FnEnds.j2 : Nat → Bool → Bool → Int → Int → Int → List (S60) → Int → Bool → Int → Int → Int → List (S60) → Int → Option (Bool)
 | 0, _, _, _, _, _, _, _, _, _, _, _, _, _ => none
 | k + 1, x124, x794000, x794001, x794002, x794003, x794004, x794005, x803000, x803001, x803002, x803003, x803004, x803005 => if x124 = true then (some false) else (laws_FnEnds.l1 k (x794004.length : Int) 0 x794000 x794001 x794002 x794003 x794004 x794005 x803000 x803001 x803002 x803003 x803004 x803005)
def laws_FnEnds.l1 : Nat → Int → Int → Bool → Int → Int → Int → List (S60) → Int → Bool → Int → Int → Int → List (S60) → Int → Option (Bool)
 | 0, _, _, _, _, _, _, _, _, _, _, _, _, _, _ => none
 | k + 1, x127, x128, x794000, x794001, x794002, x794003, x794004, x794005, x803000, x803001, x803002, x803003, x803004, x803005 => if x128 < x127 then (if 0 ≤ x128 then (if x128 < (x794004.length : Int) then (if x128 < (x803004.length : Int) then (if (!(((rd_T60 x794004 x128).f0) == ((rd_T60 x803004 x128).f0)) || (!(((rd_T60 x794004 x128).f1) == ((rd_T60 x803004 x128).f1)) || (!(((rd_T60 x794004 x128).f2) == ((rd_T60 x803004 x128).f2)) || (!(((rd_T60 x794004 x128).f3) == ((rd_T60 x803004 x128).f3)))))) = true then (some false) else (laws_FnEnds.l1 k x127 (wrap64 (x128 + 1)) x794000 x794001 x794002 x794003 x794004 x794005 x803000 x803001 x803002 x803003 x803004 x803005)) else (none)) else (none)) else (none)) else (some true)
end
def laws_FnEnds.f (k : Nat) (l0 : List Int) : Option (Bool) := if (l0.length : Int) > 1048576 then (some true) else ((spec_DrawBoxTick.f k l0).bind fun bt734 => ((impl_BoxTick.f k bt734.1 bt734.2.1 bt734.2.2.1 bt734.2.2.2.1 bt734.2.2.2.2.1 bt734.2.2.2.2.2.1 bt734.2.2.2.2.2.2.1 bt734.2.2.2.2.2.2.2.1 bt734.2.2.2.2.2.2.2.2.1 bt734.2.2.2.2.2.2.2.2.2.1 bt734.2.2.2.2.2.2.2.2.2.2).bind fun bt751 => ((spec_BoxTick.f k bt734.1 bt734.2.1 bt734.2.2.1 bt734.2.2.2.1 bt734.2.2.2.2.1 bt734.2.2.2.2.2.1 bt734.2.2.2.2.2.2.1 bt734.2.2.2.2.2.2.2.1 bt734.2.2.2.2.2.2.2.2.1 bt734.2.2.2.2.2.2.2.2.2.1 bt734.2.2.2.2.2.2.2.2.2.2).bind fun bt761 => (if (bt751.1 != bt761.1) = true then (laws_FnEnds.j0 k l0 true bt751.1 bt751.2.1 bt751.2.2.1 bt751.2.2.2.1 bt751.2.2.2.2.1 bt751.2.2.2.2.2.1 bt751.2.2.2.2.2.2 bt761.1 bt761.2.1 bt761.2.2.1 bt761.2.2.2.1 bt761.2.2.2.2.1 bt761.2.2.2.2.2.1 bt761.2.2.2.2.2.2) else (if (!(bt751.2.1 == bt761.2.1) || (!(bt751.2.2.1 == bt761.2.2.1) || (!(bt751.2.2.2.1 == bt761.2.2.2.1) || (!(bt751.2.2.2.2.1 == bt761.2.2.2.2.1) || (!(bt751.2.2.2.2.2.1 == bt761.2.2.2.2.2.1)))))) = true then (laws_FnEnds.j0 k l0 true bt751.1 bt751.2.1 bt751.2.2.1 bt751.2.2.2.1 bt751.2.2.2.2.1 bt751.2.2.2.2.2.1 bt751.2.2.2.2.2.2 bt761.1 bt761.2.1 bt761.2.2.1 bt761.2.2.2.1 bt761.2.2.2.2.1 bt761.2.2.2.2.2.1 bt761.2.2.2.2.2.2) else (laws_FnEnds.j0 k l0 ((bt751.2.2.2.2.2.2.length : Int) != (bt761.2.2.2.2.2.2.length : Int)) bt751.1 bt751.2.1 bt751.2.2.1 bt751.2.2.2.1 bt751.2.2.2.2.1 bt751.2.2.2.2.2.1 bt751.2.2.2.2.2.2 bt761.1 bt761.2.1 bt761.2.2.1 bt761.2.2.2.1 bt761.2.2.2.2.1 bt761.2.2.2.2.2.1 bt761.2.2.2.2.2.2))))))
set_option maxHeartbeats 8000000 in
set_option maxRecDepth 100000 in
theorem laws_FnEnds.calls (k : Nat) (A0 : Option Addr) (c0 : Nat) (l0 : List Int) (w : World) (hr0 : Kd.C (Kd.int .u8) w A0 l0.length l0) (hc0 : l0.length ≤ c0) (h : laws_FnEnds.f k l0 = some true) :
  Calls Try.prog 5 #[.slice A0 l0.length c0] w fun e w' => e = .returned (.bool true) ∧ Below w.heap.size w w' := by
 have hu34 := Try.underlying34
 have hu29 := Try.underlying29
 have hu32 := Try.underlying32
 have hu60 := Try.underlying60
 have hu48 := Try.underlying48
 have hu50 := Try.underlying50
 have HR0 := Aside0.mk hr0
 have HC0 := Aside0.mk hc0
 clear hr0 hc0
 have HB := Aside0.mk (Below.refl w.heap.size w)
 have H : (if (l0.length : Int) > 1048576 then (some true) else ((spec_DrawBoxTick.f k l0).bind fun bt734 => ((impl_BoxTick.f k bt734.1 bt734.2.1 bt734.2.2.1 bt734.2.2.2.1 bt734.2.2.2.2.1 bt734.2.2.2.2.2.1 bt734.2.2.2.2.2.2.1 bt734.2.2.2.2.2.2.2.1 bt734.2.2.2.2.2.2.2.2.1 bt734.2.2.2.2.2.2.2.2.2.1 bt734.2.2.2.2.2.2.2.2.2.2).bind fun bt751 => ((spec_BoxTick.f k bt734.1 bt734.2.1 bt734.2.2.1 bt734.2.2.2.1 bt734.2.2.2.2.1 bt734.2.2.2.2.2.1 bt734.2.2.2.2.2.2.1 bt734.2.2.2.2.2.2.2.1 bt734.2.2.2.2.2.2.2.2.1 bt734.2.2.2.2.2.2.2.2.2.1 bt734.2.2.2.2.2.2.2.2.2.2).bind fun bt761 => (if (bt751.1 != bt761.1) = true then (laws_FnEnds.j0 k l0 true bt751.1 bt751.2.1 bt751.2.2.1 bt751.2.2.2.1 bt751.2.2.2.2.1 bt751.2.2.2.2.2.1 bt751.2.2.2.2.2.2 bt761.1 bt761.2.1 bt761.2.2.1 bt761.2.2.2.1 bt761.2.2.2.2.1 bt761.2.2.2.2.2.1 bt761.2.2.2.2.2.2) else (if (!(bt751.2.1 == bt761.2.1) || (!(bt751.2.2.1 == bt761.2.2.1) || (!(bt751.2.2.2.1 == bt761.2.2.2.1) || (!(bt751.2.2.2.2.1 == bt761.2.2.2.2.1) || (!(bt751.2.2.2.2.2.1 == bt761.2.2.2.2.2.1)))))) = true then (laws_FnEnds.j0 k l0 true bt751.1 bt751.2.1 bt751.2.2.1 bt751.2.2.2.1 bt751.2.2.2.2.1 bt751.2.2.2.2.2.1 bt751.2.2.2.2.2.2 bt761.1 bt761.2.1 bt761.2.2.1 bt761.2.2.2.1 bt761.2.2.2.2.1 bt761.2.2.2.2.2.1 bt761.2.2.2.2.2.2) else (laws_FnEnds.j0 k l0 ((bt751.2.2.2.2.2.2.length : Int) != (bt761.2.2.2.2.2.2.length : Int)) bt751.1 bt751.2.1 bt751.2.2.1 bt751.2.2.2.1 bt751.2.2.2.2.1 bt751.2.2.2.2.2.1 bt751.2.2.2.2.2.2 bt761.1 bt761.2.1 bt761.2.2.1 bt761.2.2.2.1 bt761.2.2.2.2.1 bt761.2.2.2.2.2.1 bt761.2.2.2.2.2.2))))))) = some true := h
 clear h
 by_cases c2 : (l0.length : Int) > 1048576
 ·rw [if_pos c2] at H
  have c2b0 : decide (1048576 < (l0.length : Int)) = true := decide_eq_true c2
  have c2b1 : decide (1048576 < l0.length) = true := decide_eq_true (by omega)
  clear c2
  go_enter Try.func5, Try.ntmps5
  go_wp2
  repeat (go_quiet (fail); try go_wp2)
  go_ret
  exact ⟨by first | rfl | (simp [errW_none, errW_some] <;> rfl) | (simp [*, errW_none, errW_some] <;> rfl), (qs HB)⟩
 rw [if_neg c2] at H
 have c2b0 : decide (1048576 < (l0.length : Int)) = false := decide_eq_false c2
 have c2b1 : decide (1048576 < l0.length) = false := decide_eq_false (by omega)
 clear c2
 replace H := Option.bind_eq_some_iff.mp H
 obtain ⟨⟨t734, t735, t736, t737, t738, t739, t740, t741, t742, t743, t746⟩, A30, H⟩ := H
 replace H : ((impl_BoxTick.f k t734 t735 t736 t737 t738 t739 t740 t741 t742 t743 t746).bind fun bt751 => ((spec_BoxTick.f k t734 t735 t736 t737 t738 t739 t740 t741 t742 t743 t746).bind fun bt761 => (if (bt751.1 != bt761.1) = true then (laws_FnEnds.j0 k l0 true bt751.1 bt751.2.1 bt751.2.2.1 bt751.2.2.2.1 bt751.2.2.2.2.1 bt751.2.2.2.2.2.1 bt751.2.2.2.2.2.2 bt761.1 bt761.2.1 bt761.2.2.1 bt761.2.2.2.1 bt761.2.2.2.2.1 bt761.2.2.2.2.2.1 bt761.2.2.2.2.2.2) else (if (!(bt751.2.1 == bt761.2.1) || (!(bt751.2.2.1 == bt761.2.2.1) || (!(bt751.2.2.2.1 == bt761.2.2.2.1) || (!(bt751.2.2.2.2.1 == bt761.2.2.2.2.1) || (!(bt751.2.2.2.2.2.1 == bt761.2.2.2.2.2.1)))))) = true then (laws_FnEnds.j0 k l0 true bt751.1 bt751.2.1 bt751.2.2.1 bt751.2.2.2.1 bt751.2.2.2.2.1 bt751.2.2.2.2.2.1 bt751.2.2.2.2.2.2 bt761.1 bt761.2.1 bt761.2.2.1 bt761.2.2.2.1 bt761.2.2.2.2.1 bt761.2.2.2.2.2.1 bt761.2.2.2.2.2.2) else (laws_FnEnds.j0 k l0 ((bt751.2.2.2.2.2.2.length : Int) != (bt761.2.2.2.2.2.2.length : Int)) bt751.1 bt751.2.1 bt751.2.2.1 bt751.2.2.2.1 bt751.2.2.2.2.1 bt751.2.2.2.2.2.1 bt751.2.2.2.2.2.2 bt761.1 bt761.2.1 bt761.2.2.1 bt761.2.2.2.1 bt761.2.2.2.2.1 bt761.2.2.2.2.2.1 bt761.2.2.2.2.2.2))))) = some true := H
 have A3 := Aside0.mk A30
 clear A30
 replace H := Option.bind_eq_some_iff.mp H
 obtain ⟨⟨t751, t752, t753, t754, t755, t756, t757⟩, A40, H⟩ := H
 replace H : ((spec_BoxTick.f k t734 t735 t736 t737 t738 t739 t740 t741 t742 t743 t746).bind fun bt761 => (if (t751 != bt761.1) = true then (laws_FnEnds.j0 k l0 true t751 t752 t753 t754 t755 t756 t757 bt761.1 bt761.2.1 bt761.2.2.1 bt761.2.2.2.1 bt761.2.2.2.2.1 bt761.2.2.2.2.2.1 bt761.2.2.2.2.2.2) else (if (!(t752 == bt761.2.1) || (!(t753 == bt761.2.2.1) || (!(t754 == bt761.2.2.2.1) || (!(t755 == bt761.2.2.2.2.1) || (!(t756 == bt761.2.2.2.2.2.1)))))) = true then (laws_FnEnds.j0 k l0 true t751 t752 t753 t754 t755 t756 t757 bt761.1 bt761.2.1 bt761.2.2.1 bt761.2.2.2.1 bt761.2.2.2.2.1 bt761.2.2.2.2.2.1 bt761.2.2.2.2.2.2) else (laws_FnEnds.j0 k l0 ((t757.length : Int) != (bt761.2.2.2.2.2.2.length : Int)) t751 t752 t753 t754 t755 t756 t757 bt761.1 bt761.2.1 bt761.2.2.1 bt761.2.2.2.1 bt761.2.2.2.2.1 bt761.2.2.2.2.2.1 bt761.2.2.2.2.2.2)))) = some true := H
 have A4 := Aside0.mk A40
 clear A40
 replace H := Option.bind_eq_some_iff.mp H
 obtain ⟨⟨t761, t762, t763, t764, t765, t766, t767⟩, A50, H⟩ := H
 replace H : (if (t751 != t761) = true then (laws_FnEnds.j0 k l0 true t751 t752 t753 t754 t755 t756 t757 t761 t762 t763 t764 t765 t766 t767) else (if (!(t752 == t762) || (!(t753 == t763) || (!(t754 == t764) || (!(t755 == t765) || (!(t756 == t766)))))) = true then (laws_FnEnds.j0 k l0 true t751 t752 t753 t754 t755 t756 t757 t761 t762 t763 t764 t765 t766 t767) else (laws_FnEnds.j0 k l0 ((t757.length : Int) != (t767.length : Int)) t751 t752 t753 t754 t755 t756 t757 t761 t762 t763 t764 t765 t766 t767))) = some true := H
 have A5 := Aside0.mk A50
 clear A50
 have HC6 := Aside0.mk H
 clear H
 go_enter Try.func5, Try.ntmps5
 go_upto_region 6 with (first | (go_at_call 31; (with_reducible refine (spec_DrawBoxTick.calls k _ _ l0 t734 t735 t736 t737 t738 t739 t740 t741 t742 t743 t746 _ ?side1 ?side2 A3.out).mono ?_); (case side1 => repeat (first | exact HR0.out | (with_reducible refine Kd.C_alloc ?_ _) | (with_reducible refine Kd.C_drewN ?_ _) | (with_reducible refine Kd.C_drew ?_))); (case side2 => exact HC0.out); rintro e w7 ⟨v744, v747, rfl, ho0, ho1, hb⟩; have HO745 := Aside0.mk (Kd.R_lower ho0 (below_size (qs HB))); have HO748 := Aside0.mk (Kd.R_lower ho1 (below_size (qs HB))); replace HB := bst HB hb; clear hb; (try clear ho0); (try clear ho1)) | ((with_reducible refine gate_dst (N := 3) rfl ?_); (try (refine gate_guard (by rfl) ?_; dsimp only)); refine boxA #[.int .i64 0, .int .i64 0, .int .i64 0] 34 ?_; intro gb749 hg w8 hbox hb; replace HO745 := rbl HO745 hb; replace HO748 := rbl HO748 hb; have BK749 := Aside0.mk (hbox); have GW749 := nge HB hg; have GE749 := nge HB hg; replace HB := bst HB hb; clear hb hbox hg) | ((with_reducible refine gate_dst (N := 5) rfl ?_); (try (refine gate_guard (by rfl) ?_; dsimp only)); refine boxA #[.int .i64 0, .int .i64 0, .int .i64 0, .int .i64 0, .int .i64 0] 29 ?_; intro gb750 hg w9 hbox hb; replace HO745 := rbl HO745 hb; replace HO748 := rbl HO748 hb; have BK750 := Aside0.mk (hbox); have GW750 := nge HB hg; have GE750 := nge HB hg; replace HB := bst HB hb; have NB749_750 := nlt BK749 hg; have NB750_749 := ngt BK749 hg; replace BK749 := bkb BK749 hb; clear hb hbox hg; have hnb10 := NB749_750.out; have hnc10 := NB750_749.out; have hcz11_0 := b0 BK749; have hcz11_1 := b1 BK749; have hcz11_2 := b2 BK749; have hfz11_0 := blk_frozen BK749.out 0; have hfz11_1 := blk_frozen BK749.out 1; have hfz11_2 := blk_frozen BK749.out 2; have hcz12_0 := b0 BK750; have hcz12_1 := b1 BK750; have hcz12_2 := b2 BK750; have hcz12_3 := b3 BK750; have hcz12_4 := b4 BK750; have hfz12_0 := blk_frozen BK750.out 0; have hfz12_1 := blk_frozen BK750.out 1; have hfz12_2 := blk_frozen BK750.out 2; have hfz12_3 := blk_frozen BK750.out 3; have hfz12_4 := blk_frozen BK750.out 4; obtain ⟨Ao13, co13, eo13⟩ := Kd.R_slice HO745.out; subst eo13; obtain ⟨Ao14, co14, eo14⟩ := Kd.R_slice HO748.out; subst eo14) | (go_at_call 17; (with_reducible refine (impl_BoxTick.calls k t734 t735 t736 t737 t738 t739 t740 t741 t742 _ _ t743 _ _ t746 t751 t752 t753 t754 t755 t756 t757 _ ?side1 ?side2 ?side3 ?side4 A4.out).mono ?_); (case side1 => refine (Kd.R_reads' (e := 2) (base := w.heap.size) (ok := fun k_ => True) (n := t743.length) (c := co13) ?_).2.2; exact (by (with_reducible repeat (first | apply Kd.R_alloc | apply Kd.R_drewN | apply Kd.R_drew)); exact (Kd.R_mono (Kd.R_mono (Kd.R_far (p := ⟨gb750, 4, none⟩) (Kd.R_far (p := ⟨gb750, 3, none⟩) (Kd.R_far (p := ⟨gb750, 2, none⟩) (Kd.R_far (p := ⟨gb750, 1, none⟩) (Kd.R_far (p := ⟨gb750, 0, none⟩) (Kd.R_far (p := ⟨gb749, 2, none⟩) (Kd.R_far (p := ⟨gb749, 1, none⟩) (Kd.R_far (p := ⟨gb749, 0, none⟩) (Kd.R_types (Kd.R_types HO745.out BK749.out (by decide)) BK750.out (by decide)) (fun _ hk => hk.1.2) (.int .i64 t734)) (fun _ hk => hk.1.2) (.int .i64 t735)) (fun _ hk => hk.1.2) (.int .i64 t736)) (fun _ hk => hk.2) (.int .i64 t738)) (fun _ hk => hk.2) (.int .i64 t739)) (fun _ hk => hk.2) (.int .i64 t740)) (fun _ hk => hk.2) (.int .i64 t741)) (fun _ hk => hk.2) (.int .i64 t742)) (fun _ h_ => h_.1)) (fun _ h_ => h_.1)))); (case side2 => exact (Kd.R_reads' HO745.out).2.1); (case side3 => refine (Kd.R_reads' (e := 60) (base := w.heap.size) (ok := fun k_ => True) (n := t746.length) (c := co14) ?_).2.2; exact (by (with_reducible repeat (first | apply Kd.R_alloc | apply Kd.R_drewN | apply Kd.R_drew)); exact (Kd.R_mono (Kd.R_mono (Kd.R_far (p := ⟨gb750, 4, none⟩) (Kd.R_far (p := ⟨gb750, 3, none⟩) (Kd.R_far (p := ⟨gb750, 2, none⟩) (Kd.R_far (p := ⟨gb750, 1, none⟩) (Kd.R_far (p := ⟨gb750, 0, none⟩) (Kd.R_far (p := ⟨gb749, 2, none⟩) (Kd.R_far (p := ⟨gb749, 1, none⟩) (Kd.R_far (p := ⟨gb749, 0, none⟩) (Kd.R_types (Kd.R_types HO748.out BK749.out (by decide)) BK750.out (by decide)) (fun _ hk => hk.1.2) (.int .i64 t734)) (fun _ hk => hk.1.2) (.int .i64 t735)) (fun _ hk => hk.1.2) (.int .i64 t736)) (fun _ hk => hk.2) (.int .i64 t738)) (fun _ hk => hk.2) (.int .i64 t739)) (fun _ hk => hk.2) (.int .i64 t740)) (fun _ hk => hk.2) (.int .i64 t741)) (fun _ hk => hk.2) (.int .i64 t742)) (fun _ h_ => h_.1)) (fun _ h_ => h_.1)))); (case side4 => exact (Kd.R_reads' HO748.out).2.1); rintro e w15 ⟨v758, rfl, ho0, hb⟩; replace HO745 := Aside0.mk (Kd.R_below (by (with_reducible repeat (first | apply Kd.R_alloc | apply Kd.R_drewN | apply Kd.R_drew)); exact (Kd.R_mono (Kd.R_mono (Kd.R_far (p := ⟨gb750, 4, none⟩) (Kd.R_far (p := ⟨gb750, 3, none⟩) (Kd.R_far (p := ⟨gb750, 2, none⟩) (Kd.R_far (p := ⟨gb750, 1, none⟩) (Kd.R_far (p := ⟨gb750, 0, none⟩) (Kd.R_far (p := ⟨gb749, 2, none⟩) (Kd.R_far (p := ⟨gb749, 1, none⟩) (Kd.R_far (p := ⟨gb749, 0, none⟩) (Kd.R_types (Kd.R_types HO745.out BK749.out (by decide)) BK750.out (by decide)) (fun _ hk => hk.1.2) (.int .i64 t734)) (fun _ hk => hk.1.2) (.int .i64 t735)) (fun _ hk => hk.1.2) (.int .i64 t736)) (fun _ hk => hk.2) (.int .i64 t738)) (fun _ hk => hk.2) (.int .i64 t739)) (fun _ hk => hk.2) (.int .i64 t740)) (fun _ hk => hk.2) (.int .i64 t741)) (fun _ hk => hk.2) (.int .i64 t742)) (fun _ h_ => h_.1)) (fun _ h_ => h_.1))) hb); have HO759 := Aside0.mk (Kd.R_lower (Kd.R_new' ho0 (Kd.R_lt (by (with_reducible repeat (first | apply Kd.R_alloc | apply Kd.R_drewN | apply Kd.R_drew)); exact (Kd.R_mono (Kd.R_mono (Kd.R_far (p := ⟨gb750, 4, none⟩) (Kd.R_far (p := ⟨gb750, 3, none⟩) (Kd.R_far (p := ⟨gb750, 2, none⟩) (Kd.R_far (p := ⟨gb750, 1, none⟩) (Kd.R_far (p := ⟨gb750, 0, none⟩) (Kd.R_far (p := ⟨gb749, 2, none⟩) (Kd.R_far (p := ⟨gb749, 1, none⟩) (Kd.R_far (p := ⟨gb749, 0, none⟩) (Kd.R_types (Kd.R_types HO748.out BK749.out (by decide)) BK750.out (by decide)) (fun _ hk => hk.1.2) (.int .i64 t734)) (fun _ hk => hk.1.2) (.int .i64 t735)) (fun _ hk => hk.1.2) (.int .i64 t736)) (fun _ hk => hk.2) (.int .i64 t738)) (fun _ hk => hk.2) (.int .i64 t739)) (fun _ hk => hk.2) (.int .i64 t740)) (fun _ hk => hk.2) (.int .i64 t741)) (fun _ hk => hk.2) (.int .i64 t742)) (fun _ h_ => h_.1)) (fun _ h_ => h_.1))))) (below_size (qs HB))); replace HO748 := Aside0.mk (Kd.R_elder' (by (with_reducible repeat (first | apply Kd.R_alloc | apply Kd.R_drewN | apply Kd.R_drew)); exact (Kd.R_mono (Kd.R_mono (Kd.R_far (p := ⟨gb750, 4, none⟩) (Kd.R_far (p := ⟨gb750, 3, none⟩) (Kd.R_far (p := ⟨gb750, 2, none⟩) (Kd.R_far (p := ⟨gb750, 1, none⟩) (Kd.R_far (p := ⟨gb750, 0, none⟩) (Kd.R_far (p := ⟨gb749, 2, none⟩) (Kd.R_far (p := ⟨gb749, 1, none⟩) (Kd.R_far (p := ⟨gb749, 0, none⟩) (Kd.R_types (Kd.R_types HO748.out BK749.out (by decide)) BK750.out (by decide)) (fun _ hk => hk.1.2) (.int .i64 t734)) (fun _ hk => hk.1.2) (.int .i64 t735)) (fun _ hk => hk.1.2) (.int .i64 t736)) (fun _ hk => hk.2) (.int .i64 t738)) (fun _ hk => hk.2) (.int .i64 t739)) (fun _ hk => hk.2) (.int .i64 t740)) (fun _ hk => hk.2) (.int .i64 t741)) (fun _ hk => hk.2) (.int .i64 t742)) (fun _ h_ => h_.1)) (fun _ h_ => h_.1))) (Kd.R_base ho0) hb); replace BK749 := Aside0.mk (blk_below (g := gb749) (o := .cells #[.int .i64 t734, .int .i64 t735, .int .i64 t736] 34 (0, 0)) (by (with_reducible repeat (first | refine blk_drewN ?_ _ | refine blk_drew ?_ | refine blk_alloc ?_ _)); refine blk_far ?_ NB749_750.out _; (with_reducible repeat (first | refine blk_drewN ?_ _ | refine blk_drew ?_ | refine blk_alloc ?_ _)); refine blk_far ?_ NB749_750.out _; (with_reducible repeat (first | refine blk_drewN ?_ _ | refine blk_drew ?_ | refine blk_alloc ?_ _)); refine blk_far ?_ NB749_750.out _; (with_reducible repeat (first | refine blk_drewN ?_ _ | refine blk_drew ?_ | refine blk_alloc ?_ _)); refine blk_far ?_ NB749_750.out _; (with_reducible repeat (first | refine blk_drewN ?_ _ | refine blk_drew ?_ | refine blk_alloc ?_ _)); refine blk_far ?_ NB749_750.out _; (with_reducible repeat (first | refine blk_drewN ?_ _ | refine blk_drew ?_ | refine blk_alloc ?_ _)); refine blk_put (cs := #[.int .i64 t734, .int .i64 t735, .int .i64 0]) ?_ 2 _ rfl; (with_reducible repeat (first | refine blk_drewN ?_ _ | refine blk_drew ?_ | refine blk_alloc ?_ _)); refine blk_put (cs := #[.int .i64 t734, .int .i64 0, .int .i64 0]) ?_ 1 _ rfl; (with_reducible repeat (first | refine blk_drewN ?_ _ | refine blk_drew ?_ | refine blk_alloc ?_ _)); refine blk_put (cs := #[.int .i64 0, .int .i64 0, .int .i64 0]) ?_ 0 _ rfl; (with_reducible repeat (first | refine blk_drewN ?_ _ | refine blk_drew ?_ | refine blk_alloc ?_ _)); exact BK749.out) hb); replace BK750 := Aside0.mk (blk_below (g := gb750) (o := .cells #[.int .i64 t738, .int .i64 t739, .int .i64 t740, .int .i64 t741, .int .i64 t742] 29 (0, 0)) (by (with_reducible repeat (first | refine blk_drewN ?_ _ | refine blk_drew ?_ | refine blk_alloc ?_ _)); refine blk_put (cs := #[.int .i64 t738, .int .i64 t739, .int .i64 t740, .int .i64 t741, .int .i64 0]) ?_ 4 _ rfl; (with_reducible repeat (first | refine blk_drewN ?_ _ | refine blk_drew ?_ | refine blk_alloc ?_ _)); refine blk_put (cs := #[.int .i64 t738, .int .i64 t739, .int .i64 t740, .int .i64 0, .int .i64 0]) ?_ 3 _ rfl; (with_reducible repeat (first | refine blk_drewN ?_ _ | refine blk_drew ?_ | refine blk_alloc ?_ _)); refine blk_put (cs := #[.int .i64 t738, .int .i64 t739, .int .i64 0, .int .i64 0, .int .i64 0]) ?_ 2 _ rfl; (with_reducible repeat (first | refine blk_drewN ?_ _ | refine blk_drew ?_ | refine blk_alloc ?_ _)); refine blk_put (cs := #[.int .i64 t738, .int .i64 0, .int .i64 0, .int .i64 0, .int .i64 0]) ?_ 1 _ rfl; (with_reducible repeat (first | refine blk_drewN ?_ _ | refine blk_drew ?_ | refine blk_alloc ?_ _)); refine blk_put (cs := #[.int .i64 0, .int .i64 0, .int .i64 0, .int .i64 0, .int .i64 0]) ?_ 0 _ rfl; exact qB BK750) hb); replace HB := bst HB hb; clear hb; (try clear ho0)) | ((with_reducible refine gate_dst (N := 8) rfl ?_); (try (refine gate_guard (by rfl) ?_; dsimp only)); refine boxA #[.bool false, .int .i64 0, .int .i64 0, .int .i64 0, .int .i64 0, .int .i64 0, .slice none 0 0] 32 ?_; intro gb760 hg w16 hbox hb; replace HO745 := rbl HO745 hb; replace HO748 := rbl HO748 hb; replace HO759 := rbl HO759 hb; have BK760 := Aside0.mk (hbox); have GW760 := nge HB hg; have GE760 := nge HB hg; replace HB := bst HB hb; have NB749_760 := nlt BK749 hg; have NB760_749 := ngt BK749 hg; replace BK749 := bkb BK749 hb; have NB750_760 := nlt BK750 hg; have NB760_750 := ngt BK750 hg; replace BK750 := bkb BK750 hb; clear hb hbox hg; have hnb17 := NB760_749.out; have hnc17 := NB749_760.out; have hnb18 := NB760_750.out; have hnc18 := NB750_760.out; have hcz19_0 := b0 BK760; have hcz19_1 := b1 BK760; have hcz19_2 := b2 BK760; have hcz19_3 := b3 BK760; have hcz19_4 := b4 BK760; have hcz19_5 := b5 BK760; have hcz19_6 := b6 BK760; have hfz19_0 := blk_frozen BK760.out 0; have hfz19_1 := blk_frozen BK760.out 1; have hfz19_2 := blk_frozen BK760.out 2; have hfz19_3 := blk_frozen BK760.out 3; have hfz19_4 := blk_frozen BK760.out 4; have hfz19_5 := blk_frozen BK760.out 5; have hfz19_6 := blk_frozen BK760.out 6; obtain ⟨Ao20, co20, eo20⟩ := Kd.R_slice HO759.out; subst eo20; have hcz21_0 := b0 BK749; have hcz21_1 := b1 BK749; have hcz21_2 := b2 BK749; have hfz21_0 := blk_frozen BK749.out 0; have hfz21_1 := blk_frozen BK749.out 1; have hfz21_2 := blk_frozen BK749.out 2; have hcz22_0 := b0 BK750; have hcz22_1 := b1 BK750; have hcz22_2 := b2 BK750; have hcz22_3 := b3 BK750; have hcz22_4 := b4 BK750; have hfz22_0 := blk_frozen BK750.out 0; have hfz22_1 := blk_frozen BK750.out 1; have hfz22_2 := blk_frozen BK750.out 2; have hfz22_3 := blk_frozen BK750.out 3; have hfz22_4 := blk_frozen BK750.out 4) | (go_at_call 12; (with_reducible refine (spec_BoxTick.calls k t734 t735 t736 t737 t738 t739 t740 t741 t742 _ _ t743 _ _ t746 t761 t762 t763 t764 t765 t766 t767 _ ?side1 ?side2 ?side3 ?side4 A5.out).mono ?_); (case side1 => refine (Kd.R_reads' (e := 2) (base := w.heap.size) (ok := fun k_ => True) (n := t743.length) (c := co13) ?_).2.2; exact (by (with_reducible repeat (first | apply Kd.R_alloc | apply Kd.R_drewN | apply Kd.R_drew)); exact (Kd.R_mono (Kd.R_far (p := ⟨gb760, 6, none⟩) (Kd.R_far (p := ⟨gb760, 5, none⟩) (Kd.R_far (p := ⟨gb760, 4, none⟩) (Kd.R_far (p := ⟨gb760, 3, none⟩) (Kd.R_far (p := ⟨gb760, 2, none⟩) (Kd.R_far (p := ⟨gb760, 1, none⟩) (Kd.R_far (p := ⟨gb760, 0, none⟩) (Kd.R_types HO745.out BK760.out (by decide)) (fun _ hk => hk.2) (.bool t751)) (fun _ hk => hk.2) (.int .i64 t752)) (fun _ hk => hk.2) (.int .i64 t753)) (fun _ hk => hk.2) (.int .i64 t754)) (fun _ hk => hk.2) (.int .i64 t755)) (fun _ hk => hk.2) (.int .i64 t756)) (fun _ hk => hk.2) (.slice Ao20 t757.length co20)) (fun _ h_ => h_.1)))); (case side2 => exact (Kd.R_reads' HO745.out).2.1); (case side3 => refine (Kd.R_reads' (e := 60) (base := w.heap.size) (ok := fun k_ => (True ∧ some k_ ≠ (.slice Ao20 t757.length co20 : Value).ownBlock)) (n := t746.length) (c := co14) ?_).2.2; exact (by (with_reducible repeat (first | apply Kd.R_alloc | apply Kd.R_drewN | apply Kd.R_drew)); exact (Kd.R_mono (Kd.R_far (p := ⟨gb760, 6, none⟩) (Kd.R_far (p := ⟨gb760, 5, none⟩) (Kd.R_far (p := ⟨gb760, 4, none⟩) (Kd.R_far (p := ⟨gb760, 3, none⟩) (Kd.R_far (p := ⟨gb760, 2, none⟩) (Kd.R_far (p := ⟨gb760, 1, none⟩) (Kd.R_far (p := ⟨gb760, 0, none⟩) (Kd.R_types HO748.out BK760.out (by decide)) (fun _ hk => hk.2) (.bool t751)) (fun _ hk => hk.2) (.int .i64 t752)) (fun _ hk => hk.2) (.int .i64 t753)) (fun _ hk => hk.2) (.int .i64 t754)) (fun _ hk => hk.2) (.int .i64 t755)) (fun _ hk => hk.2) (.int .i64 t756)) (fun _ hk => hk.2) (.slice Ao20 t757.length co20)) (fun _ h_ => h_.1)))); (case side4 => exact (Kd.R_reads' HO748.out).2.1); rintro e w23 ⟨v768, rfl, ho0, hb⟩; replace HO745 := Aside0.mk (Kd.R_below (by (with_reducible repeat (first | apply Kd.R_alloc | apply Kd.R_drewN | apply Kd.R_drew)); exact (Kd.R_mono (Kd.R_far (p := ⟨gb760, 6, none⟩) (Kd.R_far (p := ⟨gb760, 5, none⟩) (Kd.R_far (p := ⟨gb760, 4, none⟩) (Kd.R_far (p := ⟨gb760, 3, none⟩) (Kd.R_far (p := ⟨gb760, 2, none⟩) (Kd.R_far (p := ⟨gb760, 1, none⟩) (Kd.R_far (p := ⟨gb760, 0, none⟩) (Kd.R_types HO745.out BK760.out (by decide)) (fun _ hk => hk.2) (.bool t751)) (fun _ hk => hk.2) (.int .i64 t752)) (fun _ hk => hk.2) (.int .i64 t753)) (fun _ hk => hk.2) (.int .i64 t754)) (fun _ hk => hk.2) (.int .i64 t755)) (fun _ hk => hk.2) (.int .i64 t756)) (fun _ hk => hk.2) (.slice Ao20 t757.length co20)) (fun _ h_ => h_.1))) hb); have HO769 := Aside0.mk (Kd.R_lower (Kd.R_new' (Kd.R_new' ho0 (Kd.R_lt (by (with_reducible repeat (first | apply Kd.R_alloc | apply Kd.R_drewN | apply Kd.R_drew)); exact (Kd.R_mono (Kd.R_far (p := ⟨gb760, 6, none⟩) (Kd.R_far (p := ⟨gb760, 5, none⟩) (Kd.R_far (p := ⟨gb760, 4, none⟩) (Kd.R_far (p := ⟨gb760, 3, none⟩) (Kd.R_far (p := ⟨gb760, 2, none⟩) (Kd.R_far (p := ⟨gb760, 1, none⟩) (Kd.R_far (p := ⟨gb760, 0, none⟩) (Kd.R_types HO748.out BK760.out (by decide)) (fun _ hk => hk.2) (.bool t751)) (fun _ hk => hk.2) (.int .i64 t752)) (fun _ hk => hk.2) (.int .i64 t753)) (fun _ hk => hk.2) (.int .i64 t754)) (fun _ hk => hk.2) (.int .i64 t755)) (fun _ hk => hk.2) (.int .i64 t756)) (fun _ hk => hk.2) (.slice Ao20 t757.length co20)) (fun _ h_ => h_.1))))) (Kd.R_lt (by (with_reducible repeat (first | apply Kd.R_alloc | apply Kd.R_drewN | apply Kd.R_drew)); exact (Kd.R_mono (Kd.R_far (p := ⟨gb760, 6, none⟩) (Kd.R_far (p := ⟨gb760, 5, none⟩) (Kd.R_far (p := ⟨gb760, 4, none⟩) (Kd.R_far (p := ⟨gb760, 3, none⟩) (Kd.R_far (p := ⟨gb760, 2, none⟩) (Kd.R_far (p := ⟨gb760, 1, none⟩) (Kd.R_far (p := ⟨gb760, 0, none⟩) (Kd.R_types HO759.out BK760.out (by decide)) (fun _ hk => hk.2) (.bool t751)) (fun _ hk => hk.2) (.int .i64 t752)) (fun _ hk => hk.2) (.int .i64 t753)) (fun _ hk => hk.2) (.int .i64 t754)) (fun _ hk => hk.2) (.int .i64 t755)) (fun _ hk => hk.2) (.int .i64 t756)) (fun _ hk => hk.2) (.slice Ao20 t757.length co20)) (fun _ h_ => h_.1))))) (below_size (qs HB))); replace HO748 := Aside0.mk (Kd.R_elder' (by (with_reducible repeat (first | apply Kd.R_alloc | apply Kd.R_drewN | apply Kd.R_drew)); exact (Kd.R_mono (Kd.R_far (p := ⟨gb760, 6, none⟩) (Kd.R_far (p := ⟨gb760, 5, none⟩) (Kd.R_far (p := ⟨gb760, 4, none⟩) (Kd.R_far (p := ⟨gb760, 3, none⟩) (Kd.R_far (p := ⟨gb760, 2, none⟩) (Kd.R_far (p := ⟨gb760, 1, none⟩) (Kd.R_far (p := ⟨gb760, 0, none⟩) (Kd.R_types HO748.out BK760.out (by decide)) (fun _ hk => hk.2) (.bool t751)) (fun _ hk => hk.2) (.int .i64 t752)) (fun _ hk => hk.2) (.int .i64 t753)) (fun _ hk => hk.2) (.int .i64 t754)) (fun _ hk => hk.2) (.int .i64 t755)) (fun _ hk => hk.2) (.int .i64 t756)) (fun _ hk => hk.2) (.slice Ao20 t757.length co20)) (fun _ h_ => h_.1))) (Kd.R_base ho0) hb); replace HO759 := Aside0.mk (Kd.R_elder' (by (with_reducible repeat (first | apply Kd.R_alloc | apply Kd.R_drewN | apply Kd.R_drew)); exact (Kd.R_mono (Kd.R_far (p := ⟨gb760, 6, none⟩) (Kd.R_far (p := ⟨gb760, 5, none⟩) (Kd.R_far (p := ⟨gb760, 4, none⟩) (Kd.R_far (p := ⟨gb760, 3, none⟩) (Kd.R_far (p := ⟨gb760, 2, none⟩) (Kd.R_far (p := ⟨gb760, 1, none⟩) (Kd.R_far (p := ⟨gb760, 0, none⟩) (Kd.R_types HO759.out BK760.out (by decide)) (fun _ hk => hk.2) (.bool t751)) (fun _ hk => hk.2) (.int .i64 t752)) (fun _ hk => hk.2) (.int .i64 t753)) (fun _ hk => hk.2) (.int .i64 t754)) (fun _ hk => hk.2) (.int .i64 t755)) (fun _ hk => hk.2) (.int .i64 t756)) (fun _ hk => hk.2) (.slice Ao20 t757.length co20)) (fun _ h_ => h_.1))) (Kd.R_base ho0) hb); replace BK749 := Aside0.mk (blk_below (g := gb749) (o := .cells #[.int .i64 t734, .int .i64 t735, .int .i64 t736] 34 (0, 0)) (qB BK749) hb); replace BK750 := Aside0.mk (blk_below (g := gb750) (o := .cells #[.int .i64 t738, .int .i64 t739, .int .i64 t740, .int .i64 t741, .int .i64 t742] 29 (0, 0)) (qB BK750) hb); replace BK760 := Aside0.mk (blk_below (g := gb760) (o := .cells #[.bool t751, .int .i64 t752, .int .i64 t753, .int .i64 t754, .int .i64 t755, .int .i64 t756, .slice Ao20 t757.length co20] 32 (0, 0)) (by (with_reducible repeat (first | refine blk_drewN ?_ _ | refine blk_drew ?_ | refine blk_alloc ?_ _)); refine blk_put (cs := #[.bool t751, .int .i64 t752, .int .i64 t753, .int .i64 t754, .int .i64 t755, .int .i64 t756, .slice none 0 0]) ?_ 6 _ rfl; (with_reducible repeat (first | refine blk_drewN ?_ _ | refine blk_drew ?_ | refine blk_alloc ?_ _)); refine blk_put (cs := #[.bool t751, .int .i64 t752, .int .i64 t753, .int .i64 t754, .int .i64 t755, .int .i64 0, .slice none 0 0]) ?_ 5 _ rfl; (with_reducible repeat (first | refine blk_drewN ?_ _ | refine blk_drew ?_ | refine blk_alloc ?_ _)); refine blk_put (cs := #[.bool t751, .int .i64 t752, .int .i64 t753, .int .i64 t754, .int .i64 0, .int .i64 0, .slice none 0 0]) ?_ 4 _ rfl; (with_reducible repeat (first | refine blk_drewN ?_ _ | refine blk_drew ?_ | refine blk_alloc ?_ _)); refine blk_put (cs := #[.bool t751, .int .i64 t752, .int .i64 t753, .int .i64 0, .int .i64 0, .int .i64 0, .slice none 0 0]) ?_ 3 _ rfl; (with_reducible repeat (first | refine blk_drewN ?_ _ | refine blk_drew ?_ | refine blk_alloc ?_ _)); refine blk_put (cs := #[.bool t751, .int .i64 t752, .int .i64 0, .int .i64 0, .int .i64 0, .int .i64 0, .slice none 0 0]) ?_ 2 _ rfl; (with_reducible repeat (first | refine blk_drewN ?_ _ | refine blk_drew ?_ | refine blk_alloc ?_ _)); refine blk_put (cs := #[.bool t751, .int .i64 0, .int .i64 0, .int .i64 0, .int .i64 0, .int .i64 0, .slice none 0 0]) ?_ 1 _ rfl; (with_reducible repeat (first | refine blk_drewN ?_ _ | refine blk_drew ?_ | refine blk_alloc ?_ _)); refine blk_put (cs := #[.bool false, .int .i64 0, .int .i64 0, .int .i64 0, .int .i64 0, .int .i64 0, .slice none 0 0]) ?_ 0 _ rfl; (with_reducible repeat (first | refine blk_drewN ?_ _ | refine blk_drew ?_ | refine blk_alloc ?_ _)); exact BK760.out) hb); replace HB := bst HB hb; clear hb; (try clear ho0)) | ((with_reducible refine gate_dst (N := 9) rfl ?_); (try (refine gate_guard (by rfl) ?_; dsimp only)); refine boxA #[.bool false, .int .i64 0, .int .i64 0, .int .i64 0, .int .i64 0, .int .i64 0, .slice none 0 0] 32 ?_; intro gb770 hg w24 hbox hb; replace HO745 := rbl HO745 hb; replace HO748 := rbl HO748 hb; replace HO759 := rbl HO759 hb; replace HO769 := rbl HO769 hb; have BK770 := Aside0.mk (hbox); have GW770 := nge HB hg; have GE770 := nge HB hg; replace HB := bst HB hb; have NB749_770 := nlt BK749 hg; have NB770_749 := ngt BK749 hg; replace BK749 := bkb BK749 hb; have NB750_770 := nlt BK750 hg; have NB770_750 := ngt BK750 hg; replace BK750 := bkb BK750 hb; have NB760_770 := nlt BK760 hg; have NB770_760 := ngt BK760 hg; replace BK760 := bkb BK760 hb; clear hb hbox hg; have hnb25 := NB770_749.out; have hnc25 := NB749_770.out; have hnb26 := NB770_750.out; have hnc26 := NB750_770.out; have hnb27 := NB770_760.out; have hnc27 := NB760_770.out; have hcz28_0 := b0 BK770; have hcz28_1 := b1 BK770; have hcz28_2 := b2 BK770; have hcz28_3 := b3 BK770; have hcz28_4 := b4 BK770; have hcz28_5 := b5 BK770; have hcz28_6 := b6 BK770; have hfz28_0 := blk_frozen BK770.out 0; have hfz28_1 := blk_frozen BK770.out 1; have hfz28_2 := blk_frozen BK770.out 2; have hfz28_3 := blk_frozen BK770.out 3; have hfz28_4 := blk_frozen BK770.out 4; have hfz28_5 := blk_frozen BK770.out 5; have hfz28_6 := blk_frozen BK770.out 6; obtain ⟨Ao29, co29, eo29⟩ := Kd.R_slice HO769.out; subst eo29))
 (try simp only [Act.put, List.setIfInBounds_toArray, List.set_cons_zero, List.set_cons_succ])
 go_cut [61] (fun v61 wc => ∃ (kq : Nat) (x61_5 : Bool), v61 = .bool x61_5 ∧ Aside0 (laws_FnEnds.j0 kq l0 x61_5 t751 t752 t753 t754 t755 t756 t757 t761 t762 t763 t764 t765 t766 t767 = some true) ∧ Aside0 (kq ≤ k) ∧ Aside0 (Kd.R k60 60 wc w.heap.size (fun k_ => some k_ ≠ ((.slice Ao29 t767.length co29) : Value).ownBlock) (.slice Ao20 t757.length co20) t757) ∧ Aside0 (Kd.R k60 60 wc w.heap.size (fun k_ => some k_ ≠ ((.slice Ao20 t757.length co20) : Value).ownBlock) (.slice Ao29 t767.length co29) t767) ∧ Aside0 (wc.heap[gb749]? = some (.cells #[.int .i64 t734, .int .i64 t735, .int .i64 t736] 34 (0, 0))) ∧ Aside0 (wc.heap[gb750]? = some (.cells #[.int .i64 t738, .int .i64 t739, .int .i64 t740, .int .i64 t741, .int .i64 t742] 29 (0, 0))) ∧ Aside0 (wc.heap[gb760]? = some (.cells #[.bool t751, .int .i64 t752, .int .i64 t753, .int .i64 t754, .int .i64 t755, .int .i64 t756, (.slice Ao20 t757.length co20)] 32 (0, 0))) ∧ Aside0 (wc.heap[gb770]? = some (.cells #[.bool t761, .int .i64 t762, .int .i64 t763, .int .i64 t764, .int .i64 t765, .int .i64 t766, (.slice Ao29 t767.length co29)] 32 (0, 0))) ∧ Aside0 (Below w.heap.size w wc))
 case first =>
  have H := HC6.out
  clear HC6
  by_cases c30 : (t751 != t761) = true
  ·rw [if_pos c30] at H
   have c30b0 : (t751 != t761) = true := c30
   (try (have c30b1 : decide (t751 = t761) = false := by simpa using c30))
   (try (have c30b2 : (t751 == t761) = false := by simpa using c30))
   (try (have c30b3 : ¬ (t751 = t761) := by simpa using c30))
   clear c30
   (first | rw [c30b0] | (simp only [i64_w, i32_w]; rw [c30b0]) | skip)
   have H' := Aside0.mk H
   clear H
   have hnb31 := NB760_749.out
   have hnc31 := NB749_760.out
   have hnb32 := NB760_750.out
   have hnc32 := NB750_760.out
   have hnb33 := NB760_770.out
   have hnc33 := NB770_760.out
   have hcz34_0 := b0 BK760
   have hcz34_1 := b1 BK760
   have hcz34_2 := b2 BK760
   have hcz34_3 := b3 BK760
   have hcz34_4 := b4 BK760
   have hcz34_5 := b5 BK760
   have hcz34_6 := b6 BK760
   have hfz34_0 := blk_frozen BK760.out 0
   have hfz34_1 := blk_frozen BK760.out 1
   have hfz34_2 := blk_frozen BK760.out 2
   have hfz34_3 := blk_frozen BK760.out 3
   have hfz34_4 := blk_frozen BK760.out 4
   have hfz34_5 := blk_frozen BK760.out 5
   have hfz34_6 := blk_frozen BK760.out 6
   have hnb35 := NB770_749.out
   have hnc35 := NB749_770.out
   have hnb36 := NB770_750.out
   have hnc36 := NB750_770.out
   have hcz37_0 := b0 BK770
   have hcz37_1 := b1 BK770
   have hcz37_2 := b2 BK770
   have hcz37_3 := b3 BK770
   have hcz37_4 := b4 BK770
   have hcz37_5 := b5 BK770
   have hcz37_6 := b6 BK770
   have hfz37_0 := blk_frozen BK770.out 0
   have hfz37_1 := blk_frozen BK770.out 1
   have hfz37_2 := blk_frozen BK770.out 2
   have hfz37_3 := blk_frozen BK770.out 3
   have hfz37_4 := blk_frozen BK770.out 4
   have hfz37_5 := blk_frozen BK770.out 5
   have hfz37_6 := blk_frozen BK770.out 6
   go_wp2
   repeat (go_quiet (fail); try go_wp2)
   go_meet
   case rel => exact ⟨_, (true), (by first | rfl | (simp; done) | (simp [*]; done)), H', ⟨by first | omega | exact Nat.le_refl _⟩, ⟨by (with_reducible repeat (first | apply Kd.R_alloc | apply Kd.R_drewN | apply Kd.R_drew)); exact Kd.R_mono (Kd.R_far (p := ⟨gb770, 6, none⟩) (Kd.R_far (p := ⟨gb770, 5, none⟩) (Kd.R_far (p := ⟨gb770, 4, none⟩) (Kd.R_far (p := ⟨gb770, 3, none⟩) (Kd.R_far (p := ⟨gb770, 2, none⟩) (Kd.R_far (p := ⟨gb770, 1, none⟩) (Kd.R_far (p := ⟨gb770, 0, none⟩) (Kd.R_types HO759.out BK770.out (by decide)) (fun _ hk => hk.2) (.bool t761)) (fun _ hk => hk.2) (.int .i64 t762)) (fun _ hk => hk.2) (.int .i64 t763)) (fun _ hk => hk.2) (.int .i64 t764)) (fun _ hk => hk.2) (.int .i64 t765)) (fun _ hk => hk.2) (.int .i64 t766)) (fun _ hk => hk.2) (.slice Ao29 t767.length co29)) (fun _ hk => hk.1.2)⟩, ⟨by (with_reducible repeat (first | apply Kd.R_alloc | apply Kd.R_drewN | apply Kd.R_drew)); exact Kd.R_mono (Kd.R_far (p := ⟨gb770, 6, none⟩) (Kd.R_far (p := ⟨gb770, 5, none⟩) (Kd.R_far (p := ⟨gb770, 4, none⟩) (Kd.R_far (p := ⟨gb770, 3, none⟩) (Kd.R_far (p := ⟨gb770, 2, none⟩) (Kd.R_far (p := ⟨gb770, 1, none⟩) (Kd.R_far (p := ⟨gb770, 0, none⟩) (Kd.R_types HO769.out BK770.out (by decide)) (fun _ hk => hk.2) (.bool t761)) (fun _ hk => hk.2) (.int .i64 t762)) (fun _ hk => hk.2) (.int .i64 t763)) (fun _ hk => hk.2) (.int .i64 t764)) (fun _ hk => hk.2) (.int .i64 t765)) (fun _ hk => hk.2) (.int .i64 t766)) (fun _ hk => hk.2) (.slice Ao29 t767.length co29)) (fun _ hk => hk.1.2)⟩, ⟨qB BK749⟩, ⟨qB BK750⟩, ⟨qB BK760⟩, ⟨by (with_reducible repeat (first | refine blk_drewN ?_ _ | refine blk_drew ?_ | refine blk_alloc ?_ _)); refine blk_put (cs := #[.bool t761, .int .i64 t762, .int .i64 t763, .int .i64 t764, .int .i64 t765, .int .i64 t766, .slice none 0 0]) ?_ 6 _ rfl; (with_reducible repeat (first | refine blk_drewN ?_ _ | refine blk_drew ?_ | refine blk_alloc ?_ _)); refine blk_put (cs := #[.bool t761, .int .i64 t762, .int .i64 t763, .int .i64 t764, .int .i64 t765, .int .i64 0, .slice none 0 0]) ?_ 5 _ rfl; (with_reducible repeat (first | refine blk_drewN ?_ _ | refine blk_drew ?_ | refine blk_alloc ?_ _)); refine blk_put (cs := #[.bool t761, .int .i64 t762, .int .i64 t763, .int .i64 t764, .int .i64 0, .int .i64 0, .slice none 0 0]) ?_ 4 _ rfl; (with_reducible repeat (first | refine blk_drewN ?_ _ | refine blk_drew ?_ | refine blk_alloc ?_ _)); refine blk_put (cs := #[.bool t761, .int .i64 t762, .int .i64 t763, .int .i64 0, .int .i64 0, .int .i64 0, .slice none 0 0]) ?_ 3 _ rfl; (with_reducible repeat (first | refine blk_drewN ?_ _ | refine blk_drew ?_ | refine blk_alloc ?_ _)); refine blk_put (cs := #[.bool t761, .int .i64 t762, .int .i64 0, .int .i64 0, .int .i64 0, .int .i64 0, .slice none 0 0]) ?_ 2 _ rfl; (with_reducible repeat (first | refine blk_drewN ?_ _ | refine blk_drew ?_ | refine blk_alloc ?_ _)); refine blk_put (cs := #[.bool t761, .int .i64 0, .int .i64 0, .int .i64 0, .int .i64 0, .int .i64 0, .slice none 0 0]) ?_ 1 _ rfl; (with_reducible repeat (first | refine blk_drewN ?_ _ | refine blk_drew ?_ | refine blk_alloc ?_ _)); refine blk_put (cs := #[.bool false, .int .i64 0, .int .i64 0, .int .i64 0, .int .i64 0, .int .i64 0, .slice none 0 0]) ?_ 0 _ rfl; (with_reducible repeat (first | refine blk_drewN ?_ _ | refine blk_drew ?_ | refine blk_alloc ?_ _)); exact BK770.out⟩, ⟨(qs HB)⟩⟩
  rw [if_neg c30] at H
  have c30b0 : (t751 != t761) = false := by simpa using c30
  (try (have c30b1 : decide (t751 = t761) = true := by simpa using c30))
  (try (have c30b2 : (t751 == t761) = true := by simpa using c30))
  clear c30
  (first | rw [c30b0] | (simp only [i64_w, i32_w]; rw [c30b0]) | skip)
  by_cases c38 : (!(t752 == t762) || (!(t753 == t763) || (!(t754 == t764) || (!(t755 == t765) || (!(t756 == t766)))))) = true
  ·rw [if_pos c38] at H
   have c38b0 : (!(t752 == t762) || (!(t753 == t763) || (!(t754 == t764) || (!(t755 == t765) || (!(t756 == t766)))))) = true := c38
   clear c38
   have H' := Aside0.mk H
   clear H
   have hnb39 := NB760_749.out
   have hnc39 := NB749_760.out
   have hnb40 := NB760_750.out
   have hnc40 := NB750_760.out
   have hnb41 := NB760_770.out
   have hnc41 := NB770_760.out
   have hcz42_0 := b0 BK760
   have hcz42_1 := b1 BK760
   have hcz42_2 := b2 BK760
   have hcz42_3 := b3 BK760
   have hcz42_4 := b4 BK760
   have hcz42_5 := b5 BK760
   have hcz42_6 := b6 BK760
   have hfz42_0 := blk_frozen BK760.out 0
   have hfz42_1 := blk_frozen BK760.out 1
   have hfz42_2 := blk_frozen BK760.out 2
   have hfz42_3 := blk_frozen BK760.out 3
   have hfz42_4 := blk_frozen BK760.out 4
   have hfz42_5 := blk_frozen BK760.out 5
   have hfz42_6 := blk_frozen BK760.out 6
   have hnb43 := NB770_749.out
   have hnc43 := NB749_770.out
   have hnb44 := NB770_750.out
   have hnc44 := NB750_770.out
   have hcz45_0 := b0 BK770
   have hcz45_1 := b1 BK770
   have hcz45_2 := b2 BK770
   have hcz45_3 := b3 BK770
   have hcz45_4 := b4 BK770
   have hcz45_5 := b5 BK770
   have hcz45_6 := b6 BK770
   have hfz45_0 := blk_frozen BK770.out 0
   have hfz45_1 := blk_frozen BK770.out 1
   have hfz45_2 := blk_frozen BK770.out 2
   have hfz45_3 := blk_frozen BK770.out 3
   have hfz45_4 := blk_frozen BK770.out 4
   have hfz45_5 := blk_frozen BK770.out 5
   have hfz45_6 := blk_frozen BK770.out 6
   go_wp2
   repeat (go_quiet (fail); try go_wp2)
   go_meet
   case rel => exact ⟨_, (true), (by first | rfl | (simp; done) | (simp [*]; done)), H', ⟨by first | omega | exact Nat.le_refl _⟩, ⟨by (with_reducible repeat (first | apply Kd.R_alloc | apply Kd.R_drewN | apply Kd.R_drew)); exact Kd.R_mono (Kd.R_far (p := ⟨gb770, 6, none⟩) (Kd.R_far (p := ⟨gb770, 5, none⟩) (Kd.R_far (p := ⟨gb770, 4, none⟩) (Kd.R_far (p := ⟨gb770, 3, none⟩) (Kd.R_far (p := ⟨gb770, 2, none⟩) (Kd.R_far (p := ⟨gb770, 1, none⟩) (Kd.R_far (p := ⟨gb770, 0, none⟩) (Kd.R_types HO759.out BK770.out (by decide)) (fun _ hk => hk.2) (.bool t761)) (fun _ hk => hk.2) (.int .i64 t762)) (fun _ hk => hk.2) (.int .i64 t763)) (fun _ hk => hk.2) (.int .i64 t764)) (fun _ hk => hk.2) (.int .i64 t765)) (fun _ hk => hk.2) (.int .i64 t766)) (fun _ hk => hk.2) (.slice Ao29 t767.length co29)) (fun _ hk => hk.1.2)⟩, ⟨by (with_reducible repeat (first | apply Kd.R_alloc | apply Kd.R_drewN | apply Kd.R_drew)); exact Kd.R_mono (Kd.R_far (p := ⟨gb770, 6, none⟩) (Kd.R_far (p := ⟨gb770, 5, none⟩) (Kd.R_far (p := ⟨gb770, 4, none⟩) (Kd.R_far (p := ⟨gb770, 3, none⟩) (Kd.R_far (p := ⟨gb770, 2, none⟩) (Kd.R_far (p := ⟨gb770, 1, none⟩) (Kd.R_far (p := ⟨gb770, 0, none⟩) (Kd.R_types HO769.out BK770.out (by decide)) (fun _ hk => hk.2) (.bool t761)) (fun _ hk => hk.2) (.int .i64 t762)) (fun _ hk => hk.2) (.int .i64 t763)) (fun _ hk => hk.2) (.int .i64 t764)) (fun _ hk => hk.2) (.int .i64 t765)) (fun _ hk => hk.2) (.int .i64 t766)) (fun _ hk => hk.2) (.slice Ao29 t767.length co29)) (fun _ hk => hk.1.2)⟩, ⟨qB BK749⟩, ⟨qB BK750⟩, ⟨qB BK760⟩, ⟨by (with_reducible repeat (first | refine blk_drewN ?_ _ | refine blk_drew ?_ | refine blk_alloc ?_ _)); refine blk_put (cs := #[.bool t761, .int .i64 t762, .int .i64 t763, .int .i64 t764, .int .i64 t765, .int .i64 t766, .slice none 0 0]) ?_ 6 _ rfl; (with_reducible repeat (first | refine blk_drewN ?_ _ | refine blk_drew ?_ | refine blk_alloc ?_ _)); refine blk_put (cs := #[.bool t761, .int .i64 t762, .int .i64 t763, .int .i64 t764, .int .i64 t765, .int .i64 0, .slice none 0 0]) ?_ 5 _ rfl; (with_reducible repeat (first | refine blk_drewN ?_ _ | refine blk_drew ?_ | refine blk_alloc ?_ _)); refine blk_put (cs := #[.bool t761, .int .i64 t762, .int .i64 t763, .int .i64 t764, .int .i64 0, .int .i64 0, .slice none 0 0]) ?_ 4 _ rfl; (with_reducible repeat (first | refine blk_drewN ?_ _ | refine blk_drew ?_ | refine blk_alloc ?_ _)); refine blk_put (cs := #[.bool t761, .int .i64 t762, .int .i64 t763, .int .i64 0, .int .i64 0, .int .i64 0, .slice none 0 0]) ?_ 3 _ rfl; (with_reducible repeat (first | refine blk_drewN ?_ _ | refine blk_drew ?_ | refine blk_alloc ?_ _)); refine blk_put (cs := #[.bool t761, .int .i64 t762, .int .i64 0, .int .i64 0, .int .i64 0, .int .i64 0, .slice none 0 0]) ?_ 2 _ rfl; (with_reducible repeat (first | refine blk_drewN ?_ _ | refine blk_drew ?_ | refine blk_alloc ?_ _)); refine blk_put (cs := #[.bool t761, .int .i64 0, .int .i64 0, .int .i64 0, .int .i64 0, .int .i64 0, .slice none 0 0]) ?_ 1 _ rfl; (with_reducible repeat (first | refine blk_drewN ?_ _ | refine blk_drew ?_ | refine blk_alloc ?_ _)); refine blk_put (cs := #[.bool false, .int .i64 0, .int .i64 0, .int .i64 0, .int .i64 0, .int .i64 0, .slice none 0 0]) ?_ 0 _ rfl; (with_reducible repeat (first | refine blk_drewN ?_ _ | refine blk_drew ?_ | refine blk_alloc ?_ _)); exact BK770.out⟩, ⟨(qs HB)⟩⟩
  rw [if_neg c38] at H
  have c38b0 : (!(t752 == t762) || (!(t753 == t763) || (!(t754 == t764) || (!(t755 == t765) || (!(t756 == t766)))))) = false := by simpa using c38
  clear c38
  have H' := Aside0.mk H
  clear H
  have hnb46 := NB760_749.out
  have hnc46 := NB749_760.out
  have hnb47 := NB760_750.out
  have hnc47 := NB750_760.out
  have hnb48 := NB760_770.out
  have hnc48 := NB770_760.out
  have hcz49_0 := b0 BK760
  have hcz49_1 := b1 BK760
  have hcz49_2 := b2 BK760
  have hcz49_3 := b3 BK760
  have hcz49_4 := b4 BK760
  have hcz49_5 := b5 BK760
  have hcz49_6 := b6 BK760
  have hfz49_0 := blk_frozen BK760.out 0
  have hfz49_1 := blk_frozen BK760.out 1
  have hfz49_2 := blk_frozen BK760.out 2
  have hfz49_3 := blk_frozen BK760.out 3
  have hfz49_4 := blk_frozen BK760.out 4
  have hfz49_5 := blk_frozen BK760.out 5
  have hfz49_6 := blk_frozen BK760.out 6
  have hnb50 := NB770_749.out
  have hnc50 := NB749_770.out
  have hnb51 := NB770_750.out
  have hnc51 := NB750_770.out
  have hcz52_0 := b0 BK770
  have hcz52_1 := b1 BK770
  have hcz52_2 := b2 BK770
  have hcz52_3 := b3 BK770
  have hcz52_4 := b4 BK770
  have hcz52_5 := b5 BK770
  have hcz52_6 := b6 BK770
  have hfz52_0 := blk_frozen BK770.out 0
  have hfz52_1 := blk_frozen BK770.out 1
  have hfz52_2 := blk_frozen BK770.out 2
  have hfz52_3 := blk_frozen BK770.out 3
  have hfz52_4 := blk_frozen BK770.out 4
  have hfz52_5 := blk_frozen BK770.out 5
  have hfz52_6 := blk_frozen BK770.out 6
  go_wp2
  repeat (go_quiet (fail); try go_wp2)
  go_meet
  case rel => exact ⟨_, (((t757.length : Int) != (t767.length : Int))), (by first | rfl | (simp; done) | (simp [*]; done)), H', ⟨by first | omega | exact Nat.le_refl _⟩, ⟨by (with_reducible repeat (first | apply Kd.R_alloc | apply Kd.R_drewN | apply Kd.R_drew)); exact Kd.R_mono (Kd.R_far (p := ⟨gb770, 6, none⟩) (Kd.R_far (p := ⟨gb770, 5, none⟩) (Kd.R_far (p := ⟨gb770, 4, none⟩) (Kd.R_far (p := ⟨gb770, 3, none⟩) (Kd.R_far (p := ⟨gb770, 2, none⟩) (Kd.R_far (p := ⟨gb770, 1, none⟩) (Kd.R_far (p := ⟨gb770, 0, none⟩) (Kd.R_types HO759.out BK770.out (by decide)) (fun _ hk => hk.2) (.bool t761)) (fun _ hk => hk.2) (.int .i64 t762)) (fun _ hk => hk.2) (.int .i64 t763)) (fun _ hk => hk.2) (.int .i64 t764)) (fun _ hk => hk.2) (.int .i64 t765)) (fun _ hk => hk.2) (.int .i64 t766)) (fun _ hk => hk.2) (.slice Ao29 t767.length co29)) (fun _ hk => hk.1.2)⟩, ⟨by (with_reducible repeat (first | apply Kd.R_alloc | apply Kd.R_drewN | apply Kd.R_drew)); exact Kd.R_mono (Kd.R_far (p := ⟨gb770, 6, none⟩) (Kd.R_far (p := ⟨gb770, 5, none⟩) (Kd.R_far (p := ⟨gb770, 4, none⟩) (Kd.R_far (p := ⟨gb770, 3, none⟩) (Kd.R_far (p := ⟨gb770, 2, none⟩) (Kd.R_far (p := ⟨gb770, 1, none⟩) (Kd.R_far (p := ⟨gb770, 0, none⟩) (Kd.R_types HO769.out BK770.out (by decide)) (fun _ hk => hk.2) (.bool t761)) (fun _ hk => hk.2) (.int .i64 t762)) (fun _ hk => hk.2) (.int .i64 t763)) (fun _ hk => hk.2) (.int .i64 t764)) (fun _ hk => hk.2) (.int .i64 t765)) (fun _ hk => hk.2) (.int .i64 t766)) (fun _ hk => hk.2) (.slice Ao29 t767.length co29)) (fun _ hk => hk.1.2)⟩, ⟨qB BK749⟩, ⟨qB BK750⟩, ⟨qB BK760⟩, ⟨by (with_reducible repeat (first | refine blk_drewN ?_ _ | refine blk_drew ?_ | refine blk_alloc ?_ _)); refine blk_put (cs := #[.bool t761, .int .i64 t762, .int .i64 t763, .int .i64 t764, .int .i64 t765, .int .i64 t766, .slice none 0 0]) ?_ 6 _ rfl; (with_reducible repeat (first | refine blk_drewN ?_ _ | refine blk_drew ?_ | refine blk_alloc ?_ _)); refine blk_put (cs := #[.bool t761, .int .i64 t762, .int .i64 t763, .int .i64 t764, .int .i64 t765, .int .i64 0, .slice none 0 0]) ?_ 5 _ rfl; (with_reducible repeat (first | refine blk_drewN ?_ _ | refine blk_drew ?_ | refine blk_alloc ?_ _)); refine blk_put (cs := #[.bool t761, .int .i64 t762, .int .i64 t763, .int .i64 t764, .int .i64 0, .int .i64 0, .slice none 0 0]) ?_ 4 _ rfl; (with_reducible repeat (first | refine blk_drewN ?_ _ | refine blk_drew ?_ | refine blk_alloc ?_ _)); refine blk_put (cs := #[.bool t761, .int .i64 t762, .int .i64 t763, .int .i64 0, .int .i64 0, .int .i64 0, .slice none 0 0]) ?_ 3 _ rfl; (with_reducible repeat (first | refine blk_drewN ?_ _ | refine blk_drew ?_ | refine blk_alloc ?_ _)); refine blk_put (cs := #[.bool t761, .int .i64 t762, .int .i64 0, .int .i64 0, .int .i64 0, .int .i64 0, .slice none 0 0]) ?_ 2 _ rfl; (with_reducible repeat (first | refine blk_drewN ?_ _ | refine blk_drew ?_ | refine blk_alloc ?_ _)); refine blk_put (cs := #[.bool t761, .int .i64 0, .int .i64 0, .int .i64 0, .int .i64 0, .int .i64 0, .slice none 0 0]) ?_ 1 _ rfl; (with_reducible repeat (first | refine blk_drewN ?_ _ | refine blk_drew ?_ | refine blk_alloc ?_ _)); refine blk_put (cs := #[.bool false, .int .i64 0, .int .i64 0, .int .i64 0, .int .i64 0, .int .i64 0, .slice none 0 0]) ?_ 0 _ rfl; (with_reducible repeat (first | refine blk_drewN ?_ _ | refine blk_drew ?_ | refine blk_alloc ?_ _)); exact BK770.out⟩, ⟨(qs HB)⟩⟩
 case rest =>
  clear HC6
  try clear c1; try clear c2; try clear c2b0; try clear c2b1; try clear p2; try clear c3; try clear c4; try clear c5; try clear c10; try clear c17; try clear c18; try clear c25; try clear c26; try clear c27; try clear c30; try clear c30b0; try clear c30b1; try clear c30b2; try clear c31; try clear c32; try clear c33; try clear c35; try clear c36; try clear c38; try clear c38b0; try clear c39; try clear c40; try clear c41; try clear c43; try clear c44; try clear c46; try clear c47; try clear c48; try clear c50; try clear c51; try clear hcz11_0; try clear hcz11_1; try clear hcz11_2; try clear hcz12_0; try clear hcz12_1; try clear hcz12_2; try clear hcz12_3; try clear hcz12_4; try clear hcz19_0; try clear hcz19_1; try clear hcz19_2; try clear hcz19_3; try clear hcz19_4; try clear hcz19_5; try clear hcz19_6; try clear hcz21_0; try clear hcz21_1; try clear hcz21_2; try clear hcz22_0; try clear hcz22_1; try clear hcz22_2; try clear hcz22_3; try clear hcz22_4; try clear hcz28_0; try clear hcz28_1; try clear hcz28_2; try clear hcz28_3; try clear hcz28_4; try clear hcz28_5; try clear hcz28_6; try clear hcz34_0; try clear hcz34_1; try clear hcz34_2; try clear hcz34_3; try clear hcz34_4; try clear hcz34_5; try clear hcz34_6; try clear hcz37_0; try clear hcz37_1; try clear hcz37_2; try clear hcz37_3; try clear hcz37_4; try clear hcz37_5; try clear hcz37_6; try clear hcz42_0; try clear hcz42_1; try clear hcz42_2; try clear hcz42_3; try clear hcz42_4; try clear hcz42_5; try clear hcz42_6; try clear hcz45_0; try clear hcz45_1; try clear hcz45_2; try clear hcz45_3; try clear hcz45_4; try clear hcz45_5; try clear hcz45_6; try clear hcz49_0; try clear hcz49_1; try clear hcz49_2; try clear hcz49_3; try clear hcz49_4; try clear hcz49_5; try clear hcz49_6; try clear hcz52_0; try clear hcz52_1; try clear hcz52_2; try clear hcz52_3; try clear hcz52_4; try clear hcz52_5; try clear hcz52_6; try clear hfz11_0; try clear hfz11_1; try clear hfz11_2; try clear hfz12_0; try clear hfz12_1; try clear hfz12_2; try clear hfz12_3; try clear hfz12_4; try clear hfz19_0; try clear hfz19_1; try clear hfz19_2; try clear hfz19_3; try clear hfz19_4; try clear hfz19_5; try clear hfz19_6; try clear hfz21_0; try clear hfz21_1; try clear hfz21_2; try clear hfz22_0; try clear hfz22_1; try clear hfz22_2; try clear hfz22_3; try clear hfz22_4; try clear hfz28_0; try clear hfz28_1; try clear hfz28_2; try clear hfz28_3; try clear hfz28_4; try clear hfz28_5; try clear hfz28_6; try clear hfz34_0; try clear hfz34_1; try clear hfz34_2; try clear hfz34_3; try clear hfz34_4; try clear hfz34_5; try clear hfz34_6; try clear hfz37_0; try clear hfz37_1; try clear hfz37_2; try clear hfz37_3; try clear hfz37_4; try clear hfz37_5; try clear hfz37_6; try clear hfz42_0; try clear hfz42_1; try clear hfz42_2; try clear hfz42_3; try clear hfz42_4; try clear hfz42_5; try clear hfz42_6; try clear hfz45_0; try clear hfz45_1; try clear hfz45_2; try clear hfz45_3; try clear hfz45_4; try clear hfz45_5; try clear hfz45_6; try clear hfz49_0; try clear hfz49_1; try clear hfz49_2; try clear hfz49_3; try clear hfz49_4; try clear hfz49_5; try clear hfz49_6; try clear hfz52_0; try clear hfz52_1; try clear hfz52_2; try clear hfz52_3; try clear hfz52_4; try clear hfz52_5; try clear hfz52_6
  obtain ⟨kq, x61_5, rfl, HA, HJ5, HO_761006, HO_771006, BK749, BK750, BK760, BK770, HB⟩ := hcut
  cases kq with
  | zero => exact absurd HA.out (by simp [laws_FnEnds.j0])
  | succ kj5 =>
   have H := HA.out
   clear HA
   simp only [laws_FnEnds.j0] at H
   by_cases c53 : x61_5 = true
   ·subst c53
    have H1 : (some false) = some true := by rw [if_pos rfl] at H; exact H
    clear H; have H := H1; clear H1
    exact absurd H (by simp)
   replace c53 := Bool.eq_false_iff.mpr c53
   subst c53
   have H1 : (laws_FnEnds.l0 kj5 l0 (t757.length : Int) 0 t751 t752 t753 t754 t755 t756 t757 t761 t762 t763 t764 t765 t766 t767) = some true := by rw [if_neg (show ¬ (false = true) by decide)] at H; exact H
   clear H; have H := H1; clear H1
   have H' := Aside0.mk H
   clear H
   have hnb54 := NB760_749.out
   have hnc54 := NB749_760.out
   have hnb55 := NB760_750.out
   have hnc55 := NB750_760.out
   have hnb56 := NB760_770.out
   have hnc56 := NB770_760.out
   have hcz57_0 := b0 BK760
   have hcz57_1 := b1 BK760
   have hcz57_2 := b2 BK760
   have hcz57_3 := b3 BK760
   have hcz57_4 := b4 BK760
   have hcz57_5 := b5 BK760
   have hcz57_6 := b6 BK760
   have hfz57_0 := blk_frozen BK760.out 0
   have hfz57_1 := blk_frozen BK760.out 1
   have hfz57_2 := blk_frozen BK760.out 2
   have hfz57_3 := blk_frozen BK760.out 3
   have hfz57_4 := blk_frozen BK760.out 4
   have hfz57_5 := blk_frozen BK760.out 5
   have hfz57_6 := blk_frozen BK760.out 6
   go_wp2
   repeat (go_quiet (fail); try go_wp2)
   go_loopg [65] kj5 (fun kq v65 w' => ∃ (x65_2 : Int), v65 = .int .i64 x65_2 ∧ Aside0 (laws_FnEnds.l0 kq l0 (t757.length : Int) x65_2 t751 t752 t753 t754 t755 t756 t757 t761 t762 t763 t764 t765 t766 t767 = some true) ∧ Aside0 (kq ≤ kj5) ∧ Aside0 (Kd.R k60 60 w' w.heap.size (fun k_ => some k_ ≠ ((.slice Ao29 t767.length co29) : Value).ownBlock) (.slice Ao20 t757.length co20) t757) ∧ Aside0 (Kd.R k60 60 w' w.heap.size (fun k_ => some k_ ≠ ((.slice Ao20 t757.length co20) : Value).ownBlock) (.slice Ao29 t767.length co29) t767) ∧ Aside0 (w'.heap[gb749]? = some (.cells #[.int .i64 t734, .int .i64 t735, .int .i64 t736] 34 (0, 0))) ∧ Aside0 (w'.heap[gb750]? = some (.cells #[.int .i64 t738, .int .i64 t739, .int .i64 t740, .int .i64 t741, .int .i64 t742] 29 (0, 0))) ∧ Aside0 (w'.heap[gb760]? = some (.cells #[.bool t751, .int .i64 t752, .int .i64 t753, .int .i64 t754, .int .i64 t755, .int .i64 t756, (.slice Ao20 t757.length co20)] 32 (0, 0))) ∧ Aside0 (w'.heap[gb770]? = some (.cells #[.bool t761, .int .i64 t762, .int .i64 t763, .int .i64 t764, .int .i64 t765, .int .i64 t766, (.slice Ao29 t767.length co29)] 32 (0, 0))) ∧ Aside0 (Below w.heap.size w w'))
   case atStart => exact ⟨(0), (by first | rfl | (simp; done) | (simp [*]; done)), H', ⟨Nat.le_refl _⟩, ⟨by (with_reducible repeat (first | apply Kd.R_alloc | apply Kd.R_drewN | apply Kd.R_drew)); exact HO_761006.out⟩, ⟨by (with_reducible repeat (first | apply Kd.R_alloc | apply Kd.R_drewN | apply Kd.R_drew)); exact HO_771006.out⟩, ⟨qb BK749⟩, ⟨qb BK750⟩, ⟨qb BK760⟩, ⟨qb BK770⟩, ⟨(qs HB)⟩⟩
   case round =>
    clear H'
    try clear c1; try clear c2; try clear c2b0; try clear c2b1; try clear p2; try clear c3; try clear c4; try clear c5; try clear c10; try clear c17; try clear c18; try clear c25; try clear c26; try clear c27; try clear c30; try clear c30b0; try clear c30b1; try clear c30b2; try clear c31; try clear c32; try clear c33; try clear c35; try clear c36; try clear c38; try clear c38b0; try clear c39; try clear c40; try clear c41; try clear c43; try clear c44; try clear c46; try clear c47; try clear c48; try clear c50; try clear c51; try clear c53; try clear c54; try clear c55; try clear c56; try clear hcz11_0; try clear hcz11_1; try clear hcz11_2; try clear hcz12_0; try clear hcz12_1; try clear hcz12_2; try clear hcz12_3; try clear hcz12_4; try clear hcz19_0; try clear hcz19_1; try clear hcz19_2; try clear hcz19_3; try clear hcz19_4; try clear hcz19_5; try clear hcz19_6; try clear hcz21_0; try clear hcz21_1; try clear hcz21_2; try clear hcz22_0; try clear hcz22_1; try clear hcz22_2; try clear hcz22_3; try clear hcz22_4; try clear hcz28_0; try clear hcz28_1; try clear hcz28_2; try clear hcz28_3; try clear hcz28_4; try clear hcz28_5; try clear hcz28_6; try clear hcz34_0; try clear hcz34_1; try clear hcz34_2; try clear hcz34_3; try clear hcz34_4; try clear hcz34_5; try clear hcz34_6; try clear hcz37_0; try clear hcz37_1; try clear hcz37_2; try clear hcz37_3; try clear hcz37_4; try clear hcz37_5; try clear hcz37_6; try clear hcz42_0; try clear hcz42_1; try clear hcz42_2; try clear hcz42_3; try clear hcz42_4; try clear hcz42_5; try clear hcz42_6; try clear hcz45_0; try clear hcz45_1; try clear hcz45_2; try clear hcz45_3; try clear hcz45_4; try clear hcz45_5; try clear hcz45_6; try clear hcz49_0; try clear hcz49_1; try clear hcz49_2; try clear hcz49_3; try clear hcz49_4; try clear hcz49_5; try clear hcz49_6; try clear hcz52_0; try clear hcz52_1; try clear hcz52_2; try clear hcz52_3; try clear hcz52_4; try clear hcz52_5; try clear hcz52_6; try clear hcz57_0; try clear hcz57_1; try clear hcz57_2; try clear hcz57_3; try clear hcz57_4; try clear hcz57_5; try clear hcz57_6; try clear hfz11_0; try clear hfz11_1; try clear hfz11_2; try clear hfz12_0; try clear hfz12_1; try clear hfz12_2; try clear hfz12_3; try clear hfz12_4; try clear hfz19_0; try clear hfz19_1; try clear hfz19_2; try clear hfz19_3; try clear hfz19_4; try clear hfz19_5; try clear hfz19_6; try clear hfz21_0; try clear hfz21_1; try clear hfz21_2; try clear hfz22_0; try clear hfz22_1; try clear hfz22_2; try clear hfz22_3; try clear hfz22_4; try clear hfz28_0; try clear hfz28_1; try clear hfz28_2; try clear hfz28_3; try clear hfz28_4; try clear hfz28_5; try clear hfz28_6; try clear hfz34_0; try clear hfz34_1; try clear hfz34_2; try clear hfz34_3; try clear hfz34_4; try clear hfz34_5; try clear hfz34_6; try clear hfz37_0; try clear hfz37_1; try clear hfz37_2; try clear hfz37_3; try clear hfz37_4; try clear hfz37_5; try clear hfz37_6; try clear hfz42_0; try clear hfz42_1; try clear hfz42_2; try clear hfz42_3; try clear hfz42_4; try clear hfz42_5; try clear hfz42_6; try clear hfz45_0; try clear hfz45_1; try clear hfz45_2; try clear hfz45_3; try clear hfz45_4; try clear hfz45_5; try clear hfz45_6; try clear hfz49_0; try clear hfz49_1; try clear hfz49_2; try clear hfz49_3; try clear hfz49_4; try clear hfz49_5; try clear hfz49_6; try clear hfz52_0; try clear hfz52_1; try clear hfz52_2; try clear hfz52_3; try clear hfz52_4; try clear hfz52_5; try clear hfz52_6; try clear hfz57_0; try clear hfz57_1; try clear hfz57_2; try clear hfz57_3; try clear hfz57_4; try clear hfz57_5; try clear hfz57_6; try clear p2
    obtain ⟨x65_2, rfl, HA, HK2, HO_761006, HO_771006, BK749, BK750, BK760, BK770, HB⟩ := hrel
    cases gk with
    | zero => exact absurd HA.out (by simp [laws_FnEnds.l0])
    | succ k2 =>
     have H := HA.out
     clear HA
     simp only [laws_FnEnds.l0] at H
     by_cases c58 : x65_2 < (t757.length : Int)
     ·rw [if_pos c58] at H
      have c58b0 : decide (x65_2 < (t757.length : Int)) = true := decide_eq_true c58
      clear c58
      by_cases c59 : 0 ≤ x65_2
      ·rw [if_pos c59] at H
       have c59b0 : decide (0 ≤ x65_2) = true := decide_eq_true c59
       clear c59
       by_cases c60 : x65_2 < (t757.length : Int)
       ·rw [if_pos c60] at H
        have c60b0 : decide (x65_2 < (t757.length : Int)) = true := decide_eq_true c60
        clear c60
        by_cases c61 : x65_2 < (t767.length : Int)
        ·rw [if_pos c61] at H
         have c61b0 : decide (x65_2 < (t767.length : Int)) = true := decide_eq_true c61
         clear c61
         by_cases c62 : (!(((rd_T60 t757 x65_2).f0) == ((rd_T60 t767 x65_2).f0)) || (!(((rd_T60 t757 x65_2).f1) == ((rd_T60 t767 x65_2).f1)) || (!(((rd_T60 t757 x65_2).f2) == ((rd_T60 t767 x65_2).f2)) || (!(((rd_T60 t757 x65_2).f3) == ((rd_T60 t767 x65_2).f3)))))) = true
         ·rw [if_pos c62] at H
          have c62b0 : (!(((rd_T60 t757 x65_2).f0) == ((rd_T60 t767 x65_2).f0)) || (!(((rd_T60 t757 x65_2).f1) == ((rd_T60 t767 x65_2).f1)) || (!(((rd_T60 t757 x65_2).f2) == ((rd_T60 t767 x65_2).f2)) || (!(((rd_T60 t757 x65_2).f3) == ((rd_T60 t767 x65_2).f3)))))) = true := c62
          clear c62
          exact absurd H (by simp)
         rw [if_neg c62] at H
         have c62b0 : (!(((rd_T60 t757 x65_2).f0) == ((rd_T60 t767 x65_2).f0)) || (!(((rd_T60 t757 x65_2).f1) == ((rd_T60 t767 x65_2).f1)) || (!(((rd_T60 t757 x65_2).f2) == ((rd_T60 t767 x65_2).f2)) || (!(((rd_T60 t757 x65_2).f3) == ((rd_T60 t767 x65_2).f3)))))) = false := by simpa using c62
         clear c62
         have H' := Aside0.mk H
         clear H
         have hnb63 := NB760_749.out
         have hnc63 := NB749_760.out
         have hnb64 := NB760_750.out
         have hnc64 := NB750_760.out
         have hnb65 := NB760_770.out
         have hnc65 := NB770_760.out
         have hcz66_0 := b0 BK760
         have hcz66_1 := b1 BK760
         have hcz66_2 := b2 BK760
         have hcz66_3 := b3 BK760
         have hcz66_4 := b4 BK760
         have hcz66_5 := b5 BK760
         have hcz66_6 := b6 BK760
         have hfz66_0 := blk_frozen BK760.out 0
         have hfz66_1 := blk_frozen BK760.out 1
         have hfz66_2 := blk_frozen BK760.out 2
         have hfz66_3 := blk_frozen BK760.out 3
         have hfz66_4 := blk_frozen BK760.out 4
         have hfz66_5 := blk_frozen BK760.out 5
         have hfz66_6 := blk_frozen BK760.out 6
         have p771 : 0 ≤ (x65_2 : Int) := of_decide_eq_true (by first | (with_reducible assumption) | assumption)
         have q771 : x65_2 < (t757.length : Int) := of_decide_eq_true (by first | (with_reducible assumption) | assumption)
         obtain ⟨ad771, e771, hx771_0, hx771_1, hx771_2, hx771_3⟩ := at_T60 (Kd.R_reads' HO_761006.out).2.2 x65_2 p771 q771
         cases e771
         replace p771 := eq_true p771
         replace q771 := eq_true q771
         have hnb67 := NB770_749.out
         have hnc67 := NB749_770.out
         have hnb68 := NB770_750.out
         have hnc68 := NB750_770.out
         have hcz69_0 := b0 BK770
         have hcz69_1 := b1 BK770
         have hcz69_2 := b2 BK770
         have hcz69_3 := b3 BK770
         have hcz69_4 := b4 BK770
         have hcz69_5 := b5 BK770
         have hcz69_6 := b6 BK770
         have hfz69_0 := blk_frozen BK770.out 0
         have hfz69_1 := blk_frozen BK770.out 1
         have hfz69_2 := blk_frozen BK770.out 2
         have hfz69_3 := blk_frozen BK770.out 3
         have hfz69_4 := blk_frozen BK770.out 4
         have hfz69_5 := blk_frozen BK770.out 5
         have hfz69_6 := blk_frozen BK770.out 6
         have p772 : 0 ≤ (x65_2 : Int) := of_decide_eq_true (by first | (with_reducible assumption) | assumption)
         have q772 : x65_2 < (t767.length : Int) := of_decide_eq_true (by first | (with_reducible assumption) | assumption)
         obtain ⟨ad772, e772, hx772_0, hx772_1, hx772_2, hx772_3⟩ := at_T60 (Kd.R_reads' HO_771006.out).2.2 x65_2 p772 q772
         cases e772
         replace p772 := eq_true p772
         replace q772 := eq_true q772
         go_wp2
         repeat (go_quiet (fail); try go_wp2)
         go_roundg k2
         case measure => have := HJ5.out; have := HK2.out; omega
         case rel => exact ⟨(wrap64 (x65_2 + 1)), (by first | rfl | (simp; done) | (simp [*]; done)), H', ⟨by have := HJ5.out; have := HK2.out; omega⟩, ⟨by (with_reducible repeat (first | apply Kd.R_alloc | apply Kd.R_drewN | apply Kd.R_drew)); exact HO_761006.out⟩, ⟨by (with_reducible repeat (first | apply Kd.R_alloc | apply Kd.R_drewN | apply Kd.R_drew)); exact HO_771006.out⟩, ⟨qb BK749⟩, ⟨qb BK750⟩, ⟨qb BK760⟩, ⟨qb BK770⟩, ⟨(qs HB)⟩⟩
        rw [if_neg c61] at H
        exact absurd H (by simp)
       rw [if_neg c60] at H
       exact absurd H (by simp)
      rw [if_neg c59] at H
      exact absurd H (by simp)
     rw [if_neg c58] at H
     have c58b0 : decide (x65_2 < (t757.length : Int)) = false := decide_eq_false c58
     clear c58
     replace H := Option.bind_eq_some_iff.mp H
     obtain ⟨⟨t773, t774, t775, t776, t777, t778, t779, t780⟩, A700, H⟩ := H
     replace H : ((impl_TrainTick.f k2 t773 t774 t775 t776 t777 t778 t779 t780).bind fun bt785 => ((spec_TrainTick.f k2 t773 t774 t775 t776 t777 t778 t779 t780).bind fun bt794 => (if (bt785.1 != bt794.1) = true then (laws_FnEnds.j2 k2 true bt785.1 bt785.2.1 bt785.2.2.1 bt785.2.2.2.1 bt785.2.2.2.2.1 bt785.2.2.2.2.2 bt794.1 bt794.2.1 bt794.2.2.1 bt794.2.2.2.1 bt794.2.2.2.2.1 bt794.2.2.2.2.2) else (if (!(bt785.2.1 == bt794.2.1) || (!(bt785.2.2.1 == bt794.2.2.1) || (!(bt785.2.2.2.1 == bt794.2.2.2.1)))) = true then (laws_FnEnds.j2 k2 true bt785.1 bt785.2.1 bt785.2.2.1 bt785.2.2.2.1 bt785.2.2.2.2.1 bt785.2.2.2.2.2 bt794.1 bt794.2.1 bt794.2.2.1 bt794.2.2.2.1 bt794.2.2.2.2.1 bt794.2.2.2.2.2) else (if bt785.2.2.2.2.2 = bt794.2.2.2.2.2 then (laws_FnEnds.j2 k2 ((bt785.2.2.2.2.1.length : Int) != (bt794.2.2.2.2.1.length : Int)) bt785.1 bt785.2.1 bt785.2.2.1 bt785.2.2.2.1 bt785.2.2.2.2.1 bt785.2.2.2.2.2 bt794.1 bt794.2.1 bt794.2.2.1 bt794.2.2.2.1 bt794.2.2.2.2.1 bt794.2.2.2.2.2) else (laws_FnEnds.j2 k2 true bt785.1 bt785.2.1 bt785.2.2.1 bt785.2.2.2.1 bt785.2.2.2.2.1 bt785.2.2.2.2.2 bt794.1 bt794.2.1 bt794.2.2.1 bt794.2.2.2.1 bt794.2.2.2.2.1 bt794.2.2.2.2.2)))))) = some true := H
     have A70 := Aside0.mk A700
     clear A700
     replace H := Option.bind_eq_some_iff.mp H
     obtain ⟨⟨t785, t786, t787, t788, t789, t792⟩, A710, H⟩ := H
     replace H : ((spec_TrainTick.f k2 t773 t774 t775 t776 t777 t778 t779 t780).bind fun bt794 => (if (t785 != bt794.1) = true then (laws_FnEnds.j2 k2 true t785 t786 t787 t788 t789 t792 bt794.1 bt794.2.1 bt794.2.2.1 bt794.2.2.2.1 bt794.2.2.2.2.1 bt794.2.2.2.2.2) else (if (!(t786 == bt794.2.1) || (!(t787 == bt794.2.2.1) || (!(t788 == bt794.2.2.2.1)))) = true then (laws_FnEnds.j2 k2 true t785 t786 t787 t788 t789 t792 bt794.1 bt794.2.1 bt794.2.2.1 bt794.2.2.2.1 bt794.2.2.2.2.1 bt794.2.2.2.2.2) else (if t792 = bt794.2.2.2.2.2 then (laws_FnEnds.j2 k2 ((t789.length : Int) != (bt794.2.2.2.2.1.length : Int)) t785 t786 t787 t788 t789 t792 bt794.1 bt794.2.1 bt794.2.2.1 bt794.2.2.2.1 bt794.2.2.2.2.1 bt794.2.2.2.2.2) else (laws_FnEnds.j2 k2 true t785 t786 t787 t788 t789 t792 bt794.1 bt794.2.1 bt794.2.2.1 bt794.2.2.2.1 bt794.2.2.2.2.1 bt794.2.2.2.2.2))))) = some true := H
     have A71 := Aside0.mk A710
     clear A710
     replace H := Option.bind_eq_some_iff.mp H
     obtain ⟨⟨t794, t795, t796, t797, t798, t801⟩, A720, H⟩ := H
     replace H : (if (t785 != t794) = true then (laws_FnEnds.j2 k2 true t785 t786 t787 t788 t789 t792 t794 t795 t796 t797 t798 t801) else (if (!(t786 == t795) || (!(t787 == t796) || (!(t788 == t797)))) = true then (laws_FnEnds.j2 k2 true t785 t786 t787 t788 t789 t792 t794 t795 t796 t797 t798 t801) else (if t792 = t801 then (laws_FnEnds.j2 k2 ((t789.length : Int) != (t798.length : Int)) t785 t786 t787 t788 t789 t792 t794 t795 t796 t797 t798 t801) else (laws_FnEnds.j2 k2 true t785 t786 t787 t788 t789 t792 t794 t795 t796 t797 t798 t801)))) = some true := H
     have A72 := Aside0.mk A720
     clear A720
     have HC73 := Aside0.mk H
     clear H
     go_upto_region 17 with (first | (go_at_call 32; (with_reducible refine (spec_DrawTrainTick.calls k2 _ _ l0 t773 t774 t775 t776 t777 t778 t779 t780 _ ?side1 ?side2 A70.out).mono ?_); (case side1 => exact qc (Kd.C_below HR0.out HB.out)); (case side2 => exact HC0.out); rintro e w74 ⟨v781, rfl, ho0, hb⟩; have HO782 := Aside0.mk (Kd.R_lower (Kd.R_new' (Kd.R_new' ho0 (Kd.R_lt (qr HO_761006))) (Kd.R_lt (qr HO_771006))) (below_size (qs HB))); replace HO_761006 := Aside0.mk (Kd.R_elder' (qr HO_761006) (Kd.R_base ho0) hb); replace HO_771006 := Aside0.mk (Kd.R_elder' (qr HO_771006) (Kd.R_base ho0) hb); replace BK749 := bkb BK749 hb; replace BK750 := bkb BK750 hb; replace BK760 := bkb BK760 hb; replace BK770 := bkb BK770 hb; replace HB := bst HB hb; clear hb; (try clear ho0)) | ((with_reducible refine gate_dst (N := 11) rfl ?_); (try (refine gate_guard (by rfl) ?_; dsimp only)); refine boxA #[.int .i64 0, .int .i64 0, .int .i64 0] 34 ?_; intro gb783 hg w75 hbox hb; replace HO_761006 := rbl HO_761006 hb; replace HO_771006 := rbl HO_771006 hb; replace HO782 := rbl HO782 hb; have BK783 := Aside0.mk (hbox); have GW783 := nge HB hg; have GE783 := nge HB hg; replace HB := bst HB hb; have NB749_783 := nlt BK749 hg; have NB783_749 := ngt BK749 hg; replace BK749 := bkb BK749 hb; have NB750_783 := nlt BK750 hg; have NB783_750 := ngt BK750 hg; replace BK750 := bkb BK750 hb; have NB760_783 := nlt BK760 hg; have NB783_760 := ngt BK760 hg; replace BK760 := bkb BK760 hb; have NB770_783 := nlt BK770 hg; have NB783_770 := ngt BK770 hg; replace BK770 := bkb BK770 hb; clear hb hbox hg) | ((with_reducible refine gate_dst (N := 13) rfl ?_); (try (refine gate_guard (by rfl) ?_; dsimp only)); refine boxA #[.int .i64 0, .int .i64 0, .int .i64 0] 48 ?_; intro gb784 hg w76 hbox hb; replace HO_761006 := rbl HO_761006 hb; replace HO_771006 := rbl HO_771006 hb; replace HO782 := rbl HO782 hb; have BK784 := Aside0.mk (hbox); have GW784 := nge HB hg; have GE784 := nge HB hg; replace HB := bst HB hb; have NB749_784 := nlt BK749 hg; have NB784_749 := ngt BK749 hg; replace BK749 := bkb BK749 hb; have NB750_784 := nlt BK750 hg; have NB784_750 := ngt BK750 hg; replace BK750 := bkb BK750 hb; have NB760_784 := nlt BK760 hg; have NB784_760 := ngt BK760 hg; replace BK760 := bkb BK760 hb; have NB770_784 := nlt BK770 hg; have NB784_770 := ngt BK770 hg; replace BK770 := bkb BK770 hb; have NB783_784 := nlt BK783 hg; have NB784_783 := ngt BK783 hg; replace BK783 := bkb BK783 hb; clear hb hbox hg; have hnb77 := NB783_749.out; have hnc77 := NB749_783.out; have hnb78 := NB783_750.out; have hnc78 := NB750_783.out; have hnb79 := NB783_760.out; have hnc79 := NB760_783.out; have hnb80 := NB783_770.out; have hnc80 := NB770_783.out; have hnb81 := NB783_784.out; have hnc81 := NB784_783.out; have hcz82_0 := b0 BK783; have hcz82_1 := b1 BK783; have hcz82_2 := b2 BK783; have hfz82_0 := blk_frozen BK783.out 0; have hfz82_1 := blk_frozen BK783.out 1; have hfz82_2 := blk_frozen BK783.out 2; have hnb83 := NB784_749.out; have hnc83 := NB749_784.out; have hnb84 := NB784_750.out; have hnc84 := NB750_784.out; have hnb85 := NB784_760.out; have hnc85 := NB760_784.out; have hnb86 := NB784_770.out; have hnc86 := NB770_784.out; have hcz87_0 := b0 BK784; have hcz87_1 := b1 BK784; have hcz87_2 := b2 BK784; have hfz87_0 := blk_frozen BK784.out 0; have hfz87_1 := blk_frozen BK784.out 1; have hfz87_2 := blk_frozen BK784.out 2; obtain ⟨Ao88, co88, eo88⟩ := Kd.R_slice HO782.out; subst eo88) | (go_at_call 27; (with_reducible refine (impl_TrainTick.calls k2 t773 t774 t775 t776 t777 t778 t779 _ _ t780 t785 t786 t787 t788 t789 t792 _ ?side1 ?side2 A71.out).mono ?_); (case side1 => refine (Kd.R_reads' (e := 60) (base := w.heap.size) (ok := fun k_ => ((True ∧ some k_ ≠ (.slice Ao20 t757.length co20 : Value).ownBlock) ∧ some k_ ≠ (.slice Ao29 t767.length co29 : Value).ownBlock)) (n := t780.length) (c := co88) ?_).2.2; exact (by (with_reducible repeat (first | apply Kd.R_alloc | apply Kd.R_drewN | apply Kd.R_drew)); exact (Kd.R_mono (Kd.R_mono (Kd.R_far (p := ⟨gb784, 2, none⟩) (Kd.R_far (p := ⟨gb784, 1, none⟩) (Kd.R_far (p := ⟨gb784, 0, none⟩) (Kd.R_far (p := ⟨gb783, 2, none⟩) (Kd.R_far (p := ⟨gb783, 1, none⟩) (Kd.R_far (p := ⟨gb783, 0, none⟩) (Kd.R_types (Kd.R_types HO782.out BK783.out (by decide)) BK784.out (by decide)) (fun _ hk => hk.1.2) (.int .i64 t773)) (fun _ hk => hk.1.2) (.int .i64 t774)) (fun _ hk => hk.1.2) (.int .i64 t775)) (fun _ hk => hk.2) (.int .i64 t777)) (fun _ hk => hk.2) (.int .i64 t778)) (fun _ hk => hk.2) (.int .i64 t779)) (fun _ h_ => h_.1)) (fun _ h_ => h_.1)))); (case side2 => exact (Kd.R_reads' HO782.out).2.1); rintro e w89 ⟨v790, rfl, ho0, hb⟩; have HO791 := Aside0.mk (Kd.R_lower (Kd.R_new' (Kd.R_new' (Kd.R_new' ho0 (Kd.R_lt (by (with_reducible repeat (first | apply Kd.R_alloc | apply Kd.R_drewN | apply Kd.R_drew)); exact (Kd.R_mono (Kd.R_mono (Kd.R_far (p := ⟨gb784, 2, none⟩) (Kd.R_far (p := ⟨gb784, 1, none⟩) (Kd.R_far (p := ⟨gb784, 0, none⟩) (Kd.R_far (p := ⟨gb783, 2, none⟩) (Kd.R_far (p := ⟨gb783, 1, none⟩) (Kd.R_far (p := ⟨gb783, 0, none⟩) (Kd.R_types (Kd.R_types HO_761006.out BK783.out (by decide)) BK784.out (by decide)) (fun _ hk => hk.1.2) (.int .i64 t773)) (fun _ hk => hk.1.2) (.int .i64 t774)) (fun _ hk => hk.1.2) (.int .i64 t775)) (fun _ hk => hk.2) (.int .i64 t777)) (fun _ hk => hk.2) (.int .i64 t778)) (fun _ hk => hk.2) (.int .i64 t779)) (fun _ h_ => h_.1)) (fun _ h_ => h_.1))))) (Kd.R_lt (by (with_reducible repeat (first | apply Kd.R_alloc | apply Kd.R_drewN | apply Kd.R_drew)); exact (Kd.R_mono (Kd.R_mono (Kd.R_far (p := ⟨gb784, 2, none⟩) (Kd.R_far (p := ⟨gb784, 1, none⟩) (Kd.R_far (p := ⟨gb784, 0, none⟩) (Kd.R_far (p := ⟨gb783, 2, none⟩) (Kd.R_far (p := ⟨gb783, 1, none⟩) (Kd.R_far (p := ⟨gb783, 0, none⟩) (Kd.R_types (Kd.R_types HO_771006.out BK783.out (by decide)) BK784.out (by decide)) (fun _ hk => hk.1.2) (.int .i64 t773)) (fun _ hk => hk.1.2) (.int .i64 t774)) (fun _ hk => hk.1.2) (.int .i64 t775)) (fun _ hk => hk.2) (.int .i64 t777)) (fun _ hk => hk.2) (.int .i64 t778)) (fun _ hk => hk.2) (.int .i64 t779)) (fun _ h_ => h_.1)) (fun _ h_ => h_.1))))) (Kd.R_lt (by (with_reducible repeat (first | apply Kd.R_alloc | apply Kd.R_drewN | apply Kd.R_drew)); exact (Kd.R_mono (Kd.R_mono (Kd.R_far (p := ⟨gb784, 2, none⟩) (Kd.R_far (p := ⟨gb784, 1, none⟩) (Kd.R_far (p := ⟨gb784, 0, none⟩) (Kd.R_far (p := ⟨gb783, 2, none⟩) (Kd.R_far (p := ⟨gb783, 1, none⟩) (Kd.R_far (p := ⟨gb783, 0, none⟩) (Kd.R_types (Kd.R_types HO782.out BK783.out (by decide)) BK784.out (by decide)) (fun _ hk => hk.1.2) (.int .i64 t773)) (fun _ hk => hk.1.2) (.int .i64 t774)) (fun _ hk => hk.1.2) (.int .i64 t775)) (fun _ hk => hk.2) (.int .i64 t777)) (fun _ hk => hk.2) (.int .i64 t778)) (fun _ hk => hk.2) (.int .i64 t779)) (fun _ h_ => h_.1)) (fun _ h_ => h_.1))))) (below_size (qs HB))); replace HO_761006 := Aside0.mk (Kd.R_elder' (by (with_reducible repeat (first | apply Kd.R_alloc | apply Kd.R_drewN | apply Kd.R_drew)); exact (Kd.R_mono (Kd.R_mono (Kd.R_far (p := ⟨gb784, 2, none⟩) (Kd.R_far (p := ⟨gb784, 1, none⟩) (Kd.R_far (p := ⟨gb784, 0, none⟩) (Kd.R_far (p := ⟨gb783, 2, none⟩) (Kd.R_far (p := ⟨gb783, 1, none⟩) (Kd.R_far (p := ⟨gb783, 0, none⟩) (Kd.R_types (Kd.R_types HO_761006.out BK783.out (by decide)) BK784.out (by decide)) (fun _ hk => hk.1.2) (.int .i64 t773)) (fun _ hk => hk.1.2) (.int .i64 t774)) (fun _ hk => hk.1.2) (.int .i64 t775)) (fun _ hk => hk.2) (.int .i64 t777)) (fun _ hk => hk.2) (.int .i64 t778)) (fun _ hk => hk.2) (.int .i64 t779)) (fun _ h_ => h_.1)) (fun _ h_ => h_.1))) (Kd.R_base ho0) hb); replace HO_771006 := Aside0.mk (Kd.R_elder' (by (with_reducible repeat (first | apply Kd.R_alloc | apply Kd.R_drewN | apply Kd.R_drew)); exact (Kd.R_mono (Kd.R_mono (Kd.R_far (p := ⟨gb784, 2, none⟩) (Kd.R_far (p := ⟨gb784, 1, none⟩) (Kd.R_far (p := ⟨gb784, 0, none⟩) (Kd.R_far (p := ⟨gb783, 2, none⟩) (Kd.R_far (p := ⟨gb783, 1, none⟩) (Kd.R_far (p := ⟨gb783, 0, none⟩) (Kd.R_types (Kd.R_types HO_771006.out BK783.out (by decide)) BK784.out (by decide)) (fun _ hk => hk.1.2) (.int .i64 t773)) (fun _ hk => hk.1.2) (.int .i64 t774)) (fun _ hk => hk.1.2) (.int .i64 t775)) (fun _ hk => hk.2) (.int .i64 t777)) (fun _ hk => hk.2) (.int .i64 t778)) (fun _ hk => hk.2) (.int .i64 t779)) (fun _ h_ => h_.1)) (fun _ h_ => h_.1))) (Kd.R_base ho0) hb); replace HO782 := Aside0.mk (Kd.R_elder' (by (with_reducible repeat (first | apply Kd.R_alloc | apply Kd.R_drewN | apply Kd.R_drew)); exact (Kd.R_mono (Kd.R_mono (Kd.R_far (p := ⟨gb784, 2, none⟩) (Kd.R_far (p := ⟨gb784, 1, none⟩) (Kd.R_far (p := ⟨gb784, 0, none⟩) (Kd.R_far (p := ⟨gb783, 2, none⟩) (Kd.R_far (p := ⟨gb783, 1, none⟩) (Kd.R_far (p := ⟨gb783, 0, none⟩) (Kd.R_types (Kd.R_types HO782.out BK783.out (by decide)) BK784.out (by decide)) (fun _ hk => hk.1.2) (.int .i64 t773)) (fun _ hk => hk.1.2) (.int .i64 t774)) (fun _ hk => hk.1.2) (.int .i64 t775)) (fun _ hk => hk.2) (.int .i64 t777)) (fun _ hk => hk.2) (.int .i64 t778)) (fun _ hk => hk.2) (.int .i64 t779)) (fun _ h_ => h_.1)) (fun _ h_ => h_.1))) (Kd.R_base ho0) hb); replace BK749 := Aside0.mk (blk_below (g := gb749) (o := .cells #[.int .i64 t734, .int .i64 t735, .int .i64 t736] 34 (0, 0)) (qB BK749) hb); replace BK750 := Aside0.mk (blk_below (g := gb750) (o := .cells #[.int .i64 t738, .int .i64 t739, .int .i64 t740, .int .i64 t741, .int .i64 t742] 29 (0, 0)) (qB BK750) hb); replace BK760 := Aside0.mk (blk_below (g := gb760) (o := .cells #[.bool t751, .int .i64 t752, .int .i64 t753, .int .i64 t754, .int .i64 t755, .int .i64 t756, .slice Ao20 t757.length co20] 32 (0, 0)) (qB BK760) hb); replace BK770 := Aside0.mk (blk_below (g := gb770) (o := .cells #[.bool t761, .int .i64 t762, .int .i64 t763, .int .i64 t764, .int .i64 t765, .int .i64 t766, .slice Ao29 t767.length co29] 32 (0, 0)) (qB BK770) hb); replace BK783 := Aside0.mk (blk_below (g := gb783) (o := .cells #[.int .i64 t773, .int .i64 t774, .int .i64 t775] 34 (0, 0)) (by (with_reducible repeat (first | refine blk_drewN ?_ _ | refine blk_drew ?_ | refine blk_alloc ?_ _)); refine blk_far ?_ NB783_784.out _; (with_reducible repeat (first | refine blk_drewN ?_ _ | refine blk_drew ?_ | refine blk_alloc ?_ _)); refine blk_far ?_ NB783_784.out _; (with_reducible repeat (first | refine blk_drewN ?_ _ | refine blk_drew ?_ | refine blk_alloc ?_ _)); refine blk_far ?_ NB783_784.out _; (with_reducible repeat (first | refine blk_drewN ?_ _ | refine blk_drew ?_ | refine blk_alloc ?_ _)); refine blk_put (cs := #[.int .i64 t773, .int .i64 t774, .int .i64 0]) ?_ 2 _ rfl; (with_reducible repeat (first | refine blk_drewN ?_ _ | refine blk_drew ?_ | refine blk_alloc ?_ _)); refine blk_put (cs := #[.int .i64 t773, .int .i64 0, .int .i64 0]) ?_ 1 _ rfl; (with_reducible repeat (first | refine blk_drewN ?_ _ | refine blk_drew ?_ | refine blk_alloc ?_ _)); refine blk_put (cs := #[.int .i64 0, .int .i64 0, .int .i64 0]) ?_ 0 _ rfl; (with_reducible repeat (first | refine blk_drewN ?_ _ | refine blk_drew ?_ | refine blk_alloc ?_ _)); exact BK783.out) hb); replace BK784 := Aside0.mk (blk_below (g := gb784) (o := .cells #[.int .i64 t777, .int .i64 t778, .int .i64 t779] 48 (0, 0)) (by (with_reducible repeat (first | refine blk_drewN ?_ _ | refine blk_drew ?_ | refine blk_alloc ?_ _)); refine blk_put (cs := #[.int .i64 t777, .int .i64 t778, .int .i64 0]) ?_ 2 _ rfl; (with_reducible repeat (first | refine blk_drewN ?_ _ | refine blk_drew ?_ | refine blk_alloc ?_ _)); refine blk_put (cs := #[.int .i64 t777, .int .i64 0, .int .i64 0]) ?_ 1 _ rfl; (with_reducible repeat (first | refine blk_drewN ?_ _ | refine blk_drew ?_ | refine blk_alloc ?_ _)); refine blk_put (cs := #[.int .i64 0, .int .i64 0, .int .i64 0]) ?_ 0 _ rfl; exact qB BK784) hb); replace HB := bst HB hb; clear hb; (try clear ho0)) | ((with_reducible refine gate_dst (N := 15) rfl ?_); (try (refine gate_guard (by rfl) ?_; dsimp only)); refine boxA #[.bool false, .int .i64 0, .int .i64 0, .int .i64 0, .slice none 0 0, .int .i64 0] 50 ?_; intro gb793 hg w90 hbox hb; replace HO_761006 := rbl HO_761006 hb; replace HO_771006 := rbl HO_771006 hb; replace HO782 := rbl HO782 hb; replace HO791 := rbl HO791 hb; have BK793 := Aside0.mk (hbox); have GW793 := nge HB hg; have GE793 := nge HB hg; replace HB := bst HB hb; have NB749_793 := nlt BK749 hg; have NB793_749 := ngt BK749 hg; replace BK749 := bkb BK749 hb; have NB750_793 := nlt BK750 hg; have NB793_750 := ngt BK750 hg; replace BK750 := bkb BK750 hb; have NB760_793 := nlt BK760 hg; have NB793_760 := ngt BK760 hg; replace BK760 := bkb BK760 hb; have NB770_793 := nlt BK770 hg; have NB793_770 := ngt BK770 hg; replace BK770 := bkb BK770 hb; have NB783_793 := nlt BK783 hg; have NB793_783 := ngt BK783 hg; replace BK783 := bkb BK783 hb; have NB784_793 := nlt BK784 hg; have NB793_784 := ngt BK784 hg; replace BK784 := bkb BK784 hb; clear hb hbox hg; have hnb91 := NB793_749.out; have hnc91 := NB749_793.out; have hnb92 := NB793_750.out; have hnc92 := NB750_793.out; have hnb93 := NB793_760.out; have hnc93 := NB760_793.out; have hnb94 := NB793_770.out; have hnc94 := NB770_793.out; have hnb95 := NB793_783.out; have hnc95 := NB783_793.out; have hnb96 := NB793_784.out; have hnc96 := NB784_793.out; have hcz97_0 := b0 BK793; have hcz97_1 := b1 BK793; have hcz97_2 := b2 BK793; have hcz97_3 := b3 BK793; have hcz97_4 := b4 BK793; have hcz97_5 := b5 BK793; have hfz97_0 := blk_frozen BK793.out 0; have hfz97_1 := blk_frozen BK793.out 1; have hfz97_2 := blk_frozen BK793.out 2; have hfz97_3 := blk_frozen BK793.out 3; have hfz97_4 := blk_frozen BK793.out 4; have hfz97_5 := blk_frozen BK793.out 5; obtain ⟨Ao98, co98, eo98⟩ := Kd.R_slice HO791.out; subst eo98; have hcz99_0 := b0 BK783; have hcz99_1 := b1 BK783; have hcz99_2 := b2 BK783; have hfz99_0 := blk_frozen BK783.out 0; have hfz99_1 := blk_frozen BK783.out 1; have hfz99_2 := blk_frozen BK783.out 2; have hcz100_0 := b0 BK784; have hcz100_1 := b1 BK784; have hcz100_2 := b2 BK784; have hfz100_0 := blk_frozen BK784.out 0; have hfz100_1 := blk_frozen BK784.out 1; have hfz100_2 := blk_frozen BK784.out 2) | (go_at_call 25; (with_reducible refine (spec_TrainTick.calls k2 t773 t774 t775 t776 t777 t778 t779 _ _ t780 t794 t795 t796 t797 t798 t801 _ ?side1 ?side2 A72.out).mono ?_); (case side1 => refine (Kd.R_reads' (e := 60) (base := w.heap.size) (ok := fun k_ => (((True ∧ some k_ ≠ (.slice Ao20 t757.length co20 : Value).ownBlock) ∧ some k_ ≠ (.slice Ao29 t767.length co29 : Value).ownBlock) ∧ some k_ ≠ (.slice Ao98 t789.length co98 : Value).ownBlock)) (n := t780.length) (c := co88) ?_).2.2; exact (by (with_reducible repeat (first | apply Kd.R_alloc | apply Kd.R_drewN | apply Kd.R_drew)); exact (Kd.R_mono (Kd.R_far (p := ⟨gb793, 5, none⟩) (Kd.R_far (p := ⟨gb793, 4, none⟩) (Kd.R_far (p := ⟨gb793, 3, none⟩) (Kd.R_far (p := ⟨gb793, 2, none⟩) (Kd.R_far (p := ⟨gb793, 1, none⟩) (Kd.R_far (p := ⟨gb793, 0, none⟩) (Kd.R_types HO782.out BK793.out (by decide)) (fun _ hk => hk.2) (.bool t785)) (fun _ hk => hk.2) (.int .i64 t786)) (fun _ hk => hk.2) (.int .i64 t787)) (fun _ hk => hk.2) (.int .i64 t788)) (fun _ hk => hk.2) (.slice Ao98 t789.length co98)) (fun _ hk => hk.2) (.int .i64 t792)) (fun _ h_ => h_.1)))); (case side2 => exact (Kd.R_reads' HO782.out).2.1); rintro e w101 ⟨v799, rfl, ho0, hb⟩; have HO800 := Aside0.mk (Kd.R_lower (Kd.R_new' (Kd.R_new' (Kd.R_new' (Kd.R_new' ho0 (Kd.R_lt (by (with_reducible repeat (first | apply Kd.R_alloc | apply Kd.R_drewN | apply Kd.R_drew)); exact (Kd.R_mono (Kd.R_far (p := ⟨gb793, 5, none⟩) (Kd.R_far (p := ⟨gb793, 4, none⟩) (Kd.R_far (p := ⟨gb793, 3, none⟩) (Kd.R_far (p := ⟨gb793, 2, none⟩) (Kd.R_far (p := ⟨gb793, 1, none⟩) (Kd.R_far (p := ⟨gb793, 0, none⟩) (Kd.R_types HO_761006.out BK793.out (by decide)) (fun _ hk => hk.2) (.bool t785)) (fun _ hk => hk.2) (.int .i64 t786)) (fun _ hk => hk.2) (.int .i64 t787)) (fun _ hk => hk.2) (.int .i64 t788)) (fun _ hk => hk.2) (.slice Ao98 t789.length co98)) (fun _ hk => hk.2) (.int .i64 t792)) (fun _ h_ => h_.1))))) (Kd.R_lt (by (with_reducible repeat (first | apply Kd.R_alloc | apply Kd.R_drewN | apply Kd.R_drew)); exact (Kd.R_mono (Kd.R_far (p := ⟨gb793, 5, none⟩) (Kd.R_far (p := ⟨gb793, 4, none⟩) (Kd.R_far (p := ⟨gb793, 3, none⟩) (Kd.R_far (p := ⟨gb793, 2, none⟩) (Kd.R_far (p := ⟨gb793, 1, none⟩) (Kd.R_far (p := ⟨gb793, 0, none⟩) (Kd.R_types HO_771006.out BK793.out (by decide)) (fun _ hk => hk.2) (.bool t785)) (fun _ hk => hk.2) (.int .i64 t786)) (fun _ hk => hk.2) (.int .i64 t787)) (fun _ hk => hk.2) (.int .i64 t788)) (fun _ hk => hk.2) (.slice Ao98 t789.length co98)) (fun _ hk => hk.2) (.int .i64 t792)) (fun _ h_ => h_.1))))) (Kd.R_lt (by (with_reducible repeat (first | apply Kd.R_alloc | apply Kd.R_drewN | apply Kd.R_drew)); exact (Kd.R_mono (Kd.R_far (p := ⟨gb793, 5, none⟩) (Kd.R_far (p := ⟨gb793, 4, none⟩) (Kd.R_far (p := ⟨gb793, 3, none⟩) (Kd.R_far (p := ⟨gb793, 2, none⟩) (Kd.R_far (p := ⟨gb793, 1, none⟩) (Kd.R_far (p := ⟨gb793, 0, none⟩) (Kd.R_types HO782.out BK793.out (by decide)) (fun _ hk => hk.2) (.bool t785)) (fun _ hk => hk.2) (.int .i64 t786)) (fun _ hk => hk.2) (.int .i64 t787)) (fun _ hk => hk.2) (.int .i64 t788)) (fun _ hk => hk.2) (.slice Ao98 t789.length co98)) (fun _ hk => hk.2) (.int .i64 t792)) (fun _ h_ => h_.1))))) (Kd.R_lt (by (with_reducible repeat (first | apply Kd.R_alloc | apply Kd.R_drewN | apply Kd.R_drew)); exact (Kd.R_mono (Kd.R_far (p := ⟨gb793, 5, none⟩) (Kd.R_far (p := ⟨gb793, 4, none⟩) (Kd.R_far (p := ⟨gb793, 3, none⟩) (Kd.R_far (p := ⟨gb793, 2, none⟩) (Kd.R_far (p := ⟨gb793, 1, none⟩) (Kd.R_far (p := ⟨gb793, 0, none⟩) (Kd.R_types HO791.out BK793.out (by decide)) (fun _ hk => hk.2) (.bool t785)) (fun _ hk => hk.2) (.int .i64 t786)) (fun _ hk => hk.2) (.int .i64 t787)) (fun _ hk => hk.2) (.int .i64 t788)) (fun _ hk => hk.2) (.slice Ao98 t789.length co98)) (fun _ hk => hk.2) (.int .i64 t792)) (fun _ h_ => h_.1))))) (below_size (qs HB))); replace HO_761006 := Aside0.mk (Kd.R_elder' (by (with_reducible repeat (first | apply Kd.R_alloc | apply Kd.R_drewN | apply Kd.R_drew)); exact (Kd.R_mono (Kd.R_far (p := ⟨gb793, 5, none⟩) (Kd.R_far (p := ⟨gb793, 4, none⟩) (Kd.R_far (p := ⟨gb793, 3, none⟩) (Kd.R_far (p := ⟨gb793, 2, none⟩) (Kd.R_far (p := ⟨gb793, 1, none⟩) (Kd.R_far (p := ⟨gb793, 0, none⟩) (Kd.R_types HO_761006.out BK793.out (by decide)) (fun _ hk => hk.2) (.bool t785)) (fun _ hk => hk.2) (.int .i64 t786)) (fun _ hk => hk.2) (.int .i64 t787)) (fun _ hk => hk.2) (.int .i64 t788)) (fun _ hk => hk.2) (.slice Ao98 t789.length co98)) (fun _ hk => hk.2) (.int .i64 t792)) (fun _ h_ => h_.1))) (Kd.R_base ho0) hb); replace HO_771006 := Aside0.mk (Kd.R_elder' (by (with_reducible repeat (first | apply Kd.R_alloc | apply Kd.R_drewN | apply Kd.R_drew)); exact (Kd.R_mono (Kd.R_far (p := ⟨gb793, 5, none⟩) (Kd.R_far (p := ⟨gb793, 4, none⟩) (Kd.R_far (p := ⟨gb793, 3, none⟩) (Kd.R_far (p := ⟨gb793, 2, none⟩) (Kd.R_far (p := ⟨gb793, 1, none⟩) (Kd.R_far (p := ⟨gb793, 0, none⟩) (Kd.R_types HO_771006.out BK793.out (by decide)) (fun _ hk => hk.2) (.bool t785)) (fun _ hk => hk.2) (.int .i64 t786)) (fun _ hk => hk.2) (.int .i64 t787)) (fun _ hk => hk.2) (.int .i64 t788)) (fun _ hk => hk.2) (.slice Ao98 t789.length co98)) (fun _ hk => hk.2) (.int .i64 t792)) (fun _ h_ => h_.1))) (Kd.R_base ho0) hb); replace HO782 := Aside0.mk (Kd.R_elder' (by (with_reducible repeat (first | apply Kd.R_alloc | apply Kd.R_drewN | apply Kd.R_drew)); exact (Kd.R_mono (Kd.R_far (p := ⟨gb793, 5, none⟩) (Kd.R_far (p := ⟨gb793, 4, none⟩) (Kd.R_far (p := ⟨gb793, 3, none⟩) (Kd.R_far (p := ⟨gb793, 2, none⟩) (Kd.R_far (p := ⟨gb793, 1, none⟩) (Kd.R_far (p := ⟨gb793, 0, none⟩) (Kd.R_types HO782.out BK793.out (by decide)) (fun _ hk => hk.2) (.bool t785)) (fun _ hk => hk.2) (.int .i64 t786)) (fun _ hk => hk.2) (.int .i64 t787)) (fun _ hk => hk.2) (.int .i64 t788)) (fun _ hk => hk.2) (.slice Ao98 t789.length co98)) (fun _ hk => hk.2) (.int .i64 t792)) (fun _ h_ => h_.1))) (Kd.R_base ho0) hb); replace HO791 := Aside0.mk (Kd.R_elder' (by (with_reducible repeat (first | apply Kd.R_alloc | apply Kd.R_drewN | apply Kd.R_drew)); exact (Kd.R_mono (Kd.R_far (p := ⟨gb793, 5, none⟩) (Kd.R_far (p := ⟨gb793, 4, none⟩) (Kd.R_far (p := ⟨gb793, 3, none⟩) (Kd.R_far (p := ⟨gb793, 2, none⟩) (Kd.R_far (p := ⟨gb793, 1, none⟩) (Kd.R_far (p := ⟨gb793, 0, none⟩) (Kd.R_types HO791.out BK793.out (by decide)) (fun _ hk => hk.2) (.bool t785)) (fun _ hk => hk.2) (.int .i64 t786)) (fun _ hk => hk.2) (.int .i64 t787)) (fun _ hk => hk.2) (.int .i64 t788)) (fun _ hk => hk.2) (.slice Ao98 t789.length co98)) (fun _ hk => hk.2) (.int .i64 t792)) (fun _ h_ => h_.1))) (Kd.R_base ho0) hb); replace BK749 := Aside0.mk (blk_below (g := gb749) (o := .cells #[.int .i64 t734, .int .i64 t735, .int .i64 t736] 34 (0, 0)) (qB BK749) hb); replace BK750 := Aside0.mk (blk_below (g := gb750) (o := .cells #[.int .i64 t738, .int .i64 t739, .int .i64 t740, .int .i64 t741, .int .i64 t742] 29 (0, 0)) (qB BK750) hb); replace BK760 := Aside0.mk (blk_below (g := gb760) (o := .cells #[.bool t751, .int .i64 t752, .int .i64 t753, .int .i64 t754, .int .i64 t755, .int .i64 t756, .slice Ao20 t757.length co20] 32 (0, 0)) (qB BK760) hb); replace BK770 := Aside0.mk (blk_below (g := gb770) (o := .cells #[.bool t761, .int .i64 t762, .int .i64 t763, .int .i64 t764, .int .i64 t765, .int .i64 t766, .slice Ao29 t767.length co29] 32 (0, 0)) (qB BK770) hb); replace BK783 := Aside0.mk (blk_below (g := gb783) (o := .cells #[.int .i64 t773, .int .i64 t774, .int .i64 t775] 34 (0, 0)) (qB BK783) hb); replace BK784 := Aside0.mk (blk_below (g := gb784) (o := .cells #[.int .i64 t777, .int .i64 t778, .int .i64 t779] 48 (0, 0)) (qB BK784) hb); replace BK793 := Aside0.mk (blk_below (g := gb793) (o := .cells #[.bool t785, .int .i64 t786, .int .i64 t787, .int .i64 t788, .slice Ao98 t789.length co98, .int .i64 t792] 50 (0, 0)) (by (with_reducible repeat (first | refine blk_drewN ?_ _ | refine blk_drew ?_ | refine blk_alloc ?_ _)); refine blk_put (cs := #[.bool t785, .int .i64 t786, .int .i64 t787, .int .i64 t788, .slice Ao98 t789.length co98, .int .i64 0]) ?_ 5 _ rfl; (with_reducible repeat (first | refine blk_drewN ?_ _ | refine blk_drew ?_ | refine blk_alloc ?_ _)); refine blk_put (cs := #[.bool t785, .int .i64 t786, .int .i64 t787, .int .i64 t788, .slice none 0 0, .int .i64 0]) ?_ 4 _ rfl; (with_reducible repeat (first | refine blk_drewN ?_ _ | refine blk_drew ?_ | refine blk_alloc ?_ _)); refine blk_put (cs := #[.bool t785, .int .i64 t786, .int .i64 t787, .int .i64 0, .slice none 0 0, .int .i64 0]) ?_ 3 _ rfl; (with_reducible repeat (first | refine blk_drewN ?_ _ | refine blk_drew ?_ | refine blk_alloc ?_ _)); refine blk_put (cs := #[.bool t785, .int .i64 t786, .int .i64 0, .int .i64 0, .slice none 0 0, .int .i64 0]) ?_ 2 _ rfl; (with_reducible repeat (first | refine blk_drewN ?_ _ | refine blk_drew ?_ | refine blk_alloc ?_ _)); refine blk_put (cs := #[.bool t785, .int .i64 0, .int .i64 0, .int .i64 0, .slice none 0 0, .int .i64 0]) ?_ 1 _ rfl; (with_reducible repeat (first | refine blk_drewN ?_ _ | refine blk_drew ?_ | refine blk_alloc ?_ _)); refine blk_put (cs := #[.bool false, .int .i64 0, .int .i64 0, .int .i64 0, .slice none 0 0, .int .i64 0]) ?_ 0 _ rfl; (with_reducible repeat (first | refine blk_drewN ?_ _ | refine blk_drew ?_ | refine blk_alloc ?_ _)); exact BK793.out) hb); replace HB := bst HB hb; clear hb; (try clear ho0)) | ((with_reducible refine gate_dst (N := 16) rfl ?_); (try (refine gate_guard (by rfl) ?_; dsimp only)); refine boxA #[.bool false, .int .i64 0, .int .i64 0, .int .i64 0, .slice none 0 0, .int .i64 0] 50 ?_; intro gb802 hg w102 hbox hb; replace HO_761006 := rbl HO_761006 hb; replace HO_771006 := rbl HO_771006 hb; replace HO782 := rbl HO782 hb; replace HO791 := rbl HO791 hb; replace HO800 := rbl HO800 hb; have BK802 := Aside0.mk (hbox); have GW802 := nge HB hg; have GE802 := nge HB hg; replace HB := bst HB hb; have NB749_802 := nlt BK749 hg; have NB802_749 := ngt BK749 hg; replace BK749 := bkb BK749 hb; have NB750_802 := nlt BK750 hg; have NB802_750 := ngt BK750 hg; replace BK750 := bkb BK750 hb; have NB760_802 := nlt BK760 hg; have NB802_760 := ngt BK760 hg; replace BK760 := bkb BK760 hb; have NB770_802 := nlt BK770 hg; have NB802_770 := ngt BK770 hg; replace BK770 := bkb BK770 hb; have NB783_802 := nlt BK783 hg; have NB802_783 := ngt BK783 hg; replace BK783 := bkb BK783 hb; have NB784_802 := nlt BK784 hg; have NB802_784 := ngt BK784 hg; replace BK784 := bkb BK784 hb; have NB793_802 := nlt BK793 hg; have NB802_793 := ngt BK793 hg; replace BK793 := bkb BK793 hb; clear hb hbox hg; have hnb103 := NB802_749.out; have hnc103 := NB749_802.out; have hnb104 := NB802_750.out; have hnc104 := NB750_802.out; have hnb105 := NB802_760.out; have hnc105 := NB760_802.out; have hnb106 := NB802_770.out; have hnc106 := NB770_802.out; have hnb107 := NB802_783.out; have hnc107 := NB783_802.out; have hnb108 := NB802_784.out; have hnc108 := NB784_802.out; have hnb109 := NB802_793.out; have hnc109 := NB793_802.out; have hcz110_0 := b0 BK802; have hcz110_1 := b1 BK802; have hcz110_2 := b2 BK802; have hcz110_3 := b3 BK802; have hcz110_4 := b4 BK802; have hcz110_5 := b5 BK802; have hfz110_0 := blk_frozen BK802.out 0; have hfz110_1 := blk_frozen BK802.out 1; have hfz110_2 := blk_frozen BK802.out 2; have hfz110_3 := blk_frozen BK802.out 3; have hfz110_4 := blk_frozen BK802.out 4; have hfz110_5 := blk_frozen BK802.out 5; obtain ⟨Ao111, co111, eo111⟩ := Kd.R_slice HO800.out; subst eo111))
     (try simp only [Act.put, List.setIfInBounds_toArray, List.set_cons_zero, List.set_cons_succ])
     go_cut [124] (fun v124 wc => ∃ (kq : Nat) (x124_72 : Bool), v124 = .bool x124_72 ∧ Aside0 (laws_FnEnds.j2 kq x124_72 t785 t786 t787 t788 t789 t792 t794 t795 t796 t797 t798 t801 = some true) ∧ Aside0 (kq ≤ k2) ∧ Aside0 (Kd.R k60 60 wc w.heap.size (fun k_ => some k_ ≠ ((.slice Ao29 t767.length co29) : Value).ownBlock ∧ some k_ ≠ ((.slice Ao98 t789.length co98) : Value).ownBlock ∧ some k_ ≠ ((.slice Ao111 t798.length co111) : Value).ownBlock) (.slice Ao20 t757.length co20) t757) ∧ Aside0 (Kd.R k60 60 wc w.heap.size (fun k_ => some k_ ≠ ((.slice Ao20 t757.length co20) : Value).ownBlock ∧ some k_ ≠ ((.slice Ao98 t789.length co98) : Value).ownBlock ∧ some k_ ≠ ((.slice Ao111 t798.length co111) : Value).ownBlock) (.slice Ao29 t767.length co29) t767) ∧ Aside0 (Kd.R k60 60 wc w.heap.size (fun k_ => some k_ ≠ ((.slice Ao20 t757.length co20) : Value).ownBlock ∧ some k_ ≠ ((.slice Ao29 t767.length co29) : Value).ownBlock ∧ some k_ ≠ ((.slice Ao111 t798.length co111) : Value).ownBlock) (.slice Ao98 t789.length co98) t789) ∧ Aside0 (Kd.R k60 60 wc w.heap.size (fun k_ => some k_ ≠ ((.slice Ao20 t757.length co20) : Value).ownBlock ∧ some k_ ≠ ((.slice Ao29 t767.length co29) : Value).ownBlock ∧ some k_ ≠ ((.slice Ao98 t789.length co98) : Value).ownBlock) (.slice Ao111 t798.length co111) t798) ∧ Aside0 (wc.heap[gb749]? = some (.cells #[.int .i64 t734, .int .i64 t735, .int .i64 t736] 34 (0, 0))) ∧ Aside0 (wc.heap[gb750]? = some (.cells #[.int .i64 t738, .int .i64 t739, .int .i64 t740, .int .i64 t741, .int .i64 t742] 29 (0, 0))) ∧ Aside0 (wc.heap[gb760]? = some (.cells #[.bool t751, .int .i64 t752, .int .i64 t753, .int .i64 t754, .int .i64 t755, .int .i64 t756, (.slice Ao20 t757.length co20)] 32 (0, 0))) ∧ Aside0 (wc.heap[gb770]? = some (.cells #[.bool t761, .int .i64 t762, .int .i64 t763, .int .i64 t764, .int .i64 t765, .int .i64 t766, (.slice Ao29 t767.length co29)] 32 (0, 0))) ∧ Aside0 (wc.heap[gb783]? = some (.cells #[.int .i64 t773, .int .i64 t774, .int .i64 t775] 34 (0, 0))) ∧ Aside0 (wc.heap[gb784]? = some (.cells #[.int .i64 t777, .int .i64 t778, .int .i64 t779] 48 (0, 0))) ∧ Aside0 (wc.heap[gb793]? = some (.cells #[.bool t785, .int .i64 t786, .int .i64 t787, .int .i64 t788, (.slice Ao98 t789.length co98), .int .i64 t792] 50 (0, 0))) ∧ Aside0 (wc.heap[gb802]? = some (.cells #[.bool t794, .int .i64 t795, .int .i64 t796, .int .i64 t797, (.slice Ao111 t798.length co111), .int .i64 t801] 50 (0, 0))) ∧ Aside0 (Below w.heap.size w wc))
     case first =>
      have H := HC73.out
      clear HC73
      by_cases c112 : (t785 != t794) = true
      ·rw [if_pos c112] at H
       have c112b0 : (t785 != t794) = true := c112
       (try (have c112b1 : decide (t785 = t794) = false := by simpa using c112))
       (try (have c112b2 : (t785 == t794) = false := by simpa using c112))
       (try (have c112b3 : ¬ (t785 = t794) := by simpa using c112))
       clear c112
       (first | rw [c112b0] | (simp only [i64_w, i32_w]; rw [c112b0]) | skip)
       have H' := Aside0.mk H
       clear H
       have hnb113 := NB793_749.out
       have hnc113 := NB749_793.out
       have hnb114 := NB793_750.out
       have hnc114 := NB750_793.out
       have hnb115 := NB793_760.out
       have hnc115 := NB760_793.out
       have hnb116 := NB793_770.out
       have hnc116 := NB770_793.out
       have hnb117 := NB793_783.out
       have hnc117 := NB783_793.out
       have hnb118 := NB793_784.out
       have hnc118 := NB784_793.out
       have hnb119 := NB793_802.out
       have hnc119 := NB802_793.out
       have hcz120_0 := b0 BK793
       have hcz120_1 := b1 BK793
       have hcz120_2 := b2 BK793
       have hcz120_3 := b3 BK793
       have hcz120_4 := b4 BK793
       have hcz120_5 := b5 BK793
       have hfz120_0 := blk_frozen BK793.out 0
       have hfz120_1 := blk_frozen BK793.out 1
       have hfz120_2 := blk_frozen BK793.out 2
       have hfz120_3 := blk_frozen BK793.out 3
       have hfz120_4 := blk_frozen BK793.out 4
       have hfz120_5 := blk_frozen BK793.out 5
       have hnb121 := NB802_749.out
       have hnc121 := NB749_802.out
       have hnb122 := NB802_750.out
       have hnc122 := NB750_802.out
       have hnb123 := NB802_760.out
       have hnc123 := NB760_802.out
       have hnb124 := NB802_770.out
       have hnc124 := NB770_802.out
       have hnb125 := NB802_783.out
       have hnc125 := NB783_802.out
       have hnb126 := NB802_784.out
       have hnc126 := NB784_802.out
       have hcz127_0 := b0 BK802
       have hcz127_1 := b1 BK802
       have hcz127_2 := b2 BK802
       have hcz127_3 := b3 BK802
       have hcz127_4 := b4 BK802
       have hcz127_5 := b5 BK802
       have hfz127_0 := blk_frozen BK802.out 0
       have hfz127_1 := blk_frozen BK802.out 1
       have hfz127_2 := blk_frozen BK802.out 2
       have hfz127_3 := blk_frozen BK802.out 3
       have hfz127_4 := blk_frozen BK802.out 4
       have hfz127_5 := blk_frozen BK802.out 5
       go_wp2
       repeat (go_quiet (fail); try go_wp2)
       go_meet
       case rel => exact ⟨_, (true), (by first | rfl | (simp; done) | (simp [*]; done)), H', ⟨by have := HJ5.out; have := HK2.out; first | omega | exact Nat.le_refl _⟩, ⟨by (with_reducible repeat (first | apply Kd.R_alloc | apply Kd.R_drewN | apply Kd.R_drew)); exact Kd.R_mono (Kd.R_far (p := ⟨gb802, 5, none⟩) (Kd.R_far (p := ⟨gb802, 4, none⟩) (Kd.R_far (p := ⟨gb802, 3, none⟩) (Kd.R_far (p := ⟨gb802, 2, none⟩) (Kd.R_far (p := ⟨gb802, 1, none⟩) (Kd.R_far (p := ⟨gb802, 0, none⟩) (Kd.R_types HO_761006.out BK802.out (by decide)) (fun _ hk => hk.2) (.bool t794)) (fun _ hk => hk.2) (.int .i64 t795)) (fun _ hk => hk.2) (.int .i64 t796)) (fun _ hk => hk.2) (.int .i64 t797)) (fun _ hk => hk.2) (.slice Ao111 t798.length co111)) (fun _ hk => hk.2) (.int .i64 t801)) (fun _ hk => ⟨hk.1.1.1.1, ⟨hk.1.1.2, hk.1.2⟩⟩)⟩, ⟨by (with_reducible repeat (first | apply Kd.R_alloc | apply Kd.R_drewN | apply Kd.R_drew)); exact Kd.R_mono (Kd.R_far (p := ⟨gb802, 5, none⟩) (Kd.R_far (p := ⟨gb802, 4, none⟩) (Kd.R_far (p := ⟨gb802, 3, none⟩) (Kd.R_far (p := ⟨gb802, 2, none⟩) (Kd.R_far (p := ⟨gb802, 1, none⟩) (Kd.R_far (p := ⟨gb802, 0, none⟩) (Kd.R_types HO_771006.out BK802.out (by decide)) (fun _ hk => hk.2) (.bool t794)) (fun _ hk => hk.2) (.int .i64 t795)) (fun _ hk => hk.2) (.int .i64 t796)) (fun _ hk => hk.2) (.int .i64 t797)) (fun _ hk => hk.2) (.slice Ao111 t798.length co111)) (fun _ hk => hk.2) (.int .i64 t801)) (fun _ hk => ⟨hk.1.1.1.1, ⟨hk.1.1.2, hk.1.2⟩⟩)⟩, ⟨by (with_reducible repeat (first | apply Kd.R_alloc | apply Kd.R_drewN | apply Kd.R_drew)); exact Kd.R_mono (Kd.R_far (p := ⟨gb802, 5, none⟩) (Kd.R_far (p := ⟨gb802, 4, none⟩) (Kd.R_far (p := ⟨gb802, 3, none⟩) (Kd.R_far (p := ⟨gb802, 2, none⟩) (Kd.R_far (p := ⟨gb802, 1, none⟩) (Kd.R_far (p := ⟨gb802, 0, none⟩) (Kd.R_types HO791.out BK802.out (by decide)) (fun _ hk => hk.2) (.bool t794)) (fun _ hk => hk.2) (.int .i64 t795)) (fun _ hk => hk.2) (.int .i64 t796)) (fun _ hk => hk.2) (.int .i64 t797)) (fun _ hk => hk.2) (.slice Ao111 t798.length co111)) (fun _ hk => hk.2) (.int .i64 t801)) (fun _ hk => ⟨hk.1.1.1.1.2, ⟨hk.1.1.1.2, hk.1.2⟩⟩)⟩, ⟨by (with_reducible repeat (first | apply Kd.R_alloc | apply Kd.R_drewN | apply Kd.R_drew)); exact Kd.R_mono (Kd.R_far (p := ⟨gb802, 5, none⟩) (Kd.R_far (p := ⟨gb802, 4, none⟩) (Kd.R_far (p := ⟨gb802, 3, none⟩) (Kd.R_far (p := ⟨gb802, 2, none⟩) (Kd.R_far (p := ⟨gb802, 1, none⟩) (Kd.R_far (p := ⟨gb802, 0, none⟩) (Kd.R_types HO800.out BK802.out (by decide)) (fun _ hk => hk.2) (.bool t794)) (fun _ hk => hk.2) (.int .i64 t795)) (fun _ hk => hk.2) (.int .i64 t796)) (fun _ hk => hk.2) (.int .i64 t797)) (fun _ hk => hk.2) (.slice Ao111 t798.length co111)) (fun _ hk => hk.2) (.int .i64 t801)) (fun _ hk => ⟨hk.1.1.1.1.2, ⟨hk.1.1.1.2, hk.1.2⟩⟩)⟩, ⟨qB BK749⟩, ⟨qB BK750⟩, ⟨qB BK760⟩, ⟨qB BK770⟩, ⟨qB BK783⟩, ⟨qB BK784⟩, ⟨qB BK793⟩, ⟨by (with_reducible repeat (first | refine blk_drewN ?_ _ | refine blk_drew ?_ | refine blk_alloc ?_ _)); refine blk_put (cs := #[.bool t794, .int .i64 t795, .int .i64 t796, .int .i64 t797, .slice Ao111 t798.length co111, .int .i64 0]) ?_ 5 _ rfl; (with_reducible repeat (first | refine blk_drewN ?_ _ | refine blk_drew ?_ | refine blk_alloc ?_ _)); refine blk_put (cs := #[.bool t794, .int .i64 t795, .int .i64 t796, .int .i64 t797, .slice none 0 0, .int .i64 0]) ?_ 4 _ rfl; (with_reducible repeat (first | refine blk_drewN ?_ _ | refine blk_drew ?_ | refine blk_alloc ?_ _)); refine blk_put (cs := #[.bool t794, .int .i64 t795, .int .i64 t796, .int .i64 0, .slice none 0 0, .int .i64 0]) ?_ 3 _ rfl; (with_reducible repeat (first | refine blk_drewN ?_ _ | refine blk_drew ?_ | refine blk_alloc ?_ _)); refine blk_put (cs := #[.bool t794, .int .i64 t795, .int .i64 0, .int .i64 0, .slice none 0 0, .int .i64 0]) ?_ 2 _ rfl; (with_reducible repeat (first | refine blk_drewN ?_ _ | refine blk_drew ?_ | refine blk_alloc ?_ _)); refine blk_put (cs := #[.bool t794, .int .i64 0, .int .i64 0, .int .i64 0, .slice none 0 0, .int .i64 0]) ?_ 1 _ rfl; (with_reducible repeat (first | refine blk_drewN ?_ _ | refine blk_drew ?_ | refine blk_alloc ?_ _)); refine blk_put (cs := #[.bool false, .int .i64 0, .int .i64 0, .int .i64 0, .slice none 0 0, .int .i64 0]) ?_ 0 _ rfl; (with_reducible repeat (first | refine blk_drewN ?_ _ | refine blk_drew ?_ | refine blk_alloc ?_ _)); exact BK802.out⟩, ⟨(qs HB)⟩⟩
      rw [if_neg c112] at H
      have c112b0 : (t785 != t794) = false := by simpa using c112
      (try (have c112b1 : decide (t785 = t794) = true := by simpa using c112))
      (try (have c112b2 : (t785 == t794) = true := by simpa using c112))
      clear c112
      (first | rw [c112b0] | (simp only [i64_w, i32_w]; rw [c112b0]) | skip)
      by_cases c128 : (!(t786 == t795) || (!(t787 == t796) || (!(t788 == t797)))) = true
      ·rw [if_pos c128] at H
       have c128b0 : (!(t786 == t795) || (!(t787 == t796) || (!(t788 == t797)))) = true := c128
       clear c128
       have H' := Aside0.mk H
       clear H
       have hnb129 := NB793_749.out
       have hnc129 := NB749_793.out
       have hnb130 := NB793_750.out
       have hnc130 := NB750_793.out
       have hnb131 := NB793_760.out
       have hnc131 := NB760_793.out
       have hnb132 := NB793_770.out
       have hnc132 := NB770_793.out
       have hnb133 := NB793_783.out
       have hnc133 := NB783_793.out
       have hnb134 := NB793_784.out
       have hnc134 := NB784_793.out
       have hnb135 := NB793_802.out
       have hnc135 := NB802_793.out
       have hcz136_0 := b0 BK793
       have hcz136_1 := b1 BK793
       have hcz136_2 := b2 BK793
       have hcz136_3 := b3 BK793
       have hcz136_4 := b4 BK793
       have hcz136_5 := b5 BK793
       have hfz136_0 := blk_frozen BK793.out 0
       have hfz136_1 := blk_frozen BK793.out 1
       have hfz136_2 := blk_frozen BK793.out 2
       have hfz136_3 := blk_frozen BK793.out 3
       have hfz136_4 := blk_frozen BK793.out 4
       have hfz136_5 := blk_frozen BK793.out 5
       have hnb137 := NB802_749.out
       have hnc137 := NB749_802.out
       have hnb138 := NB802_750.out
       have hnc138 := NB750_802.out
       have hnb139 := NB802_760.out
       have hnc139 := NB760_802.out
       have hnb140 := NB802_770.out
       have hnc140 := NB770_802.out
       have hnb141 := NB802_783.out
       have hnc141 := NB783_802.out
       have hnb142 := NB802_784.out
       have hnc142 := NB784_802.out
       have hcz143_0 := b0 BK802
       have hcz143_1 := b1 BK802
       have hcz143_2 := b2 BK802
       have hcz143_3 := b3 BK802
       have hcz143_4 := b4 BK802
       have hcz143_5 := b5 BK802
       have hfz143_0 := blk_frozen BK802.out 0
       have hfz143_1 := blk_frozen BK802.out 1
       have hfz143_2 := blk_frozen BK802.out 2
       have hfz143_3 := blk_frozen BK802.out 3
       have hfz143_4 := blk_frozen BK802.out 4
       have hfz143_5 := blk_frozen BK802.out 5
       go_wp2
       repeat (go_quiet (fail); try go_wp2)
       go_meet
       case rel => exact ⟨_, (true), (by first | rfl | (simp; done) | (simp [*]; done)), H', ⟨by have := HJ5.out; have := HK2.out; first | omega | exact Nat.le_refl _⟩, ⟨by (with_reducible repeat (first | apply Kd.R_alloc | apply Kd.R_drewN | apply Kd.R_drew)); exact Kd.R_mono (Kd.R_far (p := ⟨gb802, 5, none⟩) (Kd.R_far (p := ⟨gb802, 4, none⟩) (Kd.R_far (p := ⟨gb802, 3, none⟩) (Kd.R_far (p := ⟨gb802, 2, none⟩) (Kd.R_far (p := ⟨gb802, 1, none⟩) (Kd.R_far (p := ⟨gb802, 0, none⟩) (Kd.R_types HO_761006.out BK802.out (by decide)) (fun _ hk => hk.2) (.bool t794)) (fun _ hk => hk.2) (.int .i64 t795)) (fun _ hk => hk.2) (.int .i64 t796)) (fun _ hk => hk.2) (.int .i64 t797)) (fun _ hk => hk.2) (.slice Ao111 t798.length co111)) (fun _ hk => hk.2) (.int .i64 t801)) (fun _ hk => ⟨hk.1.1.1.1, ⟨hk.1.1.2, hk.1.2⟩⟩)⟩, ⟨by (with_reducible repeat (first | apply Kd.R_alloc | apply Kd.R_drewN | apply Kd.R_drew)); exact Kd.R_mono (Kd.R_far (p := ⟨gb802, 5, none⟩) (Kd.R_far (p := ⟨gb802, 4, none⟩) (Kd.R_far (p := ⟨gb802, 3, none⟩) (Kd.R_far (p := ⟨gb802, 2, none⟩) (Kd.R_far (p := ⟨gb802, 1, none⟩) (Kd.R_far (p := ⟨gb802, 0, none⟩) (Kd.R_types HO_771006.out BK802.out (by decide)) (fun _ hk => hk.2) (.bool t794)) (fun _ hk => hk.2) (.int .i64 t795)) (fun _ hk => hk.2) (.int .i64 t796)) (fun _ hk => hk.2) (.int .i64 t797)) (fun _ hk => hk.2) (.slice Ao111 t798.length co111)) (fun _ hk => hk.2) (.int .i64 t801)) (fun _ hk => ⟨hk.1.1.1.1, ⟨hk.1.1.2, hk.1.2⟩⟩)⟩, ⟨by (with_reducible repeat (first | apply Kd.R_alloc | apply Kd.R_drewN | apply Kd.R_drew)); exact Kd.R_mono (Kd.R_far (p := ⟨gb802, 5, none⟩) (Kd.R_far (p := ⟨gb802, 4, none⟩) (Kd.R_far (p := ⟨gb802, 3, none⟩) (Kd.R_far (p := ⟨gb802, 2, none⟩) (Kd.R_far (p := ⟨gb802, 1, none⟩) (Kd.R_far (p := ⟨gb802, 0, none⟩) (Kd.R_types HO791.out BK802.out (by decide)) (fun _ hk => hk.2) (.bool t794)) (fun _ hk => hk.2) (.int .i64 t795)) (fun _ hk => hk.2) (.int .i64 t796)) (fun _ hk => hk.2) (.int .i64 t797)) (fun _ hk => hk.2) (.slice Ao111 t798.length co111)) (fun _ hk => hk.2) (.int .i64 t801)) (fun _ hk => ⟨hk.1.1.1.1.2, ⟨hk.1.1.1.2, hk.1.2⟩⟩)⟩, ⟨by (with_reducible repeat (first | apply Kd.R_alloc | apply Kd.R_drewN | apply Kd.R_drew)); exact Kd.R_mono (Kd.R_far (p := ⟨gb802, 5, none⟩) (Kd.R_far (p := ⟨gb802, 4, none⟩) (Kd.R_far (p := ⟨gb802, 3, none⟩) (Kd.R_far (p := ⟨gb802, 2, none⟩) (Kd.R_far (p := ⟨gb802, 1, none⟩) (Kd.R_far (p := ⟨gb802, 0, none⟩) (Kd.R_types HO800.out BK802.out (by decide)) (fun _ hk => hk.2) (.bool t794)) (fun _ hk => hk.2) (.int .i64 t795)) (fun _ hk => hk.2) (.int .i64 t796)) (fun _ hk => hk.2) (.int .i64 t797)) (fun _ hk => hk.2) (.slice Ao111 t798.length co111)) (fun _ hk => hk.2) (.int .i64 t801)) (fun _ hk => ⟨hk.1.1.1.1.2, ⟨hk.1.1.1.2, hk.1.2⟩⟩)⟩, ⟨qB BK749⟩, ⟨qB BK750⟩, ⟨qB BK760⟩, ⟨qB BK770⟩, ⟨qB BK783⟩, ⟨qB BK784⟩, ⟨qB BK793⟩, ⟨by (with_reducible repeat (first | refine blk_drewN ?_ _ | refine blk_drew ?_ | refine blk_alloc ?_ _)); refine blk_put (cs := #[.bool t794, .int .i64 t795, .int .i64 t796, .int .i64 t797, .slice Ao111 t798.length co111, .int .i64 0]) ?_ 5 _ rfl; (with_reducible repeat (first | refine blk_drewN ?_ _ | refine blk_drew ?_ | refine blk_alloc ?_ _)); refine blk_put (cs := #[.bool t794, .int .i64 t795, .int .i64 t796, .int .i64 t797, .slice none 0 0, .int .i64 0]) ?_ 4 _ rfl; (with_reducible repeat (first | refine blk_drewN ?_ _ | refine blk_drew ?_ | refine blk_alloc ?_ _)); refine blk_put (cs := #[.bool t794, .int .i64 t795, .int .i64 t796, .int .i64 0, .slice none 0 0, .int .i64 0]) ?_ 3 _ rfl; (with_reducible repeat (first | refine blk_drewN ?_ _ | refine blk_drew ?_ | refine blk_alloc ?_ _)); refine blk_put (cs := #[.bool t794, .int .i64 t795, .int .i64 0, .int .i64 0, .slice none 0 0, .int .i64 0]) ?_ 2 _ rfl; (with_reducible repeat (first | refine blk_drewN ?_ _ | refine blk_drew ?_ | refine blk_alloc ?_ _)); refine blk_put (cs := #[.bool t794, .int .i64 0, .int .i64 0, .int .i64 0, .slice none 0 0, .int .i64 0]) ?_ 1 _ rfl; (with_reducible repeat (first | refine blk_drewN ?_ _ | refine blk_drew ?_ | refine blk_alloc ?_ _)); refine blk_put (cs := #[.bool false, .int .i64 0, .int .i64 0, .int .i64 0, .slice none 0 0, .int .i64 0]) ?_ 0 _ rfl; (with_reducible repeat (first | refine blk_drewN ?_ _ | refine blk_drew ?_ | refine blk_alloc ?_ _)); exact BK802.out⟩, ⟨(qs HB)⟩⟩
      rw [if_neg c128] at H
      have c128b0 : (!(t786 == t795) || (!(t787 == t796) || (!(t788 == t797)))) = false := by simpa using c128
      clear c128
      by_cases c144 : t792 = t801
      ·rw [if_pos c144] at H
       have c144b0 : (t792 == t801) = true := beq_iff_eq.mpr c144
       have c144b1 : (t792 != t801) = false := bne_eq_false_iff_eq.mpr c144
       clear c144
       have H' := Aside0.mk H
       clear H
       have hnb145 := NB793_749.out
       have hnc145 := NB749_793.out
       have hnb146 := NB793_750.out
       have hnc146 := NB750_793.out
       have hnb147 := NB793_760.out
       have hnc147 := NB760_793.out
       have hnb148 := NB793_770.out
       have hnc148 := NB770_793.out
       have hnb149 := NB793_783.out
       have hnc149 := NB783_793.out
       have hnb150 := NB793_784.out
       have hnc150 := NB784_793.out
       have hnb151 := NB793_802.out
       have hnc151 := NB802_793.out
       have hcz152_0 := b0 BK793
       have hcz152_1 := b1 BK793
       have hcz152_2 := b2 BK793
       have hcz152_3 := b3 BK793
       have hcz152_4 := b4 BK793
       have hcz152_5 := b5 BK793
       have hfz152_0 := blk_frozen BK793.out 0
       have hfz152_1 := blk_frozen BK793.out 1
       have hfz152_2 := blk_frozen BK793.out 2
       have hfz152_3 := blk_frozen BK793.out 3
       have hfz152_4 := blk_frozen BK793.out 4
       have hfz152_5 := blk_frozen BK793.out 5
       have hnb153 := NB802_749.out
       have hnc153 := NB749_802.out
       have hnb154 := NB802_750.out
       have hnc154 := NB750_802.out
       have hnb155 := NB802_760.out
       have hnc155 := NB760_802.out
       have hnb156 := NB802_770.out
       have hnc156 := NB770_802.out
       have hnb157 := NB802_783.out
       have hnc157 := NB783_802.out
       have hnb158 := NB802_784.out
       have hnc158 := NB784_802.out
       have hcz159_0 := b0 BK802
       have hcz159_1 := b1 BK802
       have hcz159_2 := b2 BK802
       have hcz159_3 := b3 BK802
       have hcz159_4 := b4 BK802
       have hcz159_5 := b5 BK802
       have hfz159_0 := blk_frozen BK802.out 0
       have hfz159_1 := blk_frozen BK802.out 1
       have hfz159_2 := blk_frozen BK802.out 2
       have hfz159_3 := blk_frozen BK802.out 3
       have hfz159_4 := blk_frozen BK802.out 4
       have hfz159_5 := blk_frozen BK802.out 5
       go_wp2
       repeat (go_quiet (fail); try go_wp2)
       go_meet
       case rel => exact ⟨_, (((t789.length : Int) != (t798.length : Int))), (by first | rfl | (simp; done) | (simp [*]; done)), H', ⟨by have := HJ5.out; have := HK2.out; first | omega | exact Nat.le_refl _⟩, ⟨by (with_reducible repeat (first | apply Kd.R_alloc | apply Kd.R_drewN | apply Kd.R_drew)); exact Kd.R_mono (Kd.R_far (p := ⟨gb802, 5, none⟩) (Kd.R_far (p := ⟨gb802, 4, none⟩) (Kd.R_far (p := ⟨gb802, 3, none⟩) (Kd.R_far (p := ⟨gb802, 2, none⟩) (Kd.R_far (p := ⟨gb802, 1, none⟩) (Kd.R_far (p := ⟨gb802, 0, none⟩) (Kd.R_types HO_761006.out BK802.out (by decide)) (fun _ hk => hk.2) (.bool t794)) (fun _ hk => hk.2) (.int .i64 t795)) (fun _ hk => hk.2) (.int .i64 t796)) (fun _ hk => hk.2) (.int .i64 t797)) (fun _ hk => hk.2) (.slice Ao111 t798.length co111)) (fun _ hk => hk.2) (.int .i64 t801)) (fun _ hk => ⟨hk.1.1.1.1, ⟨hk.1.1.2, hk.1.2⟩⟩)⟩, ⟨by (with_reducible repeat (first | apply Kd.R_alloc | apply Kd.R_drewN | apply Kd.R_drew)); exact Kd.R_mono (Kd.R_far (p := ⟨gb802, 5, none⟩) (Kd.R_far (p := ⟨gb802, 4, none⟩) (Kd.R_far (p := ⟨gb802, 3, none⟩) (Kd.R_far (p := ⟨gb802, 2, none⟩) (Kd.R_far (p := ⟨gb802, 1, none⟩) (Kd.R_far (p := ⟨gb802, 0, none⟩) (Kd.R_types HO_771006.out BK802.out (by decide)) (fun _ hk => hk.2) (.bool t794)) (fun _ hk => hk.2) (.int .i64 t795)) (fun _ hk => hk.2) (.int .i64 t796)) (fun _ hk => hk.2) (.int .i64 t797)) (fun _ hk => hk.2) (.slice Ao111 t798.length co111)) (fun _ hk => hk.2) (.int .i64 t801)) (fun _ hk => ⟨hk.1.1.1.1, ⟨hk.1.1.2, hk.1.2⟩⟩)⟩, ⟨by (with_reducible repeat (first | apply Kd.R_alloc | apply Kd.R_drewN | apply Kd.R_drew)); exact Kd.R_mono (Kd.R_far (p := ⟨gb802, 5, none⟩) (Kd.R_far (p := ⟨gb802, 4, none⟩) (Kd.R_far (p := ⟨gb802, 3, none⟩) (Kd.R_far (p := ⟨gb802, 2, none⟩) (Kd.R_far (p := ⟨gb802, 1, none⟩) (Kd.R_far (p := ⟨gb802, 0, none⟩) (Kd.R_types HO791.out BK802.out (by decide)) (fun _ hk => hk.2) (.bool t794)) (fun _ hk => hk.2) (.int .i64 t795)) (fun _ hk => hk.2) (.int .i64 t796)) (fun _ hk => hk.2) (.int .i64 t797)) (fun _ hk => hk.2) (.slice Ao111 t798.length co111)) (fun _ hk => hk.2) (.int .i64 t801)) (fun _ hk => ⟨hk.1.1.1.1.2, ⟨hk.1.1.1.2, hk.1.2⟩⟩)⟩, ⟨by (with_reducible repeat (first | apply Kd.R_alloc | apply Kd.R_drewN | apply Kd.R_drew)); exact Kd.R_mono (Kd.R_far (p := ⟨gb802, 5, none⟩) (Kd.R_far (p := ⟨gb802, 4, none⟩) (Kd.R_far (p := ⟨gb802, 3, none⟩) (Kd.R_far (p := ⟨gb802, 2, none⟩) (Kd.R_far (p := ⟨gb802, 1, none⟩) (Kd.R_far (p := ⟨gb802, 0, none⟩) (Kd.R_types HO800.out BK802.out (by decide)) (fun _ hk => hk.2) (.bool t794)) (fun _ hk => hk.2) (.int .i64 t795)) (fun _ hk => hk.2) (.int .i64 t796)) (fun _ hk => hk.2) (.int .i64 t797)) (fun _ hk => hk.2) (.slice Ao111 t798.length co111)) (fun _ hk => hk.2) (.int .i64 t801)) (fun _ hk => ⟨hk.1.1.1.1.2, ⟨hk.1.1.1.2, hk.1.2⟩⟩)⟩, ⟨qB BK749⟩, ⟨qB BK750⟩, ⟨qB BK760⟩, ⟨qB BK770⟩, ⟨qB BK783⟩, ⟨qB BK784⟩, ⟨qB BK793⟩, ⟨by (with_reducible repeat (first | refine blk_drewN ?_ _ | refine blk_drew ?_ | refine blk_alloc ?_ _)); refine blk_put (cs := #[.bool t794, .int .i64 t795, .int .i64 t796, .int .i64 t797, .slice Ao111 t798.length co111, .int .i64 0]) ?_ 5 _ rfl; (with_reducible repeat (first | refine blk_drewN ?_ _ | refine blk_drew ?_ | refine blk_alloc ?_ _)); refine blk_put (cs := #[.bool t794, .int .i64 t795, .int .i64 t796, .int .i64 t797, .slice none 0 0, .int .i64 0]) ?_ 4 _ rfl; (with_reducible repeat (first | refine blk_drewN ?_ _ | refine blk_drew ?_ | refine blk_alloc ?_ _)); refine blk_put (cs := #[.bool t794, .int .i64 t795, .int .i64 t796, .int .i64 0, .slice none 0 0, .int .i64 0]) ?_ 3 _ rfl; (with_reducible repeat (first | refine blk_drewN ?_ _ | refine blk_drew ?_ | refine blk_alloc ?_ _)); refine blk_put (cs := #[.bool t794, .int .i64 t795, .int .i64 0, .int .i64 0, .slice none 0 0, .int .i64 0]) ?_ 2 _ rfl; (with_reducible repeat (first | refine blk_drewN ?_ _ | refine blk_drew ?_ | refine blk_alloc ?_ _)); refine blk_put (cs := #[.bool t794, .int .i64 0, .int .i64 0, .int .i64 0, .slice none 0 0, .int .i64 0]) ?_ 1 _ rfl; (with_reducible repeat (first | refine blk_drewN ?_ _ | refine blk_drew ?_ | refine blk_alloc ?_ _)); refine blk_put (cs := #[.bool false, .int .i64 0, .int .i64 0, .int .i64 0, .slice none 0 0, .int .i64 0]) ?_ 0 _ rfl; (with_reducible repeat (first | refine blk_drewN ?_ _ | refine blk_drew ?_ | refine blk_alloc ?_ _)); exact BK802.out⟩, ⟨(qs HB)⟩⟩
      rw [if_neg c144] at H
      have c144b0 : (t792 == t801) = false := beq_eq_false_iff_ne.mpr c144
      have c144b1 : (t792 != t801) = true := bne_iff_ne.mpr c144
      have H' := Aside0.mk H
      clear H
      have hnb160 := NB793_749.out
      have hnc160 := NB749_793.out
      have hnb161 := NB793_750.out
      have hnc161 := NB750_793.out
      have hnb162 := NB793_760.out
      have hnc162 := NB760_793.out
      have hnb163 := NB793_770.out
      have hnc163 := NB770_793.out
      have hnb164 := NB793_783.out
      have hnc164 := NB783_793.out
      have hnb165 := NB793_784.out
      have hnc165 := NB784_793.out
      have hnb166 := NB793_802.out
      have hnc166 := NB802_793.out
      have hcz167_0 := b0 BK793
      have hcz167_1 := b1 BK793
      have hcz167_2 := b2 BK793
      have hcz167_3 := b3 BK793
      have hcz167_4 := b4 BK793
      have hcz167_5 := b5 BK793
      have hfz167_0 := blk_frozen BK793.out 0
      have hfz167_1 := blk_frozen BK793.out 1
      have hfz167_2 := blk_frozen BK793.out 2
      have hfz167_3 := blk_frozen BK793.out 3
      have hfz167_4 := blk_frozen BK793.out 4
      have hfz167_5 := blk_frozen BK793.out 5
      have hnb168 := NB802_749.out
      have hnc168 := NB749_802.out
      have hnb169 := NB802_750.out
      have hnc169 := NB750_802.out
      have hnb170 := NB802_760.out
      have hnc170 := NB760_802.out
      have hnb171 := NB802_770.out
      have hnc171 := NB770_802.out
      have hnb172 := NB802_783.out
      have hnc172 := NB783_802.out
      have hnb173 := NB802_784.out
      have hnc173 := NB784_802.out
      have hcz174_0 := b0 BK802
      have hcz174_1 := b1 BK802
      have hcz174_2 := b2 BK802
      have hcz174_3 := b3 BK802
      have hcz174_4 := b4 BK802
      have hcz174_5 := b5 BK802
      have hfz174_0 := blk_frozen BK802.out 0
      have hfz174_1 := blk_frozen BK802.out 1
      have hfz174_2 := blk_frozen BK802.out 2
      have hfz174_3 := blk_frozen BK802.out 3
      have hfz174_4 := blk_frozen BK802.out 4
      have hfz174_5 := blk_frozen BK802.out 5
      go_wp2
      repeat (go_quiet (fail); try go_wp2)
      go_meet
      case rel => exact ⟨_, (true), (by first | rfl | (simp; done) | (simp [*]; done)), H', ⟨by have := HJ5.out; have := HK2.out; first | omega | exact Nat.le_refl _⟩, ⟨by (with_reducible repeat (first | apply Kd.R_alloc | apply Kd.R_drewN | apply Kd.R_drew)); exact Kd.R_mono (Kd.R_far (p := ⟨gb802, 5, none⟩) (Kd.R_far (p := ⟨gb802, 4, none⟩) (Kd.R_far (p := ⟨gb802, 3, none⟩) (Kd.R_far (p := ⟨gb802, 2, none⟩) (Kd.R_far (p := ⟨gb802, 1, none⟩) (Kd.R_far (p := ⟨gb802, 0, none⟩) (Kd.R_types HO_761006.out BK802.out (by decide)) (fun _ hk => hk.2) (.bool t794)) (fun _ hk => hk.2) (.int .i64 t795)) (fun _ hk => hk.2) (.int .i64 t796)) (fun _ hk => hk.2) (.int .i64 t797)) (fun _ hk => hk.2) (.slice Ao111 t798.length co111)) (fun _ hk => hk.2) (.int .i64 t801)) (fun _ hk => ⟨hk.1.1.1.1, ⟨hk.1.1.2, hk.1.2⟩⟩)⟩, ⟨by (with_reducible repeat (first | apply Kd.R_alloc | apply Kd.R_drewN | apply Kd.R_drew)); exact Kd.R_mono (Kd.R_far (p := ⟨gb802, 5, none⟩) (Kd.R_far (p := ⟨gb802, 4, none⟩) (Kd.R_far (p := ⟨gb802, 3, none⟩) (Kd.R_far (p := ⟨gb802, 2, none⟩) (Kd.R_far (p := ⟨gb802, 1, none⟩) (Kd.R_far (p := ⟨gb802, 0, none⟩) (Kd.R_types HO_771006.out BK802.out (by decide)) (fun _ hk => hk.2) (.bool t794)) (fun _ hk => hk.2) (.int .i64 t795)) (fun _ hk => hk.2) (.int .i64 t796)) (fun _ hk => hk.2) (.int .i64 t797)) (fun _ hk => hk.2) (.slice Ao111 t798.length co111)) (fun _ hk => hk.2) (.int .i64 t801)) (fun _ hk => ⟨hk.1.1.1.1, ⟨hk.1.1.2, hk.1.2⟩⟩)⟩, ⟨by (with_reducible repeat (first | apply Kd.R_alloc | apply Kd.R_drewN | apply Kd.R_drew)); exact Kd.R_mono (Kd.R_far (p := ⟨gb802, 5, none⟩) (Kd.R_far (p := ⟨gb802, 4, none⟩) (Kd.R_far (p := ⟨gb802, 3, none⟩) (Kd.R_far (p := ⟨gb802, 2, none⟩) (Kd.R_far (p := ⟨gb802, 1, none⟩) (Kd.R_far (p := ⟨gb802, 0, none⟩) (Kd.R_types HO791.out BK802.out (by decide)) (fun _ hk => hk.2) (.bool t794)) (fun _ hk => hk.2) (.int .i64 t795)) (fun _ hk => hk.2) (.int .i64 t796)) (fun _ hk => hk.2) (.int .i64 t797)) (fun _ hk => hk.2) (.slice Ao111 t798.length co111)) (fun _ hk => hk.2) (.int .i64 t801)) (fun _ hk => ⟨hk.1.1.1.1.2, ⟨hk.1.1.1.2, hk.1.2⟩⟩)⟩, ⟨by (with_reducible repeat (first | apply Kd.R_alloc | apply Kd.R_drewN | apply Kd.R_drew)); exact Kd.R_mono (Kd.R_far (p := ⟨gb802, 5, none⟩) (Kd.R_far (p := ⟨gb802, 4, none⟩) (Kd.R_far (p := ⟨gb802, 3, none⟩) (Kd.R_far (p := ⟨gb802, 2, none⟩) (Kd.R_far (p := ⟨gb802, 1, none⟩) (Kd.R_far (p := ⟨gb802, 0, none⟩) (Kd.R_types HO800.out BK802.out (by decide)) (fun _ hk => hk.2) (.bool t794)) (fun _ hk => hk.2) (.int .i64 t795)) (fun _ hk => hk.2) (.int .i64 t796)) (fun _ hk => hk.2) (.int .i64 t797)) (fun _ hk => hk.2) (.slice Ao111 t798.length co111)) (fun _ hk => hk.2) (.int .i64 t801)) (fun _ hk => ⟨hk.1.1.1.1.2, ⟨hk.1.1.1.2, hk.1.2⟩⟩)⟩, ⟨qB BK749⟩, ⟨qB BK750⟩, ⟨qB BK760⟩, ⟨qB BK770⟩, ⟨qB BK783⟩, ⟨qB BK784⟩, ⟨qB BK793⟩, ⟨by (with_reducible repeat (first | refine blk_drewN ?_ _ | refine blk_drew ?_ | refine blk_alloc ?_ _)); refine blk_put (cs := #[.bool t794, .int .i64 t795, .int .i64 t796, .int .i64 t797, .slice Ao111 t798.length co111, .int .i64 0]) ?_ 5 _ rfl; (with_reducible repeat (first | refine blk_drewN ?_ _ | refine blk_drew ?_ | refine blk_alloc ?_ _)); refine blk_put (cs := #[.bool t794, .int .i64 t795, .int .i64 t796, .int .i64 t797, .slice none 0 0, .int .i64 0]) ?_ 4 _ rfl; (with_reducible repeat (first | refine blk_drewN ?_ _ | refine blk_drew ?_ | refine blk_alloc ?_ _)); refine blk_put (cs := #[.bool t794, .int .i64 t795, .int .i64 t796, .int .i64 0, .slice none 0 0, .int .i64 0]) ?_ 3 _ rfl; (with_reducible repeat (first | refine blk_drewN ?_ _ | refine blk_drew ?_ | refine blk_alloc ?_ _)); refine blk_put (cs := #[.bool t794, .int .i64 t795, .int .i64 0, .int .i64 0, .slice none 0 0, .int .i64 0]) ?_ 2 _ rfl; (with_reducible repeat (first | refine blk_drewN ?_ _ | refine blk_drew ?_ | refine blk_alloc ?_ _)); refine blk_put (cs := #[.bool t794, .int .i64 0, .int .i64 0, .int .i64 0, .slice none 0 0, .int .i64 0]) ?_ 1 _ rfl; (with_reducible repeat (first | refine blk_drewN ?_ _ | refine blk_drew ?_ | refine blk_alloc ?_ _)); refine blk_put (cs := #[.bool false, .int .i64 0, .int .i64 0, .int .i64 0, .slice none 0 0, .int .i64 0]) ?_ 0 _ rfl; (with_reducible repeat (first | refine blk_drewN ?_ _ | refine blk_drew ?_ | refine blk_alloc ?_ _)); exact BK802.out⟩, ⟨(qs HB)⟩⟩
     case rest =>
      clear HC73
      try clear c1; try clear c2; try clear c2b0; try clear c2b1; try clear p2; try clear c3; try clear c4; try clear c5; try clear c6; try clear p6; try clear c7; try clear p7; try clear q7; try clear hx7; try clear c8; try clear c9; try clear c10; try clear c11; try clear c12; try clear c13; try clear c14; try clear c15; try clear c16; try clear c17; try clear c18; try clear c25; try clear c26; try clear c27; try clear c30; try clear c30b0; try clear c30b1; try clear c30b2; try clear c31; try clear c32; try clear c33; try clear c35; try clear c36; try clear c38; try clear c38b0; try clear c39; try clear c40; try clear c41; try clear c43; try clear c44; try clear c46; try clear c47; try clear c48; try clear c50; try clear c51; try clear c53; try clear c54; try clear c55; try clear c56; try clear c58; try clear c58b0; try clear c59; try clear c59b0; try clear c60; try clear c60b0; try clear c61; try clear c61b0; try clear c62; try clear c62b0; try clear c63; try clear c64; try clear p64; try clear c65; try clear c67; try clear c68; try clear c77; try clear p77; try clear q77; try clear hx77; try clear c78; try clear c79; try clear c80; try clear c81; try clear c83; try clear c84; try clear c85; try clear c86; try clear c91; try clear c92; try clear c93; try clear c94; try clear c95; try clear c96; try clear c103; try clear c104; try clear c105; try clear c106; try clear c107; try clear c108; try clear c109; try clear c112; try clear c112b0; try clear c112b1; try clear c112b2; try clear c113; try clear c114; try clear c115; try clear c116; try clear c117; try clear c118; try clear c119; try clear c121; try clear c122; try clear c123; try clear c124; try clear c125; try clear c126; try clear c128; try clear c128b0; try clear c129; try clear c130; try clear c131; try clear c132; try clear c133; try clear c134; try clear c135; try clear c137; try clear c138; try clear c139; try clear c140; try clear c141; try clear c142; try clear c144; try clear c144b0; try clear c144b1; try clear c145; try clear c146; try clear c147; try clear c148; try clear c149; try clear c150; try clear c151; try clear c153; try clear c154; try clear c155; try clear c156; try clear c157; try clear c158; try clear c160; try clear c161; try clear c162; try clear c163; try clear c164; try clear c165; try clear c166; try clear c168; try clear c169; try clear c170; try clear c171; try clear c172; try clear c173; try clear hcz100_0; try clear hcz100_1; try clear hcz100_2; try clear hcz110_0; try clear hcz110_1; try clear hcz110_2; try clear hcz110_3; try clear hcz110_4; try clear hcz110_5; try clear hcz11_0; try clear hcz11_1; try clear hcz11_2; try clear hcz120_0; try clear hcz120_1; try clear hcz120_2; try clear hcz120_3; try clear hcz120_4; try clear hcz120_5; try clear hcz127_0; try clear hcz127_1; try clear hcz127_2; try clear hcz127_3; try clear hcz127_4; try clear hcz127_5; try clear hcz12_0; try clear hcz12_1; try clear hcz12_2; try clear hcz12_3; try clear hcz12_4; try clear hcz136_0; try clear hcz136_1; try clear hcz136_2; try clear hcz136_3; try clear hcz136_4; try clear hcz136_5; try clear hcz143_0; try clear hcz143_1; try clear hcz143_2; try clear hcz143_3; try clear hcz143_4; try clear hcz143_5; try clear hcz152_0; try clear hcz152_1; try clear hcz152_2; try clear hcz152_3; try clear hcz152_4; try clear hcz152_5; try clear hcz159_0; try clear hcz159_1; try clear hcz159_2; try clear hcz159_3; try clear hcz159_4; try clear hcz159_5; try clear hcz167_0; try clear hcz167_1; try clear hcz167_2; try clear hcz167_3; try clear hcz167_4; try clear hcz167_5; try clear hcz174_0; try clear hcz174_1; try clear hcz174_2; try clear hcz174_3; try clear hcz174_4; try clear hcz174_5; try clear hcz19_0; try clear hcz19_1; try clear hcz19_2; try clear hcz19_3; try clear hcz19_4; try clear hcz19_5; try clear hcz19_6; try clear hcz21_0; try clear hcz21_1; try clear hcz21_2; try clear hcz22_0; try clear hcz22_1; try clear hcz22_2; try clear hcz22_3; try clear hcz22_4; try clear hcz28_0; try clear hcz28_1; try clear hcz28_2; try clear hcz28_3; try clear hcz28_4; try clear hcz28_5; try clear hcz28_6; try clear hcz34_0; try clear hcz34_1; try clear hcz34_2; try clear hcz34_3; try clear hcz34_4; try clear hcz34_5; try clear hcz34_6; try clear hcz37_0; try clear hcz37_1; try clear hcz37_2; try clear hcz37_3; try clear hcz37_4; try clear hcz37_5; try clear hcz37_6; try clear hcz42_0; try clear hcz42_1; try clear hcz42_2; try clear hcz42_3; try clear hcz42_4; try clear hcz42_5; try clear hcz42_6; try clear hcz45_0; try clear hcz45_1; try clear hcz45_2; try clear hcz45_3; try clear hcz45_4; try clear hcz45_5; try clear hcz45_6; try clear hcz49_0; try clear hcz49_1; try clear hcz49_2; try clear hcz49_3; try clear hcz49_4; try clear hcz49_5; try clear hcz49_6; try clear hcz52_0; try clear hcz52_1; try clear hcz52_2; try clear hcz52_3; try clear hcz52_4; try clear hcz52_5; try clear hcz52_6; try clear hcz57_0; try clear hcz57_1; try clear hcz57_2; try clear hcz57_3; try clear hcz57_4; try clear hcz57_5; try clear hcz57_6; try clear hcz66_0; try clear hcz66_1; try clear hcz66_2; try clear hcz66_3; try clear hcz66_4; try clear hcz66_5; try clear hcz66_6; try clear hcz69_0; try clear hcz69_1; try clear hcz69_2; try clear hcz69_3; try clear hcz69_4; try clear hcz69_5; try clear hcz69_6; try clear hcz82_0; try clear hcz82_1; try clear hcz82_2; try clear hcz87_0; try clear hcz87_1; try clear hcz87_2; try clear hcz97_0; try clear hcz97_1; try clear hcz97_2; try clear hcz97_3; try clear hcz97_4; try clear hcz97_5; try clear hcz99_0; try clear hcz99_1; try clear hcz99_2; try clear hfz100_0; try clear hfz100_1; try clear hfz100_2; try clear hfz110_0; try clear hfz110_1; try clear hfz110_2; try clear hfz110_3; try clear hfz110_4; try clear hfz110_5; try clear hfz11_0; try clear hfz11_1; try clear hfz11_2; try clear hfz120_0; try clear hfz120_1; try clear hfz120_2; try clear hfz120_3; try clear hfz120_4; try clear hfz120_5; try clear hfz127_0; try clear hfz127_1; try clear hfz127_2; try clear hfz127_3; try clear hfz127_4; try clear hfz127_5; try clear hfz12_0; try clear hfz12_1; try clear hfz12_2; try clear hfz12_3; try clear hfz12_4; try clear hfz136_0; try clear hfz136_1; try clear hfz136_2; try clear hfz136_3; try clear hfz136_4; try clear hfz136_5; try clear hfz143_0; try clear hfz143_1; try clear hfz143_2; try clear hfz143_3; try clear hfz143_4; try clear hfz143_5; try clear hfz152_0; try clear hfz152_1; try clear hfz152_2; try clear hfz152_3; try clear hfz152_4; try clear hfz152_5; try clear hfz159_0; try clear hfz159_1; try clear hfz159_2; try clear hfz159_3; try clear hfz159_4; try clear hfz159_5; try clear hfz167_0; try clear hfz167_1; try clear hfz167_2; try clear hfz167_3; try clear hfz167_4; try clear hfz167_5; try clear hfz174_0; try clear hfz174_1; try clear hfz174_2; try clear hfz174_3; try clear hfz174_4; try clear hfz174_5; try clear hfz19_0; try clear hfz19_1; try clear hfz19_2; try clear hfz19_3; try clear hfz19_4; try clear hfz19_5; try clear hfz19_6; try clear hfz21_0; try clear hfz21_1; try clear hfz21_2; try clear hfz22_0; try clear hfz22_1; try clear hfz22_2; try clear hfz22_3; try clear hfz22_4; try clear hfz28_0; try clear hfz28_1; try clear hfz28_2; try clear hfz28_3; try clear hfz28_4; try clear hfz28_5; try clear hfz28_6; try clear hfz34_0; try clear hfz34_1; try clear hfz34_2; try clear hfz34_3; try clear hfz34_4; try clear hfz34_5; try clear hfz34_6; try clear hfz37_0; try clear hfz37_1; try clear hfz37_2; try clear hfz37_3; try clear hfz37_4; try clear hfz37_5; try clear hfz37_6; try clear hfz42_0; try clear hfz42_1; try clear hfz42_2; try clear hfz42_3; try clear hfz42_4; try clear hfz42_5; try clear hfz42_6; try clear hfz45_0; try clear hfz45_1; try clear hfz45_2; try clear hfz45_3; try clear hfz45_4; try clear hfz45_5; try clear hfz45_6; try clear hfz49_0; try clear hfz49_1; try clear hfz49_2; try clear hfz49_3; try clear hfz49_4; try clear hfz49_5; try clear hfz49_6; try clear hfz52_0; try clear hfz52_1; try clear hfz52_2; try clear hfz52_3; try clear hfz52_4; try clear hfz52_5; try clear hfz52_6; try clear hfz57_0; try clear hfz57_1; try clear hfz57_2; try clear hfz57_3; try clear hfz57_4; try clear hfz57_5; try clear hfz57_6; try clear hfz66_0; try clear hfz66_1; try clear hfz66_2; try clear hfz66_3; try clear hfz66_4; try clear hfz66_5; try clear hfz66_6; try clear hfz69_0; try clear hfz69_1; try clear hfz69_2; try clear hfz69_3; try clear hfz69_4; try clear hfz69_5; try clear hfz69_6; try clear hfz82_0; try clear hfz82_1; try clear hfz82_2; try clear hfz87_0; try clear hfz87_1; try clear hfz87_2; try clear hfz97_0; try clear hfz97_1; try clear hfz97_2; try clear hfz97_3; try clear hfz97_4; try clear hfz97_5; try clear hfz99_0; try clear hfz99_1; try clear hfz99_2; try clear hx771_0; try clear hx771_1; try clear hx771_2; try clear hx771_3; try clear hx772_0; try clear hx772_1; try clear hx772_2; try clear hx772_3; try clear p2; try clear p771; try clear p772; try clear q771; try clear q772
      obtain ⟨kq, x124_72, rfl, HA, HJ72, HO_761006, HO_771006, HO_794004, HO_803004, BK749, BK750, BK760, BK770, BK783, BK784, BK793, BK802, HB⟩ := hcut
      cases kq with
      | zero => exact absurd HA.out (by simp [laws_FnEnds.j2])
      | succ kj72 =>
       have H := HA.out
       clear HA
       simp only [laws_FnEnds.j2] at H
       by_cases c175 : x124_72 = true
       ·subst c175
        have H1 : (some false) = some true := by rw [if_pos rfl] at H; exact H
        clear H; have H := H1; clear H1
        exact absurd H (by simp)
       replace c175 := Bool.eq_false_iff.mpr c175
       subst c175
       have H1 : (laws_FnEnds.l1 kj72 (t789.length : Int) 0 t785 t786 t787 t788 t789 t792 t794 t795 t796 t797 t798 t801) = some true := by rw [if_neg (show ¬ (false = true) by decide)] at H; exact H
       clear H; have H := H1; clear H1
       have H' := Aside0.mk H
       clear H
       have hnb176 := NB793_749.out
       have hnc176 := NB749_793.out
       have hnb177 := NB793_750.out
       have hnc177 := NB750_793.out
       have hnb178 := NB793_760.out
       have hnc178 := NB760_793.out
       have hnb179 := NB793_770.out
       have hnc179 := NB770_793.out
       have hnb180 := NB793_783.out
       have hnc180 := NB783_793.out
       have hnb181 := NB793_784.out
       have hnc181 := NB784_793.out
       have hnb182 := NB793_802.out
       have hnc182 := NB802_793.out
       have hcz183_0 := b0 BK793
       have hcz183_1 := b1 BK793
       have hcz183_2 := b2 BK793
       have hcz183_3 := b3 BK793
       have hcz183_4 := b4 BK793
       have hcz183_5 := b5 BK793
       have hfz183_0 := blk_frozen BK793.out 0
       have hfz183_1 := blk_frozen BK793.out 1
       have hfz183_2 := blk_frozen BK793.out 2
       have hfz183_3 := blk_frozen BK793.out 3
       have hfz183_4 := blk_frozen BK793.out 4
       have hfz183_5 := blk_frozen BK793.out 5
       go_wp2
       repeat (go_quiet (fail); try go_wp2)
       go_loopg [128] kj72 (fun kq v128 w' => ∃ (x128_4 : Int), v128 = .int .i64 x128_4 ∧ Aside0 (laws_FnEnds.l1 kq (t789.length : Int) x128_4 t785 t786 t787 t788 t789 t792 t794 t795 t796 t797 t798 t801 = some true) ∧ Aside0 (kq ≤ kj72) ∧ Aside0 (Kd.R k60 60 w' w.heap.size (fun k_ => some k_ ≠ ((.slice Ao29 t767.length co29) : Value).ownBlock ∧ some k_ ≠ ((.slice Ao98 t789.length co98) : Value).ownBlock ∧ some k_ ≠ ((.slice Ao111 t798.length co111) : Value).ownBlock) (.slice Ao20 t757.length co20) t757) ∧ Aside0 (Kd.R k60 60 w' w.heap.size (fun k_ => some k_ ≠ ((.slice Ao20 t757.length co20) : Value).ownBlock ∧ some k_ ≠ ((.slice Ao98 t789.length co98) : Value).ownBlock ∧ some k_ ≠ ((.slice Ao111 t798.length co111) : Value).ownBlock) (.slice Ao29 t767.length co29) t767) ∧ Aside0 (Kd.R k60 60 w' w.heap.size (fun k_ => some k_ ≠ ((.slice Ao20 t757.length co20) : Value).ownBlock ∧ some k_ ≠ ((.slice Ao29 t767.length co29) : Value).ownBlock ∧ some k_ ≠ ((.slice Ao111 t798.length co111) : Value).ownBlock) (.slice Ao98 t789.length co98) t789) ∧ Aside0 (Kd.R k60 60 w' w.heap.size (fun k_ => some k_ ≠ ((.slice Ao20 t757.length co20) : Value).ownBlock ∧ some k_ ≠ ((.slice Ao29 t767.length co29) : Value).ownBlock ∧ some k_ ≠ ((.slice Ao98 t789.length co98) : Value).ownBlock) (.slice Ao111 t798.length co111) t798) ∧ Aside0 (w'.heap[gb749]? = some (.cells #[.int .i64 t734, .int .i64 t735, .int .i64 t736] 34 (0, 0))) ∧ Aside0 (w'.heap[gb750]? = some (.cells #[.int .i64 t738, .int .i64 t739, .int .i64 t740, .int .i64 t741, .int .i64 t742] 29 (0, 0))) ∧ Aside0 (w'.heap[gb760]? = some (.cells #[.bool t751, .int .i64 t752, .int .i64 t753, .int .i64 t754, .int .i64 t755, .int .i64 t756, (.slice Ao20 t757.length co20)] 32 (0, 0))) ∧ Aside0 (w'.heap[gb770]? = some (.cells #[.bool t761, .int .i64 t762, .int .i64 t763, .int .i64 t764, .int .i64 t765, .int .i64 t766, (.slice Ao29 t767.length co29)] 32 (0, 0))) ∧ Aside0 (w'.heap[gb783]? = some (.cells #[.int .i64 t773, .int .i64 t774, .int .i64 t775] 34 (0, 0))) ∧ Aside0 (w'.heap[gb784]? = some (.cells #[.int .i64 t777, .int .i64 t778, .int .i64 t779] 48 (0, 0))) ∧ Aside0 (w'.heap[gb793]? = some (.cells #[.bool t785, .int .i64 t786, .int .i64 t787, .int .i64 t788, (.slice Ao98 t789.length co98), .int .i64 t792] 50 (0, 0))) ∧ Aside0 (w'.heap[gb802]? = some (.cells #[.bool t794, .int .i64 t795, .int .i64 t796, .int .i64 t797, (.slice Ao111 t798.length co111), .int .i64 t801] 50 (0, 0))) ∧ Aside0 (Below w.heap.size w w'))
       case atStart => exact ⟨(0), (by first | rfl | (simp; done) | (simp [*]; done)), H', ⟨Nat.le_refl _⟩, ⟨by (with_reducible repeat (first | apply Kd.R_alloc | apply Kd.R_drewN | apply Kd.R_drew)); exact HO_761006.out⟩, ⟨by (with_reducible repeat (first | apply Kd.R_alloc | apply Kd.R_drewN | apply Kd.R_drew)); exact HO_771006.out⟩, ⟨by (with_reducible repeat (first | apply Kd.R_alloc | apply Kd.R_drewN | apply Kd.R_drew)); exact HO_794004.out⟩, ⟨by (with_reducible repeat (first | apply Kd.R_alloc | apply Kd.R_drewN | apply Kd.R_drew)); exact HO_803004.out⟩, ⟨qb BK749⟩, ⟨qb BK750⟩, ⟨qb BK760⟩, ⟨qb BK770⟩, ⟨qb BK783⟩, ⟨qb BK784⟩, ⟨qb BK793⟩, ⟨qb BK802⟩, ⟨(qs HB)⟩⟩
       case round =>
        clear H'
        try clear c1; try clear c2; try clear c2b0; try clear c2b1; try clear p2; try clear c3; try clear c4; try clear c5; try clear c6; try clear p6; try clear c7; try clear p7; try clear q7; try clear hx7; try clear c8; try clear c9; try clear c10; try clear c11; try clear c12; try clear c13; try clear c14; try clear c15; try clear c16; try clear c17; try clear c18; try clear c25; try clear c26; try clear c27; try clear c30; try clear c30b0; try clear c30b1; try clear c30b2; try clear c31; try clear c32; try clear c33; try clear c35; try clear c36; try clear c38; try clear c38b0; try clear c39; try clear c40; try clear c41; try clear c43; try clear c44; try clear c46; try clear c47; try clear c48; try clear c50; try clear c51; try clear c53; try clear c54; try clear c55; try clear c56; try clear c58; try clear c58b0; try clear c59; try clear c59b0; try clear c60; try clear c60b0; try clear c61; try clear c61b0; try clear c62; try clear c62b0; try clear c63; try clear c64; try clear p64; try clear c65; try clear c67; try clear c68; try clear c77; try clear p77; try clear q77; try clear hx77; try clear c78; try clear c79; try clear c80; try clear c81; try clear c83; try clear c84; try clear c85; try clear c86; try clear c91; try clear c92; try clear c93; try clear c94; try clear c95; try clear c96; try clear c103; try clear c104; try clear c105; try clear c106; try clear c107; try clear c108; try clear c109; try clear c112; try clear c112b0; try clear c112b1; try clear c112b2; try clear c113; try clear c114; try clear c115; try clear c116; try clear c117; try clear c118; try clear c119; try clear c121; try clear c122; try clear c123; try clear c124; try clear c125; try clear c126; try clear c128; try clear c128b0; try clear c129; try clear c130; try clear c131; try clear c132; try clear c133; try clear c134; try clear c135; try clear c137; try clear c138; try clear c139; try clear c140; try clear c141; try clear c142; try clear c144; try clear c144b0; try clear c144b1; try clear c145; try clear c146; try clear c147; try clear c148; try clear c149; try clear c150; try clear c151; try clear c153; try clear c154; try clear c155; try clear c156; try clear c157; try clear c158; try clear c160; try clear c161; try clear c162; try clear c163; try clear c164; try clear c165; try clear c166; try clear c168; try clear c169; try clear c170; try clear c171; try clear c172; try clear c173; try clear c175; try clear c176; try clear c177; try clear c178; try clear c179; try clear c180; try clear c181; try clear c182; try clear hcz100_0; try clear hcz100_1; try clear hcz100_2; try clear hcz110_0; try clear hcz110_1; try clear hcz110_2; try clear hcz110_3; try clear hcz110_4; try clear hcz110_5; try clear hcz11_0; try clear hcz11_1; try clear hcz11_2; try clear hcz120_0; try clear hcz120_1; try clear hcz120_2; try clear hcz120_3; try clear hcz120_4; try clear hcz120_5; try clear hcz127_0; try clear hcz127_1; try clear hcz127_2; try clear hcz127_3; try clear hcz127_4; try clear hcz127_5; try clear hcz12_0; try clear hcz12_1; try clear hcz12_2; try clear hcz12_3; try clear hcz12_4; try clear hcz136_0; try clear hcz136_1; try clear hcz136_2; try clear hcz136_3; try clear hcz136_4; try clear hcz136_5; try clear hcz143_0; try clear hcz143_1; try clear hcz143_2; try clear hcz143_3; try clear hcz143_4; try clear hcz143_5; try clear hcz152_0; try clear hcz152_1; try clear hcz152_2; try clear hcz152_3; try clear hcz152_4; try clear hcz152_5; try clear hcz159_0; try clear hcz159_1; try clear hcz159_2; try clear hcz159_3; try clear hcz159_4; try clear hcz159_5; try clear hcz167_0; try clear hcz167_1; try clear hcz167_2; try clear hcz167_3; try clear hcz167_4; try clear hcz167_5; try clear hcz174_0; try clear hcz174_1; try clear hcz174_2; try clear hcz174_3; try clear hcz174_4; try clear hcz174_5; try clear hcz183_0; try clear hcz183_1; try clear hcz183_2; try clear hcz183_3; try clear hcz183_4; try clear hcz183_5; try clear hcz19_0; try clear hcz19_1; try clear hcz19_2; try clear hcz19_3; try clear hcz19_4; try clear hcz19_5; try clear hcz19_6; try clear hcz21_0; try clear hcz21_1; try clear hcz21_2; try clear hcz22_0; try clear hcz22_1; try clear hcz22_2; try clear hcz22_3; try clear hcz22_4; try clear hcz28_0; try clear hcz28_1; try clear hcz28_2; try clear hcz28_3; try clear hcz28_4; try clear hcz28_5; try clear hcz28_6; try clear hcz34_0; try clear hcz34_1; try clear hcz34_2; try clear hcz34_3; try clear hcz34_4; try clear hcz34_5; try clear hcz34_6; try clear hcz37_0; try clear hcz37_1; try clear hcz37_2; try clear hcz37_3; try clear hcz37_4; try clear hcz37_5; try clear hcz37_6; try clear hcz42_0; try clear hcz42_1; try clear hcz42_2; try clear hcz42_3; try clear hcz42_4; try clear hcz42_5; try clear hcz42_6; try clear hcz45_0; try clear hcz45_1; try clear hcz45_2; try clear hcz45_3; try clear hcz45_4; try clear hcz45_5; try clear hcz45_6; try clear hcz49_0; try clear hcz49_1; try clear hcz49_2; try clear hcz49_3; try clear hcz49_4; try clear hcz49_5; try clear hcz49_6; try clear hcz52_0; try clear hcz52_1; try clear hcz52_2; try clear hcz52_3; try clear hcz52_4; try clear hcz52_5; try clear hcz52_6; try clear hcz57_0; try clear hcz57_1; try clear hcz57_2; try clear hcz57_3; try clear hcz57_4; try clear hcz57_5; try clear hcz57_6; try clear hcz66_0; try clear hcz66_1; try clear hcz66_2; try clear hcz66_3; try clear hcz66_4; try clear hcz66_5; try clear hcz66_6; try clear hcz69_0; try clear hcz69_1; try clear hcz69_2; try clear hcz69_3; try clear hcz69_4; try clear hcz69_5; try clear hcz69_6; try clear hcz82_0; try clear hcz82_1; try clear hcz82_2; try clear hcz87_0; try clear hcz87_1; try clear hcz87_2; try clear hcz97_0; try clear hcz97_1; try clear hcz97_2; try clear hcz97_3; try clear hcz97_4; try clear hcz97_5; try clear hcz99_0; try clear hcz99_1; try clear hcz99_2; try clear hfz100_0; try clear hfz100_1; try clear hfz100_2; try clear hfz110_0; try clear hfz110_1; try clear hfz110_2; try clear hfz110_3; try clear hfz110_4; try clear hfz110_5; try clear hfz11_0; try clear hfz11_1; try clear hfz11_2; try clear hfz120_0; try clear hfz120_1; try clear hfz120_2; try clear hfz120_3; try clear hfz120_4; try clear hfz120_5; try clear hfz127_0; try clear hfz127_1; try clear hfz127_2; try clear hfz127_3; try clear hfz127_4; try clear hfz127_5; try clear hfz12_0; try clear hfz12_1; try clear hfz12_2; try clear hfz12_3; try clear hfz12_4; try clear hfz136_0; try clear hfz136_1; try clear hfz136_2; try clear hfz136_3; try clear hfz136_4; try clear hfz136_5; try clear hfz143_0; try clear hfz143_1; try clear hfz143_2; try clear hfz143_3; try clear hfz143_4; try clear hfz143_5; try clear hfz152_0; try clear hfz152_1; try clear hfz152_2; try clear hfz152_3; try clear hfz152_4; try clear hfz152_5; try clear hfz159_0; try clear hfz159_1; try clear hfz159_2; try clear hfz159_3; try clear hfz159_4; try clear hfz159_5; try clear hfz167_0; try clear hfz167_1; try clear hfz167_2; try clear hfz167_3; try clear hfz167_4; try clear hfz167_5; try clear hfz174_0; try clear hfz174_1; try clear hfz174_2; try clear hfz174_3; try clear hfz174_4; try clear hfz174_5; try clear hfz183_0; try clear hfz183_1; try clear hfz183_2; try clear hfz183_3; try clear hfz183_4; try clear hfz183_5; try clear hfz19_0; try clear hfz19_1; try clear hfz19_2; try clear hfz19_3; try clear hfz19_4; try clear hfz19_5; try clear hfz19_6; try clear hfz21_0; try clear hfz21_1; try clear hfz21_2; try clear hfz22_0; try clear hfz22_1; try clear hfz22_2; try clear hfz22_3; try clear hfz22_4; try clear hfz28_0; try clear hfz28_1; try clear hfz28_2; try clear hfz28_3; try clear hfz28_4; try clear hfz28_5; try clear hfz28_6; try clear hfz34_0; try clear hfz34_1; try clear hfz34_2; try clear hfz34_3; try clear hfz34_4; try clear hfz34_5; try clear hfz34_6; try clear hfz37_0; try clear hfz37_1; try clear hfz37_2; try clear hfz37_3; try clear hfz37_4; try clear hfz37_5; try clear hfz37_6; try clear hfz42_0; try clear hfz42_1; try clear hfz42_2; try clear hfz42_3; try clear hfz42_4; try clear hfz42_5; try clear hfz42_6; try clear hfz45_0; try clear hfz45_1; try clear hfz45_2; try clear hfz45_3; try clear hfz45_4; try clear hfz45_5; try clear hfz45_6; try clear hfz49_0; try clear hfz49_1; try clear hfz49_2; try clear hfz49_3; try clear hfz49_4; try clear hfz49_5; try clear hfz49_6; try clear hfz52_0; try clear hfz52_1; try clear hfz52_2; try clear hfz52_3; try clear hfz52_4; try clear hfz52_5; try clear hfz52_6; try clear hfz57_0; try clear hfz57_1; try clear hfz57_2; try clear hfz57_3; try clear hfz57_4; try clear hfz57_5; try clear hfz57_6; try clear hfz66_0; try clear hfz66_1; try clear hfz66_2; try clear hfz66_3; try clear hfz66_4; try clear hfz66_5; try clear hfz66_6; try clear hfz69_0; try clear hfz69_1; try clear hfz69_2; try clear hfz69_3; try clear hfz69_4; try clear hfz69_5; try clear hfz69_6; try clear hfz82_0; try clear hfz82_1; try clear hfz82_2; try clear hfz87_0; try clear hfz87_1; try clear hfz87_2; try clear hfz97_0; try clear hfz97_1; try clear hfz97_2; try clear hfz97_3; try clear hfz97_4; try clear hfz97_5; try clear hfz99_0; try clear hfz99_1; try clear hfz99_2; try clear hx771_0; try clear hx771_1; try clear hx771_2; try clear hx771_3; try clear hx772_0; try clear hx772_1; try clear hx772_2; try clear hx772_3; try clear p2; try clear p6; try clear p64; try clear p7; try clear p77; try clear p771; try clear p772; try clear q7; try clear q77; try clear q771; try clear q772
        obtain ⟨x128_4, rfl, HA, HK4, HO_761006, HO_771006, HO_794004, HO_803004, BK749, BK750, BK760, BK770, BK783, BK784, BK793, BK802, HB⟩ := hrel
        cases gk with
        | zero => exact absurd HA.out (by simp [laws_FnEnds.l1])
        | succ k4 =>
         have H := HA.out
         clear HA
         simp only [laws_FnEnds.l1] at H
         by_cases c184 : x128_4 < (t789.length : Int)
         ·rw [if_pos c184] at H
          have c184b0 : decide (x128_4 < (t789.length : Int)) = true := decide_eq_true c184
          clear c184
          by_cases c185 : 0 ≤ x128_4
          ·rw [if_pos c185] at H
           have c185b0 : decide (0 ≤ x128_4) = true := decide_eq_true c185
           clear c185
           by_cases c186 : x128_4 < (t789.length : Int)
           ·rw [if_pos c186] at H
            have c186b0 : decide (x128_4 < (t789.length : Int)) = true := decide_eq_true c186
            clear c186
            by_cases c187 : x128_4 < (t798.length : Int)
            ·rw [if_pos c187] at H
             have c187b0 : decide (x128_4 < (t798.length : Int)) = true := decide_eq_true c187
             clear c187
             by_cases c188 : (!(((rd_T60 t789 x128_4).f0) == ((rd_T60 t798 x128_4).f0)) || (!(((rd_T60 t789 x128_4).f1) == ((rd_T60 t798 x128_4).f1)) || (!(((rd_T60 t789 x128_4).f2) == ((rd_T60 t798 x128_4).f2)) || (!(((rd_T60 t789 x128_4).f3) == ((rd_T60 t798 x128_4).f3)))))) = true
             ·rw [if_pos c188] at H
              have c188b0 : (!(((rd_T60 t789 x128_4).f0) == ((rd_T60 t798 x128_4).f0)) || (!(((rd_T60 t789 x128_4).f1) == ((rd_T60 t798 x128_4).f1)) || (!(((rd_T60 t789 x128_4).f2) == ((rd_T60 t798 x128_4).f2)) || (!(((rd_T60 t789 x128_4).f3) == ((rd_T60 t798 x128_4).f3)))))) = true := c188
              clear c188
              exact absurd H (by simp)
             rw [if_neg c188] at H
             have c188b0 : (!(((rd_T60 t789 x128_4).f0) == ((rd_T60 t798 x128_4).f0)) || (!(((rd_T60 t789 x128_4).f1) == ((rd_T60 t798 x128_4).f1)) || (!(((rd_T60 t789 x128_4).f2) == ((rd_T60 t798 x128_4).f2)) || (!(((rd_T60 t789 x128_4).f3) == ((rd_T60 t798 x128_4).f3)))))) = false := by simpa using c188
             clear c188
             have H' := Aside0.mk H
             clear H
             have hnb189 := NB793_749.out
             have hnc189 := NB749_793.out
             have hnb190 := NB793_750.out
             have hnc190 := NB750_793.out
             have hnb191 := NB793_760.out
             have hnc191 := NB760_793.out
             have hnb192 := NB793_770.out
             have hnc192 := NB770_793.out
             have hnb193 := NB793_783.out
             have hnc193 := NB783_793.out
             have hnb194 := NB793_784.out
             have hnc194 := NB784_793.out
             have hnb195 := NB793_802.out
             have hnc195 := NB802_793.out
             have hcz196_0 := b0 BK793
             have hcz196_1 := b1 BK793
             have hcz196_2 := b2 BK793
             have hcz196_3 := b3 BK793
             have hcz196_4 := b4 BK793
             have hcz196_5 := b5 BK793
             have hfz196_0 := blk_frozen BK793.out 0
             have hfz196_1 := blk_frozen BK793.out 1
             have hfz196_2 := blk_frozen BK793.out 2
             have hfz196_3 := blk_frozen BK793.out 3
             have hfz196_4 := blk_frozen BK793.out 4
             have hfz196_5 := blk_frozen BK793.out 5
             have p803 : 0 ≤ (x128_4 : Int) := of_decide_eq_true (by first | (with_reducible assumption) | assumption)
             have q803 : x128_4 < (t789.length : Int) := of_decide_eq_true (by first | (with_reducible assumption) | assumption)
             obtain ⟨ad803, e803, hx803_0, hx803_1, hx803_2, hx803_3⟩ := at_T60 (Kd.R_reads' HO_794004.out).2.2 x128_4 p803 q803
             cases e803
             replace p803 := eq_true p803
             replace q803 := eq_true q803
             have hnb197 := NB802_749.out
             have hnc197 := NB749_802.out
             have hnb198 := NB802_750.out
             have hnc198 := NB750_802.out
             have hnb199 := NB802_760.out
             have hnc199 := NB760_802.out
             have hnb200 := NB802_770.out
             have hnc200 := NB770_802.out
             have hnb201 := NB802_783.out
             have hnc201 := NB783_802.out
             have hnb202 := NB802_784.out
             have hnc202 := NB784_802.out
             have hcz203_0 := b0 BK802
             have hcz203_1 := b1 BK802
             have hcz203_2 := b2 BK802
             have hcz203_3 := b3 BK802
             have hcz203_4 := b4 BK802
             have hcz203_5 := b5 BK802
             have hfz203_0 := blk_frozen BK802.out 0
             have hfz203_1 := blk_frozen BK802.out 1
             have hfz203_2 := blk_frozen BK802.out 2
             have hfz203_3 := blk_frozen BK802.out 3
             have hfz203_4 := blk_frozen BK802.out 4
             have hfz203_5 := blk_frozen BK802.out 5
             have p804 : 0 ≤ (x128_4 : Int) := of_decide_eq_true (by first | (with_reducible assumption) | assumption)
             have q804 : x128_4 < (t798.length : Int) := of_decide_eq_true (by first | (with_reducible assumption) | assumption)
             obtain ⟨ad804, e804, hx804_0, hx804_1, hx804_2, hx804_3⟩ := at_T60 (Kd.R_reads' HO_803004.out).2.2 x128_4 p804 q804
             cases e804
             replace p804 := eq_true p804
             replace q804 := eq_true q804
             go_wp2
             repeat (go_quiet (fail); try go_wp2)
             go_roundg k4
             case measure => have := HJ5.out; have := HK2.out; have := HJ72.out; have := HK4.out; omega
             case rel => exact ⟨(wrap64 (x128_4 + 1)), (by first | rfl | (simp; done) | (simp [*]; done)), H', ⟨by have := HJ5.out; have := HK2.out; have := HJ72.out; have := HK4.out; omega⟩, ⟨by (with_reducible repeat (first | apply Kd.R_alloc | apply Kd.R_drewN | apply Kd.R_drew)); exact HO_761006.out⟩, ⟨by (with_reducible repeat (first | apply Kd.R_alloc | apply Kd.R_drewN | apply Kd.R_drew)); exact HO_771006.out⟩, ⟨by (with_reducible repeat (first | apply Kd.R_alloc | apply Kd.R_drewN | apply Kd.R_drew)); exact HO_794004.out⟩, ⟨by (with_reducible repeat (first | apply Kd.R_alloc | apply Kd.R_drewN | apply Kd.R_drew)); exact HO_803004.out⟩, ⟨qb BK749⟩, ⟨qb BK750⟩, ⟨qb BK760⟩, ⟨qb BK770⟩, ⟨qb BK783⟩, ⟨qb BK784⟩, ⟨qb BK793⟩, ⟨qb BK802⟩, ⟨(qs HB)⟩⟩
            rw [if_neg c187] at H
            exact absurd H (by simp)
           rw [if_neg c186] at H
           exact absurd H (by simp)
          rw [if_neg c185] at H
          exact absurd H (by simp)
         rw [if_neg c184] at H
         have c184b0 : decide (x128_4 < (t789.length : Int)) = false := decide_eq_false c184
         clear c184
         go_wp2
         repeat (go_quiet (fail); try go_wp2)
         go_ret
         exact ⟨by first | rfl | (simp [errW_none, errW_some] <;> rfl) | (simp [*, errW_none, errW_some] <;> rfl), (qs HB)⟩
end Go.Proofs.Ytndffnacbfdnoaa.PAll
