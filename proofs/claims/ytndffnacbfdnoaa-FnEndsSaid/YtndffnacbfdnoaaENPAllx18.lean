-- Lines of PAllx18 that this claim uses.
import Derived.Test.YtndffnacbfdnoaaENSqd
import Derived.Test.YtndffnacbfdnoaaENSqc
import Derived.Test.YtndffnacbfdnoaaENSq
import Derived.Test.YtndffnacbfdnoaaENPAllx0
import Derived.Test.YtndffnacbfdnoaaENPAllx15
import Derived.Test.YtndffnacbfdnoaaENPAllx16
import Derived.Test.YtndffnacbfdnoaaENPAllx17
namespace Go.Proofs.Ytndffnacbfdnoaa.PAll
open Go.RowKit Go.Proofs.YtndffnacbfdnoaaW.PrintWords Go.Proofs.YtndffnacbfdnoaaW.PrintLast Go.Proofs.YtndffnacbfdnoaaW.PrintMore
attribute [local go_sem] max2_int min2_int max_two min_two max_three min_three max_four min_four   -- for this text's walks alone
set_option linter.unusedVariables false
set_option linter.unusedSimpArgs false
def spec_DrawTrainTick.l0 : Nat → Int → List (S60) → Int → Int → Int → Int → Int → Int → Int → Option (Int × Int × Int × Int × Int × Int × Int × (List (S60)))
 | 0, _, _, _, _, _, _, _, _, _ => none
 | k + 1, x8, x10, x11, x711000, x711001, x711002, x720000, x720001, x720002 => if (x10.length : Int) < x11 then (if x10.length < 4398046511104 then (spec_DrawTrainTick.l0 k x8 (x10 ++ [(⟨2, 0, 0, 0⟩ : S60)]) x11 x711000 x711001 x711002 x720000 x720001 x720002) else (none)) else (some (x711000, x711001, x711002, x8, x720000, x720001, x720002, x10))
def spec_DrawTrainTick.f (k : Nat) (l0 : List Int) : Option (Int × Int × Int × Int × Int × Int × Int × (List (S60))) := (spec_l4rules.f l0 0 0).bind fun bt705 => ((spec_l4Cur_now.f l0 bt705.2.2.2.1 bt705.2.2.2.2).bind fun bt711 => ((spec_l4Cur_train.f k l0 bt711.2.1 bt711.2.2 bt711.1).bind fun bt714 => ((spec_l4Cur_in.f k l0 bt714.2.2.2.1 bt714.2.2.2.2 bt711.1).bind fun bt720 => ((spec_l4Cur_pick.f l0 bt720.2.1 bt720.2.2 60).bind fun bt725 => (if bt725.1 = 0 then ((spec_l4Cur_pick.f l0 bt725.2.1 bt725.2.2 3).bind fun bt728 => (spec_DrawTrainTick.l0 k bt711.1 ([] : List (S60)) (wrap64 (999 + bt728.1)) bt705.1 bt705.2.1 bt705.2.2.1 bt714.1 bt714.2.1 bt714.2.2.1)) else (some (bt705.1, bt705.2.1, bt705.2.2.1, bt711.1, bt714.1, bt714.2.1, bt714.2.2.1, bt720.1)))))))
def spec_DrawTrainTick.T11 : Bool × List (List Nat × List Nat) := (true, [([], []), ([], []), ([], []), ([], []), ([0, 0], [0]), ([1, 4, 0, 1, 4], [1]), ([2, 5, 0, 1, 2, 4, 5], [2]), ([3, 6, 0, 1, 2, 3, 4, 5, 6], [3])])
def spec_DrawTrainTick.B11 : List Nat := [0, 0, 0, 0, 1, 19, 55, 127]
theorem spec_DrawTrainTick.tab11 : rtab .any (opsOf Try.f32 11) = spec_DrawTrainTick.T11 := by kernel_rfl
theorem spec_DrawTrainTick.bits11 : waitsOk spec_DrawTrainTick.T11.2 spec_DrawTrainTick.B11 = true := by kernel_rfl
set_option maxHeartbeats 8000000 in
set_option maxRecDepth 100000 in
theorem spec_DrawTrainTick.calls (k : Nat) (A0 : Option Addr) (c0 : Nat) (l0 : List Int) (r1 : Int) (r2 : Int) (r3 : Int) (r4 : Int) (r5 : Int) (r6 : Int) (r7 : Int) (r8 : List (S60)) (w : World) (hr0 : Kd.C (Kd.int .u8) w A0 l0.length l0) (hc0 : l0.length ≤ c0) (h : spec_DrawTrainTick.f k l0 = some (r1, r2, r3, r4, r5, r6, r7, r8)) :
  Calls Try.prog 32 #[.slice A0 l0.length c0] w fun e w' => ∃ v7_ : Value, e = .returned (.tuple #[.agg #[.int .i64 r1, .int .i64 r2, .int .i64 r3], .int .i64 r4, .agg #[.int .i64 r5, .int .i64 r6, .int .i64 r7], v7_]) ∧ Kd.R k60 60 w' w.heap.size (fun _ => True) v7_ r8 ∧ Below w.heap.size w w' := by
 have hu34 := Try.underlying34
 have hu48 := Try.underlying48
 have hu108 := Try.underlying108
 have hu60 := Try.underlying60
 have HR0 := Aside0.mk hr0
 have HC0 := Aside0.mk hc0
 clear hr0 hc0
 have HB := Aside0.mk (Below.refl w.heap.size w)
 have H : ((spec_l4rules.f l0 0 0).bind fun bt705 => ((spec_l4Cur_now.f l0 bt705.2.2.2.1 bt705.2.2.2.2).bind fun bt711 => ((spec_l4Cur_train.f k l0 bt711.2.1 bt711.2.2 bt711.1).bind fun bt714 => ((spec_l4Cur_in.f k l0 bt714.2.2.2.1 bt714.2.2.2.2 bt711.1).bind fun bt720 => ((spec_l4Cur_pick.f l0 bt720.2.1 bt720.2.2 60).bind fun bt725 => (if bt725.1 = 0 then ((spec_l4Cur_pick.f l0 bt725.2.1 bt725.2.2 3).bind fun bt728 => (spec_DrawTrainTick.l0 k bt711.1 ([] : List (S60)) (wrap64 (999 + bt728.1)) bt705.1 bt705.2.1 bt705.2.2.1 bt714.1 bt714.2.1 bt714.2.2.1)) else (some (bt705.1, bt705.2.1, bt705.2.2.1, bt711.1, bt714.1, bt714.2.1, bt714.2.2.1, bt720.1)))))))) = some (r1, r2, r3, r4, r5, r6, r7, r8) := h
 clear h
 replace H := Option.bind_eq_some_iff.mp H
 obtain ⟨⟨t705, t706, t707, t708, t709⟩, A20, H⟩ := H
 replace H : ((spec_l4Cur_now.f l0 t708 t709).bind fun bt711 => ((spec_l4Cur_train.f k l0 bt711.2.1 bt711.2.2 bt711.1).bind fun bt714 => ((spec_l4Cur_in.f k l0 bt714.2.2.2.1 bt714.2.2.2.2 bt711.1).bind fun bt720 => ((spec_l4Cur_pick.f l0 bt720.2.1 bt720.2.2 60).bind fun bt725 => (if bt725.1 = 0 then ((spec_l4Cur_pick.f l0 bt725.2.1 bt725.2.2 3).bind fun bt728 => (spec_DrawTrainTick.l0 k bt711.1 ([] : List (S60)) (wrap64 (999 + bt728.1)) t705 t706 t707 bt714.1 bt714.2.1 bt714.2.2.1)) else (some (t705, t706, t707, bt711.1, bt714.1, bt714.2.1, bt714.2.2.1, bt720.1))))))) = some (r1, r2, r3, r4, r5, r6, r7, r8) := H
 have A2 := Aside0.mk A20
 clear A20
 replace H := Option.bind_eq_some_iff.mp H
 obtain ⟨⟨t711, t712, t713⟩, A30, H⟩ := H
 replace H : ((spec_l4Cur_train.f k l0 t712 t713 t711).bind fun bt714 => ((spec_l4Cur_in.f k l0 bt714.2.2.2.1 bt714.2.2.2.2 t711).bind fun bt720 => ((spec_l4Cur_pick.f l0 bt720.2.1 bt720.2.2 60).bind fun bt725 => (if bt725.1 = 0 then ((spec_l4Cur_pick.f l0 bt725.2.1 bt725.2.2 3).bind fun bt728 => (spec_DrawTrainTick.l0 k t711 ([] : List (S60)) (wrap64 (999 + bt728.1)) t705 t706 t707 bt714.1 bt714.2.1 bt714.2.2.1)) else (some (t705, t706, t707, t711, bt714.1, bt714.2.1, bt714.2.2.1, bt720.1)))))) = some (r1, r2, r3, r4, r5, r6, r7, r8) := H
 have A3 := Aside0.mk A30
 clear A30
 replace H := Option.bind_eq_some_iff.mp H
 obtain ⟨⟨t714, t715, t716, t717, t718⟩, A40, H⟩ := H
 replace H : ((spec_l4Cur_in.f k l0 t717 t718 t711).bind fun bt720 => ((spec_l4Cur_pick.f l0 bt720.2.1 bt720.2.2 60).bind fun bt725 => (if bt725.1 = 0 then ((spec_l4Cur_pick.f l0 bt725.2.1 bt725.2.2 3).bind fun bt728 => (spec_DrawTrainTick.l0 k t711 ([] : List (S60)) (wrap64 (999 + bt728.1)) t705 t706 t707 t714 t715 t716)) else (some (t705, t706, t707, t711, t714, t715, t716, bt720.1))))) = some (r1, r2, r3, r4, r5, r6, r7, r8) := H
 have A4 := Aside0.mk A40
 clear A40
 replace H := Option.bind_eq_some_iff.mp H
 obtain ⟨⟨t720, t723, t724⟩, A50, H⟩ := H
 replace H : ((spec_l4Cur_pick.f l0 t723 t724 60).bind fun bt725 => (if bt725.1 = 0 then ((spec_l4Cur_pick.f l0 bt725.2.1 bt725.2.2 3).bind fun bt728 => (spec_DrawTrainTick.l0 k t711 ([] : List (S60)) (wrap64 (999 + bt728.1)) t705 t706 t707 t714 t715 t716)) else (some (t705, t706, t707, t711, t714, t715, t716, t720)))) = some (r1, r2, r3, r4, r5, r6, r7, r8) := H
 have A5 := Aside0.mk A50
 clear A50
 replace H := Option.bind_eq_some_iff.mp H
 obtain ⟨⟨t725, t726, t727⟩, A60, H⟩ := H
 replace H : (if t725 = 0 then ((spec_l4Cur_pick.f l0 t726 t727 3).bind fun bt728 => (spec_DrawTrainTick.l0 k t711 ([] : List (S60)) (wrap64 (999 + bt728.1)) t705 t706 t707 t714 t715 t716)) else (some (t705, t706, t707, t711, t714, t715, t716, t720))) = some (r1, r2, r3, r4, r5, r6, r7, r8) := H
 have A6 := Aside0.mk A60
 clear A60
 by_cases c7 : t725 = 0
 ·rw [if_pos c7] at H
  have c7b0 : (t725 == 0) = true := beq_iff_eq.mpr c7
  have c7b1 : (t725 != 0) = false := bne_eq_false_iff_eq.mpr c7
  clear c7
  replace H := Option.bind_eq_some_iff.mp H
  obtain ⟨⟨t728, t729, t730⟩, A80, H⟩ := H
  replace H : (spec_DrawTrainTick.l0 k t711 ([] : List (S60)) (wrap64 (999 + t728)) t705 t706 t707 t714 t715 t716) = some (r1, r2, r3, r4, r5, r6, r7, r8) := H
  have A8 := Aside0.mk A80
  clear A80
  have H' := Aside0.mk H
  clear H
  go_enter Try.func32, Try.ntmps32
  go_wp2_with (first | ((with_reducible refine gate_dst (N := 2) rfl ?_); refine boxA #[.int .i64 0, .int .i64 0, .int .i64 0] 34 ?_; intro gb702 hg w9 hbox hb; have BK702 := Aside0.mk (hbox); have GW702 := nge HB hg; have GE702 := nge HB hg; replace HB := bst HB hb; clear hb hbox hg) | ((with_reducible refine gate_dst (N := 4) rfl ?_); refine boxA #[.int .i64 0, .int .i64 0, .int .i64 0] 48 ?_; intro gb703 hg w10 hbox hb; have BK703 := Aside0.mk (hbox); have GW703 := nge HB hg; have GE703 := nge HB hg; replace HB := bst HB hb; have NB702_703 := nlt BK702 hg; have NB703_702 := ngt BK702 hg; replace BK702 := bkb BK702 hb; clear hb hbox hg) | ((with_reducible refine gate_dst (N := 14) rfl ?_); refine boxA #[.slice A0 l0.length c0, .int .i64 0, .int .u64 0] 108 ?_; intro gb704 hg w11 hbox hb; have GW704 := nge HB hg; have GE704 := nge HB hg; have NB702_704 := nlt BK702 hg; have NB704_702 := ngt BK702 hg; replace BK702 := bkb BK702 hb; have NB703_704 := nlt BK703 hg; have NB704_703 := ngt BK703 hg; replace BK703 := bkb BK703 hb; have HI704 := Aside0.mk ((show IsS108 w w11 gb704 l0 0 0 from ⟨_, _, hbox, (by rw [hg]; exact (below_size (qs HB)) : w.heap.size ≤ gb704), HR0.out⟩)); replace HB := bst HB hb; clear hb hbox hg) | ((with_reducible refine gate_callee (f := 69) rfl ?_); refine goesLA (some 16) rfl Try.func69 #[.pointer (some ⟨gb704, 0, none⟩)] ?_; (with_reducible refine (spec_l4rules.calls gb704 l0 0 0 t705 t706 t707 t708 t709 w _ ?side1 ?side2 A2.out).mono ?_); (case side1 => exact qi HI704); (case side2 => exact qz HB); rintro e w12 ⟨rfl, hi, hb, hk⟩; refine ⟨_, rfl, ?_⟩; replace BK702 := Aside0.mk (KeepBut.blk hk (g' := gb702) (o := .cells #[.int .i64 0, .int .i64 0, .int .i64 0] 34 (0, 0)) (qb BK702) NB702_704.out (by simp)); replace BK703 := Aside0.mk (KeepBut.blk hk (g' := gb703) (o := .cells #[.int .i64 0, .int .i64 0, .int .i64 0] 48 (0, 0)) (qb BK703) NB703_704.out (by simp)); replace HB := Aside0.mk (hb); replace HI704 := Aside0.mk (hi); clear hb hk hi) | ((with_reducible refine gate_dst (N := 7) rfl ?_); refine boxA #[.int .i64 0, .int .i64 0, .int .i64 0] 34 ?_; intro gb710 hg w13 hbox hb; have BK710 := Aside0.mk (hbox); have GW710 := Aside0.mk ((by rw [hg]; exact (below_size (qz HB)) : w.heap.size ≤ gb710)); have GE710 := Aside0.mk ((by rw [hg]; exact (below_size (qz HB)) : w.heap.size ≤ gb710)); replace HB := Aside0.mk (below_step (qz HB) hb); have NB702_710 := nlt BK702 hg; have NB710_702 := ngt BK702 hg; replace BK702 := bkb BK702 hb; have NB703_710 := nlt BK703 hg; have NB710_703 := ngt BK703 hg; replace BK703 := bkb BK703 hb; have NB704_710 := Aside0.mk ((by rw [hg]; exact Nat.ne_of_lt (IsS108.lt (show IsS108 w _ gb704 l0 t708 t709 from qi HI704)) : gb704 ≠ gb710)); have NB710_704 := Aside0.mk ((by rw [hg]; exact Nat.ne_of_gt (IsS108.lt (show IsS108 w _ gb704 l0 t708 t709 from qi HI704)) : gb710 ≠ gb704)); replace HI704 := Aside0.mk (IsS108.below (qi HI704) hb); clear hb hbox hg; have hnb14 := NB710_702.out; have hnc14 := NB702_710.out; have hnb15 := NB710_703.out; have hnc15 := NB703_710.out; have hnb16 := NB710_704.out; have hnc16 := NB704_710.out; have hcz17_0 := b0 BK710; have hcz17_1 := b1 BK710; have hcz17_2 := b2 BK710; have hfz17_0 := blk_frozen BK710.out 0; have hfz17_1 := blk_frozen BK710.out 1; have hfz17_2 := blk_frozen BK710.out 2) | ((with_reducible refine gate_callee (f := 70) rfl ?_); refine goesLA (some 18) rfl Try.func70 #[.pointer (some ⟨gb704, 0, none⟩)] ?_; (with_reducible refine (spec_l4Cur_now.calls gb704 l0 t708 t709 t711 t712 t713 w _ ?side1 ?side2 A3.out).mono ?_); (case side1 => exact qi HI704); (case side2 => exact qz HB); rintro e w18 ⟨rfl, hi, hb, hk⟩; refine ⟨_, rfl, ?_⟩; replace BK702 := Aside0.mk (KeepBut.blk hk (g' := gb702) (o := .cells #[.int .i64 0, .int .i64 0, .int .i64 0] 34 (0, 0)) (qB BK702) NB702_704.out (by simp)); replace BK703 := Aside0.mk (KeepBut.blk hk (g' := gb703) (o := .cells #[.int .i64 0, .int .i64 0, .int .i64 0] 48 (0, 0)) (qB BK703) NB703_704.out (by simp)); replace BK710 := Aside0.mk (KeepBut.blk hk (g' := gb710) (o := .cells #[.int .i64 t705, .int .i64 t706, .int .i64 t707] 34 (0, 0)) (by (with_reducible repeat (first | refine blk_drewN ?_ _ | refine blk_drew ?_ | refine blk_alloc ?_ _)); refine blk_put (cs := #[.int .i64 t705, .int .i64 t706, .int .i64 0]) ?_ 2 _ rfl; (with_reducible repeat (first | refine blk_drewN ?_ _ | refine blk_drew ?_ | refine blk_alloc ?_ _)); refine blk_put (cs := #[.int .i64 t705, .int .i64 0, .int .i64 0]) ?_ 1 _ rfl; (with_reducible repeat (first | refine blk_drewN ?_ _ | refine blk_drew ?_ | refine blk_alloc ?_ _)); refine blk_put (cs := #[.int .i64 0, .int .i64 0, .int .i64 0]) ?_ 0 _ rfl; (with_reducible repeat (first | refine blk_drewN ?_ _ | refine blk_drew ?_ | refine blk_alloc ?_ _)); exact BK710.out) NB710_704.out (by simp)); replace HB := Aside0.mk (hb); replace HI704 := Aside0.mk (hi); clear hb hk hi) | ((with_reducible refine gate_callee (f := 75) rfl ?_); refine goesLA (some 21) rfl Try.func75 #[.pointer (some ⟨gb704, 0, none⟩), .int .i64 t711] ?_; (with_reducible refine (spec_l4Cur_train.calls k gb704 l0 t712 t713 t711 t714 t715 t716 t717 t718 w _ ?side1 ?side2 A4.out).mono ?_); (case side1 => exact qi HI704); (case side2 => exact qz HB); rintro e w19 ⟨rfl, hi, hb, hk⟩; refine ⟨_, rfl, ?_⟩; replace BK702 := Aside0.mk (KeepBut.blk hk (g' := gb702) (o := .cells #[.int .i64 0, .int .i64 0, .int .i64 0] 34 (0, 0)) (qb BK702) NB702_704.out (by simp)); replace BK703 := Aside0.mk (KeepBut.blk hk (g' := gb703) (o := .cells #[.int .i64 0, .int .i64 0, .int .i64 0] 48 (0, 0)) (qb BK703) NB703_704.out (by simp)); replace BK710 := Aside0.mk (KeepBut.blk hk (g' := gb710) (o := .cells #[.int .i64 t705, .int .i64 t706, .int .i64 t707] 34 (0, 0)) (qb BK710) NB710_704.out (by simp)); replace HB := Aside0.mk (hb); replace HI704 := Aside0.mk (hi); clear hb hk hi) | ((with_reducible refine gate_dst (N := 9) rfl ?_); refine boxA #[.int .i64 0, .int .i64 0, .int .i64 0] 48 ?_; intro gb719 hg w20 hbox hb; have BK719 := Aside0.mk (hbox); have GW719 := Aside0.mk ((by rw [hg]; exact (below_size (qz HB)) : w.heap.size ≤ gb719)); have GE719 := Aside0.mk ((by rw [hg]; exact (below_size (qz HB)) : w.heap.size ≤ gb719)); replace HB := Aside0.mk (below_step (qz HB) hb); have NB702_719 := nlt BK702 hg; have NB719_702 := ngt BK702 hg; replace BK702 := bkb BK702 hb; have NB703_719 := nlt BK703 hg; have NB719_703 := ngt BK703 hg; replace BK703 := bkb BK703 hb; have NB710_719 := nlt BK710 hg; have NB719_710 := ngt BK710 hg; replace BK710 := bkb BK710 hb; have NB704_719 := Aside0.mk ((by rw [hg]; exact Nat.ne_of_lt (IsS108.lt (show IsS108 w _ gb704 l0 t717 t718 from qi HI704)) : gb704 ≠ gb719)); have NB719_704 := Aside0.mk ((by rw [hg]; exact Nat.ne_of_gt (IsS108.lt (show IsS108 w _ gb704 l0 t717 t718 from qi HI704)) : gb719 ≠ gb704)); replace HI704 := Aside0.mk (IsS108.below (qi HI704) hb); clear hb hbox hg; have hnb21 := NB719_702.out; have hnc21 := NB702_719.out; have hnb22 := NB719_703.out; have hnc22 := NB703_719.out; have hnb23 := NB719_710.out; have hnc23 := NB710_719.out; have hnb24 := NB719_704.out; have hnc24 := NB704_719.out; have hcz25_0 := b0 BK719; have hcz25_1 := b1 BK719; have hcz25_2 := b2 BK719; have hfz25_0 := blk_frozen BK719.out 0; have hfz25_1 := blk_frozen BK719.out 1; have hfz25_2 := blk_frozen BK719.out 2) | ((with_reducible refine gate_callee (f := 74) rfl ?_); refine goesLA (some 24) rfl Try.func74 #[.pointer (some ⟨gb704, 0, none⟩), .int .i64 t711] ?_; (with_reducible refine (spec_l4Cur_in.calls k gb704 l0 t717 t718 t711 t720 t723 t724 w _ ?side1 ?side2 A5.out).mono ?_); (case side1 => exact qi HI704); (case side2 => exact qz HB); rintro e w26 ⟨v721, rfl, ho0, hi, hb, hk⟩; refine ⟨_, rfl, ?_⟩; replace BK702 := Aside0.mk (KeepBut.blk hk (g' := gb702) (o := .cells #[.int .i64 0, .int .i64 0, .int .i64 0] 34 (0, 0)) (qB BK702) NB702_704.out (by simp)); replace BK703 := Aside0.mk (KeepBut.blk hk (g' := gb703) (o := .cells #[.int .i64 0, .int .i64 0, .int .i64 0] 48 (0, 0)) (qB BK703) NB703_704.out (by simp)); replace BK710 := Aside0.mk (KeepBut.blk hk (g' := gb710) (o := .cells #[.int .i64 t705, .int .i64 t706, .int .i64 t707] 34 (0, 0)) (qB BK710) NB710_704.out (by simp)); replace BK719 := Aside0.mk (KeepBut.blk hk (g' := gb719) (o := .cells #[.int .i64 t714, .int .i64 t715, .int .i64 t716] 48 (0, 0)) (by (with_reducible repeat (first | refine blk_drewN ?_ _ | refine blk_drew ?_ | refine blk_alloc ?_ _)); refine blk_put (cs := #[.int .i64 t714, .int .i64 t715, .int .i64 0]) ?_ 2 _ rfl; (with_reducible repeat (first | refine blk_drewN ?_ _ | refine blk_drew ?_ | refine blk_alloc ?_ _)); refine blk_put (cs := #[.int .i64 t714, .int .i64 0, .int .i64 0]) ?_ 1 _ rfl; (with_reducible repeat (first | refine blk_drewN ?_ _ | refine blk_drew ?_ | refine blk_alloc ?_ _)); refine blk_put (cs := #[.int .i64 0, .int .i64 0, .int .i64 0]) ?_ 0 _ rfl; (with_reducible repeat (first | refine blk_drewN ?_ _ | refine blk_drew ?_ | refine blk_alloc ?_ _)); exact BK719.out) NB719_704.out (by simp)); have HO722 := Aside0.mk (Kd.R_lower ho0 (below_size (qz HB))); replace HB := Aside0.mk (hb); replace HI704 := Aside0.mk (hi); clear hb hk hi; (try clear ho0)) | ((with_reducible refine gate_callee (f := 72) rfl ?_); refine goesLA (some 26) rfl Try.func72 #[.pointer (some ⟨gb704, 0, none⟩), .int .i64 60] ?_; (with_reducible refine (spec_l4Cur_pick.calls gb704 l0 t723 t724 60 t725 t726 t727 w _ ?side1 ?side2 A6.out).mono ?_); (case side1 => exact qi HI704); (case side2 => exact qz HB); rintro e w27 ⟨rfl, hi, hb, hk⟩; refine ⟨_, rfl, ?_⟩; replace BK702 := Aside0.mk (KeepBut.blk hk (g' := gb702) (o := .cells #[.int .i64 0, .int .i64 0, .int .i64 0] 34 (0, 0)) (qb BK702) NB702_704.out (by simp)); replace BK703 := Aside0.mk (KeepBut.blk hk (g' := gb703) (o := .cells #[.int .i64 0, .int .i64 0, .int .i64 0] 48 (0, 0)) (qb BK703) NB703_704.out (by simp)); replace BK710 := Aside0.mk (KeepBut.blk hk (g' := gb710) (o := .cells #[.int .i64 t705, .int .i64 t706, .int .i64 t707] 34 (0, 0)) (qb BK710) NB710_704.out (by simp)); replace BK719 := Aside0.mk (KeepBut.blk hk (g' := gb719) (o := .cells #[.int .i64 t714, .int .i64 t715, .int .i64 t716] 48 (0, 0)) (qb BK719) NB719_704.out (by simp)); replace HO722 := Aside0.mk (Kd.R_mono (Kd.R_keep (IsS108.apart (show IsS108 w _ gb704 l0 t723 t724 from qi HI704) (qr HO722) (by decide)) hk (fun _ h => h.2)) (fun _ h => h.1)); replace HB := Aside0.mk (hb); replace HI704 := Aside0.mk (hi); clear hb hk hi) | ((with_reducible refine gate_callee (f := 72) rfl ?_); refine goesLA (some 29) rfl Try.func72 #[.pointer (some ⟨gb704, 0, none⟩), .int .i64 3] ?_; (with_reducible refine (spec_l4Cur_pick.calls gb704 l0 t726 t727 3 t728 t729 t730 w _ ?side1 ?side2 A8.out).mono ?_); (case side1 => exact qi HI704); (case side2 => exact qz HB); rintro e w28 ⟨rfl, hi, hb, hk⟩; refine ⟨_, rfl, ?_⟩; replace BK702 := Aside0.mk (KeepBut.blk hk (g' := gb702) (o := .cells #[.int .i64 0, .int .i64 0, .int .i64 0] 34 (0, 0)) (qb BK702) NB702_704.out (by simp)); replace BK703 := Aside0.mk (KeepBut.blk hk (g' := gb703) (o := .cells #[.int .i64 0, .int .i64 0, .int .i64 0] 48 (0, 0)) (qb BK703) NB703_704.out (by simp)); replace BK710 := Aside0.mk (KeepBut.blk hk (g' := gb710) (o := .cells #[.int .i64 t705, .int .i64 t706, .int .i64 t707] 34 (0, 0)) (qb BK710) NB710_704.out (by simp)); replace BK719 := Aside0.mk (KeepBut.blk hk (g' := gb719) (o := .cells #[.int .i64 t714, .int .i64 t715, .int .i64 t716] 48 (0, 0)) (qb BK719) NB719_704.out (by simp)); replace HO722 := Aside0.mk (Kd.R_mono (Kd.R_keep (IsS108.apart (show IsS108 w _ gb704 l0 t726 t727 from qi HI704) (qr HO722) (by decide)) hk (fun _ h => h.2)) (fun _ h => h.1)); replace HB := Aside0.mk (hb); replace HI704 := Aside0.mk (hi); clear hb hk hi))
  go_loopg [10] k (fun kq v10 w' => ∃ (x10_1 : List (S60)), Aside0 (spec_DrawTrainTick.l0 kq t711 x10_1 (wrap64 (999 + t728)) t705 t706 t707 t714 t715 t716 = some (r1, r2, r3, r4, r5, r6, r7, r8)) ∧ Aside0 (kq ≤ k) ∧ Aside0 (Kd.R k60 60 w' w.heap.size (fun _ => True) v10 x10_1) ∧ Aside0 (w'.heap[gb702]? = some (.cells #[.int .i64 0, .int .i64 0, .int .i64 0] 34 (0, 0))) ∧ Aside0 (w'.heap[gb703]? = some (.cells #[.int .i64 0, .int .i64 0, .int .i64 0] 48 (0, 0))) ∧ Aside0 (w'.heap[gb710]? = some (.cells #[.int .i64 t705, .int .i64 t706, .int .i64 t707] 34 (0, 0))) ∧ Aside0 (w'.heap[gb719]? = some (.cells #[.int .i64 t714, .int .i64 t715, .int .i64 t716] 48 (0, 0))) ∧ Aside0 (Below w.heap.size w w'))
  case atStart => exact ⟨(([] : List (S60))), H', ⟨Nat.le_refl _⟩, ⟨by first | exact Kd.R_nil _ _ _ _ _ | exact Kd.N_nil _ _ _ _ _ | exact Kd.V_nil _ _ _ _ _ | exact Kd.Q_nil _ _ _ _ _ | exact Kd.S_nil _ _ _ _ _⟩, ⟨qb BK702⟩, ⟨qb BK703⟩, ⟨qb BK710⟩, ⟨qb BK719⟩, ⟨(qz HB)⟩⟩
  case round =>
   clear H'
   try clear c1; try clear c2; try clear p2; try clear c3; try clear c6; try clear p6; try clear c7; try clear c7b0; try clear c7b1; try clear c14; try clear c15; try clear c16; try clear c21; try clear c22; try clear c23; try clear c24; try clear hcz17_0; try clear hcz17_1; try clear hcz17_2; try clear hcz25_0; try clear hcz25_1; try clear hcz25_2; try clear hfz17_0; try clear hfz17_1; try clear hfz17_2; try clear hfz25_0; try clear hfz25_1; try clear hfz25_2
   obtain ⟨x10_1, HA, HK1, HO_10, BK702, BK703, BK710, BK719, HB⟩ := hrel
   cases gk with
   | zero => exact absurd HA.out (by simp [spec_DrawTrainTick.l0])
   | succ k1 =>
    have H := HA.out
    clear HA
    simp only [spec_DrawTrainTick.l0] at H
    by_cases c29 : (x10_1.length : Int) < (wrap64 (999 + t728))
    ·rw [if_pos c29] at H
     have c29b0 : decide ((x10_1.length : Int) < (wrap64 (999 + t728))) = true := decide_eq_true c29
     clear c29
     by_cases c30 : x10_1.length < 4398046511104
     ·rw [if_pos c30] at H
      have LMc30 := Aside0.mk c30
      clear c30
      obtain ⟨y731, hy731⟩ : ∃ y_ : List (S60), y_ = (x10_1 ++ [(⟨2, 0, 0, 0⟩ : S60)]) := ⟨_, rfl⟩
      replace H : (spec_DrawTrainTick.l0 k1 t711 y731 (wrap64 (999 + t728)) t705 t706 t707 t714 t715 t716) = some (r1, r2, r3, r4, r5, r6, r7, r8) := by first | (rw [hy731]; with_reducible exact H) | (have H2_ := (Option.bind_some _ _).symm.trans H; rw [hy731]; with_reducible exact H2_) | (have H2_ := (Option.bind_some _ _).symm.trans H; with_reducible exact H2_) | with_reducible exact H | (rw [hy731]; exact H) | exact H
      have Ny731 := Aside0.mk hy731
      clear hy731
      have H' := Aside0.mk H
      clear H
      obtain ⟨Ao31, co31, eo31⟩ := Kd.R_slice HO_10.out
      subst eo31
      go_wp2_with (first | ((with_reducible refine gate_builtin (b := .append) (xs := #[.tmp 35, .tmp 37]) rfl ?_); at_builtin; refine Kd.R_append k60 (w0 := w) w.heap.size rfl (.tmp 35) (.tmp 37) 30 60 (.agg #[(.int .i64 0), (.int .i64 0), (.int .i64 0), (.int .i64 0)]) 32 rfl Try.underlying30 info60 rfl (by decide) (by omega) (.slice Ao31 x10_1.length co31) x10_1 (⟨2, 0, 0, 0⟩ : S60) [.int .i64 2, .int .i64 0, .int .i64 0, .int .i64 0] (fun _ => True) (fun _ => False) rfl rfl ?aP (fun _ hk => hk.elim) ?aF ?aO ?aB ?aS ?aL ?_; (case aP => exact k60_mkM _ _ _ (⟨2, 0, 0, 0⟩ : S60)); (case aB => exact (qs HB)); (case aF => exact (fun _ _ => trivial)); (case aO => exact (qr HO_10)); (case aS => exact (below_size (qs HB))); (case aL => have := LMc30.out; omega); intro v732 w32 ho hb hg hat; rw [← Ny731.out] at ho; replace BK702 := Aside0.mk (blk_grown (g := gb702) (o := .cells #[.int .i64 0, .int .i64 0, .int .i64 0] 34 (0, 0)) (qb BK702) hg (Kd.R_ne HO_10.out BK702.out (by decide))); replace BK703 := Aside0.mk (blk_grown (g := gb703) (o := .cells #[.int .i64 0, .int .i64 0, .int .i64 0] 48 (0, 0)) (qb BK703) hg (Kd.R_ne HO_10.out BK703.out (by decide))); replace BK710 := Aside0.mk (blk_grown (g := gb710) (o := .cells #[.int .i64 t705, .int .i64 t706, .int .i64 t707] 34 (0, 0)) (qb BK710) hg (Kd.R_ne HO_10.out BK710.out (by decide))); replace BK719 := Aside0.mk (blk_grown (g := gb719) (o := .cells #[.int .i64 t714, .int .i64 t715, .int .i64 t716] 48 (0, 0)) (qb BK719) hg (Kd.R_ne HO_10.out BK719.out (by decide))); replace HB := Aside0.mk (hb); have HO733 := Aside0.mk (ho); clear HO_10; clear ho hb hg hat))
      go_roundg k1
      case measure => have := HK1.out; omega
      case rel => exact ⟨(y731), H', ⟨by have := HK1.out; omega⟩, ⟨by (with_reducible repeat (first | apply Kd.R_alloc | apply Kd.R_drewN | apply Kd.R_drew)); exact HO733.out⟩, ⟨qb BK702⟩, ⟨qb BK703⟩, ⟨qb BK710⟩, ⟨qb BK719⟩, ⟨(qs HB)⟩⟩
     rw [if_neg c30] at H
     exact absurd H (by simp)
    rw [if_neg c29] at H
    have c29b0 : decide ((x10_1.length : Int) < (wrap64 (999 + t728))) = false := decide_eq_false c29
    clear c29
    simp only [Option.some.injEq, Prod.mk.injEq] at H
    obtain ⟨rfl, rfl, rfl, rfl, rfl, rfl, rfl, rfl⟩ := H
    obtain ⟨Ao33, co33, eo33⟩ := Kd.R_slice HO_10.out
    subst eo33
    try go_wp2
    replace HO_10 := Aside0.mk (Kd.R_drew HO_10.out); replace BK702 := Aside0.mk (blk_drew BK702.out); replace BK703 := Aside0.mk (blk_drew BK703.out); replace BK710 := Aside0.mk (blk_drew BK710.out); replace BK719 := Aside0.mk (blk_drew BK719.out); replace HB := Aside0.mk (below_drew1 HB.out)
    refine start_ (n := 8) (S := fun w' => w'.cell? ⟨gb710, 0, none⟩ = some (.int .i64 t705) ∧ w'.cell? ⟨gb710, 1, none⟩ = some (.int .i64 t706) ∧ w'.cell? ⟨gb710, 2, none⟩ = some (.int .i64 t707) ∧ w'.cell? ⟨gb719, 0, none⟩ = some (.int .i64 t714) ∧ w'.cell? ⟨gb719, 1, none⟩ = some (.int .i64 t715) ∧ w'.cell? ⟨gb719, 2, none⟩ = some (.int .i64 t716)) (ds := []) #[false, false, false, false, false, false, false, false] (by kernel_rfl) rfl rfl ⟨bc BK710 0, bc BK710 1, bc BK710 2, bc BK719 0, bc BK719 1, bc BK719 2⟩ (fun hHeld => ?_); refine with_tabW spec_DrawTrainTick.tab11 spec_DrawTrainTick.bits11 (fun HT_ HW_ => ?_)
    generalize wr.drew = w34 at HO_10 BK702 BK703 BK710 BK719 HB hHeld ⊢
    refine pureA 1 40 #[false, true, false, false, false, false, false, false] (any_of HT_.out (by kernel_rfl)) ?_
    refine pureA 3 42 #[false, true, false, true, false, false, false, false] (any_of HT_.out (by kernel_rfl)) ?_
    refine takeA 0 39 #[true, true, false, true, false, false, false, false] (take_ofW HT_.out HW_.out (by kernel_rfl)) hHeld ?_
    refine takeA 2 41 #[true, true, true, true, false, false, false, false] (take_ofW HT_.out HW_.out (by kernel_rfl)) hHeld ?_
    refine one_ (i := 4) (N := none) #[true, true, true, true, true, false, false, false] rfl rfl (one_of HT_.out (by kernel_rfl)) (by decide) (fun K hK => ?_)
    have hs35 := b0 BK702
    have hfs35 := blk_frozen BK702.out 0
    have hns35_1 := NB703_702.out
    have hns35_2 := NB710_702.out
    have hns35_3 := NB719_702.out
    have hms35_1 := NB702_703.out
    have hms35_2 := NB702_710.out
    have hms35_3 := NB702_719.out
    have hs36 := b1 BK702
    have hfs36 := blk_frozen BK702.out 1
    have hns36_1 := NB703_702.out
    have hns36_2 := NB710_702.out
    have hns36_3 := NB719_702.out
    have hms36_1 := NB702_703.out
    have hms36_2 := NB702_710.out
    have hms36_3 := NB702_719.out
    have hs37 := b2 BK702
    have hfs37 := blk_frozen BK702.out 2
    have hns37_1 := NB703_702.out
    have hns37_2 := NB710_702.out
    have hns37_3 := NB719_702.out
    have hms37_1 := NB702_703.out
    have hms37_2 := NB702_710.out
    have hms37_3 := NB702_719.out
    refine skip_ (w1 := ?_) (by rfl) rfl ?_ ?_
    rotate_left
    ·go_simp
     rfl
    refine hK.out _ _ ⟨(cf NB710_702 ((cf NB710_702 ((cf NB710_702 (hHeld.1)))))), (cf NB710_702 ((cf NB710_702 ((cf NB710_702 (hHeld.2.1)))))), (cf NB710_702 ((cf NB710_702 ((cf NB710_702 (hHeld.2.2.1)))))), (cf NB719_702 ((cf NB719_702 ((cf NB719_702 (hHeld.2.2.2.1)))))), (cf NB719_702 ((cf NB719_702 ((cf NB719_702 (hHeld.2.2.2.2.1)))))), (cf NB719_702 ((cf NB719_702 ((cf NB719_702 (hHeld.2.2.2.2.2))))))⟩ (fun hHeld => ?_)
    clear hK K
    refine pureA 5 3 #[true, true, true, true, true, true, false, false] (any_of HT_.out (by kernel_rfl)) ?_
    refine one_ (i := 6) (N := none) #[true, true, true, true, true, true, true, false] rfl rfl (one_of HT_.out (by kernel_rfl)) (by decide) (fun K hK => ?_)
    have hs38 := b0 BK703
    have hfs38 := blk_frozen BK703.out 0
    have hns38_0 := NB702_703.out
    have hns38_2 := NB710_703.out
    have hns38_3 := NB719_703.out
    have hms38_0 := NB703_702.out
    have hms38_2 := NB703_710.out
    have hms38_3 := NB703_719.out
    have hs39 := b1 BK703
    have hfs39 := blk_frozen BK703.out 1
    have hns39_0 := NB702_703.out
    have hns39_2 := NB710_703.out
    have hns39_3 := NB719_703.out
    have hms39_0 := NB703_702.out
    have hms39_2 := NB703_710.out
    have hms39_3 := NB703_719.out
    have hs40 := b2 BK703
    have hfs40 := blk_frozen BK703.out 2
    have hns40_0 := NB702_703.out
    have hns40_2 := NB710_703.out
    have hns40_3 := NB719_703.out
    have hms40_0 := NB703_702.out
    have hms40_2 := NB703_710.out
    have hms40_3 := NB703_719.out
    refine skip_ (w1 := ?_) (by rfl) rfl ?_ ?_
    rotate_left
    ·go_simp
     rfl
    refine hK.out _ _ ⟨(cf NB710_703 ((cf NB710_703 ((cf NB710_703 (hHeld.1)))))), (cf NB710_703 ((cf NB710_703 ((cf NB710_703 (hHeld.2.1)))))), (cf NB710_703 ((cf NB710_703 ((cf NB710_703 (hHeld.2.2.1)))))), (cf NB719_703 ((cf NB719_703 ((cf NB719_703 (hHeld.2.2.2.1)))))), (cf NB719_703 ((cf NB719_703 ((cf NB719_703 (hHeld.2.2.2.2.1)))))), (cf NB719_703 ((cf NB719_703 ((cf NB719_703 (hHeld.2.2.2.2.2))))))⟩ (fun hHeld => ?_)
    clear hK K
    refine pureA 7 5 #[true, true, true, true, true, true, true, true] (any_of HT_.out (by kernel_rfl)) ?_
    refine done_ (done_of HT_.out (by kernel_rfl)) ?_
    try go_wp2
    refine bodyPost_ret (results_list (rs := [.cell 2 34, .tmp 3, .cell 4 48, .tmp 5]) rfl (by simp) (.cell gb702 34 #[.int .i64 t705, .int .i64 t706, .int .i64 t707] (0, 0) _ rfl (by (with_reducible repeat (first | refine blk_drewN ?_ _ | refine blk_drew ?_ | refine blk_alloc ?_ _)); refine blk_far ?_ NB702_703.out _; (with_reducible repeat (first | refine blk_drewN ?_ _ | refine blk_drew ?_ | refine blk_alloc ?_ _)); refine blk_far ?_ NB702_703.out _; (with_reducible repeat (first | refine blk_drewN ?_ _ | refine blk_drew ?_ | refine blk_alloc ?_ _)); refine blk_far ?_ NB702_703.out _; (with_reducible repeat (first | refine blk_drewN ?_ _ | refine blk_drew ?_ | refine blk_alloc ?_ _)); refine blk_put (cs := #[.int .i64 t705, .int .i64 t706, .int .i64 0]) ?_ 2 _ rfl; (with_reducible repeat (first | refine blk_drewN ?_ _ | refine blk_drew ?_ | refine blk_alloc ?_ _)); refine blk_put (cs := #[.int .i64 t705, .int .i64 0, .int .i64 0]) ?_ 1 _ rfl; (with_reducible repeat (first | refine blk_drewN ?_ _ | refine blk_drew ?_ | refine blk_alloc ?_ _)); refine blk_put (cs := #[.int .i64 0, .int .i64 0, .int .i64 0]) ?_ 0 _ rfl; (with_reducible repeat (first | refine blk_drewN ?_ _ | refine blk_drew ?_ | refine blk_alloc ?_ _)); exact BK702.out) Try.underlying34 rfl (by kernel_rfl) (.tmp (.cell gb703 48 #[.int .i64 t714, .int .i64 t715, .int .i64 t716] (0, 0) _ rfl (by (with_reducible repeat (first | refine blk_drewN ?_ _ | refine blk_drew ?_ | refine blk_alloc ?_ _)); refine blk_put (cs := #[.int .i64 t714, .int .i64 t715, .int .i64 0]) ?_ 2 _ rfl; (with_reducible repeat (first | refine blk_drewN ?_ _ | refine blk_drew ?_ | refine blk_alloc ?_ _)); refine blk_put (cs := #[.int .i64 t714, .int .i64 0, .int .i64 0]) ?_ 1 _ rfl; (with_reducible repeat (first | refine blk_drewN ?_ _ | refine blk_drew ?_ | refine blk_alloc ?_ _)); refine blk_put (cs := #[.int .i64 0, .int .i64 0, .int .i64 0]) ?_ 0 _ rfl; exact qB BK703) Try.underlying48 rfl (by kernel_rfl) (.tmp .nil))))) rfl ?_
    exact ⟨_, by first | rfl | (simp [errW_none, errW_some] <;> rfl) | (simp [*, errW_none, errW_some] <;> rfl), by (with_reducible repeat (first | apply Kd.R_alloc | apply Kd.R_drewN | apply Kd.R_drew)); exact Kd.R_mono (Kd.R_far (p := ⟨gb703, 2, none⟩) (Kd.R_far (p := ⟨gb703, 1, none⟩) (Kd.R_far (p := ⟨gb703, 0, none⟩) (Kd.R_far (p := ⟨gb702, 2, none⟩) (Kd.R_far (p := ⟨gb702, 1, none⟩) (Kd.R_far (p := ⟨gb702, 0, none⟩) (Kd.R_types (Kd.R_types HO_10.out BK702.out (by decide)) BK703.out (by decide)) (fun _ hk => hk.1.2) (.int .i64 t705)) (fun _ hk => hk.1.2) (.int .i64 t706)) (fun _ hk => hk.1.2) (.int .i64 t707)) (fun _ hk => hk.2) (.int .i64 t714)) (fun _ hk => hk.2) (.int .i64 t715)) (fun _ hk => hk.2) (.int .i64 t716)) (fun _ hk => trivial), (qs HB)⟩
 rw [if_neg c7] at H
 have c7b0 : (t725 == 0) = false := beq_eq_false_iff_ne.mpr c7
 have c7b1 : (t725 != 0) = true := bne_iff_ne.mpr c7
 simp only [Option.some.injEq, Prod.mk.injEq] at H
 obtain ⟨rfl, rfl, rfl, rfl, rfl, rfl, rfl, rfl⟩ := H
 go_enter Try.func32, Try.ntmps32
 try go_wp2_with (first | ((with_reducible refine gate_dst (N := 2) rfl ?_); refine boxA #[.int .i64 0, .int .i64 0, .int .i64 0] 34 ?_; intro gb702 hg w41 hbox hb; have BK702 := Aside0.mk (hbox); have GW702 := nge HB hg; have GE702 := nge HB hg; replace HB := bst HB hb; clear hb hbox hg) | ((with_reducible refine gate_dst (N := 4) rfl ?_); refine boxA #[.int .i64 0, .int .i64 0, .int .i64 0] 48 ?_; intro gb703 hg w42 hbox hb; have BK703 := Aside0.mk (hbox); have GW703 := nge HB hg; have GE703 := nge HB hg; replace HB := bst HB hb; have NB702_703 := nlt BK702 hg; have NB703_702 := ngt BK702 hg; replace BK702 := bkb BK702 hb; clear hb hbox hg) | ((with_reducible refine gate_dst (N := 14) rfl ?_); refine boxA #[.slice A0 l0.length c0, .int .i64 0, .int .u64 0] 108 ?_; intro gb704 hg w43 hbox hb; have GW704 := nge HB hg; have GE704 := nge HB hg; have NB702_704 := nlt BK702 hg; have NB704_702 := ngt BK702 hg; replace BK702 := bkb BK702 hb; have NB703_704 := nlt BK703 hg; have NB704_703 := ngt BK703 hg; replace BK703 := bkb BK703 hb; have HI704 := Aside0.mk ((show IsS108 w w43 gb704 l0 0 0 from ⟨_, _, hbox, (by rw [hg]; exact (below_size (qs HB)) : w.heap.size ≤ gb704), HR0.out⟩)); replace HB := bst HB hb; clear hb hbox hg) | ((with_reducible refine gate_callee (f := 69) rfl ?_); refine goesLA (some 16) rfl Try.func69 #[.pointer (some ⟨gb704, 0, none⟩)] ?_; (with_reducible refine (spec_l4rules.calls gb704 l0 0 0 t705 t706 t707 t708 t709 w _ ?side1 ?side2 A2.out).mono ?_); (case side1 => exact qi HI704); (case side2 => exact qz HB); rintro e w44 ⟨rfl, hi, hb, hk⟩; refine ⟨_, rfl, ?_⟩; replace BK702 := Aside0.mk (KeepBut.blk hk (g' := gb702) (o := .cells #[.int .i64 0, .int .i64 0, .int .i64 0] 34 (0, 0)) (qb BK702) NB702_704.out (by simp)); replace BK703 := Aside0.mk (KeepBut.blk hk (g' := gb703) (o := .cells #[.int .i64 0, .int .i64 0, .int .i64 0] 48 (0, 0)) (qb BK703) NB703_704.out (by simp)); replace HB := Aside0.mk (hb); replace HI704 := Aside0.mk (hi); clear hb hk hi) | ((with_reducible refine gate_dst (N := 7) rfl ?_); refine boxA #[.int .i64 0, .int .i64 0, .int .i64 0] 34 ?_; intro gb710 hg w45 hbox hb; have BK710 := Aside0.mk (hbox); have GW710 := Aside0.mk ((by rw [hg]; exact (below_size (qz HB)) : w.heap.size ≤ gb710)); have GE710 := Aside0.mk ((by rw [hg]; exact (below_size (qz HB)) : w.heap.size ≤ gb710)); replace HB := Aside0.mk (below_step (qz HB) hb); have NB702_710 := nlt BK702 hg; have NB710_702 := ngt BK702 hg; replace BK702 := bkb BK702 hb; have NB703_710 := nlt BK703 hg; have NB710_703 := ngt BK703 hg; replace BK703 := bkb BK703 hb; have NB704_710 := Aside0.mk ((by rw [hg]; exact Nat.ne_of_lt (IsS108.lt (show IsS108 w _ gb704 l0 t708 t709 from qi HI704)) : gb704 ≠ gb710)); have NB710_704 := Aside0.mk ((by rw [hg]; exact Nat.ne_of_gt (IsS108.lt (show IsS108 w _ gb704 l0 t708 t709 from qi HI704)) : gb710 ≠ gb704)); replace HI704 := Aside0.mk (IsS108.below (qi HI704) hb); clear hb hbox hg; have hnb46 := NB710_702.out; have hnc46 := NB702_710.out; have hnb47 := NB710_703.out; have hnc47 := NB703_710.out; have hnb48 := NB710_704.out; have hnc48 := NB704_710.out; have hcz49_0 := b0 BK710; have hcz49_1 := b1 BK710; have hcz49_2 := b2 BK710; have hfz49_0 := blk_frozen BK710.out 0; have hfz49_1 := blk_frozen BK710.out 1; have hfz49_2 := blk_frozen BK710.out 2) | ((with_reducible refine gate_callee (f := 70) rfl ?_); refine goesLA (some 18) rfl Try.func70 #[.pointer (some ⟨gb704, 0, none⟩)] ?_; (with_reducible refine (spec_l4Cur_now.calls gb704 l0 t708 t709 t711 t712 t713 w _ ?side1 ?side2 A3.out).mono ?_); (case side1 => exact qi HI704); (case side2 => exact qz HB); rintro e w50 ⟨rfl, hi, hb, hk⟩; refine ⟨_, rfl, ?_⟩; replace BK702 := Aside0.mk (KeepBut.blk hk (g' := gb702) (o := .cells #[.int .i64 0, .int .i64 0, .int .i64 0] 34 (0, 0)) (qB BK702) NB702_704.out (by simp)); replace BK703 := Aside0.mk (KeepBut.blk hk (g' := gb703) (o := .cells #[.int .i64 0, .int .i64 0, .int .i64 0] 48 (0, 0)) (qB BK703) NB703_704.out (by simp)); replace BK710 := Aside0.mk (KeepBut.blk hk (g' := gb710) (o := .cells #[.int .i64 t705, .int .i64 t706, .int .i64 t707] 34 (0, 0)) (by (with_reducible repeat (first | refine blk_drewN ?_ _ | refine blk_drew ?_ | refine blk_alloc ?_ _)); refine blk_put (cs := #[.int .i64 t705, .int .i64 t706, .int .i64 0]) ?_ 2 _ rfl; (with_reducible repeat (first | refine blk_drewN ?_ _ | refine blk_drew ?_ | refine blk_alloc ?_ _)); refine blk_put (cs := #[.int .i64 t705, .int .i64 0, .int .i64 0]) ?_ 1 _ rfl; (with_reducible repeat (first | refine blk_drewN ?_ _ | refine blk_drew ?_ | refine blk_alloc ?_ _)); refine blk_put (cs := #[.int .i64 0, .int .i64 0, .int .i64 0]) ?_ 0 _ rfl; (with_reducible repeat (first | refine blk_drewN ?_ _ | refine blk_drew ?_ | refine blk_alloc ?_ _)); exact BK710.out) NB710_704.out (by simp)); replace HB := Aside0.mk (hb); replace HI704 := Aside0.mk (hi); clear hb hk hi) | ((with_reducible refine gate_callee (f := 75) rfl ?_); refine goesLA (some 21) rfl Try.func75 #[.pointer (some ⟨gb704, 0, none⟩), .int .i64 t711] ?_; (with_reducible refine (spec_l4Cur_train.calls k gb704 l0 t712 t713 t711 t714 t715 t716 t717 t718 w _ ?side1 ?side2 A4.out).mono ?_); (case side1 => exact qi HI704); (case side2 => exact qz HB); rintro e w51 ⟨rfl, hi, hb, hk⟩; refine ⟨_, rfl, ?_⟩; replace BK702 := Aside0.mk (KeepBut.blk hk (g' := gb702) (o := .cells #[.int .i64 0, .int .i64 0, .int .i64 0] 34 (0, 0)) (qb BK702) NB702_704.out (by simp)); replace BK703 := Aside0.mk (KeepBut.blk hk (g' := gb703) (o := .cells #[.int .i64 0, .int .i64 0, .int .i64 0] 48 (0, 0)) (qb BK703) NB703_704.out (by simp)); replace BK710 := Aside0.mk (KeepBut.blk hk (g' := gb710) (o := .cells #[.int .i64 t705, .int .i64 t706, .int .i64 t707] 34 (0, 0)) (qb BK710) NB710_704.out (by simp)); replace HB := Aside0.mk (hb); replace HI704 := Aside0.mk (hi); clear hb hk hi) | ((with_reducible refine gate_dst (N := 9) rfl ?_); refine boxA #[.int .i64 0, .int .i64 0, .int .i64 0] 48 ?_; intro gb719 hg w52 hbox hb; have BK719 := Aside0.mk (hbox); have GW719 := Aside0.mk ((by rw [hg]; exact (below_size (qz HB)) : w.heap.size ≤ gb719)); have GE719 := Aside0.mk ((by rw [hg]; exact (below_size (qz HB)) : w.heap.size ≤ gb719)); replace HB := Aside0.mk (below_step (qz HB) hb); have NB702_719 := nlt BK702 hg; have NB719_702 := ngt BK702 hg; replace BK702 := bkb BK702 hb; have NB703_719 := nlt BK703 hg; have NB719_703 := ngt BK703 hg; replace BK703 := bkb BK703 hb; have NB710_719 := nlt BK710 hg; have NB719_710 := ngt BK710 hg; replace BK710 := bkb BK710 hb; have NB704_719 := Aside0.mk ((by rw [hg]; exact Nat.ne_of_lt (IsS108.lt (show IsS108 w _ gb704 l0 t717 t718 from qi HI704)) : gb704 ≠ gb719)); have NB719_704 := Aside0.mk ((by rw [hg]; exact Nat.ne_of_gt (IsS108.lt (show IsS108 w _ gb704 l0 t717 t718 from qi HI704)) : gb719 ≠ gb704)); replace HI704 := Aside0.mk (IsS108.below (qi HI704) hb); clear hb hbox hg; have hnb53 := NB719_702.out; have hnc53 := NB702_719.out; have hnb54 := NB719_703.out; have hnc54 := NB703_719.out; have hnb55 := NB719_710.out; have hnc55 := NB710_719.out; have hnb56 := NB719_704.out; have hnc56 := NB704_719.out; have hcz57_0 := b0 BK719; have hcz57_1 := b1 BK719; have hcz57_2 := b2 BK719; have hfz57_0 := blk_frozen BK719.out 0; have hfz57_1 := blk_frozen BK719.out 1; have hfz57_2 := blk_frozen BK719.out 2) | ((with_reducible refine gate_callee (f := 74) rfl ?_); refine goesLA (some 24) rfl Try.func74 #[.pointer (some ⟨gb704, 0, none⟩), .int .i64 t711] ?_; (with_reducible refine (spec_l4Cur_in.calls k gb704 l0 t717 t718 t711 t720 t723 t724 w _ ?side1 ?side2 A5.out).mono ?_); (case side1 => exact qi HI704); (case side2 => exact qz HB); rintro e w58 ⟨v721, rfl, ho0, hi, hb, hk⟩; refine ⟨_, rfl, ?_⟩; replace BK702 := Aside0.mk (KeepBut.blk hk (g' := gb702) (o := .cells #[.int .i64 0, .int .i64 0, .int .i64 0] 34 (0, 0)) (qB BK702) NB702_704.out (by simp)); replace BK703 := Aside0.mk (KeepBut.blk hk (g' := gb703) (o := .cells #[.int .i64 0, .int .i64 0, .int .i64 0] 48 (0, 0)) (qB BK703) NB703_704.out (by simp)); replace BK710 := Aside0.mk (KeepBut.blk hk (g' := gb710) (o := .cells #[.int .i64 t705, .int .i64 t706, .int .i64 t707] 34 (0, 0)) (qB BK710) NB710_704.out (by simp)); replace BK719 := Aside0.mk (KeepBut.blk hk (g' := gb719) (o := .cells #[.int .i64 t714, .int .i64 t715, .int .i64 t716] 48 (0, 0)) (by (with_reducible repeat (first | refine blk_drewN ?_ _ | refine blk_drew ?_ | refine blk_alloc ?_ _)); refine blk_put (cs := #[.int .i64 t714, .int .i64 t715, .int .i64 0]) ?_ 2 _ rfl; (with_reducible repeat (first | refine blk_drewN ?_ _ | refine blk_drew ?_ | refine blk_alloc ?_ _)); refine blk_put (cs := #[.int .i64 t714, .int .i64 0, .int .i64 0]) ?_ 1 _ rfl; (with_reducible repeat (first | refine blk_drewN ?_ _ | refine blk_drew ?_ | refine blk_alloc ?_ _)); refine blk_put (cs := #[.int .i64 0, .int .i64 0, .int .i64 0]) ?_ 0 _ rfl; (with_reducible repeat (first | refine blk_drewN ?_ _ | refine blk_drew ?_ | refine blk_alloc ?_ _)); exact BK719.out) NB719_704.out (by simp)); have HO722 := Aside0.mk (Kd.R_lower ho0 (below_size (qz HB))); replace HB := Aside0.mk (hb); replace HI704 := Aside0.mk (hi); clear hb hk hi; (try clear ho0)) | ((with_reducible refine gate_callee (f := 72) rfl ?_); refine goesLA (some 26) rfl Try.func72 #[.pointer (some ⟨gb704, 0, none⟩), .int .i64 60] ?_; (with_reducible refine (spec_l4Cur_pick.calls gb704 l0 t723 t724 60 t725 t726 t727 w _ ?side1 ?side2 A6.out).mono ?_); (case side1 => exact qi HI704); (case side2 => exact qz HB); rintro e w59 ⟨rfl, hi, hb, hk⟩; refine ⟨_, rfl, ?_⟩; replace BK702 := Aside0.mk (KeepBut.blk hk (g' := gb702) (o := .cells #[.int .i64 0, .int .i64 0, .int .i64 0] 34 (0, 0)) (qb BK702) NB702_704.out (by simp)); replace BK703 := Aside0.mk (KeepBut.blk hk (g' := gb703) (o := .cells #[.int .i64 0, .int .i64 0, .int .i64 0] 48 (0, 0)) (qb BK703) NB703_704.out (by simp)); replace BK710 := Aside0.mk (KeepBut.blk hk (g' := gb710) (o := .cells #[.int .i64 t705, .int .i64 t706, .int .i64 t707] 34 (0, 0)) (qb BK710) NB710_704.out (by simp)); replace BK719 := Aside0.mk (KeepBut.blk hk (g' := gb719) (o := .cells #[.int .i64 t714, .int .i64 t715, .int .i64 t716] 48 (0, 0)) (qb BK719) NB719_704.out (by simp)); replace HO722 := Aside0.mk (Kd.R_mono (Kd.R_keep (IsS108.apart (show IsS108 w _ gb704 l0 t723 t724 from qi HI704) (qr HO722) (by decide)) hk (fun _ h => h.2)) (fun _ h => h.1)); replace HB := Aside0.mk (hb); replace HI704 := Aside0.mk (hi); clear hb hk hi))
 replace HO722 := Aside0.mk (Kd.R_drew HO722.out); replace BK702 := Aside0.mk (blk_drew BK702.out); replace BK703 := Aside0.mk (blk_drew BK703.out); replace BK710 := Aside0.mk (blk_drew BK710.out); replace BK719 := Aside0.mk (blk_drew BK719.out); replace HI704 := Aside0.mk (IsS108.drew HI704.out); replace HB := Aside0.mk (below_drew1 HB.out)
 refine start_ (n := 8) (S := fun w' => w'.cell? ⟨gb710, 0, none⟩ = some (.int .i64 t705) ∧ w'.cell? ⟨gb710, 1, none⟩ = some (.int .i64 t706) ∧ w'.cell? ⟨gb710, 2, none⟩ = some (.int .i64 t707) ∧ w'.cell? ⟨gb719, 0, none⟩ = some (.int .i64 t714) ∧ w'.cell? ⟨gb719, 1, none⟩ = some (.int .i64 t715) ∧ w'.cell? ⟨gb719, 2, none⟩ = some (.int .i64 t716)) (ds := []) #[false, false, false, false, false, false, false, false] (by kernel_rfl) rfl rfl ⟨bc BK710 0, bc BK710 1, bc BK710 2, bc BK719 0, bc BK719 1, bc BK719 2⟩ (fun hHeld => ?_); refine with_tabW spec_DrawTrainTick.tab11 spec_DrawTrainTick.bits11 (fun HT_ HW_ => ?_)
 generalize w59.drew = w60 at HO722 BK702 BK703 BK710 BK719 HI704 HB hHeld ⊢
 refine pureA 1 40 #[false, true, false, false, false, false, false, false] (any_of HT_.out (by kernel_rfl)) ?_
 refine pureA 3 42 #[false, true, false, true, false, false, false, false] (any_of HT_.out (by kernel_rfl)) ?_
 refine takeA 0 39 #[true, true, false, true, false, false, false, false] (take_ofW HT_.out HW_.out (by kernel_rfl)) hHeld ?_
 refine takeA 2 41 #[true, true, true, true, false, false, false, false] (take_ofW HT_.out HW_.out (by kernel_rfl)) hHeld ?_
 refine one_ (i := 4) (N := none) #[true, true, true, true, true, false, false, false] rfl rfl (one_of HT_.out (by kernel_rfl)) (by decide) (fun K hK => ?_)
 have hs61 := b0 BK702
 have hfs61 := blk_frozen BK702.out 0
 have hns61_1 := NB703_702.out
 have hns61_2 := NB710_702.out
 have hns61_3 := NB719_702.out
 have hms61_1 := NB702_703.out
 have hms61_2 := NB702_710.out
 have hms61_3 := NB702_719.out
 have hs62 := b1 BK702
 have hfs62 := blk_frozen BK702.out 1
 have hns62_1 := NB703_702.out
 have hns62_2 := NB710_702.out
 have hns62_3 := NB719_702.out
 have hms62_1 := NB702_703.out
 have hms62_2 := NB702_710.out
 have hms62_3 := NB702_719.out
 have hs63 := b2 BK702
 have hfs63 := blk_frozen BK702.out 2
 have hns63_1 := NB703_702.out
 have hns63_2 := NB710_702.out
 have hns63_3 := NB719_702.out
 have hms63_1 := NB702_703.out
 have hms63_2 := NB702_710.out
 have hms63_3 := NB702_719.out
 refine skip_ (w1 := ?_) (by rfl) rfl ?_ ?_
 rotate_left
 ·go_simp
  rfl
 refine hK.out _ _ ⟨(cf NB710_702 ((cf NB710_702 ((cf NB710_702 (hHeld.1)))))), (cf NB710_702 ((cf NB710_702 ((cf NB710_702 (hHeld.2.1)))))), (cf NB710_702 ((cf NB710_702 ((cf NB710_702 (hHeld.2.2.1)))))), (cf NB719_702 ((cf NB719_702 ((cf NB719_702 (hHeld.2.2.2.1)))))), (cf NB719_702 ((cf NB719_702 ((cf NB719_702 (hHeld.2.2.2.2.1)))))), (cf NB719_702 ((cf NB719_702 ((cf NB719_702 (hHeld.2.2.2.2.2))))))⟩ (fun hHeld => ?_)
 clear hK K
 refine pureA 5 3 #[true, true, true, true, true, true, false, false] (any_of HT_.out (by kernel_rfl)) ?_
 refine one_ (i := 6) (N := none) #[true, true, true, true, true, true, true, false] rfl rfl (one_of HT_.out (by kernel_rfl)) (by decide) (fun K hK => ?_)
 have hs64 := b0 BK703
 have hfs64 := blk_frozen BK703.out 0
 have hns64_0 := NB702_703.out
 have hns64_2 := NB710_703.out
 have hns64_3 := NB719_703.out
 have hms64_0 := NB703_702.out
 have hms64_2 := NB703_710.out
 have hms64_3 := NB703_719.out
 have hs65 := b1 BK703
 have hfs65 := blk_frozen BK703.out 1
 have hns65_0 := NB702_703.out
 have hns65_2 := NB710_703.out
 have hns65_3 := NB719_703.out
 have hms65_0 := NB703_702.out
 have hms65_2 := NB703_710.out
 have hms65_3 := NB703_719.out
 have hs66 := b2 BK703
 have hfs66 := blk_frozen BK703.out 2
 have hns66_0 := NB702_703.out
 have hns66_2 := NB710_703.out
 have hns66_3 := NB719_703.out
 have hms66_0 := NB703_702.out
 have hms66_2 := NB703_710.out
 have hms66_3 := NB703_719.out
 refine skip_ (w1 := ?_) (by rfl) rfl ?_ ?_
 rotate_left
 ·go_simp
  rfl
 refine hK.out _ _ ⟨(cf NB710_703 ((cf NB710_703 ((cf NB710_703 (hHeld.1)))))), (cf NB710_703 ((cf NB710_703 ((cf NB710_703 (hHeld.2.1)))))), (cf NB710_703 ((cf NB710_703 ((cf NB710_703 (hHeld.2.2.1)))))), (cf NB719_703 ((cf NB719_703 ((cf NB719_703 (hHeld.2.2.2.1)))))), (cf NB719_703 ((cf NB719_703 ((cf NB719_703 (hHeld.2.2.2.2.1)))))), (cf NB719_703 ((cf NB719_703 ((cf NB719_703 (hHeld.2.2.2.2.2))))))⟩ (fun hHeld => ?_)
 clear hK K
 refine pureA 7 5 #[true, true, true, true, true, true, true, true] (any_of HT_.out (by kernel_rfl)) ?_
 refine done_ (done_of HT_.out (by kernel_rfl)) ?_
 try go_wp2
 refine bodyPost_ret (results_list (rs := [.cell 2 34, .tmp 3, .cell 4 48, .tmp 5]) rfl (by simp) (.cell gb702 34 #[.int .i64 t705, .int .i64 t706, .int .i64 t707] (0, 0) _ rfl (by (with_reducible repeat (first | refine blk_drewN ?_ _ | refine blk_drew ?_ | refine blk_alloc ?_ _)); refine blk_far ?_ NB702_703.out _; (with_reducible repeat (first | refine blk_drewN ?_ _ | refine blk_drew ?_ | refine blk_alloc ?_ _)); refine blk_far ?_ NB702_703.out _; (with_reducible repeat (first | refine blk_drewN ?_ _ | refine blk_drew ?_ | refine blk_alloc ?_ _)); refine blk_far ?_ NB702_703.out _; (with_reducible repeat (first | refine blk_drewN ?_ _ | refine blk_drew ?_ | refine blk_alloc ?_ _)); refine blk_put (cs := #[.int .i64 t705, .int .i64 t706, .int .i64 0]) ?_ 2 _ rfl; (with_reducible repeat (first | refine blk_drewN ?_ _ | refine blk_drew ?_ | refine blk_alloc ?_ _)); refine blk_put (cs := #[.int .i64 t705, .int .i64 0, .int .i64 0]) ?_ 1 _ rfl; (with_reducible repeat (first | refine blk_drewN ?_ _ | refine blk_drew ?_ | refine blk_alloc ?_ _)); refine blk_put (cs := #[.int .i64 0, .int .i64 0, .int .i64 0]) ?_ 0 _ rfl; (with_reducible repeat (first | refine blk_drewN ?_ _ | refine blk_drew ?_ | refine blk_alloc ?_ _)); exact BK702.out) Try.underlying34 rfl (by kernel_rfl) (.tmp (.cell gb703 48 #[.int .i64 t714, .int .i64 t715, .int .i64 t716] (0, 0) _ rfl (by (with_reducible repeat (first | refine blk_drewN ?_ _ | refine blk_drew ?_ | refine blk_alloc ?_ _)); refine blk_put (cs := #[.int .i64 t714, .int .i64 t715, .int .i64 0]) ?_ 2 _ rfl; (with_reducible repeat (first | refine blk_drewN ?_ _ | refine blk_drew ?_ | refine blk_alloc ?_ _)); refine blk_put (cs := #[.int .i64 t714, .int .i64 0, .int .i64 0]) ?_ 1 _ rfl; (with_reducible repeat (first | refine blk_drewN ?_ _ | refine blk_drew ?_ | refine blk_alloc ?_ _)); refine blk_put (cs := #[.int .i64 0, .int .i64 0, .int .i64 0]) ?_ 0 _ rfl; exact qB BK703) Try.underlying48 rfl (by kernel_rfl) (.tmp .nil))))) rfl ?_
 exact ⟨_, by first | rfl | (simp [errW_none, errW_some] <;> rfl) | (simp [*, errW_none, errW_some] <;> rfl), by (with_reducible repeat (first | apply Kd.R_alloc | apply Kd.R_drewN | apply Kd.R_drew)); exact Kd.R_mono (Kd.R_far (p := ⟨gb703, 2, none⟩) (Kd.R_far (p := ⟨gb703, 1, none⟩) (Kd.R_far (p := ⟨gb703, 0, none⟩) (Kd.R_far (p := ⟨gb702, 2, none⟩) (Kd.R_far (p := ⟨gb702, 1, none⟩) (Kd.R_far (p := ⟨gb702, 0, none⟩) (Kd.R_types (Kd.R_types HO722.out BK702.out (by decide)) BK703.out (by decide)) (fun _ hk => hk.1.2) (.int .i64 t705)) (fun _ hk => hk.1.2) (.int .i64 t706)) (fun _ hk => hk.1.2) (.int .i64 t707)) (fun _ hk => hk.2) (.int .i64 t714)) (fun _ hk => hk.2) (.int .i64 t715)) (fun _ hk => hk.2) (.int .i64 t716)) (fun _ hk => trivial), (qz HB)⟩
end Go.Proofs.Ytndffnacbfdnoaa.PAll
