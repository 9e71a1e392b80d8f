-- Lines of PAllx17 that this claim uses.
import Derived.Test.YtndffnacbfdnoaaENSqd
import Derived.Test.YtndffnacbfdnoaaENSqc
import Derived.Test.YtndffnacbfdnoaaENSq
import Derived.Test.YtndffnacbfdnoaaENPAllx0
import Derived.Test.YtndffnacbfdnoaaENPAllx15
import Derived.Test.YtndffnacbfdnoaaENPAllx16
namespace Go.Proofs.Ytndffnacbfdnoaa.PAll
open Go.RowKit Go.Proofs.YtndffnacbfdnoaaW.PrintWords Go.Proofs.YtndffnacbfdnoaaW.PrintLast Go.Proofs.YtndffnacbfdnoaaW.PrintMore
attribute [local go_sem] max2_int min2_int max_two min_two max_three min_three max_four min_four   -- for this text's walks alone
set_option linter.unusedVariables false
set_option linter.unusedSimpArgs false
def spec_DrawBoxTick.l0 : Nat → Int → List Int → Int → List Int → Int → Int → Int → Int → Int → Int → Int → Int → Int → Int → Option (Int × Int × Int × Int × Int × Int × Int × Int × Int × List Int × (List (S60)))
 | 0, _, _, _, _, _, _, _, _, _, _, _, _, _, _ => none
 | k + 1, x9, x11, x12, x636000, x636001, x636002, x642000, x642001, x642002, x653000, x653001, x653002, x653003, x653004 => if x12 > 0 then ((spec_l4Cur_whole.f x636000 x636001 x636002).bind fun bt656 => (if x11.length < 17592186044416 then (spec_DrawBoxTick.l0 k x9 (x11 ++ [bt656.1]) (wrap64 (x12 - 1)) x636000 bt656.2.1 bt656.2.2 x642000 x642001 x642002 x653000 x653001 x653002 x653003 x653004) else (none))) else ((spec_l4Cur_pick.f x636000 x636001 x636002 40).bind fun bt662 => (if bt662.1 = 0 then ((spec_l4Cur_pick.f x636000 bt662.2.1 bt662.2.2 2).bind fun bt665 => (if 0 ≤ (wrap64 (100 + bt665.1)) then (if (wrap64 (100 + bt665.1) : Int).toNat ≤ 35184372088832 then ((spec_l4Cur_in.f k x636000 bt665.2.1 bt665.2.2 x9).bind fun bt671 => (some (x642000, x642001, x642002, x9, x653000, x653001, x653002, x653003, x653004, (List.replicate (wrap64 (100 + bt665.1) : Int).toNat 0), bt671.1))) else (none)) else (none))) else ((spec_l4Cur_in.f k x636000 bt662.2.1 bt662.2.2 x9).bind fun bt676 => (some (x642000, x642001, x642002, x9, x653000, x653001, x653002, x653003, x653004, x11, bt676.1)))))
def spec_DrawBoxTick.f (k : Nat) (l0 : List Int) : Option (Int × Int × Int × Int × Int × Int × Int × Int × Int × List Int × (List (S60))) := (spec_l4rules.f l0 0 0).bind fun bt636 => ((spec_l4Cur_now.f l0 bt636.2.2.2.1 bt636.2.2.2.2).bind fun bt642 => ((spec_l4Cur_box.f k l0 bt642.2.1 bt642.2.2 bt642.1).bind fun bt645 => ((spec_l4Cur_pick.f l0 bt645.2.2.2.2.2.1 bt645.2.2.2.2.2.2 3).bind fun bt653 => (spec_DrawBoxTick.l0 k bt642.1 ([] : List Int) bt653.1 l0 bt653.2.1 bt653.2.2 bt636.1 bt636.2.1 bt636.2.2.1 bt645.1 bt645.2.1 bt645.2.2.1 bt645.2.2.2.1 bt645.2.2.2.2.1))))
def spec_DrawBoxTick.T12 : Bool × List (List Nat × List Nat) := (true, [([], []), ([], []), ([], []), ([], []), ([], []), ([], []), ([4, 5], [4, 5]), ([0, 6, 0], [0]), ([1, 7, 0, 1, 7], [1]), ([2, 8, 0, 1, 2, 7, 8], [2]), ([3, 9, 0, 1, 2, 3, 7, 8, 9], [3]), ([6, 10, 0, 1, 2, 3, 4, 5, 6, 7, 8, 9, 10], [6])])
def spec_DrawBoxTick.B12 : List Nat := [0, 0, 0, 0, 0, 0, 48, 113, 243, 503, 1023, 2047]
theorem spec_DrawBoxTick.tab12 : rtab .any (opsOf Try.f31 12) = spec_DrawBoxTick.T12 := by kernel_rfl
theorem spec_DrawBoxTick.bits12 : waitsOk spec_DrawBoxTick.T12.2 spec_DrawBoxTick.B12 = true := by kernel_rfl
set_option maxHeartbeats 8000000 in
set_option maxRecDepth 100000 in
theorem spec_DrawBoxTick.calls (k : Nat) (A0 : Option Addr) (c0 : Nat) (l0 : List Int) (r1 : Int) (r2 : Int) (r3 : Int) (r4 : Int) (r5 : Int) (r6 : Int) (r7 : Int) (r8 : Int) (r9 : Int) (r10 : List Int) (r11 : List (S60)) (w : World) (hr0 : Kd.C (Kd.int .u8) w A0 l0.length l0) (hc0 : l0.length ≤ c0) (h : spec_DrawBoxTick.f k l0 = some (r1, r2, r3, r4, r5, r6, r7, r8, r9, r10, r11)) :
  Calls Try.prog 31 #[.slice A0 l0.length c0] w fun e w' => ∃ v9_ v10_ : Value, e = .returned (.tuple #[.agg #[.int .i64 r1, .int .i64 r2, .int .i64 r3], .int .i64 r4, .agg #[.int .i64 r5, .int .i64 r6, .int .i64 r7, .int .i64 r8, .int .i64 r9], v9_, v10_]) ∧ Kd.R (Kd.int .i64) 2 w' w.heap.size (fun _ => True) v9_ r10 ∧ Kd.R k60 60 w' w.heap.size (fun _ => True) v10_ r11 ∧ Below w.heap.size w w' := by
 have hu34 := Try.underlying34
 have hu29 := Try.underlying29
 have hu108 := Try.underlying108
 have HR0 := Aside0.mk hr0
 have HC0 := Aside0.mk hc0
 clear hr0 hc0
 have HB := Aside0.mk (Below.refl w.heap.size w)
 have H : ((spec_l4rules.f l0 0 0).bind fun bt636 => ((spec_l4Cur_now.f l0 bt636.2.2.2.1 bt636.2.2.2.2).bind fun bt642 => ((spec_l4Cur_box.f k l0 bt642.2.1 bt642.2.2 bt642.1).bind fun bt645 => ((spec_l4Cur_pick.f l0 bt645.2.2.2.2.2.1 bt645.2.2.2.2.2.2 3).bind fun bt653 => (spec_DrawBoxTick.l0 k bt642.1 ([] : List Int) bt653.1 l0 bt653.2.1 bt653.2.2 bt636.1 bt636.2.1 bt636.2.2.1 bt645.1 bt645.2.1 bt645.2.2.1 bt645.2.2.2.1 bt645.2.2.2.2.1))))) = some (r1, r2, r3, r4, r5, r6, r7, r8, r9, r10, r11) := h
 clear h
 replace H := Option.bind_eq_some_iff.mp H
 obtain ⟨⟨t636, t637, t638, t639, t640⟩, A20, H⟩ := H
 replace H : ((spec_l4Cur_now.f l0 t639 t640).bind fun bt642 => ((spec_l4Cur_box.f k l0 bt642.2.1 bt642.2.2 bt642.1).bind fun bt645 => ((spec_l4Cur_pick.f l0 bt645.2.2.2.2.2.1 bt645.2.2.2.2.2.2 3).bind fun bt653 => (spec_DrawBoxTick.l0 k bt642.1 ([] : List Int) bt653.1 l0 bt653.2.1 bt653.2.2 t636 t637 t638 bt645.1 bt645.2.1 bt645.2.2.1 bt645.2.2.2.1 bt645.2.2.2.2.1)))) = some (r1, r2, r3, r4, r5, r6, r7, r8, r9, r10, r11) := H
 have A2 := Aside0.mk A20
 clear A20
 replace H := Option.bind_eq_some_iff.mp H
 obtain ⟨⟨t642, t643, t644⟩, A30, H⟩ := H
 replace H : ((spec_l4Cur_box.f k l0 t643 t644 t642).bind fun bt645 => ((spec_l4Cur_pick.f l0 bt645.2.2.2.2.2.1 bt645.2.2.2.2.2.2 3).bind fun bt653 => (spec_DrawBoxTick.l0 k t642 ([] : List Int) bt653.1 l0 bt653.2.1 bt653.2.2 t636 t637 t638 bt645.1 bt645.2.1 bt645.2.2.1 bt645.2.2.2.1 bt645.2.2.2.2.1))) = some (r1, r2, r3, r4, r5, r6, r7, r8, r9, r10, r11) := H
 have A3 := Aside0.mk A30
 clear A30
 replace H := Option.bind_eq_some_iff.mp H
 obtain ⟨⟨t645, t646, t647, t648, t649, t650, t651⟩, A40, H⟩ := H
 replace H : ((spec_l4Cur_pick.f l0 t650 t651 3).bind fun bt653 => (spec_DrawBoxTick.l0 k t642 ([] : List Int) bt653.1 l0 bt653.2.1 bt653.2.2 t636 t637 t638 t645 t646 t647 t648 t649)) = some (r1, r2, r3, r4, r5, r6, r7, r8, r9, r10, r11) := H
 have A4 := Aside0.mk A40
 clear A40
 replace H := Option.bind_eq_some_iff.mp H
 obtain ⟨⟨t653, t654, t655⟩, A50, H⟩ := H
 replace H : (spec_DrawBoxTick.l0 k t642 ([] : List Int) t653 l0 t654 t655 t636 t637 t638 t645 t646 t647 t648 t649) = some (r1, r2, r3, r4, r5, r6, r7, r8, r9, r10, r11) := H
 have A5 := Aside0.mk A50
 clear A50
 have H' := Aside0.mk H
 clear H
 go_enter Try.func31, Try.ntmps31
 go_wp2_with (first | ((with_reducible refine gate_dst (N := 2) rfl ?_); refine boxA #[.int .i64 0, .int .i64 0, .int .i64 0] 34 ?_; intro gb633 hg w6 hbox hb; have BK633 := Aside0.mk (hbox); have GW633 := nge HB hg; have GE633 := nge HB hg; replace HB := bst HB hb; clear hb hbox hg) | ((with_reducible refine gate_dst (N := 4) rfl ?_); refine boxA #[.int .i64 0, .int .i64 0, .int .i64 0, .int .i64 0, .int .i64 0] 29 ?_; intro gb634 hg w7 hbox hb; have BK634 := Aside0.mk (hbox); have GW634 := nge HB hg; have GE634 := nge HB hg; replace HB := bst HB hb; have NB633_634 := nlt BK633 hg; have NB634_633 := ngt BK633 hg; replace BK633 := bkb BK633 hb; clear hb hbox hg) | ((with_reducible refine gate_dst (N := 15) rfl ?_); refine boxA #[.slice A0 l0.length c0, .int .i64 0, .int .u64 0] 108 ?_; intro gb635 hg w8 hbox hb; have GW635 := nge HB hg; have GE635 := nge HB hg; have NB633_635 := nlt BK633 hg; have NB635_633 := ngt BK633 hg; replace BK633 := bkb BK633 hb; have NB634_635 := nlt BK634 hg; have NB635_634 := ngt BK634 hg; replace BK634 := bkb BK634 hb; have HI635 := Aside0.mk ((show IsS108 w w8 gb635 l0 0 0 from ⟨_, _, hbox, (by rw [hg]; exact (below_size (qs HB)) : w.heap.size ≤ gb635), HR0.out⟩)); replace HB := bst HB hb; clear hb hbox hg) | ((with_reducible refine gate_callee (f := 69) rfl ?_); refine goesLA (some 17) rfl Try.func69 #[.pointer (some ⟨gb635, 0, none⟩)] ?_; (with_reducible refine (spec_l4rules.calls gb635 l0 0 0 t636 t637 t638 t639 t640 w _ ?side1 ?side2 A2.out).mono ?_); (case side1 => exact qi HI635); (case side2 => exact qz HB); rintro e w9 ⟨rfl, hi, hb, hk⟩; refine ⟨_, rfl, ?_⟩; replace BK633 := Aside0.mk (KeepBut.blk hk (g' := gb633) (o := .cells #[.int .i64 0, .int .i64 0, .int .i64 0] 34 (0, 0)) (qb BK633) NB633_635.out (by simp)); replace BK634 := Aside0.mk (KeepBut.blk hk (g' := gb634) (o := .cells #[.int .i64 0, .int .i64 0, .int .i64 0, .int .i64 0, .int .i64 0] 29 (0, 0)) (qb BK634) NB634_635.out (by simp)); replace HB := Aside0.mk (hb); replace HI635 := Aside0.mk (hi); clear hb hk hi) | ((with_reducible refine gate_dst (N := 8) rfl ?_); refine boxA #[.int .i64 0, .int .i64 0, .int .i64 0] 34 ?_; intro gb641 hg w10 hbox hb; have BK641 := Aside0.mk (hbox); have GW641 := Aside0.mk ((by rw [hg]; exact (below_size (qz HB)) : w.heap.size ≤ gb641)); have GE641 := Aside0.mk ((by rw [hg]; exact (below_size (qz HB)) : w.heap.size ≤ gb641)); replace HB := Aside0.mk (below_step (qz HB) hb); have NB633_641 := nlt BK633 hg; have NB641_633 := ngt BK633 hg; replace BK633 := bkb BK633 hb; have NB634_641 := nlt BK634 hg; have NB641_634 := ngt BK634 hg; replace BK634 := bkb BK634 hb; have NB635_641 := Aside0.mk ((by rw [hg]; exact Nat.ne_of_lt (IsS108.lt (show IsS108 w _ gb635 l0 t639 t640 from qi HI635)) : gb635 ≠ gb641)); have NB641_635 := Aside0.mk ((by rw [hg]; exact Nat.ne_of_gt (IsS108.lt (show IsS108 w _ gb635 l0 t639 t640 from qi HI635)) : gb641 ≠ gb635)); replace HI635 := Aside0.mk (IsS108.below (qi HI635) hb); clear hb hbox hg; have hnb11 := NB641_633.out; have hnc11 := NB633_641.out; have hnb12 := NB641_634.out; have hnc12 := NB634_641.out; have hnb13 := NB641_635.out; have hnc13 := NB635_641.out; have hcz14_0 := b0 BK641; have hcz14_1 := b1 BK641; have hcz14_2 := b2 BK641; have hfz14_0 := blk_frozen BK641.out 0; have hfz14_1 := blk_frozen BK641.out 1; have hfz14_2 := blk_frozen BK641.out 2) | ((with_reducible refine gate_callee (f := 70) rfl ?_); refine goesLA (some 19) rfl Try.func70 #[.pointer (some ⟨gb635, 0, none⟩)] ?_; (with_reducible refine (spec_l4Cur_now.calls gb635 l0 t639 t640 t642 t643 t644 w _ ?side1 ?side2 A3.out).mono ?_); (case side1 => exact qi HI635); (case side2 => exact qz HB); rintro e w15 ⟨rfl, hi, hb, hk⟩; refine ⟨_, rfl, ?_⟩; replace BK633 := Aside0.mk (KeepBut.blk hk (g' := gb633) (o := .cells #[.int .i64 0, .int .i64 0, .int .i64 0] 34 (0, 0)) (qB BK633) NB633_635.out (by simp)); replace BK634 := Aside0.mk (KeepBut.blk hk (g' := gb634) (o := .cells #[.int .i64 0, .int .i64 0, .int .i64 0, .int .i64 0, .int .i64 0] 29 (0, 0)) (qB BK634) NB634_635.out (by simp)); replace BK641 := Aside0.mk (KeepBut.blk hk (g' := gb641) (o := .cells #[.int .i64 t636, .int .i64 t637, .int .i64 t638] 34 (0, 0)) (by (with_reducible repeat (first | refine blk_drewN ?_ _ | refine blk_drew ?_ | refine blk_alloc ?_ _)); refine blk_put (cs := #[.int .i64 t636, .int .i64 t637, .int .i64 0]) ?_ 2 _ rfl; (with_reducible repeat (first | refine blk_drewN ?_ _ | refine blk_drew ?_ | refine blk_alloc ?_ _)); refine blk_put (cs := #[.int .i64 t636, .int .i64 0, .int .i64 0]) ?_ 1 _ rfl; (with_reducible repeat (first | refine blk_drewN ?_ _ | refine blk_drew ?_ | refine blk_alloc ?_ _)); refine blk_put (cs := #[.int .i64 0, .int .i64 0, .int .i64 0]) ?_ 0 _ rfl; (with_reducible repeat (first | refine blk_drewN ?_ _ | refine blk_drew ?_ | refine blk_alloc ?_ _)); exact BK641.out) NB641_635.out (by simp)); replace HB := Aside0.mk (hb); replace HI635 := Aside0.mk (hi); clear hb hk hi) | ((with_reducible refine gate_callee (f := 71) rfl ?_); refine goesLA (some 22) rfl Try.func71 #[.pointer (some ⟨gb635, 0, none⟩), .int .i64 t642] ?_; (with_reducible refine (spec_l4Cur_box.calls k gb635 l0 t643 t644 t642 t645 t646 t647 t648 t649 t650 t651 w _ ?side1 ?side2 A4.out).mono ?_); (case side1 => exact qi HI635); (case side2 => exact qz HB); rintro e w16 ⟨rfl, hi, hb, hk⟩; refine ⟨_, rfl, ?_⟩; replace BK633 := Aside0.mk (KeepBut.blk hk (g' := gb633) (o := .cells #[.int .i64 0, .int .i64 0, .int .i64 0] 34 (0, 0)) (qb BK633) NB633_635.out (by simp)); replace BK634 := Aside0.mk (KeepBut.blk hk (g' := gb634) (o := .cells #[.int .i64 0, .int .i64 0, .int .i64 0, .int .i64 0, .int .i64 0] 29 (0, 0)) (qb BK634) NB634_635.out (by simp)); replace BK641 := Aside0.mk (KeepBut.blk hk (g' := gb641) (o := .cells #[.int .i64 t636, .int .i64 t637, .int .i64 t638] 34 (0, 0)) (qb BK641) NB641_635.out (by simp)); replace HB := Aside0.mk (hb); replace HI635 := Aside0.mk (hi); clear hb hk hi) | ((with_reducible refine gate_dst (N := 10) rfl ?_); refine boxA #[.int .i64 0, .int .i64 0, .int .i64 0, .int .i64 0, .int .i64 0] 29 ?_; intro gb652 hg w17 hbox hb; have BK652 := Aside0.mk (hbox); have GW652 := Aside0.mk ((by rw [hg]; exact (below_size (qz HB)) : w.heap.size ≤ gb652)); have GE652 := Aside0.mk ((by rw [hg]; exact (below_size (qz HB)) : w.heap.size ≤ gb652)); replace HB := Aside0.mk (below_step (qz HB) hb); have NB633_652 := nlt BK633 hg; have NB652_633 := ngt BK633 hg; replace BK633 := bkb BK633 hb; have NB634_652 := nlt BK634 hg; have NB652_634 := ngt BK634 hg; replace BK634 := bkb BK634 hb; have NB641_652 := nlt BK641 hg; have NB652_641 := ngt BK641 hg; replace BK641 := bkb BK641 hb; have NB635_652 := Aside0.mk ((by rw [hg]; exact Nat.ne_of_lt (IsS108.lt (show IsS108 w _ gb635 l0 t650 t651 from qi HI635)) : gb635 ≠ gb652)); have NB652_635 := Aside0.mk ((by rw [hg]; exact Nat.ne_of_gt (IsS108.lt (show IsS108 w _ gb635 l0 t650 t651 from qi HI635)) : gb652 ≠ gb635)); replace HI635 := Aside0.mk (IsS108.below (qi HI635) hb); clear hb hbox hg; have hnb18 := NB652_633.out; have hnc18 := NB633_652.out; have hnb19 := NB652_634.out; have hnc19 := NB634_652.out; have hnb20 := NB652_641.out; have hnc20 := NB641_652.out; have hnb21 := NB652_635.out; have hnc21 := NB635_652.out; have hcz22_0 := b0 BK652; have hcz22_1 := b1 BK652; have hcz22_2 := b2 BK652; have hcz22_3 := b3 BK652; have hcz22_4 := b4 BK652; have hfz22_0 := blk_frozen BK652.out 0; have hfz22_1 := blk_frozen BK652.out 1; have hfz22_2 := blk_frozen BK652.out 2; have hfz22_3 := blk_frozen BK652.out 3; have hfz22_4 := blk_frozen BK652.out 4) | ((with_reducible refine gate_callee (f := 72) rfl ?_); refine goesLA (some 24) rfl Try.func72 #[.pointer (some ⟨gb635, 0, none⟩), .int .i64 3] ?_; (with_reducible refine (spec_l4Cur_pick.calls gb635 l0 t650 t651 3 t653 t654 t655 w _ ?side1 ?side2 A5.out).mono ?_); (case side1 => exact qi HI635); (case side2 => exact qz HB); rintro e w23 ⟨rfl, hi, hb, hk⟩; refine ⟨_, rfl, ?_⟩; replace BK633 := Aside0.mk (KeepBut.blk hk (g' := gb633) (o := .cells #[.int .i64 0, .int .i64 0, .int .i64 0] 34 (0, 0)) (qB BK633) NB633_635.out (by simp)); replace BK634 := Aside0.mk (KeepBut.blk hk (g' := gb634) (o := .cells #[.int .i64 0, .int .i64 0, .int .i64 0, .int .i64 0, .int .i64 0] 29 (0, 0)) (qB BK634) NB634_635.out (by simp)); replace BK641 := Aside0.mk (KeepBut.blk hk (g' := gb641) (o := .cells #[.int .i64 t636, .int .i64 t637, .int .i64 t638] 34 (0, 0)) (qB BK641) NB641_635.out (by simp)); replace BK652 := Aside0.mk (KeepBut.blk hk (g' := gb652) (o := .cells #[.int .i64 t645, .int .i64 t646, .int .i64 t647, .int .i64 t648, .int .i64 t649] 29 (0, 0)) (by (with_reducible repeat (first | refine blk_drewN ?_ _ | refine blk_drew ?_ | refine blk_alloc ?_ _)); refine blk_put (cs := #[.int .i64 t645, .int .i64 t646, .int .i64 t647, .int .i64 t648, .int .i64 0]) ?_ 4 _ rfl; (with_reducible repeat (first | refine blk_drewN ?_ _ | refine blk_drew ?_ | refine blk_alloc ?_ _)); refine blk_put (cs := #[.int .i64 t645, .int .i64 t646, .int .i64 t647, .int .i64 0, .int .i64 0]) ?_ 3 _ rfl; (with_reducible repeat (first | refine blk_drewN ?_ _ | refine blk_drew ?_ | refine blk_alloc ?_ _)); refine blk_put (cs := #[.int .i64 t645, .int .i64 t646, .int .i64 0, .int .i64 0, .int .i64 0]) ?_ 2 _ rfl; (with_reducible repeat (first | refine blk_drewN ?_ _ | refine blk_drew ?_ | refine blk_alloc ?_ _)); refine blk_put (cs := #[.int .i64 t645, .int .i64 0, .int .i64 0, .int .i64 0, .int .i64 0]) ?_ 1 _ rfl; (with_reducible repeat (first | refine blk_drewN ?_ _ | refine blk_drew ?_ | refine blk_alloc ?_ _)); refine blk_put (cs := #[.int .i64 0, .int .i64 0, .int .i64 0, .int .i64 0, .int .i64 0]) ?_ 0 _ rfl; (with_reducible repeat (first | refine blk_drewN ?_ _ | refine blk_drew ?_ | refine blk_alloc ?_ _)); exact BK652.out) NB652_635.out (by simp)); replace HB := Aside0.mk (hb); replace HI635 := Aside0.mk (hi); clear hb hk hi))
 go_loopg [11, 12] k (fun kq v11 v12 w' => ∃ (x11_1 : List Int) (x12_1 : Int) (x636001_1 : Int) (x636002_1 : Int), v12 = .int .i64 x12_1 ∧ Aside0 (spec_DrawBoxTick.l0 kq t642 x11_1 x12_1 l0 x636001_1 x636002_1 t636 t637 t638 t645 t646 t647 t648 t649 = some (r1, r2, r3, r4, r5, r6, r7, r8, r9, r10, r11)) ∧ Aside0 (kq ≤ k) ∧ Aside0 (Kd.R (Kd.int .i64) 2 w' w.heap.size (fun _ => True) v11 x11_1) ∧ Aside0 (w'.heap[gb633]? = some (.cells #[.int .i64 0, .int .i64 0, .int .i64 0] 34 (0, 0))) ∧ Aside0 (w'.heap[gb634]? = some (.cells #[.int .i64 0, .int .i64 0, .int .i64 0, .int .i64 0, .int .i64 0] 29 (0, 0))) ∧ Aside0 (w'.heap[gb641]? = some (.cells #[.int .i64 t636, .int .i64 t637, .int .i64 t638] 34 (0, 0))) ∧ Aside0 (w'.heap[gb652]? = some (.cells #[.int .i64 t645, .int .i64 t646, .int .i64 t647, .int .i64 t648, .int .i64 t649] 29 (0, 0))) ∧ Aside0 (IsS108 w w' gb635 l0 x636001_1 x636002_1) ∧ Aside0 (Below w.heap.size w w'))
 case atStart => exact ⟨(([] : List Int)), (t653), (t654), (t655), (by first | rfl | (simp; done) | (simp [*]; done)), H', ⟨Nat.le_refl _⟩, ⟨by first | exact Kd.R_nil _ _ _ _ _ | exact Kd.N_nil _ _ _ _ _ | exact Kd.V_nil _ _ _ _ _ | exact Kd.Q_nil _ _ _ _ _ | exact Kd.S_nil _ _ _ _ _⟩, ⟨qb BK633⟩, ⟨qb BK634⟩, ⟨qb BK641⟩, ⟨qb BK652⟩, ⟨(qi HI635)⟩, ⟨(qz HB)⟩⟩
 case round =>
  clear H'
  try clear c1; try clear c2; try clear p2; try clear c3; try clear c6; try clear c7; try clear c11; try clear c12; try clear c13; try clear c18; try clear c19; try clear c20; try clear c21; try clear hcz14_0; try clear hcz14_1; try clear hcz14_2; try clear hcz22_0; try clear hcz22_1; try clear hcz22_2; try clear hcz22_3; try clear hcz22_4; try clear hfz14_0; try clear hfz14_1; try clear hfz14_2; try clear hfz22_0; try clear hfz22_1; try clear hfz22_2; try clear hfz22_3; try clear hfz22_4
  obtain ⟨x11_1, x12_1, x636001_1, x636002_1, rfl, HA, HK1, HO_11, BK633, BK634, BK641, BK652, HI635, HB⟩ := hrel
  cases gk with
  | zero => exact absurd HA.out (by simp [spec_DrawBoxTick.l0])
  | succ k1 =>
   have H := HA.out
   clear HA
   simp only [spec_DrawBoxTick.l0] at H
   by_cases c24 : x12_1 > 0
   ·rw [if_pos c24] at H
    have c24b0 : decide (0 < x12_1) = true := decide_eq_true c24
    clear c24
    replace H := Option.bind_eq_some_iff.mp H
    obtain ⟨⟨t656, t657, t658⟩, A250, H⟩ := H
    replace H : (if x11_1.length < 17592186044416 then (spec_DrawBoxTick.l0 k1 t642 (x11_1 ++ [t656]) (wrap64 (x12_1 - 1)) l0 t657 t658 t636 t637 t638 t645 t646 t647 t648 t649) else (none)) = some (r1, r2, r3, r4, r5, r6, r7, r8, r9, r10, r11) := H
    have A25 := Aside0.mk A250
    clear A250
    by_cases c26 : x11_1.length < 17592186044416
    ·rw [if_pos c26] at H
     have LMc26 := Aside0.mk c26
     clear c26
     obtain ⟨y659, hy659⟩ : ∃ y_ : List Int, y_ = (x11_1 ++ [t656]) := ⟨_, rfl⟩
     replace H : (spec_DrawBoxTick.l0 k1 t642 y659 (wrap64 (x12_1 - 1)) l0 t657 t658 t636 t637 t638 t645 t646 t647 t648 t649) = some (r1, r2, r3, r4, r5, r6, r7, r8, r9, r10, r11) := by first | (rw [hy659]; with_reducible exact H) | (have H2_ := (Option.bind_some _ _).symm.trans H; rw [hy659]; with_reducible exact H2_) | (have H2_ := (Option.bind_some _ _).symm.trans H; with_reducible exact H2_) | with_reducible exact H | (rw [hy659]; exact H) | exact H
     have Ny659 := Aside0.mk hy659
     clear hy659
     have H' := Aside0.mk H
     clear H
     go_wp2_with (first | ((with_reducible refine gate_callee (f := 73) rfl ?_); refine goesLA (some 31) rfl Try.func73 #[.pointer (some ⟨gb635, 0, none⟩)] ?_; (with_reducible refine (spec_l4Cur_whole.calls gb635 l0 x636001_1 x636002_1 t656 t657 t658 w _ ?side1 ?side2 A25.out).mono ?_); (case side1 => exact qi HI635); (case side2 => exact qz HB); rintro e w27 ⟨rfl, hi, hb, hk⟩; refine ⟨_, rfl, ?_⟩; replace HO_11 := Aside0.mk (Kd.R_mono (Kd.R_keep (IsS108.apart (show IsS108 w _ gb635 l0 x636001_1 x636002_1 from qi HI635) (qr HO_11) (by decide)) hk (fun _ h => h.2)) (fun _ h => h.1)); replace BK633 := Aside0.mk (KeepBut.blk hk (g' := gb633) (o := .cells #[.int .i64 0, .int .i64 0, .int .i64 0] 34 (0, 0)) (qb BK633) NB633_635.out (by simp)); replace BK634 := Aside0.mk (KeepBut.blk hk (g' := gb634) (o := .cells #[.int .i64 0, .int .i64 0, .int .i64 0, .int .i64 0, .int .i64 0] 29 (0, 0)) (qb BK634) NB634_635.out (by simp)); replace BK641 := Aside0.mk (KeepBut.blk hk (g' := gb641) (o := .cells #[.int .i64 t636, .int .i64 t637, .int .i64 t638] 34 (0, 0)) (qb BK641) NB641_635.out (by simp)); replace BK652 := Aside0.mk (KeepBut.blk hk (g' := gb652) (o := .cells #[.int .i64 t645, .int .i64 t646, .int .i64 t647, .int .i64 t648, .int .i64 t649] 29 (0, 0)) (qb BK652) NB652_635.out (by simp)); replace HB := Aside0.mk (hb); replace HI635 := Aside0.mk (hi); clear hb hk hi) | ((with_reducible refine gate_builtin (b := .append) (xs := #[.tmp 29, .tmp 32]) rfl ?_); at_builtin; refine Kd.R_append (Kd.int .i64) (w0 := w) w.heap.size rfl (.tmp 29) (.tmp 32) 26 2 (.int .i64 0) 8 rfl Try.underlying26 info2 rfl (by decide) (by omega) u11 x11_1 t656 [.int .i64 t656] (fun _ => True) (fun _ => False) rfl rfl ?aP (fun _ hk => hk.elim) ?aF ?aO ?aB ?aS ?aL ?_; (case aP => exact rfl); (case aB => exact (qz HB)); (case aF => exact (fun _ _ => trivial)); (case aO => exact (qr HO_11)); (case aS => exact (below_size (qz HB))); (case aL => have := LMc26.out; omega); intro v660 w28 ho hb hg hat; rw [← Ny659.out] at ho; replace BK633 := Aside0.mk (blk_grown (g := gb633) (o := .cells #[.int .i64 0, .int .i64 0, .int .i64 0] 34 (0, 0)) (qb BK633) hg (Kd.R_ne HO_11.out BK633.out (by decide))); replace BK634 := Aside0.mk (blk_grown (g := gb634) (o := .cells #[.int .i64 0, .int .i64 0, .int .i64 0, .int .i64 0, .int .i64 0] 29 (0, 0)) (qb BK634) hg (Kd.R_ne HO_11.out BK634.out (by decide))); replace BK641 := Aside0.mk (blk_grown (g := gb641) (o := .cells #[.int .i64 t636, .int .i64 t637, .int .i64 t638] 34 (0, 0)) (qb BK641) hg (Kd.R_ne HO_11.out BK641.out (by decide))); replace BK652 := Aside0.mk (blk_grown (g := gb652) (o := .cells #[.int .i64 t645, .int .i64 t646, .int .i64 t647, .int .i64 t648, .int .i64 t649] 29 (0, 0)) (qb BK652) hg (Kd.R_ne HO_11.out BK652.out (by decide))); replace HI635 := Aside0.mk (IsS108.grown (qi HI635) hg (IsS108.own_ne HI635.out HO_11.out (by decide))); replace HB := Aside0.mk (hb); have HO661 := Aside0.mk (ho); clear HO_11; clear ho hb hg hat))
     go_roundg k1
     case measure => have := HK1.out; omega
     case rel => exact ⟨(y659), (wrap64 (x12_1 - 1)), (t657), (t658), (by first | rfl | (simp; done) | (simp [*]; done)), H', ⟨by have := HK1.out; omega⟩, ⟨by (with_reducible repeat (first | apply Kd.R_alloc | apply Kd.R_drewN | apply Kd.R_drew)); exact HO661.out⟩, ⟨qb BK633⟩, ⟨qb BK634⟩, ⟨qb BK641⟩, ⟨qb BK652⟩, ⟨(qi HI635)⟩, ⟨(qz HB)⟩⟩
    rw [if_neg c26] at H
    exact absurd H (by simp)
   rw [if_neg c24] at H
   have c24b0 : decide (0 < x12_1) = false := decide_eq_false c24
   clear c24
   replace H := Option.bind_eq_some_iff.mp H
   obtain ⟨⟨t662, t663, t664⟩, A290, H⟩ := H
   replace H : (if t662 = 0 then ((spec_l4Cur_pick.f l0 t663 t664 2).bind fun bt665 => (if 0 ≤ (wrap64 (100 + bt665.1)) then (if (wrap64 (100 + bt665.1) : Int).toNat ≤ 35184372088832 then ((spec_l4Cur_in.f k1 l0 bt665.2.1 bt665.2.2 t642).bind fun bt671 => (some (t636, t637, t638, t642, t645, t646, t647, t648, t649, (List.replicate (wrap64 (100 + bt665.1) : Int).toNat 0), bt671.1))) else (none)) else (none))) else ((spec_l4Cur_in.f k1 l0 t663 t664 t642).bind fun bt676 => (some (t636, t637, t638, t642, t645, t646, t647, t648, t649, x11_1, bt676.1)))) = some (r1, r2, r3, r4, r5, r6, r7, r8, r9, r10, r11) := H
   have A29 := Aside0.mk A290
   clear A290
   by_cases c30 : t662 = 0
   ·rw [if_pos c30] at H
    have c30b0 : (t662 == 0) = true := beq_iff_eq.mpr c30
    have c30b1 : (t662 != 0) = false := bne_eq_false_iff_eq.mpr c30
    clear c30
    replace H := Option.bind_eq_some_iff.mp H
    obtain ⟨⟨t665, t666, t667⟩, A310, H⟩ := H
    replace H : (if 0 ≤ (wrap64 (100 + t665)) then (if (wrap64 (100 + t665) : Int).toNat ≤ 35184372088832 then ((spec_l4Cur_in.f k1 l0 t666 t667 t642).bind fun bt671 => (some (t636, t637, t638, t642, t645, t646, t647, t648, t649, (List.replicate (wrap64 (100 + t665) : Int).toNat 0), bt671.1))) else (none)) else (none)) = some (r1, r2, r3, r4, r5, r6, r7, r8, r9, r10, r11) := H
    have A31 := Aside0.mk A310
    clear A310
    obtain ⟨ji32, hji32⟩ : ∃ j_ : Int, (wrap64 (100 + t665)) = j_ := ⟨_, rfl⟩
    replace H : (if 0 ≤ (ji32) then (if (ji32 : Int).toNat ≤ 35184372088832 then ((spec_l4Cur_in.f k1 l0 t666 t667 t642).bind fun bt671 => (some (t636, t637, t638, t642, t645, t646, t647, t648, t649, (List.replicate (ji32 : Int).toNat 0), bt671.1))) else (none)) else (none)) = some (r1, r2, r3, r4, r5, r6, r7, r8, r9, r10, r11) := by first | (rw [hji32] at H; exact H) | (simp only [hji32] at H ⊢; exact H)
    (try rw [hji32] at A29)
    (try rw [hji32] at A31)
    have hji32w : (IntKind.i64.wrap (100 + t665)) = ji32 := (i64_w _).trans hji32
    by_cases c33 : 0 ≤ (ji32)
    ·rw [if_pos c33] at H
     have c33b0 := eq_true c33
     have c33b1 : decide (0 ≤ (ji32)) = true := decide_eq_true c33
     clear c33
     by_cases c34 : (ji32 : Int).toNat ≤ 35184372088832
     ·rw [if_pos c34] at H
      have c34b0 := eq_true c34
      have c34b1 : decide ((ji32 : Int).toNat ≤ 35184372088832) = true := decide_eq_true c34
      clear c34
      obtain ⟨y668, hy668⟩ : ∃ y_ : List Int, y_ = (List.replicate (ji32 : Int).toNat 0) := ⟨_, rfl⟩
      replace H : ((spec_l4Cur_in.f k1 l0 t666 t667 t642).bind fun bt671 => (some (t636, t637, t638, t642, t645, t646, t647, t648, t649, y668, bt671.1))) = some (r1, r2, r3, r4, r5, r6, r7, r8, r9, r10, r11) := by first | (rw [hy668]; with_reducible exact H) | (have H2_ := (Option.bind_some _ _).symm.trans H; rw [hy668]; with_reducible exact H2_) | (have H2_ := (Option.bind_some _ _).symm.trans H; with_reducible exact H2_) | with_reducible exact H | (rw [hy668]; exact H) | exact H
      have Ny668 := Aside0.mk hy668
      clear hy668
      replace H := Option.bind_eq_some_iff.mp H
      obtain ⟨⟨t671, t674, t675⟩, A350, H⟩ := H
      replace H : (some (t636, t637, t638, t642, t645, t646, t647, t648, t649, y668, t671)) = some (r1, r2, r3, r4, r5, r6, r7, r8, r9, r10, r11) := H
      have A35 := Aside0.mk A350
      clear A350
      simp only [Option.some.injEq, Prod.mk.injEq] at H
      obtain ⟨rfl, rfl, rfl, rfl, rfl, rfl, rfl, rfl, rfl, rfl, rfl⟩ := H
      try go_wp2_with (first | ((with_reducible refine gate_callee (f := 72) rfl ?_); refine goesLA (some 35) rfl Try.func72 #[.pointer (some ⟨gb635, 0, none⟩), .int .i64 40] ?_; (with_reducible refine (spec_l4Cur_pick.calls gb635 l0 x636001_1 x636002_1 40 t662 t663 t664 w _ ?side1 ?side2 A29.out).mono ?_); (case side1 => exact qi HI635); (case side2 => exact qz HB); rintro e w36 ⟨rfl, hi, hb, hk⟩; refine ⟨_, rfl, ?_⟩; replace HO_11 := Aside0.mk (Kd.R_mono (Kd.R_keep (IsS108.apart (show IsS108 w _ gb635 l0 x636001_1 x636002_1 from qi HI635) (qr HO_11) (by decide)) hk (fun _ h => h.2)) (fun _ h => h.1)); replace BK633 := Aside0.mk (KeepBut.blk hk (g' := gb633) (o := .cells #[.int .i64 0, .int .i64 0, .int .i64 0] 34 (0, 0)) (qb BK633) NB633_635.out (by simp)); replace BK634 := Aside0.mk (KeepBut.blk hk (g' := gb634) (o := .cells #[.int .i64 0, .int .i64 0, .int .i64 0, .int .i64 0, .int .i64 0] 29 (0, 0)) (qb BK634) NB634_635.out (by simp)); replace BK641 := Aside0.mk (KeepBut.blk hk (g' := gb641) (o := .cells #[.int .i64 t636, .int .i64 t637, .int .i64 t638] 34 (0, 0)) (qb BK641) NB641_635.out (by simp)); replace BK652 := Aside0.mk (KeepBut.blk hk (g' := gb652) (o := .cells #[.int .i64 t645, .int .i64 t646, .int .i64 t647, .int .i64 t648, .int .i64 t649] 29 (0, 0)) (qb BK652) NB652_635.out (by simp)); replace HB := Aside0.mk (hb); replace HI635 := Aside0.mk (hi); clear hb hk hi) | ((with_reducible refine gate_callee (f := 72) rfl ?_); refine goesLA (some 38) rfl Try.func72 #[.pointer (some ⟨gb635, 0, none⟩), .int .i64 2] ?_; (with_reducible refine (spec_l4Cur_pick.calls gb635 l0 t663 t664 2 t665 t666 t667 w _ ?side1 ?side2 A31.out).mono ?_); (case side1 => exact qi HI635); (case side2 => exact qz HB); rintro e w37 ⟨rfl, hi, hb, hk⟩; refine ⟨_, rfl, ?_⟩; replace HO_11 := Aside0.mk (Kd.R_mono (Kd.R_keep (IsS108.apart (show IsS108 w _ gb635 l0 t663 t664 from qi HI635) (qr HO_11) (by decide)) hk (fun _ h => h.2)) (fun _ h => h.1)); replace BK633 := Aside0.mk (KeepBut.blk hk (g' := gb633) (o := .cells #[.int .i64 0, .int .i64 0, .int .i64 0] 34 (0, 0)) (qb BK633) NB633_635.out (by simp)); replace BK634 := Aside0.mk (KeepBut.blk hk (g' := gb634) (o := .cells #[.int .i64 0, .int .i64 0, .int .i64 0, .int .i64 0, .int .i64 0] 29 (0, 0)) (qb BK634) NB634_635.out (by simp)); replace BK641 := Aside0.mk (KeepBut.blk hk (g' := gb641) (o := .cells #[.int .i64 t636, .int .i64 t637, .int .i64 t638] 34 (0, 0)) (qb BK641) NB641_635.out (by simp)); replace BK652 := Aside0.mk (KeepBut.blk hk (g' := gb652) (o := .cells #[.int .i64 t645, .int .i64 t646, .int .i64 t647, .int .i64 t648, .int .i64 t649] 29 (0, 0)) (qb BK652) NB652_635.out (by simp)); replace HB := Aside0.mk (hb); replace HI635 := Aside0.mk (hi); clear hb hk hi) | ((with_reducible refine gate_dst (N := 40) rfl ?_); refine Kd.R_make (Kd.int .i64) _ 2 rfl (N := 40) rfl 26 _ _ rfl ji32 rfl rfl Try.underlying26 (.int .i64 0) 8 info2 rfl (by decide) (by omega) 0 (ok := fun _ => True) (okp := fun _ => True) rfl (fun _ hk => hk) trivial (of_decide_eq_true (by first | (with_reducible assumption) | assumption)) (Nat.le_trans (Nat.mul_le_mul_right _ (of_decide_eq_true (by first | (with_reducible assumption) | assumption) : ji32.toNat ≤ 35184372088832)) (by omega)) (Below.refl _ _) (Nat.le_refl _) ?_; intro v669 w38 ho39 hb hg_ hnew_; clear hg_ hnew_; (first | rw [← Ny668.out] at ho39 | (simp only [Int.reduceToNat] at ho39; rw [← Ny668.out] at ho39)); have HO670 := Aside0.mk (Kd.R_lower (Kd.R_new' ho39 (Kd.R_lt (qr HO_11))) (below_size (qz HB))); replace HO_11 := Aside0.mk (Kd.R_elder' (qr HO_11) (Kd.R_base ho39) hb); replace BK633 := bkb BK633 hb; replace BK634 := bkb BK634 hb; replace BK641 := bkb BK641 hb; replace BK652 := bkb BK652 hb; replace HI635 := Aside0.mk (IsS108.below (qi HI635) hb); replace HB := Aside0.mk (below_step (qz HB) hb); clear hb ho39))
      replace HO_11 := Aside0.mk (Kd.R_drew HO_11.out); replace HO670 := Aside0.mk (Kd.R_drew HO670.out); replace BK633 := Aside0.mk (blk_drew BK633.out); replace BK634 := Aside0.mk (blk_drew BK634.out); replace BK641 := Aside0.mk (blk_drew BK641.out); replace BK652 := Aside0.mk (blk_drew BK652.out); replace HI635 := Aside0.mk (IsS108.drew HI635.out); replace HB := Aside0.mk (below_drew1 HB.out)
      refine start_ (n := 12) (S := fun w' => w'.cell? ⟨gb641, 0, none⟩ = some (.int .i64 t636) ∧ w'.cell? ⟨gb641, 1, none⟩ = some (.int .i64 t637) ∧ w'.cell? ⟨gb641, 2, none⟩ = some (.int .i64 t638) ∧ w'.cell? ⟨gb652, 0, none⟩ = some (.int .i64 t645) ∧ w'.cell? ⟨gb652, 1, none⟩ = some (.int .i64 t646) ∧ w'.cell? ⟨gb652, 2, none⟩ = some (.int .i64 t647) ∧ w'.cell? ⟨gb652, 3, none⟩ = some (.int .i64 t648) ∧ w'.cell? ⟨gb652, 4, none⟩ = some (.int .i64 t649)) (ds := []) #[false, false, false, false, false, false, false, false, false, false, false, false] (by kernel_rfl) rfl rfl ⟨bc BK641 0, bc BK641 1, bc BK641 2, bc BK652 0, bc BK652 1, bc BK652 2, bc BK652 3, bc BK652 4⟩ (fun hHeld => ?_); refine with_tabW spec_DrawBoxTick.tab12 spec_DrawBoxTick.bits12 (fun HT_ HW_ => ?_)
      generalize w38.drew = w40 at HO_11 HO670 BK633 BK634 BK641 BK652 HI635 HB hHeld ⊢
      refine pureA 1 42 #[false, true, false, false, false, false, false, false, false, false, false, false] (any_of HT_.out (by kernel_rfl)) ?_
      refine pureA 3 44 #[false, true, false, true, false, false, false, false, false, false, false, false] (any_of HT_.out (by kernel_rfl)) ?_
      refine pureA 4 45 #[false, true, false, true, true, false, false, false, false, false, false, false] (any_of HT_.out (by kernel_rfl)) ?_
      refine pureA 5 46 #[false, true, false, true, true, true, false, false, false, false, false, false] (any_of HT_.out (by kernel_rfl)) ?_
      refine takeA 0 41 #[true, true, false, true, true, true, false, false, false, false, false, false] (take_ofW HT_.out HW_.out (by kernel_rfl)) hHeld ?_
      refine takeA 2 43 #[true, true, true, true, true, true, false, false, false, false, false, false] (take_ofW HT_.out HW_.out (by kernel_rfl)) hHeld ?_
      refine one_ (i := 6) (N := some 47) #[true, true, true, true, true, true, true, false, false, false, false, false] rfl rfl (one_of HT_.out (by kernel_rfl)) (by decide) (fun K hK => ?_)
      refine goesA Try.func74 #[.pointer (some ⟨gb635, 0, none⟩), .int .i64 t642] ?_
      with_reducible refine (spec_l4Cur_in.calls k1 gb635 l0 t666 t667 t642 t671 t674 t675 w _ ?side1 ?side2 A35.out).mono ?_
      (case side1 => exact qi HI635)
      (case side2 => exact qz HB)
      rintro e w41 ⟨v672, rfl, ho0, hi, hb, hk⟩
      refine ⟨_, rfl, ?_⟩
      replace HO_11 := Aside0.mk (Kd.R_mono (Kd.R_keep (IsS108.apart (show IsS108 w _ gb635 l0 t666 t667 from qi HI635) (qr HO_11) (by decide)) hk (fun _ h => h.2)) (fun _ h => h.1)); replace BK633 := Aside0.mk (KeepBut.blk hk (g' := gb633) (o := .cells #[.int .i64 0, .int .i64 0, .int .i64 0] 34 (0, 0)) (qb BK633) NB633_635.out (by simp)); replace BK634 := Aside0.mk (KeepBut.blk hk (g' := gb634) (o := .cells #[.int .i64 0, .int .i64 0, .int .i64 0, .int .i64 0, .int .i64 0] 29 (0, 0)) (qb BK634) NB634_635.out (by simp)); replace BK641 := Aside0.mk (KeepBut.blk hk (g' := gb641) (o := .cells #[.int .i64 t636, .int .i64 t637, .int .i64 t638] 34 (0, 0)) (qb BK641) NB641_635.out (by simp)); replace BK652 := Aside0.mk (KeepBut.blk hk (g' := gb652) (o := .cells #[.int .i64 t645, .int .i64 t646, .int .i64 t647, .int .i64 t648, .int .i64 t649] 29 (0, 0)) (qb BK652) NB652_635.out (by simp)); replace HO670 := Aside0.mk (Kd.R_mono (Kd.R_keep (IsS108.apart (show IsS108 w _ gb635 l0 t666 t667 from qi HI635) (qr HO670) (by decide)) hk (fun _ h => h.2)) (fun _ h => h.1)); have HO673 := Aside0.mk (Kd.R_lower ho0 (below_size (qz HB))); replace HB := Aside0.mk (hb); replace HI635 := Aside0.mk (hi); clear hb hk hi; (try clear ho0)
      refine hK.out _ _ ⟨bc BK641 0, bc BK641 1, bc BK641 2, bc BK652 0, bc BK652 1, bc BK652 2, bc BK652 3, bc BK652 4⟩ (fun hHeld => ?_)
      clear hK K
      refine normP ?_
      refine one_ (i := 7) (N := none) #[true, true, true, true, true, true, true, true, false, false, false, false] rfl rfl (one_of HT_.out (by kernel_rfl)) (by decide) (fun K hK => ?_)
      have hs42 := b0 BK633
      have hfs42 := blk_frozen BK633.out 0
      have hns42_1 := NB634_633.out
      have hns42_2 := NB641_633.out
      have hns42_3 := NB652_633.out
      have hms42_1 := NB633_634.out
      have hms42_2 := NB633_641.out
      have hms42_3 := NB633_652.out
      have hs43 := b1 BK633
      have hfs43 := blk_frozen BK633.out 1
      have hns43_1 := NB634_633.out
      have hns43_2 := NB641_633.out
      have hns43_3 := NB652_633.out
      have hms43_1 := NB633_634.out
      have hms43_2 := NB633_641.out
      have hms43_3 := NB633_652.out
      have hs44 := b2 BK633
      have hfs44 := blk_frozen BK633.out 2
      have hns44_1 := NB634_633.out
      have hns44_2 := NB641_633.out
      have hns44_3 := NB652_633.out
      have hms44_1 := NB633_634.out
      have hms44_2 := NB633_641.out
      have hms44_3 := NB633_652.out
      refine skip_ (w1 := ?_) (by rfl) rfl ?_ ?_
      rotate_left
      ·go_simp
       rfl
      refine hK.out _ _ ⟨(cf NB641_633 ((cf NB641_633 ((cf NB641_633 (hHeld.1)))))), (cf NB641_633 ((cf NB641_633 ((cf NB641_633 (hHeld.2.1)))))), (cf NB641_633 ((cf NB641_633 ((cf NB641_633 (hHeld.2.2.1)))))), (cf NB652_633 ((cf NB652_633 ((cf NB652_633 (hHeld.2.2.2.1)))))), (cf NB652_633 ((cf NB652_633 ((cf NB652_633 (hHeld.2.2.2.2.1)))))), (cf NB652_633 ((cf NB652_633 ((cf NB652_633 (hHeld.2.2.2.2.2.1)))))), (cf NB652_633 ((cf NB652_633 ((cf NB652_633 (hHeld.2.2.2.2.2.2.1)))))), (cf NB652_633 ((cf NB652_633 ((cf NB652_633 (hHeld.2.2.2.2.2.2.2))))))⟩ (fun hHeld => ?_)
      clear hK K
      refine pureA 8 3 #[true, true, true, true, true, true, true, true, true, false, false, false] (any_of HT_.out (by kernel_rfl)) ?_
      refine one_ (i := 9) (N := none) #[true, true, true, true, true, true, true, true, true, true, false, false] rfl rfl (one_of HT_.out (by kernel_rfl)) (by decide) (fun K hK => ?_)
      have hs45 := b0 BK634
      have hfs45 := blk_frozen BK634.out 0
      have hns45_0 := NB633_634.out
      have hns45_2 := NB641_634.out
      have hns45_3 := NB652_634.out
      have hms45_0 := NB634_633.out
      have hms45_2 := NB634_641.out
      have hms45_3 := NB634_652.out
      have hs46 := b1 BK634
      have hfs46 := blk_frozen BK634.out 1
      have hns46_0 := NB633_634.out
      have hns46_2 := NB641_634.out
      have hns46_3 := NB652_634.out
      have hms46_0 := NB634_633.out
      have hms46_2 := NB634_641.out
      have hms46_3 := NB634_652.out
      have hs47 := b2 BK634
      have hfs47 := blk_frozen BK634.out 2
      have hns47_0 := NB633_634.out
      have hns47_2 := NB641_634.out
      have hns47_3 := NB652_634.out
      have hms47_0 := NB634_633.out
      have hms47_2 := NB634_641.out
      have hms47_3 := NB634_652.out
      have hs48 := b3 BK634
      have hfs48 := blk_frozen BK634.out 3
      have hns48_0 := NB633_634.out
      have hns48_2 := NB641_634.out
      have hns48_3 := NB652_634.out
      have hms48_0 := NB634_633.out
      have hms48_2 := NB634_641.out
      have hms48_3 := NB634_652.out
      have hs49 := b4 BK634
      have hfs49 := blk_frozen BK634.out 4
      have hns49_0 := NB633_634.out
      have hns49_2 := NB641_634.out
      have hns49_3 := NB652_634.out
      have hms49_0 := NB634_633.out
      have hms49_2 := NB634_641.out
      have hms49_3 := NB634_652.out
      refine skip_ (w1 := ?_) (by rfl) rfl ?_ ?_
      rotate_left
      ·go_simp
       rfl
      refine hK.out _ _ ⟨(cf NB641_634 ((cf NB641_634 ((cf NB641_634 ((cf NB641_634 ((cf NB641_634 (hHeld.1)))))))))), (cf NB641_634 ((cf NB641_634 ((cf NB641_634 ((cf NB641_634 ((cf NB641_634 (hHeld.2.1)))))))))), (cf NB641_634 ((cf NB641_634 ((cf NB641_634 ((cf NB641_634 ((cf NB641_634 (hHeld.2.2.1)))))))))), (cf NB652_634 ((cf NB652_634 ((cf NB652_634 ((cf NB652_634 ((cf NB652_634 (hHeld.2.2.2.1)))))))))), (cf NB652_634 ((cf NB652_634 ((cf NB652_634 ((cf NB652_634 ((cf NB652_634 (hHeld.2.2.2.2.1)))))))))), (cf NB652_634 ((cf NB652_634 ((cf NB652_634 ((cf NB652_634 ((cf NB652_634 (hHeld.2.2.2.2.2.1)))))))))), (cf NB652_634 ((cf NB652_634 ((cf NB652_634 ((cf NB652_634 ((cf NB652_634 (hHeld.2.2.2.2.2.2.1)))))))))), (cf NB652_634 ((cf NB652_634 ((cf NB652_634 ((cf NB652_634 ((cf NB652_634 (hHeld.2.2.2.2.2.2.2))))))))))⟩ (fun hHeld => ?_)
      clear hK K
      refine pureA 10 5 #[true, true, true, true, true, true, true, true, true, true, true, false] (any_of HT_.out (by kernel_rfl)) ?_
      refine pureA 11 6 #[true, true, true, true, true, true, true, true, true, true, true, true] (any_of HT_.out (by kernel_rfl)) ?_
      refine done_ (done_of HT_.out (by kernel_rfl)) ?_
      try go_wp2
      refine bodyPost_ret (results_list (rs := [.cell 2 34, .tmp 3, .cell 4 29, .tmp 5, .tmp 6]) rfl (by simp) (.cell gb633 34 #[.int .i64 t636, .int .i64 t637, .int .i64 t638] (0, 0) _ rfl (by (with_reducible repeat (first | refine blk_drewN ?_ _ | refine blk_drew ?_ | refine blk_alloc ?_ _)); refine blk_far ?_ NB633_634.out _; (with_reducible repeat (first | refine blk_drewN ?_ _ | refine blk_drew ?_ | refine blk_alloc ?_ _)); refine blk_far ?_ NB633_634.out _; (with_reducible repeat (first | refine blk_drewN ?_ _ | refine blk_drew ?_ | refine blk_alloc ?_ _)); refine blk_far ?_ NB633_634.out _; (with_reducible repeat (first | refine blk_drewN ?_ _ | refine blk_drew ?_ | refine blk_alloc ?_ _)); refine blk_far ?_ NB633_634.out _; (with_reducible repeat (first | refine blk_drewN ?_ _ | refine blk_drew ?_ | refine blk_alloc ?_ _)); refine blk_far ?_ NB633_634.out _; (with_reducible repeat (first | refine blk_drewN ?_ _ | refine blk_drew ?_ | refine blk_alloc ?_ _)); refine blk_put (cs := #[.int .i64 t636, .int .i64 t637, .int .i64 0]) ?_ 2 _ rfl; (with_reducible repeat (first | refine blk_drewN ?_ _ | refine blk_drew ?_ | refine blk_alloc ?_ _)); refine blk_put (cs := #[.int .i64 t636, .int .i64 0, .int .i64 0]) ?_ 1 _ rfl; (with_reducible repeat (first | refine blk_drewN ?_ _ | refine blk_drew ?_ | refine blk_alloc ?_ _)); refine blk_put (cs := #[.int .i64 0, .int .i64 0, .int .i64 0]) ?_ 0 _ rfl; (with_reducible repeat (first | refine blk_drewN ?_ _ | refine blk_drew ?_ | refine blk_alloc ?_ _)); exact BK633.out) Try.underlying34 rfl (by kernel_rfl) (.tmp (.cell gb634 29 #[.int .i64 t645, .int .i64 t646, .int .i64 t647, .int .i64 t648, .int .i64 t649] (0, 0) _ rfl (by (with_reducible repeat (first | refine blk_drewN ?_ _ | refine blk_drew ?_ | refine blk_alloc ?_ _)); refine blk_put (cs := #[.int .i64 t645, .int .i64 t646, .int .i64 t647, .int .i64 t648, .int .i64 0]) ?_ 4 _ rfl; (with_reducible repeat (first | refine blk_drewN ?_ _ | refine blk_drew ?_ | refine blk_alloc ?_ _)); refine blk_put (cs := #[.int .i64 t645, .int .i64 t646, .int .i64 t647, .int .i64 0, .int .i64 0]) ?_ 3 _ rfl; (with_reducible repeat (first | refine blk_drewN ?_ _ | refine blk_drew ?_ | refine blk_alloc ?_ _)); refine blk_put (cs := #[.int .i64 t645, .int .i64 t646, .int .i64 0, .int .i64 0, .int .i64 0]) ?_ 2 _ rfl; (with_reducible repeat (first | refine blk_drewN ?_ _ | refine blk_drew ?_ | refine blk_alloc ?_ _)); refine blk_put (cs := #[.int .i64 t645, .int .i64 0, .int .i64 0, .int .i64 0, .int .i64 0]) ?_ 1 _ rfl; (with_reducible repeat (first | refine blk_drewN ?_ _ | refine blk_drew ?_ | refine blk_alloc ?_ _)); refine blk_put (cs := #[.int .i64 0, .int .i64 0, .int .i64 0, .int .i64 0, .int .i64 0]) ?_ 0 _ rfl; exact qB BK634) Try.underlying29 rfl (by kernel_rfl) (.tmp (.tmp .nil)))))) rfl ?_
      exact ⟨_, _, by first | rfl | (simp [errW_none, errW_some] <;> rfl) | (simp only [← hji32]; first | rfl | (simp [errW_none, errW_some] <;> rfl)) | (simp [*, errW_none, errW_some] <;> rfl), by (with_reducible repeat (first | apply Kd.R_alloc | apply Kd.R_drewN | apply Kd.R_drew)); exact Kd.R_mono (Kd.R_far (p := ⟨gb634, 4, none⟩) (Kd.R_far (p := ⟨gb634, 3, none⟩) (Kd.R_far (p := ⟨gb634, 2, none⟩) (Kd.R_far (p := ⟨gb634, 1, none⟩) (Kd.R_far (p := ⟨gb634, 0, none⟩) (Kd.R_far (p := ⟨gb633, 2, none⟩) (Kd.R_far (p := ⟨gb633, 1, none⟩) (Kd.R_far (p := ⟨gb633, 0, none⟩) (Kd.R_types (Kd.R_types HO670.out BK633.out (by decide)) BK634.out (by decide)) (fun _ hk => hk.1.2) (.int .i64 t636)) (fun _ hk => hk.1.2) (.int .i64 t637)) (fun _ hk => hk.1.2) (.int .i64 t638)) (fun _ hk => hk.2) (.int .i64 t645)) (fun _ hk => hk.2) (.int .i64 t646)) (fun _ hk => hk.2) (.int .i64 t647)) (fun _ hk => hk.2) (.int .i64 t648)) (fun _ hk => hk.2) (.int .i64 t649)) (fun _ hk => trivial), by (with_reducible repeat (first | apply Kd.R_alloc | apply Kd.R_drewN | apply Kd.R_drew)); exact Kd.R_mono (Kd.R_far (p := ⟨gb634, 4, none⟩) (Kd.R_far (p := ⟨gb634, 3, none⟩) (Kd.R_far (p := ⟨gb634, 2, none⟩) (Kd.R_far (p := ⟨gb634, 1, none⟩) (Kd.R_far (p := ⟨gb634, 0, none⟩) (Kd.R_far (p := ⟨gb633, 2, none⟩) (Kd.R_far (p := ⟨gb633, 1, none⟩) (Kd.R_far (p := ⟨gb633, 0, none⟩) (Kd.R_types (Kd.R_types HO673.out BK633.out (by decide)) BK634.out (by decide)) (fun _ hk => hk.1.2) (.int .i64 t636)) (fun _ hk => hk.1.2) (.int .i64 t637)) (fun _ hk => hk.1.2) (.int .i64 t638)) (fun _ hk => hk.2) (.int .i64 t645)) (fun _ hk => hk.2) (.int .i64 t646)) (fun _ hk => hk.2) (.int .i64 t647)) (fun _ hk => hk.2) (.int .i64 t648)) (fun _ hk => hk.2) (.int .i64 t649)) (fun _ hk => trivial), (qz HB)⟩
     rw [if_neg c34] at H
     exact absurd H (by simp)
    rw [if_neg c33] at H
    exact absurd H (by simp)
   rw [if_neg c30] at H
   have c30b0 : (t662 == 0) = false := beq_eq_false_iff_ne.mpr c30
   have c30b1 : (t662 != 0) = true := bne_iff_ne.mpr c30
   replace H := Option.bind_eq_some_iff.mp H
   obtain ⟨⟨t676, t679, t680⟩, A500, H⟩ := H
   replace H : (some (t636, t637, t638, t642, t645, t646, t647, t648, t649, x11_1, t676)) = some (r1, r2, r3, r4, r5, r6, r7, r8, r9, r10, r11) := H
   have A50 := Aside0.mk A500
   clear A500
   simp only [Option.some.injEq, Prod.mk.injEq] at H
   obtain ⟨rfl, rfl, rfl, rfl, rfl, rfl, rfl, rfl, rfl, rfl, rfl⟩ := H
   try go_wp2_with (first | ((with_reducible refine gate_callee (f := 72) rfl ?_); refine goesLA (some 35) rfl Try.func72 #[.pointer (some ⟨gb635, 0, none⟩), .int .i64 40] ?_; (with_reducible refine (spec_l4Cur_pick.calls gb635 l0 x636001_1 x636002_1 40 t662 t663 t664 w _ ?side1 ?side2 A29.out).mono ?_); (case side1 => exact qi HI635); (case side2 => exact qz HB); rintro e w51 ⟨rfl, hi, hb, hk⟩; refine ⟨_, rfl, ?_⟩; replace HO_11 := Aside0.mk (Kd.R_mono (Kd.R_keep (IsS108.apart (show IsS108 w _ gb635 l0 x636001_1 x636002_1 from qi HI635) (qr HO_11) (by decide)) hk (fun _ h => h.2)) (fun _ h => h.1)); replace BK633 := Aside0.mk (KeepBut.blk hk (g' := gb633) (o := .cells #[.int .i64 0, .int .i64 0, .int .i64 0] 34 (0, 0)) (qb BK633) NB633_635.out (by simp)); replace BK634 := Aside0.mk (KeepBut.blk hk (g' := gb634) (o := .cells #[.int .i64 0, .int .i64 0, .int .i64 0, .int .i64 0, .int .i64 0] 29 (0, 0)) (qb BK634) NB634_635.out (by simp)); replace BK641 := Aside0.mk (KeepBut.blk hk (g' := gb641) (o := .cells #[.int .i64 t636, .int .i64 t637, .int .i64 t638] 34 (0, 0)) (qb BK641) NB641_635.out (by simp)); replace BK652 := Aside0.mk (KeepBut.blk hk (g' := gb652) (o := .cells #[.int .i64 t645, .int .i64 t646, .int .i64 t647, .int .i64 t648, .int .i64 t649] 29 (0, 0)) (qb BK652) NB652_635.out (by simp)); replace HB := Aside0.mk (hb); replace HI635 := Aside0.mk (hi); clear hb hk hi))
   replace HO_11 := Aside0.mk (Kd.R_drew HO_11.out); replace BK633 := Aside0.mk (blk_drew BK633.out); replace BK634 := Aside0.mk (blk_drew BK634.out); replace BK641 := Aside0.mk (blk_drew BK641.out); replace BK652 := Aside0.mk (blk_drew BK652.out); replace HI635 := Aside0.mk (IsS108.drew HI635.out); replace HB := Aside0.mk (below_drew1 HB.out)
   refine start_ (n := 12) (S := fun w' => w'.cell? ⟨gb641, 0, none⟩ = some (.int .i64 t636) ∧ w'.cell? ⟨gb641, 1, none⟩ = some (.int .i64 t637) ∧ w'.cell? ⟨gb641, 2, none⟩ = some (.int .i64 t638) ∧ w'.cell? ⟨gb652, 0, none⟩ = some (.int .i64 t645) ∧ w'.cell? ⟨gb652, 1, none⟩ = some (.int .i64 t646) ∧ w'.cell? ⟨gb652, 2, none⟩ = some (.int .i64 t647) ∧ w'.cell? ⟨gb652, 3, none⟩ = some (.int .i64 t648) ∧ w'.cell? ⟨gb652, 4, none⟩ = some (.int .i64 t649)) (ds := []) #[false, false, false, false, false, false, false, false, false, false, false, false] (by kernel_rfl) rfl rfl ⟨bc BK641 0, bc BK641 1, bc BK641 2, bc BK652 0, bc BK652 1, bc BK652 2, bc BK652 3, bc BK652 4⟩ (fun hHeld => ?_); refine with_tabW spec_DrawBoxTick.tab12 spec_DrawBoxTick.bits12 (fun HT_ HW_ => ?_)
   generalize w51.drew = w52 at HO_11 BK633 BK634 BK641 BK652 HI635 HB hHeld ⊢
   refine pureA 1 42 #[false, true, false, false, false, false, false, false, false, false, false, false] (any_of HT_.out (by kernel_rfl)) ?_
   refine pureA 3 44 #[false, true, false, true, false, false, false, false, false, false, false, false] (any_of HT_.out (by kernel_rfl)) ?_
   refine pureA 4 45 #[false, true, false, true, true, false, false, false, false, false, false, false] (any_of HT_.out (by kernel_rfl)) ?_
   refine pureA 5 46 #[false, true, false, true, true, true, false, false, false, false, false, false] (any_of HT_.out (by kernel_rfl)) ?_
   refine takeA 0 41 #[true, true, false, true, true, true, false, false, false, false, false, false] (take_ofW HT_.out HW_.out (by kernel_rfl)) hHeld ?_
   refine takeA 2 43 #[true, true, true, true, true, true, false, false, false, false, false, false] (take_ofW HT_.out HW_.out (by kernel_rfl)) hHeld ?_
   refine one_ (i := 6) (N := some 47) #[true, true, true, true, true, true, true, false, false, false, false, false] rfl rfl (one_of HT_.out (by kernel_rfl)) (by decide) (fun K hK => ?_)
   refine goesA Try.func74 #[.pointer (some ⟨gb635, 0, none⟩), .int .i64 t642] ?_
   with_reducible refine (spec_l4Cur_in.calls k1 gb635 l0 t663 t664 t642 t676 t679 t680 w _ ?side1 ?side2 A50.out).mono ?_
   (case side1 => exact qi HI635)
   (case side2 => exact qz HB)
   rintro e w53 ⟨v677, rfl, ho0, hi, hb, hk⟩
   refine ⟨_, rfl, ?_⟩
   replace HO_11 := Aside0.mk (Kd.R_mono (Kd.R_keep (IsS108.apart (show IsS108 w _ gb635 l0 t663 t664 from qi HI635) (qr HO_11) (by decide)) hk (fun _ h => h.2)) (fun _ h => h.1)); replace BK633 := Aside0.mk (KeepBut.blk hk (g' := gb633) (o := .cells #[.int .i64 0, .int .i64 0, .int .i64 0] 34 (0, 0)) (qb BK633) NB633_635.out (by simp)); replace BK634 := Aside0.mk (KeepBut.blk hk (g' := gb634) (o := .cells #[.int .i64 0, .int .i64 0, .int .i64 0, .int .i64 0, .int .i64 0] 29 (0, 0)) (qb BK634) NB634_635.out (by simp)); replace BK641 := Aside0.mk (KeepBut.blk hk (g' := gb641) (o := .cells #[.int .i64 t636, .int .i64 t637, .int .i64 t638] 34 (0, 0)) (qb BK641) NB641_635.out (by simp)); replace BK652 := Aside0.mk (KeepBut.blk hk (g' := gb652) (o := .cells #[.int .i64 t645, .int .i64 t646, .int .i64 t647, .int .i64 t648, .int .i64 t649] 29 (0, 0)) (qb BK652) NB652_635.out (by simp)); have HO678 := Aside0.mk (Kd.R_lower ho0 (below_size (qz HB))); replace HB := Aside0.mk (hb); replace HI635 := Aside0.mk (hi); clear hb hk hi; (try clear ho0)
   refine hK.out _ _ ⟨bc BK641 0, bc BK641 1, bc BK641 2, bc BK652 0, bc BK652 1, bc BK652 2, bc BK652 3, bc BK652 4⟩ (fun hHeld => ?_)
   clear hK K
   refine normP ?_
   refine one_ (i := 7) (N := none) #[true, true, true, true, true, true, true, true, false, false, false, false] rfl rfl (one_of HT_.out (by kernel_rfl)) (by decide) (fun K hK => ?_)
   have hs54 := b0 BK633
   have hfs54 := blk_frozen BK633.out 0
   have hns54_1 := NB634_633.out
   have hns54_2 := NB641_633.out
   have hns54_3 := NB652_633.out
   have hms54_1 := NB633_634.out
   have hms54_2 := NB633_641.out
   have hms54_3 := NB633_652.out
   have hs55 := b1 BK633
   have hfs55 := blk_frozen BK633.out 1
   have hns55_1 := NB634_633.out
   have hns55_2 := NB641_633.out
   have hns55_3 := NB652_633.out
   have hms55_1 := NB633_634.out
   have hms55_2 := NB633_641.out
   have hms55_3 := NB633_652.out
   have hs56 := b2 BK633
   have hfs56 := blk_frozen BK633.out 2
   have hns56_1 := NB634_633.out
   have hns56_2 := NB641_633.out
   have hns56_3 := NB652_633.out
   have hms56_1 := NB633_634.out
   have hms56_2 := NB633_641.out
   have hms56_3 := NB633_652.out
   refine skip_ (w1 := ?_) (by rfl) rfl ?_ ?_
   rotate_left
   ·go_simp
    rfl
   refine hK.out _ _ ⟨(cf NB641_633 ((cf NB641_633 ((cf NB641_633 (hHeld.1)))))), (cf NB641_633 ((cf NB641_633 ((cf NB641_633 (hHeld.2.1)))))), (cf NB641_633 ((cf NB641_633 ((cf NB641_633 (hHeld.2.2.1)))))), (cf NB652_633 ((cf NB652_633 ((cf NB652_633 (hHeld.2.2.2.1)))))), (cf NB652_633 ((cf NB652_633 ((cf NB652_633 (hHeld.2.2.2.2.1)))))), (cf NB652_633 ((cf NB652_633 ((cf NB652_633 (hHeld.2.2.2.2.2.1)))))), (cf NB652_633 ((cf NB652_633 ((cf NB652_633 (hHeld.2.2.2.2.2.2.1)))))), (cf NB652_633 ((cf NB652_633 ((cf NB652_633 (hHeld.2.2.2.2.2.2.2))))))⟩ (fun hHeld => ?_)
   clear hK K
   refine pureA 8 3 #[true, true, true, true, true, true, true, true, true, false, false, false] (any_of HT_.out (by kernel_rfl)) ?_
   refine one_ (i := 9) (N := none) #[true, true, true, true, true, true, true, true, true, true, false, false] rfl rfl (one_of HT_.out (by kernel_rfl)) (by decide) (fun K hK => ?_)
   have hs57 := b0 BK634
   have hfs57 := blk_frozen BK634.out 0
   have hns57_0 := NB633_634.out
   have hns57_2 := NB641_634.out
   have hns57_3 := NB652_634.out
   have hms57_0 := NB634_633.out
   have hms57_2 := NB634_641.out
   have hms57_3 := NB634_652.out
   have hs58 := b1 BK634
   have hfs58 := blk_frozen BK634.out 1
   have hns58_0 := NB633_634.out
   have hns58_2 := NB641_634.out
   have hns58_3 := NB652_634.out
   have hms58_0 := NB634_633.out
   have hms58_2 := NB634_641.out
   have hms58_3 := NB634_652.out
   have hs59 := b2 BK634
   have hfs59 := blk_frozen BK634.out 2
   have hns59_0 := NB633_634.out
   have hns59_2 := NB641_634.out
   have hns59_3 := NB652_634.out
   have hms59_0 := NB634_633.out
   have hms59_2 := NB634_641.out
   have hms59_3 := NB634_652.out
   have hs60 := b3 BK634
   have hfs60 := blk_frozen BK634.out 3
   have hns60_0 := NB633_634.out
   have hns60_2 := NB641_634.out
   have hns60_3 := NB652_634.out
   have hms60_0 := NB634_633.out
   have hms60_2 := NB634_641.out
   have hms60_3 := NB634_652.out
   have hs61 := b4 BK634
   have hfs61 := blk_frozen BK634.out 4
   have hns61_0 := NB633_634.out
   have hns61_2 := NB641_634.out
   have hns61_3 := NB652_634.out
   have hms61_0 := NB634_633.out
   have hms61_2 := NB634_641.out
   have hms61_3 := NB634_652.out
   refine skip_ (w1 := ?_) (by rfl) rfl ?_ ?_
   rotate_left
   ·go_simp
    rfl
   refine hK.out _ _ ⟨(cf NB641_634 ((cf NB641_634 ((cf NB641_634 ((cf NB641_634 ((cf NB641_634 (hHeld.1)))))))))), (cf NB641_634 ((cf NB641_634 ((cf NB641_634 ((cf NB641_634 ((cf NB641_634 (hHeld.2.1)))))))))), (cf NB641_634 ((cf NB641_634 ((cf NB641_634 ((cf NB641_634 ((cf NB641_634 (hHeld.2.2.1)))))))))), (cf NB652_634 ((cf NB652_634 ((cf NB652_634 ((cf NB652_634 ((cf NB652_634 (hHeld.2.2.2.1)))))))))), (cf NB652_634 ((cf NB652_634 ((cf NB652_634 ((cf NB652_634 ((cf NB652_634 (hHeld.2.2.2.2.1)))))))))), (cf NB652_634 ((cf NB652_634 ((cf NB652_634 ((cf NB652_634 ((cf NB652_634 (hHeld.2.2.2.2.2.1)))))))))), (cf NB652_634 ((cf NB652_634 ((cf NB652_634 ((cf NB652_634 ((cf NB652_634 (hHeld.2.2.2.2.2.2.1)))))))))), (cf NB652_634 ((cf NB652_634 ((cf NB652_634 ((cf NB652_634 ((cf NB652_634 (hHeld.2.2.2.2.2.2.2))))))))))⟩ (fun hHeld => ?_)
   clear hK K
   refine pureA 10 5 #[true, true, true, true, true, true, true, true, true, true, true, false] (any_of HT_.out (by kernel_rfl)) ?_
   refine pureA 11 6 #[true, true, true, true, true, true, true, true, true, true, true, true] (any_of HT_.out (by kernel_rfl)) ?_
   refine done_ (done_of HT_.out (by kernel_rfl)) ?_
   try go_wp2
   refine bodyPost_ret (results_list (rs := [.cell 2 34, .tmp 3, .cell 4 29, .tmp 5, .tmp 6]) rfl (by simp) (.cell gb633 34 #[.int .i64 t636, .int .i64 t637, .int .i64 t638] (0, 0) _ rfl (by (with_reducible repeat (first | refine blk_drewN ?_ _ | refine blk_drew ?_ | refine blk_alloc ?_ _)); refine blk_far ?_ NB633_634.out _; (with_reducible repeat (first | refine blk_drewN ?_ _ | refine blk_drew ?_ | refine blk_alloc ?_ _)); refine blk_far ?_ NB633_634.out _; (with_reducible repeat (first | refine blk_drewN ?_ _ | refine blk_drew ?_ | refine blk_alloc ?_ _)); refine blk_far ?_ NB633_634.out _; (with_reducible repeat (first | refine blk_drewN ?_ _ | refine blk_drew ?_ | refine blk_alloc ?_ _)); refine blk_far ?_ NB633_634.out _; (with_reducible repeat (first | refine blk_drewN ?_ _ | refine blk_drew ?_ | refine blk_alloc ?_ _)); refine blk_far ?_ NB633_634.out _; (with_reducible repeat (first | refine blk_drewN ?_ _ | refine blk_drew ?_ | refine blk_alloc ?_ _)); refine blk_put (cs := #[.int .i64 t636, .int .i64 t637, .int .i64 0]) ?_ 2 _ rfl; (with_reducible repeat (first | refine blk_drewN ?_ _ | refine blk_drew ?_ | refine blk_alloc ?_ _)); refine blk_put (cs := #[.int .i64 t636, .int .i64 0, .int .i64 0]) ?_ 1 _ rfl; (with_reducible repeat (first | refine blk_drewN ?_ _ | refine blk_drew ?_ | refine blk_alloc ?_ _)); refine blk_put (cs := #[.int .i64 0, .int .i64 0, .int .i64 0]) ?_ 0 _ rfl; (with_reducible repeat (first | refine blk_drewN ?_ _ | refine blk_drew ?_ | refine blk_alloc ?_ _)); exact BK633.out) Try.underlying34 rfl (by kernel_rfl) (.tmp (.cell gb634 29 #[.int .i64 t645, .int .i64 t646, .int .i64 t647, .int .i64 t648, .int .i64 t649] (0, 0) _ rfl (by (with_reducible repeat (first | refine blk_drewN ?_ _ | refine blk_drew ?_ | refine blk_alloc ?_ _)); refine blk_put (cs := #[.int .i64 t645, .int .i64 t646, .int .i64 t647, .int .i64 t648, .int .i64 0]) ?_ 4 _ rfl; (with_reducible repeat (first | refine blk_drewN ?_ _ | refine blk_drew ?_ | refine blk_alloc ?_ _)); refine blk_put (cs := #[.int .i64 t645, .int .i64 t646, .int .i64 t647, .int .i64 0, .int .i64 0]) ?_ 3 _ rfl; (with_reducible repeat (first | refine blk_drewN ?_ _ | refine blk_drew ?_ | refine blk_alloc ?_ _)); refine blk_put (cs := #[.int .i64 t645, .int .i64 t646, .int .i64 0, .int .i64 0, .int .i64 0]) ?_ 2 _ rfl; (with_reducible repeat (first | refine blk_drewN ?_ _ | refine blk_drew ?_ | refine blk_alloc ?_ _)); refine blk_put (cs := #[.int .i64 t645, .int .i64 0, .int .i64 0, .int .i64 0, .int .i64 0]) ?_ 1 _ rfl; (with_reducible repeat (first | refine blk_drewN ?_ _ | refine blk_drew ?_ | refine blk_alloc ?_ _)); refine blk_put (cs := #[.int .i64 0, .int .i64 0, .int .i64 0, .int .i64 0, .int .i64 0]) ?_ 0 _ rfl; exact qB BK634) Try.underlying29 rfl (by kernel_rfl) (.tmp (.tmp .nil)))))) rfl ?_
   exact ⟨_, _, by first | rfl | (simp [errW_none, errW_some] <;> rfl) | (simp [*, errW_none, errW_some] <;> rfl), by (with_reducible repeat (first | apply Kd.R_alloc | apply Kd.R_drewN | apply Kd.R_drew)); exact Kd.R_mono (Kd.R_far (p := ⟨gb634, 4, none⟩) (Kd.R_far (p := ⟨gb634, 3, none⟩) (Kd.R_far (p := ⟨gb634, 2, none⟩) (Kd.R_far (p := ⟨gb634, 1, none⟩) (Kd.R_far (p := ⟨gb634, 0, none⟩) (Kd.R_far (p := ⟨gb633, 2, none⟩) (Kd.R_far (p := ⟨gb633, 1, none⟩) (Kd.R_far (p := ⟨gb633, 0, none⟩) (Kd.R_types (Kd.R_types HO_11.out BK633.out (by decide)) BK634.out (by decide)) (fun _ hk => hk.1.2) (.int .i64 t636)) (fun _ hk => hk.1.2) (.int .i64 t637)) (fun _ hk => hk.1.2) (.int .i64 t638)) (fun _ hk => hk.2) (.int .i64 t645)) (fun _ hk => hk.2) (.int .i64 t646)) (fun _ hk => hk.2) (.int .i64 t647)) (fun _ hk => hk.2) (.int .i64 t648)) (fun _ hk => hk.2) (.int .i64 t649)) (fun _ hk => trivial), by (with_reducible repeat (first | apply Kd.R_alloc | apply Kd.R_drewN | apply Kd.R_drew)); exact Kd.R_mono (Kd.R_far (p := ⟨gb634, 4, none⟩) (Kd.R_far (p := ⟨gb634, 3, none⟩) (Kd.R_far (p := ⟨gb634, 2, none⟩) (Kd.R_far (p := ⟨gb634, 1, none⟩) (Kd.R_far (p := ⟨gb634, 0, none⟩) (Kd.R_far (p := ⟨gb633, 2, none⟩) (Kd.R_far (p := ⟨gb633, 1, none⟩) (Kd.R_far (p := ⟨gb633, 0, none⟩) (Kd.R_types (Kd.R_types HO678.out BK633.out (by decide)) BK634.out (by decide)) (fun _ hk => hk.1.2) (.int .i64 t636)) (fun _ hk => hk.1.2) (.int .i64 t637)) (fun _ hk => hk.1.2) (.int .i64 t638)) (fun _ hk => hk.2) (.int .i64 t645)) (fun _ hk => hk.2) (.int .i64 t646)) (fun _ hk => hk.2) (.int .i64 t647)) (fun _ hk => hk.2) (.int .i64 t648)) (fun _ hk => hk.2) (.int .i64 t649)) (fun _ hk => trivial), (qz HB)⟩
mutual
def spec_l4Cur_train.j0 : Nat → Int → Bool → List Int → Int → Int → Option (Int × Int × Int × Int × Int)
 | 0, _, _, _, _, _ => none
 | k + 1, x1, x11, x1000, x1001, x1002 => if x11 = true then (spec_l4Cur_train.j1 k 30 x1000 x1001 x1002) else (spec_l4Cur_train.j1 k x1 x1000 x1001 x1002)
def spec_l4Cur_train.j1 : Nat → Int → List Int → Int → Int → Option (Int × Int × Int × Int × Int)
 | 0, _, _, _, _ => none
 | k + 1, x1, x1000, x1001, x1002 => (spec_l4Cur_pick.f x1000 x1001 x1002 9).bind fun bt682 => ((spec_l4Cur_whole.f x1000 bt682.2.1 bt682.2.2).bind fun bt685 => ((spec_l4Cur_pick.f x1000 bt685.2.1 bt685.2.2 (wrap64 (x1 + 1))).bind fun bt688 => ((spec_l4Cur_pick.f x1000 bt688.2.1 bt688.2.2 24).bind fun bt692 => (if bt692.1 = 0 then (some (bt682.1, bt685.1, wrap64 (x1 + 1), bt692.2.1, bt692.2.2)) else (if bt692.1 = 1 then ((some (([(-1), 1000000000, 1000000001] : List Int) : List Int)).bind fun y695 => ((spec_l4Cur_pick.f x1000 bt692.2.1 bt692.2.2 3).bind fun bt698 => (if 0 ≤ bt698.1 then (if bt698.1 < (y695.length : Int) then (some (rd y695 bt698.1, bt685.1, bt688.1, bt698.2.1, bt698.2.2)) else (none)) else (none)))) else (some (bt682.1, bt685.1, bt688.1, bt692.2.1, bt692.2.2)))))))
end
def spec_l4Cur_train.f (k : Nat) (s0_0 : List Int) (s0_1 : Int) (s0_2 : Int) (a1 : Int) : Option (Int × Int × Int × Int × Int) := if a1 < 0 then (spec_l4Cur_train.j0 k a1 true s0_0 s0_1 s0_2) else (spec_l4Cur_train.j0 k a1 (decide (a1 > 1000)) s0_0 s0_1 s0_2)
set_option maxHeartbeats 8000000 in
set_option maxRecDepth 100000 in
theorem spec_l4Cur_train.calls (k : Nat) (g : Nat) (s0_0 : List Int) (s0_1 : Int) (s0_2 : Int) (a1 : Int) (r1 : Int) (r2 : Int) (r3 : Int) (r4 : Int) (r5 : Int) (w0 w : World) (hI : IsS108 w0 w g s0_0 s0_1 s0_2) (hB : Below w0.heap.size w0 w) (h : spec_l4Cur_train.f k s0_0 s0_1 s0_2 a1 = some (r1, r2, r3, r4, r5)) :
  Calls Try.prog 75 #[.pointer (some ⟨g, 0, none⟩), .int .i64 a1] w fun e w' => e = .returned (.agg #[.int .i64 r1, .int .i64 r2, .int .i64 r3]) ∧ IsS108 w0 w' g s0_0 r4 r5 ∧ Below w0.heap.size w0 w' ∧ KeepBut w w' g none := by
 have hu48 := Try.underlying48
 have HI0 := Aside0.mk hI
 have HK := Aside0.mk (KeepBut.refl w g none)
 have HL := Aside0.mk hB.size
 clear hI
 have HW0 := Aside0.mk hB.size
 have HB := Aside0.mk hB
 clear hB
 have H : (if a1 < 0 then (spec_l4Cur_train.j0 k a1 true s0_0 s0_1 s0_2) else (spec_l4Cur_train.j0 k a1 (decide (a1 > 1000)) s0_0 s0_1 s0_2)) = some (r1, r2, r3, r4, r5) := h
 clear h
 have HC3 := Aside0.mk H
 clear H
 go_enter Try.func75, Try.ntmps75
 go_upto_region 1 with (first | ((with_reducible refine gate_dst (N := 4) rfl ?_); refine boxA #[.int .i64 0, .int .i64 0, .int .i64 0] 48 ?_; intro gb681 hg w4 hbox hb; replace HB := Aside0.mk (below_step (qz HB) hb); have BK681 := Aside0.mk (hbox); have GW681 := Aside0.mk ((by rw [hg]; exact (keep_size (w := w) (g := g) (row := none) (qk HK)) : w.heap.size ≤ gb681)); have GE681 := Aside0.mk ((Nat.le_trans HW0.out (by rw [hg]; exact (keep_size (w := w) (g := g) (row := none) (qk HK)) : w.heap.size ≤ gb681) : w0.heap.size ≤ gb681)); replace HK := Aside0.mk (KeepBut.trans (qk HK) (KeepBut.of_below hb g none) (.inl rfl)); have NB0_681 := Aside0.mk ((by rw [hg]; exact Nat.ne_of_lt (IsS108.lt (show IsS108 w0 _ g s0_0 s0_1 s0_2 from qi HI0)) : g ≠ gb681)); have NB681_0 := Aside0.mk ((by rw [hg]; exact Nat.ne_of_gt (IsS108.lt (show IsS108 w0 _ g s0_0 s0_1 s0_2 from qi HI0)) : gb681 ≠ g)); replace HI0 := Aside0.mk (IsS108.below (qi HI0) hb); clear hb hbox hg))
 (try simp only [Act.put, List.setIfInBounds_toArray, List.set_cons_zero, List.set_cons_succ])
 go_cut [11] (fun v11 wc => ∃ (kq : Nat) (x11_2 : Bool), v11 = .bool x11_2 ∧ Aside0 (spec_l4Cur_train.j0 kq a1 x11_2 s0_0 s0_1 s0_2 = some (r1, r2, r3, r4, r5)) ∧ Aside0 (kq ≤ k) ∧ Aside0 (wc.heap[gb681]? = some (.cells #[.int .i64 0, .int .i64 0, .int .i64 0] 48 (0, 0))) ∧ Aside0 (IsS108 w0 wc g s0_0 s0_1 s0_2) ∧ Aside0 (KeepBut w wc g none) ∧ Aside0 (Below w0.heap.size w0 wc))
 case first =>
  have H := HC3.out
  clear HC3
  by_cases c5 : a1 < 0
  ·rw [if_pos c5] at H
   have c5b0 : decide (a1 < 0) = true := decide_eq_true c5
   clear c5
   (first | rw [c5b0] | (simp only [i64_w, i32_w]; rw [c5b0]) | skip)
   have H' := Aside0.mk H
   clear H
   go_wp2
   go_meet
   case rel => exact ⟨_, (true), (by first | rfl | (simp; done) | (simp [*]; done)), H', ⟨by first | omega | exact Nat.le_refl _⟩, ⟨qb BK681⟩, ⟨(qi HI0)⟩, ⟨(qk HK)⟩, ⟨(qz HB)⟩⟩
  rw [if_neg c5] at H
  have c5b0 : decide (a1 < 0) = false := decide_eq_false c5
  clear c5
  (first | rw [c5b0] | (simp only [i64_w, i32_w]; rw [c5b0]) | skip)
  have H' := Aside0.mk H
  clear H
  go_wp2
  go_meet
  case rel => exact ⟨_, (decide (a1 > 1000)), (by first | rfl | (simp; done) | (simp [*]; done)), H', ⟨by first | omega | exact Nat.le_refl _⟩, ⟨qb BK681⟩, ⟨(qi HI0)⟩, ⟨(qk HK)⟩, ⟨(qz HB)⟩⟩
 case rest =>
  clear HC3
  try clear p2; try clear c5; try clear c5b0
  obtain ⟨kq, x11_2, rfl, HA, HJ2, BK681, HI0, HK, HB⟩ := hcut
  cases kq with
  | zero => exact absurd HA.out (by simp [spec_l4Cur_train.j0])
  | succ kj2 =>
   have H := HA.out
   clear HA
   simp only [spec_l4Cur_train.j0] at H
   have HC6 := Aside0.mk H
   clear H
   go_upto_if 11 with (fail)
   go_cut [1] (fun v1 wc => ∃ (kq : Nat) (x1_5 : Int), v1 = .int .i64 x1_5 ∧ Aside0 (spec_l4Cur_train.j1 kq x1_5 s0_0 s0_1 s0_2 = some (r1, r2, r3, r4, r5)) ∧ Aside0 (kq ≤ kj2) ∧ Aside0 (wc.heap[gb681]? = some (.cells #[.int .i64 0, .int .i64 0, .int .i64 0] 48 (0, 0))) ∧ Aside0 (IsS108 w0 wc g s0_0 s0_1 s0_2) ∧ Aside0 (KeepBut w wc g none) ∧ Aside0 (Below w0.heap.size w0 wc))
   case first =>
    have H := HC6.out
    clear HC6
    by_cases c7 : x11_2 = true
    ·subst c7
     have H1 : (spec_l4Cur_train.j1 kj2 30 s0_0 s0_1 s0_2) = some (r1, r2, r3, r4, r5) := by rw [if_pos rfl] at H; exact H
     clear H; have H := H1; clear H1
     have H' := Aside0.mk H
     clear H
     go_wp2
     go_meet
     case rel => exact ⟨_, (30), (by first | rfl | (simp; done) | (simp [*]; done)), H', ⟨by have := HJ2.out; first | omega | exact Nat.le_refl _⟩, ⟨qb BK681⟩, ⟨(qi HI0)⟩, ⟨(qk HK)⟩, ⟨(qz HB)⟩⟩
    replace c7 := Bool.eq_false_iff.mpr c7
    subst c7
    have H1 : (spec_l4Cur_train.j1 kj2 a1 s0_0 s0_1 s0_2) = some (r1, r2, r3, r4, r5) := by rw [if_neg (show ¬ (false = true) by decide)] at H; exact H
    clear H; have H := H1; clear H1
    have H' := Aside0.mk H
    clear H
    go_wp2
    go_meet
    case rel => exact ⟨_, (a1), (by first | rfl | (simp; done) | (simp [*]; done)), H', ⟨by have := HJ2.out; first | omega | exact Nat.le_refl _⟩, ⟨qb BK681⟩, ⟨(qi HI0)⟩, ⟨(qk HK)⟩, ⟨(qz HB)⟩⟩
   case rest =>
    clear HC6
    try clear p2; try clear c5; try clear c5b0; try clear c7; try clear p2
    obtain ⟨kq, x1_5, rfl, HA, HJ5, BK681, HI0, HK, HB⟩ := hcut
    cases kq with
    | zero => exact absurd HA.out (by simp [spec_l4Cur_train.j1])
    | succ kj5 =>
     have H := HA.out
     clear HA
     simp only [spec_l4Cur_train.j1] at H
     replace H := Option.bind_eq_some_iff.mp H
     obtain ⟨⟨t682, t683, t684⟩, A80, H⟩ := H
     replace H : ((spec_l4Cur_whole.f s0_0 t683 t684).bind fun bt685 => ((spec_l4Cur_pick.f s0_0 bt685.2.1 bt685.2.2 (wrap64 (x1_5 + 1))).bind fun bt688 => ((spec_l4Cur_pick.f s0_0 bt688.2.1 bt688.2.2 24).bind fun bt692 => (if bt692.1 = 0 then (some (t682, bt685.1, wrap64 (x1_5 + 1), bt692.2.1, bt692.2.2)) else (if bt692.1 = 1 then ((some (([(-1), 1000000000, 1000000001] : List Int) : List Int)).bind fun y695 => ((spec_l4Cur_pick.f s0_0 bt692.2.1 bt692.2.2 3).bind fun bt698 => (if 0 ≤ bt698.1 then (if bt698.1 < (y695.length : Int) then (some (rd y695 bt698.1, bt685.1, bt688.1, bt698.2.1, bt698.2.2)) else (none)) else (none)))) else (some (t682, bt685.1, bt688.1, bt692.2.1, bt692.2.2))))))) = some (r1, r2, r3, r4, r5) := H
     have A8 := Aside0.mk A80
     clear A80
     replace H := Option.bind_eq_some_iff.mp H
     obtain ⟨⟨t685, t686, t687⟩, A90, H⟩ := H
     replace H : ((spec_l4Cur_pick.f s0_0 t686 t687 (wrap64 (x1_5 + 1))).bind fun bt688 => ((spec_l4Cur_pick.f s0_0 bt688.2.1 bt688.2.2 24).bind fun bt692 => (if bt692.1 = 0 then (some (t682, t685, wrap64 (x1_5 + 1), bt692.2.1, bt692.2.2)) else (if bt692.1 = 1 then ((some (([(-1), 1000000000, 1000000001] : List Int) : List Int)).bind fun y695 => ((spec_l4Cur_pick.f s0_0 bt692.2.1 bt692.2.2 3).bind fun bt698 => (if 0 ≤ bt698.1 then (if bt698.1 < (y695.length : Int) then (some (rd y695 bt698.1, t685, bt688.1, bt698.2.1, bt698.2.2)) else (none)) else (none)))) else (some (t682, t685, bt688.1, bt692.2.1, bt692.2.2)))))) = some (r1, r2, r3, r4, r5) := H
     have A9 := Aside0.mk A90
     clear A90
     replace H := Option.bind_eq_some_iff.mp H
     obtain ⟨⟨t688, t689, t690⟩, A100, H⟩ := H
     replace H : ((spec_l4Cur_pick.f s0_0 t689 t690 24).bind fun bt692 => (if bt692.1 = 0 then (some (t682, t685, wrap64 (x1_5 + 1), bt692.2.1, bt692.2.2)) else (if bt692.1 = 1 then ((some (([(-1), 1000000000, 1000000001] : List Int) : List Int)).bind fun y695 => ((spec_l4Cur_pick.f s0_0 bt692.2.1 bt692.2.2 3).bind fun bt698 => (if 0 ≤ bt698.1 then (if bt698.1 < (y695.length : Int) then (some (rd y695 bt698.1, t685, t688, bt698.2.1, bt698.2.2)) else (none)) else (none)))) else (some (t682, t685, t688, bt692.2.1, bt692.2.2))))) = some (r1, r2, r3, r4, r5) := H
     have A10 := Aside0.mk A100
     clear A100
     replace H := Option.bind_eq_some_iff.mp H
     obtain ⟨⟨t692, t693, t694⟩, A110, H⟩ := H
     replace H : (if t692 = 0 then (some (t682, t685, wrap64 (x1_5 + 1), t693, t694)) else (if t692 = 1 then ((some (([(-1), 1000000000, 1000000001] : List Int) : List Int)).bind fun y695 => ((spec_l4Cur_pick.f s0_0 t693 t694 3).bind fun bt698 => (if 0 ≤ bt698.1 then (if bt698.1 < (y695.length : Int) then (some (rd y695 bt698.1, t685, t688, bt698.2.1, bt698.2.2)) else (none)) else (none)))) else (some (t682, t685, t688, t693, t694)))) = some (r1, r2, r3, r4, r5) := H
     have A11 := Aside0.mk A110
     clear A110
     by_cases c12 : t692 = 0
     ·rw [if_pos c12] at H
      have c12b0 : (t692 == 0) = true := beq_iff_eq.mpr c12
      have c12b1 : (t692 != 0) = false := bne_eq_false_iff_eq.mpr c12
      clear c12
      simp only [Option.some.injEq, Prod.mk.injEq] at H
      obtain ⟨rfl, rfl, rfl, rfl, rfl⟩ := H
      go_wp2_with (first | ((with_reducible refine gate_callee (f := 72) rfl ?_); refine goesLA (some 13) rfl Try.func72 #[.pointer (some ⟨g, 0, none⟩), .int .i64 9] ?_; (with_reducible refine (spec_l4Cur_pick.calls g s0_0 s0_1 s0_2 9 t682 t683 t684 w0 _ ?side1 ?side2 A8.out).mono ?_); (case side1 => exact qi HI0); (case side2 => exact qz HB); rintro e w13 ⟨rfl, hi, hb, hk⟩; refine ⟨_, rfl, ?_⟩; replace BK681 := Aside0.mk (KeepBut.blk hk (g' := gb681) (o := .cells #[.int .i64 0, .int .i64 0, .int .i64 0] 48 (0, 0)) (qb BK681) NB681_0.out (by simp)); replace HK := Aside0.mk (KeepBut.trans (qk HK) hk (.inl rfl)); replace HB := Aside0.mk (hb); replace HI0 := Aside0.mk (hi); clear hb hk hi) | ((with_reducible refine gate_callee (f := 73) rfl ?_); refine goesLA (some 15) rfl Try.func73 #[.pointer (some ⟨g, 0, none⟩)] ?_; (with_reducible refine (spec_l4Cur_whole.calls g s0_0 t683 t684 t685 t686 t687 w0 _ ?side1 ?side2 A9.out).mono ?_); (case side1 => exact qi HI0); (case side2 => exact qz HB); rintro e w14 ⟨rfl, hi, hb, hk⟩; refine ⟨_, rfl, ?_⟩; replace BK681 := Aside0.mk (KeepBut.blk hk (g' := gb681) (o := .cells #[.int .i64 0, .int .i64 0, .int .i64 0] 48 (0, 0)) (qb BK681) NB681_0.out (by simp)); replace HK := Aside0.mk (KeepBut.trans (qk HK) hk (.inl rfl)); replace HB := Aside0.mk (hb); replace HI0 := Aside0.mk (hi); clear hb hk hi) | ((with_reducible refine gate_callee (f := 72) rfl ?_); refine goesLA (some 19) rfl Try.func72 #[.pointer (some ⟨g, 0, none⟩), .int .i64 (wrap64 (x1_5 + 1))] ?_; (with_reducible refine (spec_l4Cur_pick.calls g s0_0 t686 t687 (wrap64 (x1_5 + 1)) t688 t689 t690 w0 _ ?side1 ?side2 A10.out).mono ?_); (case side1 => exact qi HI0); (case side2 => exact qz HB); rintro e w15 ⟨rfl, hi, hb, hk⟩; refine ⟨_, rfl, ?_⟩; replace BK681 := Aside0.mk (KeepBut.blk hk (g' := gb681) (o := .cells #[.int .i64 0, .int .i64 0, .int .i64 0] 48 (0, 0)) (qb BK681) NB681_0.out (by simp)); replace HK := Aside0.mk (KeepBut.trans (qk HK) hk (.inl rfl)); replace HB := Aside0.mk (hb); replace HI0 := Aside0.mk (hi); clear hb hk hi) | ((with_reducible refine gate_dst (N := 5) rfl ?_); refine boxA #[.int .i64 0, .int .i64 0, .int .i64 0] 48 ?_; intro gb691 hg w16 hbox hb; replace HB := Aside0.mk (below_step (qz HB) hb); have BK691 := Aside0.mk (hbox); have GW691 := Aside0.mk ((by rw [hg]; exact (keep_size (w := w) (g := g) (row := none) (qk HK)) : w.heap.size ≤ gb691)); have GE691 := Aside0.mk ((Nat.le_trans HW0.out (by rw [hg]; exact (keep_size (w := w) (g := g) (row := none) (qk HK)) : w.heap.size ≤ gb691) : w0.heap.size ≤ gb691)); replace HK := Aside0.mk (KeepBut.trans (qk HK) (KeepBut.of_below hb g none) (.inl rfl)); have NB681_691 := nlt BK681 hg; have NB691_681 := ngt BK681 hg; replace BK681 := bkb BK681 hb; have NB0_691 := Aside0.mk ((by rw [hg]; exact Nat.ne_of_lt (IsS108.lt (show IsS108 w0 _ g s0_0 t689 t690 from qi HI0)) : g ≠ gb691)); have NB691_0 := Aside0.mk ((by rw [hg]; exact Nat.ne_of_gt (IsS108.lt (show IsS108 w0 _ g s0_0 t689 t690 from qi HI0)) : gb691 ≠ g)); replace HI0 := Aside0.mk (IsS108.below (qi HI0) hb); clear hb hbox hg; have hnb17 := NB691_681.out; have hnc17 := NB681_691.out; have hnb18 := NB691_0.out; have hnc18 := NB0_691.out; have hcz19_0 := b0 BK691; have hcz19_1 := b1 BK691; have hcz19_2 := b2 BK691; have hfz19_0 := blk_frozen BK691.out 0; have hfz19_1 := blk_frozen BK691.out 1; have hfz19_2 := blk_frozen BK691.out 2) | ((with_reducible refine gate_callee (f := 72) rfl ?_); refine goesLA (some 22) rfl Try.func72 #[.pointer (some ⟨g, 0, none⟩), .int .i64 24] ?_; (with_reducible refine (spec_l4Cur_pick.calls g s0_0 t689 t690 24 t692 t693 t694 w0 _ ?side1 ?side2 A11.out).mono ?_); (case side1 => exact qi HI0); (case side2 => exact qz HB); rintro e w20 ⟨rfl, hi, hb, hk⟩; refine ⟨_, rfl, ?_⟩; replace BK681 := Aside0.mk (KeepBut.blk hk (g' := gb681) (o := .cells #[.int .i64 0, .int .i64 0, .int .i64 0] 48 (0, 0)) (qB BK681) NB681_0.out (by simp)); replace BK691 := Aside0.mk (KeepBut.blk hk (g' := gb691) (o := .cells #[.int .i64 t682, .int .i64 t685, .int .i64 t688] 48 (0, 0)) (by (with_reducible repeat (first | refine blk_drewN ?_ _ | refine blk_drew ?_ | refine blk_alloc ?_ _)); refine blk_put (cs := #[.int .i64 t682, .int .i64 t685, .int .i64 0]) ?_ 2 _ rfl; (with_reducible repeat (first | refine blk_drewN ?_ _ | refine blk_drew ?_ | refine blk_alloc ?_ _)); refine blk_put (cs := #[.int .i64 t682, .int .i64 0, .int .i64 0]) ?_ 1 _ rfl; (with_reducible repeat (first | refine blk_drewN ?_ _ | refine blk_drew ?_ | refine blk_alloc ?_ _)); refine blk_put (cs := #[.int .i64 0, .int .i64 0, .int .i64 0]) ?_ 0 _ rfl; (with_reducible repeat (first | refine blk_drewN ?_ _ | refine blk_drew ?_ | refine blk_alloc ?_ _)); exact BK691.out) NB691_0.out (by simp)); replace HK := Aside0.mk (KeepBut.trans (qk HK) hk (.inl rfl)); replace HB := Aside0.mk (hb); replace HI0 := Aside0.mk (hi); clear hb hk hi; have hcz21_0 := b0 BK691; have hcz21_1 := b1 BK691; have hcz21_2 := b2 BK691; have hfz21_0 := blk_frozen BK691.out 0; have hfz21_1 := blk_frozen BK691.out 1; have hfz21_2 := blk_frozen BK691.out 2; have hnb22 := NB681_0.out; have hnc22 := NB0_681.out; have hcz23_0 := b0 BK681; have hcz23_1 := b1 BK681; have hcz23_2 := b2 BK681; have hfz23_0 := blk_frozen BK681.out 0; have hfz23_1 := blk_frozen BK681.out 1; have hfz23_2 := blk_frozen BK681.out 2))
      refine bodyPost_ret (results_cell_row rfl _ _ gb681 48 #[.int .i64 t682, .int .i64 t685, .int .i64 (wrap64 (x1_5 + 1))] (0, 0) _ rfl (by (with_reducible repeat (first | refine blk_drewN ?_ _ | refine blk_drew ?_ | refine blk_alloc ?_ _)); refine blk_put (cs := #[.int .i64 t682, .int .i64 t685, .int .i64 0]) ?_ 2 _ rfl; (with_reducible repeat (first | refine blk_drewN ?_ _ | refine blk_drew ?_ | refine blk_alloc ?_ _)); refine blk_put (cs := #[.int .i64 t682, .int .i64 0, .int .i64 0]) ?_ 1 _ rfl; (with_reducible repeat (first | refine blk_drewN ?_ _ | refine blk_drew ?_ | refine blk_alloc ?_ _)); refine blk_put (cs := #[.int .i64 0, .int .i64 0, .int .i64 0]) ?_ 0 _ rfl; exact qB BK681) Try.underlying48 rfl (by kernel_rfl)) rfl ?_
      exact ⟨by first | rfl | (simp [errW_none, errW_some] <;> rfl) | (simp [*, errW_none, errW_some] <;> rfl), (qi HI0), (qz HB), (qk HK)⟩
     rw [if_neg c12] at H
     have c12b0 : (t692 == 0) = false := beq_eq_false_iff_ne.mpr c12
     have c12b1 : (t692 != 0) = true := bne_iff_ne.mpr c12
     by_cases c24 : t692 = 1
     ·rw [if_pos c24] at H
      have c24b0 : (t692 == 1) = true := beq_iff_eq.mpr c24
      have c24b1 : (t692 != 1) = false := bne_eq_false_iff_eq.mpr c24
      clear c24
      obtain ⟨y695, hy695⟩ : ∃ y_ : List Int, y_ = (([(-1), 1000000000, 1000000001] : List Int)) := ⟨_, rfl⟩
      replace H : ((spec_l4Cur_pick.f s0_0 t693 t694 3).bind fun bt698 => (if 0 ≤ bt698.1 then (if bt698.1 < (y695.length : Int) then (some (rd y695 bt698.1, t685, t688, bt698.2.1, bt698.2.2)) else (none)) else (none))) = some (r1, r2, r3, r4, r5) := by first | (rw [hy695]; with_reducible exact H) | (have H2_ := (Option.bind_some _ _).symm.trans H; rw [hy695]; with_reducible exact H2_) | (have H2_ := (Option.bind_some _ _).symm.trans H; with_reducible exact H2_) | with_reducible exact H | (rw [hy695]; exact H) | exact H
      have Ny695 := Aside0.mk hy695
      clear hy695
      replace H := Option.bind_eq_some_iff.mp H
      obtain ⟨⟨t698, t699, t700⟩, A250, H⟩ := H
      replace H : (if 0 ≤ t698 then (if t698 < (y695.length : Int) then (some (rd y695 t698, t685, t688, t699, t700)) else (none)) else (none)) = some (r1, r2, r3, r4, r5) := H
      have A25 := Aside0.mk A250
      clear A250
      by_cases c26 : 0 ≤ t698
      ·rw [if_pos c26] at H
       have c26b0 : decide (0 ≤ t698) = true := decide_eq_true c26
       clear c26
       by_cases c27 : t698 < (y695.length : Int)
       ·rw [if_pos c27] at H
        have c27b0 : decide (t698 < (y695.length : Int)) = true := decide_eq_true c27
        clear c27
        simp only [Option.some.injEq, Prod.mk.injEq] at H
        obtain ⟨rfl, rfl, rfl, rfl, rfl⟩ := H
        go_wp2_with (first | ((with_reducible refine gate_callee (f := 72) rfl ?_); refine goesLA (some 13) rfl Try.func72 #[.pointer (some ⟨g, 0, none⟩), .int .i64 9] ?_; (with_reducible refine (spec_l4Cur_pick.calls g s0_0 s0_1 s0_2 9 t682 t683 t684 w0 _ ?side1 ?side2 A8.out).mono ?_); (case side1 => exact qi HI0); (case side2 => exact qz HB); rintro e w28 ⟨rfl, hi, hb, hk⟩; refine ⟨_, rfl, ?_⟩; replace BK681 := Aside0.mk (KeepBut.blk hk (g' := gb681) (o := .cells #[.int .i64 0, .int .i64 0, .int .i64 0] 48 (0, 0)) (qb BK681) NB681_0.out (by simp)); replace HK := Aside0.mk (KeepBut.trans (qk HK) hk (.inl rfl)); replace HB := Aside0.mk (hb); replace HI0 := Aside0.mk (hi); clear hb hk hi) | ((with_reducible refine gate_callee (f := 73) rfl ?_); refine goesLA (some 15) rfl Try.func73 #[.pointer (some ⟨g, 0, none⟩)] ?_; (with_reducible refine (spec_l4Cur_whole.calls g s0_0 t683 t684 t685 t686 t687 w0 _ ?side1 ?side2 A9.out).mono ?_); (case side1 => exact qi HI0); (case side2 => exact qz HB); rintro e w29 ⟨rfl, hi, hb, hk⟩; refine ⟨_, rfl, ?_⟩; replace BK681 := Aside0.mk (KeepBut.blk hk (g' := gb681) (o := .cells #[.int .i64 0, .int .i64 0, .int .i64 0] 48 (0, 0)) (qb BK681) NB681_0.out (by simp)); replace HK := Aside0.mk (KeepBut.trans (qk HK) hk (.inl rfl)); replace HB := Aside0.mk (hb); replace HI0 := Aside0.mk (hi); clear hb hk hi) | ((with_reducible refine gate_callee (f := 72) rfl ?_); refine goesLA (some 19) rfl Try.func72 #[.pointer (some ⟨g, 0, none⟩), .int .i64 (wrap64 (x1_5 + 1))] ?_; (with_reducible refine (spec_l4Cur_pick.calls g s0_0 t686 t687 (wrap64 (x1_5 + 1)) t688 t689 t690 w0 _ ?side1 ?side2 A10.out).mono ?_); (case side1 => exact qi HI0); (case side2 => exact qz HB); rintro e w30 ⟨rfl, hi, hb, hk⟩; refine ⟨_, rfl, ?_⟩; replace BK681 := Aside0.mk (KeepBut.blk hk (g' := gb681) (o := .cells #[.int .i64 0, .int .i64 0, .int .i64 0] 48 (0, 0)) (qb BK681) NB681_0.out (by simp)); replace HK := Aside0.mk (KeepBut.trans (qk HK) hk (.inl rfl)); replace HB := Aside0.mk (hb); replace HI0 := Aside0.mk (hi); clear hb hk hi) | ((with_reducible refine gate_dst (N := 5) rfl ?_); refine boxA #[.int .i64 0, .int .i64 0, .int .i64 0] 48 ?_; intro gb691 hg w31 hbox hb; replace HB := Aside0.mk (below_step (qz HB) hb); have BK691 := Aside0.mk (hbox); have GW691 := Aside0.mk ((by rw [hg]; exact (keep_size (w := w) (g := g) (row := none) (qk HK)) : w.heap.size ≤ gb691)); have GE691 := Aside0.mk ((Nat.le_trans HW0.out (by rw [hg]; exact (keep_size (w := w) (g := g) (row := none) (qk HK)) : w.heap.size ≤ gb691) : w0.heap.size ≤ gb691)); replace HK := Aside0.mk (KeepBut.trans (qk HK) (KeepBut.of_below hb g none) (.inl rfl)); have NB681_691 := nlt BK681 hg; have NB691_681 := ngt BK681 hg; replace BK681 := bkb BK681 hb; have NB0_691 := Aside0.mk ((by rw [hg]; exact Nat.ne_of_lt (IsS108.lt (show IsS108 w0 _ g s0_0 t689 t690 from qi HI0)) : g ≠ gb691)); have NB691_0 := Aside0.mk ((by rw [hg]; exact Nat.ne_of_gt (IsS108.lt (show IsS108 w0 _ g s0_0 t689 t690 from qi HI0)) : gb691 ≠ g)); replace HI0 := Aside0.mk (IsS108.below (qi HI0) hb); clear hb hbox hg; have hnb32 := NB691_681.out; have hnc32 := NB681_691.out; have hnb33 := NB691_0.out; have hnc33 := NB0_691.out; have hcz34_0 := b0 BK691; have hcz34_1 := b1 BK691; have hcz34_2 := b2 BK691; have hfz34_0 := blk_frozen BK691.out 0; have hfz34_1 := blk_frozen BK691.out 1; have hfz34_2 := blk_frozen BK691.out 2) | ((with_reducible refine gate_callee (f := 72) rfl ?_); refine goesLA (some 22) rfl Try.func72 #[.pointer (some ⟨g, 0, none⟩), .int .i64 24] ?_; (with_reducible refine (spec_l4Cur_pick.calls g s0_0 t689 t690 24 t692 t693 t694 w0 _ ?side1 ?side2 A11.out).mono ?_); (case side1 => exact qi HI0); (case side2 => exact qz HB); rintro e w35 ⟨rfl, hi, hb, hk⟩; refine ⟨_, rfl, ?_⟩; replace BK681 := Aside0.mk (KeepBut.blk hk (g' := gb681) (o := .cells #[.int .i64 0, .int .i64 0, .int .i64 0] 48 (0, 0)) (qB BK681) NB681_0.out (by simp)); replace BK691 := Aside0.mk (KeepBut.blk hk (g' := gb691) (o := .cells #[.int .i64 t682, .int .i64 t685, .int .i64 t688] 48 (0, 0)) (by (with_reducible repeat (first | refine blk_drewN ?_ _ | refine blk_drew ?_ | refine blk_alloc ?_ _)); refine blk_put (cs := #[.int .i64 t682, .int .i64 t685, .int .i64 0]) ?_ 2 _ rfl; (with_reducible repeat (first | refine blk_drewN ?_ _ | refine blk_drew ?_ | refine blk_alloc ?_ _)); refine blk_put (cs := #[.int .i64 t682, .int .i64 0, .int .i64 0]) ?_ 1 _ rfl; (with_reducible repeat (first | refine blk_drewN ?_ _ | refine blk_drew ?_ | refine blk_alloc ?_ _)); refine blk_put (cs := #[.int .i64 0, .int .i64 0, .int .i64 0]) ?_ 0 _ rfl; (with_reducible repeat (first | refine blk_drewN ?_ _ | refine blk_drew ?_ | refine blk_alloc ?_ _)); exact BK691.out) NB691_0.out (by simp)); replace HK := Aside0.mk (KeepBut.trans (qk HK) hk (.inl rfl)); replace HB := Aside0.mk (hb); replace HI0 := Aside0.mk (hi); clear hb hk hi) | ((with_reducible refine gate_dst (N := 30) rfl ?_); refine Kd.R_lit (Kd.int .i64) _ 3 ?hg (N := 30) ?hd (xs := ([(-1), 1000000000, 1000000001] : List Int)) (inner := [.int .i64 (-1), .int .i64 1000000000, .int .i64 1000000001]) (ok := fun _ => True) (okp := fun _ => True) ?hr ?hp (fun _ hk => hk) trivial (Below.refl _ _) (Nat.le_refl _) (by simp) ?_; (case hd => rfl); (case hg => rfl); (case hr => first | (go_simp; done) | (go_simp; rfl)); (case hp => exact (Reps.one (show Kd.M (Kd.int .i64) _ _ _ (-1) [.int .i64 (-1)] from rfl) (Reps.one (show Kd.M (Kd.int .i64) _ _ _ 1000000000 [.int .i64 1000000000] from rfl) (Reps.one (show Kd.M (Kd.int .i64) _ _ _ 1000000001 [.int .i64 1000000001] from rfl) (Reps.none _ _))))); intro v696 w36 ho37 hb hg_ hnew_; clear hg_ hnew_; (first | rw [← Ny695.out] at ho37 | (simp only [Int.reduceToNat] at ho37; rw [← Ny695.out] at ho37)); have HO697 := Aside0.mk (Kd.R_lower ho37 (keep_size (w := w) (g := g) (row := none) (qk HK))); replace BK681 := bkb BK681 hb; replace HI0 := Aside0.mk (IsS108.below (qi HI0) hb); replace BK691 := bkb BK691 hb; replace HK := Aside0.mk (KeepBut.trans (qk HK) (KeepBut.of_below hb g none) (.inl rfl)); replace HB := Aside0.mk (below_step (qz HB) hb); clear hb ho37) | ((with_reducible refine gate_callee (f := 72) rfl ?_); refine goesLA (some 32) rfl Try.func72 #[.pointer (some ⟨g, 0, none⟩), .int .i64 3] ?_; (with_reducible refine (spec_l4Cur_pick.calls g s0_0 t693 t694 3 t698 t699 t700 w0 _ ?side1 ?side2 A25.out).mono ?_); (case side1 => exact qi HI0); (case side2 => exact qz HB); rintro e w38 ⟨rfl, hi, hb, hk⟩; refine ⟨_, rfl, ?_⟩; replace BK681 := Aside0.mk (KeepBut.blk hk (g' := gb681) (o := .cells #[.int .i64 0, .int .i64 0, .int .i64 0] 48 (0, 0)) (qb BK681) NB681_0.out (by simp)); replace BK691 := Aside0.mk (KeepBut.blk hk (g' := gb691) (o := .cells #[.int .i64 t682, .int .i64 t685, .int .i64 t688] 48 (0, 0)) (qb BK691) NB691_0.out (by simp)); replace HO697 := Aside0.mk (Kd.R_mono (Kd.R_keep (IsS108.apart (show IsS108 w0 _ g s0_0 t693 t694 from qi HI0) (qr HO697) (by decide)) hk (fun _ h => h.2)) (fun _ h => h.1)); replace HK := Aside0.mk (KeepBut.trans (qk HK) hk (.inl rfl)); replace HB := Aside0.mk (hb); replace HI0 := Aside0.mk (hi); clear hb hk hi; obtain ⟨Ao39, co39, eo39⟩ := Kd.R_slice HO697.out; subst eo39; have p701 : 0 ≤ (t698 : Int) := of_decide_eq_true (by first | (with_reducible assumption) | assumption); have q701 : t698 < (y695.length : Int) := of_decide_eq_true (by first | (with_reducible assumption) | assumption); obtain ⟨ad701, e701, hx701_0⟩ := Kd.at_int (Kd.R_reads' HO697.out).2.2 t698 p701 q701; cases e701; replace p701 := eq_true p701; replace q701 := eq_true q701; have hcz40_0 := b0 BK691; have hcz40_1 := b1 BK691; have hcz40_2 := b2 BK691; have hfz40_0 := blk_frozen BK691.out 0; have hfz40_1 := blk_frozen BK691.out 1; have hfz40_2 := blk_frozen BK691.out 2; have hnb41 := NB681_0.out; have hnc41 := NB0_681.out; have hcz42_0 := b0 BK681; have hcz42_1 := b1 BK681; have hcz42_2 := b2 BK681; have hfz42_0 := blk_frozen BK681.out 0; have hfz42_1 := blk_frozen BK681.out 1; have hfz42_2 := blk_frozen BK681.out 2))
        refine bodyPost_ret (results_cell_row rfl _ _ gb681 48 #[.int .i64 (rd y695 t698), .int .i64 t685, .int .i64 t688] (0, 0) _ rfl (by (with_reducible repeat (first | refine blk_drewN ?_ _ | refine blk_drew ?_ | refine blk_alloc ?_ _)); refine blk_put (cs := #[.int .i64 (rd y695 t698), .int .i64 t685, .int .i64 0]) ?_ 2 _ rfl; (with_reducible repeat (first | refine blk_drewN ?_ _ | refine blk_drew ?_ | refine blk_alloc ?_ _)); refine blk_put (cs := #[.int .i64 (rd y695 t698), .int .i64 0, .int .i64 0]) ?_ 1 _ rfl; (with_reducible repeat (first | refine blk_drewN ?_ _ | refine blk_drew ?_ | refine blk_alloc ?_ _)); refine blk_put (cs := #[.int .i64 0, .int .i64 0, .int .i64 0]) ?_ 0 _ rfl; exact qB BK681) Try.underlying48 rfl (by kernel_rfl)) rfl ?_
        exact ⟨by first | rfl | (simp [errW_none, errW_some] <;> rfl) | (simp [*, errW_none, errW_some] <;> rfl), (qi HI0), (qz HB), (qk HK)⟩
       rw [if_neg c27] at H
       exact absurd H (by simp)
      rw [if_neg c26] at H
      exact absurd H (by simp)
     rw [if_neg c24] at H
     have c24b0 : (t692 == 1) = false := beq_eq_false_iff_ne.mpr c24
     have c24b1 : (t692 != 1) = true := bne_iff_ne.mpr c24
     simp only [Option.some.injEq, Prod.mk.injEq] at H
     obtain ⟨rfl, rfl, rfl, rfl, rfl⟩ := H
     go_wp2_with (first | ((with_reducible refine gate_callee (f := 72) rfl ?_); refine goesLA (some 13) rfl Try.func72 #[.pointer (some ⟨g, 0, none⟩), .int .i64 9] ?_; (with_reducible refine (spec_l4Cur_pick.calls g s0_0 s0_1 s0_2 9 t682 t683 t684 w0 _ ?side1 ?side2 A8.out).mono ?_); (case side1 => exact qi HI0); (case side2 => exact qz HB); rintro e w43 ⟨rfl, hi, hb, hk⟩; refine ⟨_, rfl, ?_⟩; replace BK681 := Aside0.mk (KeepBut.blk hk (g' := gb681) (o := .cells #[.int .i64 0, .int .i64 0, .int .i64 0] 48 (0, 0)) (qb BK681) NB681_0.out (by simp)); replace HK := Aside0.mk (KeepBut.trans (qk HK) hk (.inl rfl)); replace HB := Aside0.mk (hb); replace HI0 := Aside0.mk (hi); clear hb hk hi) | ((with_reducible refine gate_callee (f := 73) rfl ?_); refine goesLA (some 15) rfl Try.func73 #[.pointer (some ⟨g, 0, none⟩)] ?_; (with_reducible refine (spec_l4Cur_whole.calls g s0_0 t683 t684 t685 t686 t687 w0 _ ?side1 ?side2 A9.out).mono ?_); (case side1 => exact qi HI0); (case side2 => exact qz HB); rintro e w44 ⟨rfl, hi, hb, hk⟩; refine ⟨_, rfl, ?_⟩; replace BK681 := Aside0.mk (KeepBut.blk hk (g' := gb681) (o := .cells #[.int .i64 0, .int .i64 0, .int .i64 0] 48 (0, 0)) (qb BK681) NB681_0.out (by simp)); replace HK := Aside0.mk (KeepBut.trans (qk HK) hk (.inl rfl)); replace HB := Aside0.mk (hb); replace HI0 := Aside0.mk (hi); clear hb hk hi) | ((with_reducible refine gate_callee (f := 72) rfl ?_); refine goesLA (some 19) rfl Try.func72 #[.pointer (some ⟨g, 0, none⟩), .int .i64 (wrap64 (x1_5 + 1))] ?_; (with_reducible refine (spec_l4Cur_pick.calls g s0_0 t686 t687 (wrap64 (x1_5 + 1)) t688 t689 t690 w0 _ ?side1 ?side2 A10.out).mono ?_); (case side1 => exact qi HI0); (case side2 => exact qz HB); rintro e w45 ⟨rfl, hi, hb, hk⟩; refine ⟨_, rfl, ?_⟩; replace BK681 := Aside0.mk (KeepBut.blk hk (g' := gb681) (o := .cells #[.int .i64 0, .int .i64 0, .int .i64 0] 48 (0, 0)) (qb BK681) NB681_0.out (by simp)); replace HK := Aside0.mk (KeepBut.trans (qk HK) hk (.inl rfl)); replace HB := Aside0.mk (hb); replace HI0 := Aside0.mk (hi); clear hb hk hi) | ((with_reducible refine gate_dst (N := 5) rfl ?_); refine boxA #[.int .i64 0, .int .i64 0, .int .i64 0] 48 ?_; intro gb691 hg w46 hbox hb; replace HB := Aside0.mk (below_step (qz HB) hb); have BK691 := Aside0.mk (hbox); have GW691 := Aside0.mk ((by rw [hg]; exact (keep_size (w := w) (g := g) (row := none) (qk HK)) : w.heap.size ≤ gb691)); have GE691 := Aside0.mk ((Nat.le_trans HW0.out (by rw [hg]; exact (keep_size (w := w) (g := g) (row := none) (qk HK)) : w.heap.size ≤ gb691) : w0.heap.size ≤ gb691)); replace HK := Aside0.mk (KeepBut.trans (qk HK) (KeepBut.of_below hb g none) (.inl rfl)); have NB681_691 := nlt BK681 hg; have NB691_681 := ngt BK681 hg; replace BK681 := bkb BK681 hb; have NB0_691 := Aside0.mk ((by rw [hg]; exact Nat.ne_of_lt (IsS108.lt (show IsS108 w0 _ g s0_0 t689 t690 from qi HI0)) : g ≠ gb691)); have NB691_0 := Aside0.mk ((by rw [hg]; exact Nat.ne_of_gt (IsS108.lt (show IsS108 w0 _ g s0_0 t689 t690 from qi HI0)) : gb691 ≠ g)); replace HI0 := Aside0.mk (IsS108.below (qi HI0) hb); clear hb hbox hg; have hnb47 := NB691_681.out; have hnc47 := NB681_691.out; have hnb48 := NB691_0.out; have hnc48 := NB0_691.out; have hcz49_0 := b0 BK691; have hcz49_1 := b1 BK691; have hcz49_2 := b2 BK691; have hfz49_0 := blk_frozen BK691.out 0; have hfz49_1 := blk_frozen BK691.out 1; have hfz49_2 := blk_frozen BK691.out 2) | ((with_reducible refine gate_callee (f := 72) rfl ?_); refine goesLA (some 22) rfl Try.func72 #[.pointer (some ⟨g, 0, none⟩), .int .i64 24] ?_; (with_reducible refine (spec_l4Cur_pick.calls g s0_0 t689 t690 24 t692 t693 t694 w0 _ ?side1 ?side2 A11.out).mono ?_); (case side1 => exact qi HI0); (case side2 => exact qz HB); rintro e w50 ⟨rfl, hi, hb, hk⟩; refine ⟨_, rfl, ?_⟩; replace BK681 := Aside0.mk (KeepBut.blk hk (g' := gb681) (o := .cells #[.int .i64 0, .int .i64 0, .int .i64 0] 48 (0, 0)) (qB BK681) NB681_0.out (by simp)); replace BK691 := Aside0.mk (KeepBut.blk hk (g' := gb691) (o := .cells #[.int .i64 t682, .int .i64 t685, .int .i64 t688] 48 (0, 0)) (by (with_reducible repeat (first | refine blk_drewN ?_ _ | refine blk_drew ?_ | refine blk_alloc ?_ _)); refine blk_put (cs := #[.int .i64 t682, .int .i64 t685, .int .i64 0]) ?_ 2 _ rfl; (with_reducible repeat (first | refine blk_drewN ?_ _ | refine blk_drew ?_ | refine blk_alloc ?_ _)); refine blk_put (cs := #[.int .i64 t682, .int .i64 0, .int .i64 0]) ?_ 1 _ rfl; (with_reducible repeat (first | refine blk_drewN ?_ _ | refine blk_drew ?_ | refine blk_alloc ?_ _)); refine blk_put (cs := #[.int .i64 0, .int .i64 0, .int .i64 0]) ?_ 0 _ rfl; (with_reducible repeat (first | refine blk_drewN ?_ _ | refine blk_drew ?_ | refine blk_alloc ?_ _)); exact BK691.out) NB691_0.out (by simp)); replace HK := Aside0.mk (KeepBut.trans (qk HK) hk (.inl rfl)); replace HB := Aside0.mk (hb); replace HI0 := Aside0.mk (hi); clear hb hk hi; have hcz51_0 := b0 BK691; have hcz51_1 := b1 BK691; have hcz51_2 := b2 BK691; have hfz51_0 := blk_frozen BK691.out 0; have hfz51_1 := blk_frozen BK691.out 1; have hfz51_2 := blk_frozen BK691.out 2; have hnb52 := NB681_0.out; have hnc52 := NB0_681.out; have hcz53_0 := b0 BK681; have hcz53_1 := b1 BK681; have hcz53_2 := b2 BK681; have hfz53_0 := blk_frozen BK681.out 0; have hfz53_1 := blk_frozen BK681.out 1; have hfz53_2 := blk_frozen BK681.out 2))
     refine bodyPost_ret (results_cell_row rfl _ _ gb681 48 #[.int .i64 t682, .int .i64 t685, .int .i64 t688] (0, 0) _ rfl (by (with_reducible repeat (first | refine blk_drewN ?_ _ | refine blk_drew ?_ | refine blk_alloc ?_ _)); refine blk_put (cs := #[.int .i64 t682, .int .i64 t685, .int .i64 0]) ?_ 2 _ rfl; (with_reducible repeat (first | refine blk_drewN ?_ _ | refine blk_drew ?_ | refine blk_alloc ?_ _)); refine blk_put (cs := #[.int .i64 t682, .int .i64 0, .int .i64 0]) ?_ 1 _ rfl; (with_reducible repeat (first | refine blk_drewN ?_ _ | refine blk_drew ?_ | refine blk_alloc ?_ _)); refine blk_put (cs := #[.int .i64 0, .int .i64 0, .int .i64 0]) ?_ 0 _ rfl; (with_reducible repeat (first | refine blk_drewN ?_ _ | refine blk_drew ?_ | refine blk_alloc ?_ _)); exact BK681.out) Try.underlying48 rfl (by kernel_rfl)) rfl ?_
     exact ⟨by first | rfl | (simp [errW_none, errW_some] <;> rfl) | (simp [*, errW_none, errW_some] <;> rfl), (qi HI0), (qz HB), (qk HK)⟩
end Go.Proofs.Ytndffnacbfdnoaa.PAll
