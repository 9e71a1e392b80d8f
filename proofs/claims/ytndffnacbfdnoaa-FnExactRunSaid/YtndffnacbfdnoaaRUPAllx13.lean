-- Lines of PAllx13 that this claim uses.
import Derived.Test.YtndffnacbfdnoaaRUSqd
import Derived.Test.YtndffnacbfdnoaaRUSq
import Derived.Test.YtndffnacbfdnoaaRUPAllx0
import Derived.Test.YtndffnacbfdnoaaRUPAllx7
import Derived.Test.YtndffnacbfdnoaaRUPAllx9
import Derived.Test.YtndffnacbfdnoaaRUPAllx10
import Derived.Test.YtndffnacbfdnoaaRUPAllx12
namespace Go.Proofs.Ytndffnacbfdnoaa.PAll
open Go.RowKit Go.Proofs.YtndffnacbfdnoaaW.PrintWords Go.Proofs.YtndffnacbfdnoaaW.PrintLast Go.Proofs.YtndffnacbfdnoaaW.PrintMore
attribute [local go_sem] max2_int min2_int max_two min_two max_three min_three max_four min_four
set_option linter.unusedVariables false
set_option linter.unusedSimpArgs false
def impl_trainTick.l0 : Nat → Int → List (S60) → Int → Int → Int → Int → Int → Int → Int → Int → Bool → Int → Int → Int → List (S60) → Int → Option (Bool × Int × Int × Int × (List (S60)) × Int)
 | 0, _, _, _, _, _, _, _, _, _, _, _, _, _, _, _, _ => none
 | k + 1, x1, x13, x14, x15, x340000, x340001, x340002, x341000, x341001, x341002, x343000, x343001, x343002, x343003, x343004, x343005 => if x15 < x14 then (if 0 ≤ x15 then (if x15 < (x13.length : Int) then (if ((rd_T60 x13 x15).f0) = 1 then (if (wrap64 (x1 - ((rd_T60 x13 x15).f3))) ≤ x340002 then (if ((rd_T60 x13 x15).f3) > x341002 then (if ((rd_T60 x13 x15).f1) ≥ x341000 then (if x343004.length < 4398046511104 then (impl_trainTick.l0 k x1 x13 x14 (wrap64 (x15 + 1)) x340000 x340001 x340002 ((rd_T60 x13 x15).f1) ((rd_T60 x13 x15).f2) ((rd_T60 x13 x15).f3) x343000 x343001 x343002 x343003 (x343004 ++ [(⟨2, (rd_T60 x13 x15).f1, 0, (rd_T60 x13 x15).f3⟩ : S60)]) (wrap64 (x343005 + 1))) else (none)) else (impl_trainTick.l0 k x1 x13 x14 (wrap64 (x15 + 1)) x340000 x340001 x340002 x341000 x341001 x341002 x343000 x343001 x343002 x343003 x343004 x343005)) else (impl_trainTick.l0 k x1 x13 x14 (wrap64 (x15 + 1)) x340000 x340001 x340002 x341000 x341001 x341002 x343000 x343001 x343002 x343003 x343004 x343005)) else (impl_trainTick.l0 k x1 x13 x14 (wrap64 (x15 + 1)) x340000 x340001 x340002 x341000 x341001 x341002 x343000 x343001 x343002 x343003 x343004 x343005)) else (impl_trainTick.l0 k x1 x13 x14 (wrap64 (x15 + 1)) x340000 x340001 x340002 x341000 x341001 x341002 x343000 x343001 x343002 x343003 x343004 x343005)) else (none)) else (none)) else (some (x343000, x341000, x341001, x341002, x343004, x343005))
def impl_trainTick.f (k : Nat) (a0_0 : Int) (a0_1 : Int) (a0_2 : Int) (a1 : Int) (a2_0 : Int) (a2_1 : Int) (a2_2 : Int) (l3 : List (S60)) : Option (Bool × Int × Int × Int × (List (S60)) × Int) := impl_trainTick.l0 k a1 l3 (l3.length : Int) 0 a0_0 a0_1 a0_2 a2_0 a2_1 a2_2 true 0 0 0 ([] : List (S60)) 0
set_option maxHeartbeats 8000000 in
set_option maxRecDepth 100000 in
theorem impl_trainTick.calls (k : Nat) (a0_0 : Int) (a0_1 : Int) (a0_2 : Int) (a1 : Int) (a2_0 : Int) (a2_1 : Int) (a2_2 : Int) (A3 : Option Addr) (c3 : Nat) (l3 : List (S60)) (r1 : Bool) (r2 : Int) (r3 : Int) (r4 : Int) (r5 : List (S60)) (r6 : Int) (w : World) (hr3 : Kd.C k60 w A3 l3.length l3) (hc3 : l3.length ≤ c3) (h : impl_trainTick.f k a0_0 a0_1 a0_2 a1 a2_0 a2_1 a2_2 l3 = some (r1, r2, r3, r4, r5, r6)) :
  Calls Try.prog 67 #[.agg #[.int .i64 a0_0, .int .i64 a0_1, .int .i64 a0_2], .int .i64 a1, .agg #[.int .i64 a2_0, .int .i64 a2_1, .int .i64 a2_2], .slice A3 l3.length c3] w fun e w' => ∃ v4_ : Value, e = .returned (.agg #[.bool r1, .int .i64 r2, .int .i64 r3, .int .i64 r4, v4_, .int .i64 r6]) ∧ Kd.R k60 60 w' w.heap.size (fun _ => True) v4_ r5 ∧ Below w.heap.size w w' := by
 have hu34 := Try.underlying34
 have hu48 := Try.underlying48
 have hu50 := Try.underlying50
 have hu60 := Try.underlying60
 have HR3 := Aside0.mk hr3
 have HC3 := Aside0.mk hc3
 clear hr3 hc3
 have HB := Aside0.mk (Below.refl w.heap.size w)
 have H : (impl_trainTick.l0 k a1 l3 (l3.length : Int) 0 a0_0 a0_1 a0_2 a2_0 a2_1 a2_2 true 0 0 0 ([] : List (S60)) 0) = some (r1, r2, r3, r4, r5, r6) := h
 clear h
 have H' := Aside0.mk H
 clear H
 go_enter Try.func67, Try.ntmps67
 go_wp2_with (first | ((with_reducible refine gate_dst (N := 4) rfl ?_); refine boxA #[.int .i64 a0_0, .int .i64 a0_1, .int .i64 a0_2] 34 ?_; intro gb339 hg w5 hbox hb; have BK339 := Aside0.mk (hbox); have GW339 := nge HB hg; have GE339 := nge HB hg; replace HB := bst HB hb; clear hb hbox hg) | ((with_reducible refine gate_dst (N := 6) rfl ?_); refine boxA #[.int .i64 a2_0, .int .i64 a2_1, .int .i64 a2_2] 48 ?_; intro gb340 hg w6 hbox hb; have BK340 := Aside0.mk (hbox); have GW340 := nge HB hg; have GE340 := nge HB hg; replace HB := bst HB hb; have NB339_340 := nlt BK339 hg; have NB340_339 := ngt BK339 hg; replace BK339 := bkb BK339 hb; clear hb hbox hg) | ((with_reducible refine gate_dst (N := 8) rfl ?_); refine boxA #[.bool false, .int .i64 0, .int .i64 0, .int .i64 0, .slice none 0 0, .int .i64 0] 50 ?_; intro gb341 hg w7 hbox hb; have BK341 := Aside0.mk (hbox); have GW341 := nge HB hg; have GE341 := nge HB hg; replace HB := bst HB hb; have NB339_341 := nlt BK339 hg; have NB341_339 := ngt BK339 hg; replace BK339 := bkb BK339 hb; have NB340_341 := nlt BK340 hg; have NB341_340 := ngt BK340 hg; replace BK340 := bkb BK340 hb; clear hb hbox hg) | ((with_reducible refine gate_dst (N := 9) rfl ?_); refine boxA #[.bool false, .int .i64 0, .int .i64 0, .int .i64 0, .slice none 0 0, .int .i64 0] 50 ?_; intro gb342 hg w8 hbox hb; have BK342 := Aside0.mk (hbox); have GW342 := nge HB hg; have GE342 := nge HB hg; replace HB := bst HB hb; have NB339_342 := nlt BK339 hg; have NB342_339 := ngt BK339 hg; replace BK339 := bkb BK339 hb; have NB340_342 := nlt BK340 hg; have NB342_340 := ngt BK340 hg; replace BK340 := bkb BK340 hb; have NB341_342 := nlt BK341 hg; have NB342_341 := ngt BK341 hg; replace BK341 := bkb BK341 hb; clear hb hbox hg; have hnb9 := NB342_339.out; have hnc9 := NB339_342.out; have hnb10 := NB342_340.out; have hnc10 := NB340_342.out; have hnb11 := NB342_341.out; have hnc11 := NB341_342.out; have hcz12_0 := b0 BK342; have hcz12_1 := b1 BK342; have hcz12_2 := b2 BK342; have hcz12_3 := b3 BK342; have hcz12_4 := b4 BK342; have hcz12_5 := b5 BK342; have hfz12_0 := blk_frozen BK342.out 0; have hfz12_1 := blk_frozen BK342.out 1; have hfz12_2 := blk_frozen BK342.out 2; have hfz12_3 := blk_frozen BK342.out 3; have hfz12_4 := blk_frozen BK342.out 4; have hfz12_5 := blk_frozen BK342.out 5))
 go_loopg [15] k (fun kq v15 w' => ∃ (x15_1 : Int) (x341000_1 : Int) (x341001_1 : Int) (x341002_1 : Int) (x343004_1 : List (S60)) (x343005_1 : Int) (u343004 : Value), v15 = .int .i64 x15_1 ∧ Aside0 (impl_trainTick.l0 kq a1 l3 (l3.length : Int) x15_1 a0_0 a0_1 a0_2 x341000_1 x341001_1 x341002_1 true 0 0 0 x343004_1 x343005_1 = some (r1, r2, r3, r4, r5, r6)) ∧ Aside0 (kq ≤ k) ∧ Aside0 (Kd.R k60 60 w' w.heap.size (fun _ => True) u343004 x343004_1) ∧ Aside0 (w'.heap[gb339]? = some (.cells #[.int .i64 a0_0, .int .i64 a0_1, .int .i64 a0_2] 34 (0, 0))) ∧ Aside0 (w'.heap[gb340]? = some (.cells #[.int .i64 x341000_1, .int .i64 x341001_1, .int .i64 x341002_1] 48 (0, 0))) ∧ Aside0 (w'.heap[gb341]? = some (.cells #[.bool false, .int .i64 0, .int .i64 0, .int .i64 0, (.slice none 0 0), .int .i64 0] 50 (0, 0))) ∧ Aside0 (w'.heap[gb342]? = some (.cells #[.bool true, .int .i64 0, .int .i64 0, .int .i64 0, u343004, .int .i64 x343005_1] 50 (0, 0))) ∧ Aside0 (Below w.heap.size w w'))
 case atStart => exact ⟨(0), (a2_0), (a2_1), (a2_2), (([] : List (S60))), (0), (.slice none 0 0), (by first | rfl | (simp; done) | (simp [*]; done)), H', ⟨Nat.le_refl _⟩, ⟨by first | exact Kd.R_nil _ _ _ _ _ | exact Kd.N_nil _ _ _ _ _ | exact Kd.V_nil _ _ _ _ _ | exact Kd.Q_nil _ _ _ _ _ | exact Kd.S_nil _ _ _ _ _⟩, ⟨qB BK339⟩, ⟨qB BK340⟩, ⟨qB BK341⟩, ⟨by refine qz ?_; refine blk_put (cs := #[.bool true, .int .i64 0, .int .i64 0, .int .i64 0, .slice none 0 0, .int .i64 0]) ?_ 5 _ rfl; refine qz ?_; refine blk_put (cs := #[.bool true, .int .i64 0, .int .i64 0, .int .i64 0, .slice none 0 0, .int .i64 0]) ?_ 4 _ rfl; refine qz ?_; refine blk_put (cs := #[.bool true, .int .i64 0, .int .i64 0, .int .i64 0, .slice none 0 0, .int .i64 0]) ?_ 3 _ rfl; refine qz ?_; refine blk_put (cs := #[.bool true, .int .i64 0, .int .i64 0, .int .i64 0, .slice none 0 0, .int .i64 0]) ?_ 2 _ rfl; refine qz ?_; refine blk_put (cs := #[.bool true, .int .i64 0, .int .i64 0, .int .i64 0, .slice none 0 0, .int .i64 0]) ?_ 1 _ rfl; refine qz ?_; refine blk_put (cs := #[.bool false, .int .i64 0, .int .i64 0, .int .i64 0, .slice none 0 0, .int .i64 0]) ?_ 0 _ rfl; refine qz ?_; exact BK342.out⟩, ⟨(qs HB)⟩⟩
 case round =>
  clear H'
  try clear c1; try clear p2; try clear c3; try clear c6; try clear c9; try clear c10; try clear c11; try clear hcz12_0; try clear hcz12_1; try clear hcz12_2; try clear hcz12_3; try clear hcz12_4; try clear hcz12_5; try clear hfz12_0; try clear hfz12_1; try clear hfz12_2; try clear hfz12_3; try clear hfz12_4; try clear hfz12_5
  obtain ⟨x15_1, x341000_1, x341001_1, x341002_1, x343004_1, x343005_1, u343004, rfl, HA, HK1, HO_343004, BK339, BK340, BK341, BK342, HB⟩ := hrel
  cases gk with
  | zero => exact absurd HA.out (by simp [impl_trainTick.l0])
  | succ k1 =>
   have H := HA.out
   clear HA
   simp only [impl_trainTick.l0] at H
   by_cases c13 : x15_1 < (l3.length : Int)
   ·rw [if_pos c13] at H
    have c13b0 : decide (x15_1 < (l3.length : Int)) = true := decide_eq_true c13
    clear c13
    by_cases c14 : 0 ≤ x15_1
    ·rw [if_pos c14] at H
     have c14b0 : decide (0 ≤ x15_1) = true := decide_eq_true c14
     clear c14
     by_cases c15 : x15_1 < (l3.length : Int)
     ·rw [if_pos c15] at H
      have c15b0 : decide (x15_1 < (l3.length : Int)) = true := decide_eq_true c15
      clear c15
      by_cases c16 : ((rd_T60 l3 x15_1).f0) = 1
      ·rw [if_pos c16] at H
       have c16b0 : (((rd_T60 l3 x15_1).f0) == 1) = true := beq_iff_eq.mpr c16
       have c16b1 : (((rd_T60 l3 x15_1).f0) != 1) = false := bne_eq_false_iff_eq.mpr c16
       clear c16
       by_cases c17 : (wrap64 (a1 - ((rd_T60 l3 x15_1).f3))) ≤ a0_2
       ·rw [if_pos c17] at H
        have c17b0 : decide ((wrap64 (a1 - ((rd_T60 l3 x15_1).f3))) ≤ a0_2) = true := decide_eq_true c17
        clear c17
        by_cases c18 : ((rd_T60 l3 x15_1).f3) > x341002_1
        ·rw [if_pos c18] at H
         have c18b0 : decide (x341002_1 < ((rd_T60 l3 x15_1).f3)) = true := decide_eq_true c18
         clear c18
         by_cases c19 : ((rd_T60 l3 x15_1).f1) ≥ x341000_1
         ·rw [if_pos c19] at H
          have c19b0 : decide (x341000_1 ≤ ((rd_T60 l3 x15_1).f1)) = true := decide_eq_true c19
          clear c19
          by_cases c20 : x343004_1.length < 4398046511104
          ·rw [if_pos c20] at H
           have LMc20 := Aside0.mk c20
           clear c20
           obtain ⟨y345, hy345⟩ : ∃ y_ : List (S60), y_ = (x343004_1 ++ [(⟨2, (rd_T60 l3 x15_1).f1, 0, (rd_T60 l3 x15_1).f3⟩ : S60)]) := ⟨_, rfl⟩
           replace H : (impl_trainTick.l0 k1 a1 l3 (l3.length : Int) (wrap64 (x15_1 + 1)) a0_0 a0_1 a0_2 ((rd_T60 l3 x15_1).f1) ((rd_T60 l3 x15_1).f2) ((rd_T60 l3 x15_1).f3) true 0 0 0 y345 (wrap64 (x343005_1 + 1))) = some (r1, r2, r3, r4, r5, r6) := by first | (rw [hy345]; with_reducible exact H) | (have H2_ := (Option.bind_some _ _).symm.trans H; rw [hy345]; with_reducible exact H2_) | (have H2_ := (Option.bind_some _ _).symm.trans H; with_reducible exact H2_) | with_reducible exact H | (rw [hy345]; exact H) | exact H
           have Ny345 := Aside0.mk hy345
           clear hy345
           have H' := Aside0.mk H
           clear H
           have p343 : 0 ≤ (x15_1 : Int) := of_decide_eq_true (by assumption)
           have q343 : x15_1 < (l3.length : Int) := of_decide_eq_true (by assumption)
           obtain ⟨ad343, e343, hx343_0, hx343_1, hx343_2, hx343_3⟩ := at_T60 HR3.out x15_1 p343 q343
           cases e343
           replace hx343_0 := (HB.out.cell (World.block_lt_of_cell? w _ hx343_0)).trans hx343_0
           replace hx343_1 := (HB.out.cell (World.block_lt_of_cell? w _ hx343_1)).trans hx343_1
           replace hx343_2 := (HB.out.cell (World.block_lt_of_cell? w _ hx343_2)).trans hx343_2
           replace hx343_3 := (HB.out.cell (World.block_lt_of_cell? w _ hx343_3)).trans hx343_3
           replace p343 := eq_true p343
           replace q343 := eq_true q343
           go_wp2_with (first | ((with_reducible refine gate_dst (N := 11) rfl ?_); refine boxA #[.int .i64 0, .int .i64 0, .int .i64 0, .int .i64 0] 60 ?_; intro gb344 hg w21 hbox hb; replace HO_343004 := Aside0.mk (Kd.R_below (Kd.R_elderB (qr HO_343004) gb344 (Nat.le_of_eq hg.symm)) hb); have BK344 := Aside0.mk (hbox); have GW344 := nge HB hg; have GE344 := nge HB hg; replace HB := bst HB hb; have NB339_344 := nlt BK339 hg; have NB344_339 := ngt BK339 hg; replace BK339 := bkb BK339 hb; have NB340_344 := nlt BK340 hg; have NB344_340 := ngt BK340 hg; replace BK340 := bkb BK340 hb; have NB341_344 := nlt BK341 hg; have NB344_341 := ngt BK341 hg; replace BK341 := bkb BK341 hb; have NB342_344 := nlt BK342 hg; have NB344_342 := ngt BK342 hg; replace BK342 := bkb BK342 hb; clear hb hbox hg; have hnb22 := NB344_339.out; have hnc22 := NB339_344.out; have hnb23 := NB344_340.out; have hnc23 := NB340_344.out; have hnb24 := NB344_341.out; have hnc24 := NB341_344.out; have hnb25 := NB344_342.out; have hnc25 := NB342_344.out; have hcz26_0 := b0 BK344; have hcz26_1 := b1 BK344; have hcz26_2 := b2 BK344; have hcz26_3 := b3 BK344; have hfz26_0 := blk_frozen BK344.out 0; have hfz26_1 := blk_frozen BK344.out 1; have hfz26_2 := blk_frozen BK344.out 2; have hfz26_3 := blk_frozen BK344.out 3; have hnb27 := NB339_340.out; have hnc27 := NB340_339.out; have hnb28 := NB339_341.out; have hnc28 := NB341_339.out; have hnb29 := NB339_342.out; have hnc29 := NB342_339.out; have hcz30_0 := b0 BK339; have hcz30_1 := b1 BK339; have hcz30_2 := b2 BK339; have hfz30_0 := blk_frozen BK339.out 0; have hfz30_1 := blk_frozen BK339.out 1; have hfz30_2 := blk_frozen BK339.out 2; have hnb31 := NB340_341.out; have hnc31 := NB341_340.out; have hnb32 := NB340_342.out; have hnc32 := NB342_340.out; have hcz33_0 := b0 BK340; have hcz33_1 := b1 BK340; have hcz33_2 := b2 BK340; have hfz33_0 := blk_frozen BK340.out 0; have hfz33_1 := blk_frozen BK340.out 1; have hfz33_2 := blk_frozen BK340.out 2; have hnb34 := NB342_341.out; have hnc34 := NB341_342.out; have hcz35_0 := b0 BK342; have hcz35_1 := b1 BK342; have hcz35_2 := b2 BK342; have hcz35_3 := b3 BK342; have hcz35_4 := b4 BK342; have hcz35_5 := b5 BK342; have hfz35_0 := blk_frozen BK342.out 0; have hfz35_1 := blk_frozen BK342.out 1; have hfz35_2 := blk_frozen BK342.out 2; have hfz35_3 := blk_frozen BK342.out 3; have hfz35_4 := blk_frozen BK342.out 4; have hfz35_5 := blk_frozen BK342.out 5) | ((with_reducible refine gate_builtin (b := .append) (xs := #[.tmp 57, .tmp 63]) rfl ?_); at_builtin; refine Kd.R_append k60 (w0 := w) w.heap.size rfl (.tmp 57) (.tmp 63) 30 60 (.agg #[(.int .i64 0), (.int .i64 0), (.int .i64 0), (.int .i64 0)]) 32 rfl Try.underlying30 info60 rfl (by decide) (by omega) u343004 x343004_1 (⟨2, (rd_T60 l3 x15_1).f1, 0, (rd_T60 l3 x15_1).f3⟩ : S60) [.int .i64 2, .int .i64 ((rd_T60 l3 x15_1).f1), .int .i64 0, .int .i64 ((rd_T60 l3 x15_1).f3)] (fun k_ => k_ ≠ gb344) (fun _ => False) rfl (by first | (go_simp; done) | (go_simp; rfl)) ?aP (fun _ hk => hk.elim) ?aF ?aO ?aB ?aS ?aL ?_; (case aP => exact k60_mkM _ _ _ (⟨2, (rd_T60 l3 x15_1).f1, 0, (rd_T60 l3 x15_1).f3⟩ : S60)); (case aB => exact (qs HB)); (case aF => exact (fun k_ hk => Kd.freshB (g := gb344) (o := .cells #[.int .i64 ((rd_T60 l3 x15_1).f0), .int .i64 ((rd_T60 l3 x15_1).f1), .int .i64 ((rd_T60 l3 x15_1).f2), .int .i64 ((rd_T60 l3 x15_1).f3)] 60 (0, 0)) (by refine qz ?_; refine blk_far ?_ NB344_342.out _; refine qz ?_; refine blk_far ?_ NB344_340.out _; refine qz ?_; refine blk_far ?_ NB344_340.out _; refine qz ?_; refine blk_far ?_ NB344_340.out _; refine qz ?_; refine blk_put (cs := #[.int .i64 ((rd_T60 l3 x15_1).f0), .int .i64 ((rd_T60 l3 x15_1).f1), .int .i64 ((rd_T60 l3 x15_1).f2), .int .i64 0]) ?_ 3 _ rfl; refine qz ?_; refine blk_put (cs := #[.int .i64 ((rd_T60 l3 x15_1).f0), .int .i64 ((rd_T60 l3 x15_1).f1), .int .i64 0, .int .i64 0]) ?_ 2 _ rfl; refine qz ?_; refine blk_put (cs := #[.int .i64 ((rd_T60 l3 x15_1).f0), .int .i64 0, .int .i64 0, .int .i64 0]) ?_ 1 _ rfl; refine qz ?_; refine blk_put (cs := #[.int .i64 0, .int .i64 0, .int .i64 0, .int .i64 0]) ?_ 0 _ rfl; refine qz ?_; exact BK344.out) k_ hk)); (case aO => exact (by (with_reducible repeat (first | apply Kd.R_alloc | apply Kd.R_drewN | apply Kd.R_drew)); exact Kd.R_mono (Kd.R_far (p := ⟨gb342, 5, none⟩) (Kd.R_far (p := ⟨gb340, 2, none⟩) (Kd.R_far (p := ⟨gb340, 1, none⟩) (Kd.R_far (p := ⟨gb340, 0, none⟩) (Kd.R_far (p := ⟨gb344, 3, none⟩) (Kd.R_far (p := ⟨gb344, 2, none⟩) (Kd.R_far (p := ⟨gb344, 1, none⟩) (Kd.R_far (p := ⟨gb344, 0, none⟩) (Kd.R_types (Kd.R_types (Kd.R_mono HO_343004.out (fun k_ hk => (⟨hk, hk.2⟩ : _ ∧ k_ ≠ gb344))) BK340.out (by decide)) BK342.out (by decide)) (fun _ hk => hk.1.1.2) (.int .i64 ((rd_T60 l3 x15_1).f0))) (fun _ hk => hk.1.1.2) (.int .i64 ((rd_T60 l3 x15_1).f1))) (fun _ hk => hk.1.1.2) (.int .i64 ((rd_T60 l3 x15_1).f2))) (fun _ hk => hk.1.1.2) (.int .i64 ((rd_T60 l3 x15_1).f3))) (fun _ hk => hk.1.2) (.int .i64 ((rd_T60 l3 x15_1).f1))) (fun _ hk => hk.1.2) (.int .i64 ((rd_T60 l3 x15_1).f2))) (fun _ hk => hk.1.2) (.int .i64 ((rd_T60 l3 x15_1).f3))) (fun _ hk => hk.2) (.int .i64 (wrap64 (x343005_1 + 1)))) (fun _ hk => hk.1.1.1.2))); (case aS => exact (below_size (qs HB))); (case aL => have := LMc20.out; omega); intro v346 w36 ho hb hg hat; rw [← Ny345.out] at ho; replace BK339 := Aside0.mk (blk_grown (g := gb339) (o := .cells #[.int .i64 a0_0, .int .i64 a0_1, .int .i64 a0_2] 34 (0, 0)) (qB BK339) hg (Kd.R_ne HO_343004.out BK339.out (by decide))); replace BK340 := Aside0.mk (blk_grown (g := gb340) (o := .cells #[.int .i64 ((rd_T60 l3 x15_1).f1), .int .i64 ((rd_T60 l3 x15_1).f2), .int .i64 ((rd_T60 l3 x15_1).f3)] 48 (0, 0)) (by refine qz ?_; refine blk_far ?_ NB340_342.out _; refine qz ?_; refine blk_put (cs := #[.int .i64 ((rd_T60 l3 x15_1).f1), .int .i64 ((rd_T60 l3 x15_1).f2), .int .i64 x341002_1]) ?_ 2 _ rfl; refine qz ?_; refine blk_put (cs := #[.int .i64 ((rd_T60 l3 x15_1).f1), .int .i64 x341001_1, .int .i64 x341002_1]) ?_ 1 _ rfl; refine qz ?_; refine blk_put (cs := #[.int .i64 x341000_1, .int .i64 x341001_1, .int .i64 x341002_1]) ?_ 0 _ rfl; exact qB BK340) hg (Kd.R_ne HO_343004.out BK340.out (by decide))); replace BK341 := Aside0.mk (blk_grown (g := gb341) (o := .cells #[.bool false, .int .i64 0, .int .i64 0, .int .i64 0, .slice none 0 0, .int .i64 0] 50 (0, 0)) (qB BK341) hg (Kd.R_ne HO_343004.out BK341.out (by decide))); replace BK342 := Aside0.mk (blk_grown (g := gb342) (o := .cells #[.bool true, .int .i64 0, .int .i64 0, .int .i64 0, u343004, .int .i64 (wrap64 (x343005_1 + 1))] 50 (0, 0)) (by refine qz ?_; refine blk_put (cs := #[.bool true, .int .i64 0, .int .i64 0, .int .i64 0, u343004, .int .i64 x343005_1]) ?_ 5 _ rfl; exact qB BK342) hg (Kd.R_ne HO_343004.out BK342.out (by decide))); replace BK344 := Aside0.mk (blk_grown (g := gb344) (o := .cells #[.int .i64 ((rd_T60 l3 x15_1).f0), .int .i64 ((rd_T60 l3 x15_1).f1), .int .i64 ((rd_T60 l3 x15_1).f2), .int .i64 ((rd_T60 l3 x15_1).f3)] 60 (0, 0)) (by refine qz ?_; refine blk_far ?_ NB344_342.out _; refine qz ?_; refine blk_far ?_ NB344_340.out _; refine qz ?_; refine blk_far ?_ NB344_340.out _; refine qz ?_; refine blk_far ?_ NB344_340.out _; refine qz ?_; refine blk_put (cs := #[.int .i64 ((rd_T60 l3 x15_1).f0), .int .i64 ((rd_T60 l3 x15_1).f1), .int .i64 ((rd_T60 l3 x15_1).f2), .int .i64 0]) ?_ 3 _ rfl; refine qz ?_; refine blk_put (cs := #[.int .i64 ((rd_T60 l3 x15_1).f0), .int .i64 ((rd_T60 l3 x15_1).f1), .int .i64 0, .int .i64 0]) ?_ 2 _ rfl; refine qz ?_; refine blk_put (cs := #[.int .i64 ((rd_T60 l3 x15_1).f0), .int .i64 0, .int .i64 0, .int .i64 0]) ?_ 1 _ rfl; refine qz ?_; refine blk_put (cs := #[.int .i64 0, .int .i64 0, .int .i64 0, .int .i64 0]) ?_ 0 _ rfl; refine qz ?_; exact BK344.out) hg (Kd.R_away HO_343004.out (fun _ hk => hk.2))); replace HB := Aside0.mk (hb); have HO347 := Aside0.mk (ho); clear HO_343004; clear ho hb hg hat; obtain ⟨Ao37, co37, eo37⟩ := Kd.R_slice HO347.out; subst eo37; have hcz38_0 := b0 BK342; have hcz38_1 := b1 BK342; have hcz38_2 := b2 BK342; have hcz38_3 := b3 BK342; have hcz38_4 := b4 BK342; have hcz38_5 := b5 BK342; have hfz38_0 := blk_frozen BK342.out 0; have hfz38_1 := blk_frozen BK342.out 1; have hfz38_2 := blk_frozen BK342.out 2; have hfz38_3 := blk_frozen BK342.out 3; have hfz38_4 := blk_frozen BK342.out 4; have hfz38_5 := blk_frozen BK342.out 5))
           go_roundg k1
           case measure => have := HK1.out; omega
           case rel => exact ⟨(wrap64 (x15_1 + 1)), ((rd_T60 l3 x15_1).f1), ((rd_T60 l3 x15_1).f2), ((rd_T60 l3 x15_1).f3), (y345), (wrap64 (x343005_1 + 1)), (.slice Ao37 y345.length co37), (by first | rfl | (simp; done) | (simp [*]; done)), H', ⟨by have := HK1.out; omega⟩, ⟨by (with_reducible repeat (first | apply Kd.R_alloc | apply Kd.R_drewN | apply Kd.R_drew)); exact Kd.R_mono (Kd.R_far (p := ⟨gb342, 4, none⟩) (Kd.R_types HO347.out BK342.out (by decide)) (fun _ hk => hk.2) (.slice Ao37 y345.length co37)) (fun _ hk => trivial)⟩, ⟨qB BK339⟩, ⟨qB BK340⟩, ⟨qB BK341⟩, ⟨by refine qz ?_; refine blk_put (cs := #[.bool true, .int .i64 0, .int .i64 0, .int .i64 0, u343004, .int .i64 (wrap64 (x343005_1 + 1))]) ?_ 4 _ rfl; refine qz ?_; exact BK342.out⟩, ⟨(qs HB)⟩⟩
          rw [if_neg c20] at H
          exact absurd H (by simp)
         rw [if_neg c19] at H
         have c19b0 : decide (x341000_1 ≤ ((rd_T60 l3 x15_1).f1)) = false := decide_eq_false c19
         clear c19
         have H' := Aside0.mk H
         clear H
         have p343 : 0 ≤ (x15_1 : Int) := of_decide_eq_true (by assumption)
         have q343 : x15_1 < (l3.length : Int) := of_decide_eq_true (by assumption)
         obtain ⟨ad343, e343, hx343_0, hx343_1, hx343_2, hx343_3⟩ := at_T60 HR3.out x15_1 p343 q343
         cases e343
         replace hx343_0 := (HB.out.cell (World.block_lt_of_cell? w _ hx343_0)).trans hx343_0
         replace hx343_1 := (HB.out.cell (World.block_lt_of_cell? w _ hx343_1)).trans hx343_1
         replace hx343_2 := (HB.out.cell (World.block_lt_of_cell? w _ hx343_2)).trans hx343_2
         replace hx343_3 := (HB.out.cell (World.block_lt_of_cell? w _ hx343_3)).trans hx343_3
         replace p343 := eq_true p343
         replace q343 := eq_true q343
         go_wp2_with (first | ((with_reducible refine gate_dst (N := 11) rfl ?_); refine boxA #[.int .i64 0, .int .i64 0, .int .i64 0, .int .i64 0] 60 ?_; intro gb344 hg w39 hbox hb; replace HO_343004 := Aside0.mk (Kd.R_below (Kd.R_elderB (qr HO_343004) gb344 (Nat.le_of_eq hg.symm)) hb); have BK344 := Aside0.mk (hbox); have GW344 := nge HB hg; have GE344 := nge HB hg; replace HB := bst HB hb; have NB339_344 := nlt BK339 hg; have NB344_339 := ngt BK339 hg; replace BK339 := bkb BK339 hb; have NB340_344 := nlt BK340 hg; have NB344_340 := ngt BK340 hg; replace BK340 := bkb BK340 hb; have NB341_344 := nlt BK341 hg; have NB344_341 := ngt BK341 hg; replace BK341 := bkb BK341 hb; have NB342_344 := nlt BK342 hg; have NB344_342 := ngt BK342 hg; replace BK342 := bkb BK342 hb; clear hb hbox hg; have hnb40 := NB344_339.out; have hnc40 := NB339_344.out; have hnb41 := NB344_340.out; have hnc41 := NB340_344.out; have hnb42 := NB344_341.out; have hnc42 := NB341_344.out; have hnb43 := NB344_342.out; have hnc43 := NB342_344.out; have hcz44_0 := b0 BK344; have hcz44_1 := b1 BK344; have hcz44_2 := b2 BK344; have hcz44_3 := b3 BK344; have hfz44_0 := blk_frozen BK344.out 0; have hfz44_1 := blk_frozen BK344.out 1; have hfz44_2 := blk_frozen BK344.out 2; have hfz44_3 := blk_frozen BK344.out 3; have hnb45 := NB339_340.out; have hnc45 := NB340_339.out; have hnb46 := NB339_341.out; have hnc46 := NB341_339.out; have hnb47 := NB339_342.out; have hnc47 := NB342_339.out; have hcz48_0 := b0 BK339; have hcz48_1 := b1 BK339; have hcz48_2 := b2 BK339; have hfz48_0 := blk_frozen BK339.out 0; have hfz48_1 := blk_frozen BK339.out 1; have hfz48_2 := blk_frozen BK339.out 2; have hnb49 := NB340_341.out; have hnc49 := NB341_340.out; have hnb50 := NB340_342.out; have hnc50 := NB342_340.out; have hcz51_0 := b0 BK340; have hcz51_1 := b1 BK340; have hcz51_2 := b2 BK340; have hfz51_0 := blk_frozen BK340.out 0; have hfz51_1 := blk_frozen BK340.out 1; have hfz51_2 := blk_frozen BK340.out 2))
         go_roundg k1
         case measure => have := HK1.out; omega
         case rel => exact ⟨(wrap64 (x15_1 + 1)), (x341000_1), (x341001_1), (x341002_1), (x343004_1), (x343005_1), (u343004), (by first | rfl | (simp; done) | (simp [*]; done)), H', ⟨by have := HK1.out; omega⟩, ⟨by (with_reducible repeat (first | apply Kd.R_alloc | apply Kd.R_drewN | apply Kd.R_drew)); exact Kd.R_mono (Kd.R_far (p := ⟨gb344, 3, none⟩) (Kd.R_far (p := ⟨gb344, 2, none⟩) (Kd.R_far (p := ⟨gb344, 1, none⟩) (Kd.R_far (p := ⟨gb344, 0, none⟩) (Kd.R_mono HO_343004.out (fun k_ hk => (⟨hk, hk.2⟩ : _ ∧ k_ ≠ gb344))) (fun _ hk => hk.2) (.int .i64 ((rd_T60 l3 x15_1).f0))) (fun _ hk => hk.2) (.int .i64 ((rd_T60 l3 x15_1).f1))) (fun _ hk => hk.2) (.int .i64 ((rd_T60 l3 x15_1).f2))) (fun _ hk => hk.2) (.int .i64 ((rd_T60 l3 x15_1).f3))) (fun _ hk => trivial)⟩, ⟨qB BK339⟩, ⟨qB BK340⟩, ⟨qB BK341⟩, ⟨qB BK342⟩, ⟨(qs HB)⟩⟩
        rw [if_neg c18] at H
        have c18b0 : decide (x341002_1 < ((rd_T60 l3 x15_1).f3)) = false := decide_eq_false c18
        clear c18
        have H' := Aside0.mk H
        clear H
        have p343 : 0 ≤ (x15_1 : Int) := of_decide_eq_true (by assumption)
        have q343 : x15_1 < (l3.length : Int) := of_decide_eq_true (by assumption)
        obtain ⟨ad343, e343, hx343_0, hx343_1, hx343_2, hx343_3⟩ := at_T60 HR3.out x15_1 p343 q343
        cases e343
        replace hx343_0 := (HB.out.cell (World.block_lt_of_cell? w _ hx343_0)).trans hx343_0
        replace hx343_1 := (HB.out.cell (World.block_lt_of_cell? w _ hx343_1)).trans hx343_1
        replace hx343_2 := (HB.out.cell (World.block_lt_of_cell? w _ hx343_2)).trans hx343_2
        replace hx343_3 := (HB.out.cell (World.block_lt_of_cell? w _ hx343_3)).trans hx343_3
        replace p343 := eq_true p343
        replace q343 := eq_true q343
        go_wp2_with (first | ((with_reducible refine gate_dst (N := 11) rfl ?_); refine boxA #[.int .i64 0, .int .i64 0, .int .i64 0, .int .i64 0] 60 ?_; intro gb344 hg w52 hbox hb; replace HO_343004 := Aside0.mk (Kd.R_below (Kd.R_elderB (qr HO_343004) gb344 (Nat.le_of_eq hg.symm)) hb); have BK344 := Aside0.mk (hbox); have GW344 := nge HB hg; have GE344 := nge HB hg; replace HB := bst HB hb; have NB339_344 := nlt BK339 hg; have NB344_339 := ngt BK339 hg; replace BK339 := bkb BK339 hb; have NB340_344 := nlt BK340 hg; have NB344_340 := ngt BK340 hg; replace BK340 := bkb BK340 hb; have NB341_344 := nlt BK341 hg; have NB344_341 := ngt BK341 hg; replace BK341 := bkb BK341 hb; have NB342_344 := nlt BK342 hg; have NB344_342 := ngt BK342 hg; replace BK342 := bkb BK342 hb; clear hb hbox hg; have hnb53 := NB344_339.out; have hnc53 := NB339_344.out; have hnb54 := NB344_340.out; have hnc54 := NB340_344.out; have hnb55 := NB344_341.out; have hnc55 := NB341_344.out; have hnb56 := NB344_342.out; have hnc56 := NB342_344.out; have hcz57_0 := b0 BK344; have hcz57_1 := b1 BK344; have hcz57_2 := b2 BK344; have hcz57_3 := b3 BK344; have hfz57_0 := blk_frozen BK344.out 0; have hfz57_1 := blk_frozen BK344.out 1; have hfz57_2 := blk_frozen BK344.out 2; have hfz57_3 := blk_frozen BK344.out 3; have hnb58 := NB339_340.out; have hnc58 := NB340_339.out; have hnb59 := NB339_341.out; have hnc59 := NB341_339.out; have hnb60 := NB339_342.out; have hnc60 := NB342_339.out; have hcz61_0 := b0 BK339; have hcz61_1 := b1 BK339; have hcz61_2 := b2 BK339; have hfz61_0 := blk_frozen BK339.out 0; have hfz61_1 := blk_frozen BK339.out 1; have hfz61_2 := blk_frozen BK339.out 2; have hnb62 := NB340_341.out; have hnc62 := NB341_340.out; have hnb63 := NB340_342.out; have hnc63 := NB342_340.out; have hcz64_0 := b0 BK340; have hcz64_1 := b1 BK340; have hcz64_2 := b2 BK340; have hfz64_0 := blk_frozen BK340.out 0; have hfz64_1 := blk_frozen BK340.out 1; have hfz64_2 := blk_frozen BK340.out 2))
        go_roundg k1
        case measure => have := HK1.out; omega
        case rel => exact ⟨(wrap64 (x15_1 + 1)), (x341000_1), (x341001_1), (x341002_1), (x343004_1), (x343005_1), (u343004), (by first | rfl | (simp; done) | (simp [*]; done)), H', ⟨by have := HK1.out; omega⟩, ⟨by (with_reducible repeat (first | apply Kd.R_alloc | apply Kd.R_drewN | apply Kd.R_drew)); exact Kd.R_mono (Kd.R_far (p := ⟨gb344, 3, none⟩) (Kd.R_far (p := ⟨gb344, 2, none⟩) (Kd.R_far (p := ⟨gb344, 1, none⟩) (Kd.R_far (p := ⟨gb344, 0, none⟩) (Kd.R_mono HO_343004.out (fun k_ hk => (⟨hk, hk.2⟩ : _ ∧ k_ ≠ gb344))) (fun _ hk => hk.2) (.int .i64 ((rd_T60 l3 x15_1).f0))) (fun _ hk => hk.2) (.int .i64 ((rd_T60 l3 x15_1).f1))) (fun _ hk => hk.2) (.int .i64 ((rd_T60 l3 x15_1).f2))) (fun _ hk => hk.2) (.int .i64 ((rd_T60 l3 x15_1).f3))) (fun _ hk => trivial)⟩, ⟨qB BK339⟩, ⟨qB BK340⟩, ⟨qB BK341⟩, ⟨qB BK342⟩, ⟨(qs HB)⟩⟩
       rw [if_neg c17] at H
       have c17b0 : decide ((wrap64 (a1 - ((rd_T60 l3 x15_1).f3))) ≤ a0_2) = false := decide_eq_false c17
       clear c17
       have H' := Aside0.mk H
       clear H
       have p343 : 0 ≤ (x15_1 : Int) := of_decide_eq_true (by assumption)
       have q343 : x15_1 < (l3.length : Int) := of_decide_eq_true (by assumption)
       obtain ⟨ad343, e343, hx343_0, hx343_1, hx343_2, hx343_3⟩ := at_T60 HR3.out x15_1 p343 q343
       cases e343
       replace hx343_0 := (HB.out.cell (World.block_lt_of_cell? w _ hx343_0)).trans hx343_0
       replace hx343_1 := (HB.out.cell (World.block_lt_of_cell? w _ hx343_1)).trans hx343_1
       replace hx343_2 := (HB.out.cell (World.block_lt_of_cell? w _ hx343_2)).trans hx343_2
       replace hx343_3 := (HB.out.cell (World.block_lt_of_cell? w _ hx343_3)).trans hx343_3
       replace p343 := eq_true p343
       replace q343 := eq_true q343
       go_wp2_with (first | ((with_reducible refine gate_dst (N := 11) rfl ?_); refine boxA #[.int .i64 0, .int .i64 0, .int .i64 0, .int .i64 0] 60 ?_; intro gb344 hg w65 hbox hb; replace HO_343004 := Aside0.mk (Kd.R_below (Kd.R_elderB (qr HO_343004) gb344 (Nat.le_of_eq hg.symm)) hb); have BK344 := Aside0.mk (hbox); have GW344 := nge HB hg; have GE344 := nge HB hg; replace HB := bst HB hb; have NB339_344 := nlt BK339 hg; have NB344_339 := ngt BK339 hg; replace BK339 := bkb BK339 hb; have NB340_344 := nlt BK340 hg; have NB344_340 := ngt BK340 hg; replace BK340 := bkb BK340 hb; have NB341_344 := nlt BK341 hg; have NB344_341 := ngt BK341 hg; replace BK341 := bkb BK341 hb; have NB342_344 := nlt BK342 hg; have NB344_342 := ngt BK342 hg; replace BK342 := bkb BK342 hb; clear hb hbox hg; have hnb66 := NB344_339.out; have hnc66 := NB339_344.out; have hnb67 := NB344_340.out; have hnc67 := NB340_344.out; have hnb68 := NB344_341.out; have hnc68 := NB341_344.out; have hnb69 := NB344_342.out; have hnc69 := NB342_344.out; have hcz70_0 := b0 BK344; have hcz70_1 := b1 BK344; have hcz70_2 := b2 BK344; have hcz70_3 := b3 BK344; have hfz70_0 := blk_frozen BK344.out 0; have hfz70_1 := blk_frozen BK344.out 1; have hfz70_2 := blk_frozen BK344.out 2; have hfz70_3 := blk_frozen BK344.out 3; have hnb71 := NB339_340.out; have hnc71 := NB340_339.out; have hnb72 := NB339_341.out; have hnc72 := NB341_339.out; have hnb73 := NB339_342.out; have hnc73 := NB342_339.out; have hcz74_0 := b0 BK339; have hcz74_1 := b1 BK339; have hcz74_2 := b2 BK339; have hfz74_0 := blk_frozen BK339.out 0; have hfz74_1 := blk_frozen BK339.out 1; have hfz74_2 := blk_frozen BK339.out 2))
       go_roundg k1
       case measure => have := HK1.out; omega
       case rel => exact ⟨(wrap64 (x15_1 + 1)), (x341000_1), (x341001_1), (x341002_1), (x343004_1), (x343005_1), (u343004), (by first | rfl | (simp; done) | (simp [*]; done)), H', ⟨by have := HK1.out; omega⟩, ⟨by (with_reducible repeat (first | apply Kd.R_alloc | apply Kd.R_drewN | apply Kd.R_drew)); exact Kd.R_mono (Kd.R_far (p := ⟨gb344, 3, none⟩) (Kd.R_far (p := ⟨gb344, 2, none⟩) (Kd.R_far (p := ⟨gb344, 1, none⟩) (Kd.R_far (p := ⟨gb344, 0, none⟩) (Kd.R_mono HO_343004.out (fun k_ hk => (⟨hk, hk.2⟩ : _ ∧ k_ ≠ gb344))) (fun _ hk => hk.2) (.int .i64 ((rd_T60 l3 x15_1).f0))) (fun _ hk => hk.2) (.int .i64 ((rd_T60 l3 x15_1).f1))) (fun _ hk => hk.2) (.int .i64 ((rd_T60 l3 x15_1).f2))) (fun _ hk => hk.2) (.int .i64 ((rd_T60 l3 x15_1).f3))) (fun _ hk => trivial)⟩, ⟨qB BK339⟩, ⟨qB BK340⟩, ⟨qB BK341⟩, ⟨qB BK342⟩, ⟨(qs HB)⟩⟩
      rw [if_neg c16] at H
      have c16b0 : (((rd_T60 l3 x15_1).f0) == 1) = false := beq_eq_false_iff_ne.mpr c16
      have c16b1 : (((rd_T60 l3 x15_1).f0) != 1) = true := bne_iff_ne.mpr c16
      have H' := Aside0.mk H
      clear H
      have p343 : 0 ≤ (x15_1 : Int) := of_decide_eq_true (by assumption)
      have q343 : x15_1 < (l3.length : Int) := of_decide_eq_true (by assumption)
      obtain ⟨ad343, e343, hx343_0, hx343_1, hx343_2, hx343_3⟩ := at_T60 HR3.out x15_1 p343 q343
      cases e343
      replace hx343_0 := (HB.out.cell (World.block_lt_of_cell? w _ hx343_0)).trans hx343_0
      replace hx343_1 := (HB.out.cell (World.block_lt_of_cell? w _ hx343_1)).trans hx343_1
      replace hx343_2 := (HB.out.cell (World.block_lt_of_cell? w _ hx343_2)).trans hx343_2
      replace hx343_3 := (HB.out.cell (World.block_lt_of_cell? w _ hx343_3)).trans hx343_3
      replace p343 := eq_true p343
      replace q343 := eq_true q343
      go_wp2_with (first | ((with_reducible refine gate_dst (N := 11) rfl ?_); refine boxA #[.int .i64 0, .int .i64 0, .int .i64 0, .int .i64 0] 60 ?_; intro gb344 hg w75 hbox hb; replace HO_343004 := Aside0.mk (Kd.R_below (Kd.R_elderB (qr HO_343004) gb344 (Nat.le_of_eq hg.symm)) hb); have BK344 := Aside0.mk (hbox); have GW344 := nge HB hg; have GE344 := nge HB hg; replace HB := bst HB hb; have NB339_344 := nlt BK339 hg; have NB344_339 := ngt BK339 hg; replace BK339 := bkb BK339 hb; have NB340_344 := nlt BK340 hg; have NB344_340 := ngt BK340 hg; replace BK340 := bkb BK340 hb; have NB341_344 := nlt BK341 hg; have NB344_341 := ngt BK341 hg; replace BK341 := bkb BK341 hb; have NB342_344 := nlt BK342 hg; have NB344_342 := ngt BK342 hg; replace BK342 := bkb BK342 hb; clear hb hbox hg; have hnb76 := NB344_339.out; have hnc76 := NB339_344.out; have hnb77 := NB344_340.out; have hnc77 := NB340_344.out; have hnb78 := NB344_341.out; have hnc78 := NB341_344.out; have hnb79 := NB344_342.out; have hnc79 := NB342_344.out; have hcz80_0 := b0 BK344; have hcz80_1 := b1 BK344; have hcz80_2 := b2 BK344; have hcz80_3 := b3 BK344; have hfz80_0 := blk_frozen BK344.out 0; have hfz80_1 := blk_frozen BK344.out 1; have hfz80_2 := blk_frozen BK344.out 2; have hfz80_3 := blk_frozen BK344.out 3))
      go_roundg k1
      case measure => have := HK1.out; omega
      case rel => exact ⟨(wrap64 (x15_1 + 1)), (x341000_1), (x341001_1), (x341002_1), (x343004_1), (x343005_1), (u343004), (by first | rfl | (simp; done) | (simp [*]; done)), H', ⟨by have := HK1.out; omega⟩, ⟨by (with_reducible repeat (first | apply Kd.R_alloc | apply Kd.R_drewN | apply Kd.R_drew)); exact Kd.R_mono (Kd.R_far (p := ⟨gb344, 3, none⟩) (Kd.R_far (p := ⟨gb344, 2, none⟩) (Kd.R_far (p := ⟨gb344, 1, none⟩) (Kd.R_far (p := ⟨gb344, 0, none⟩) (Kd.R_mono HO_343004.out (fun k_ hk => (⟨hk, hk.2⟩ : _ ∧ k_ ≠ gb344))) (fun _ hk => hk.2) (.int .i64 ((rd_T60 l3 x15_1).f0))) (fun _ hk => hk.2) (.int .i64 ((rd_T60 l3 x15_1).f1))) (fun _ hk => hk.2) (.int .i64 ((rd_T60 l3 x15_1).f2))) (fun _ hk => hk.2) (.int .i64 ((rd_T60 l3 x15_1).f3))) (fun _ hk => trivial)⟩, ⟨qB BK339⟩, ⟨qB BK340⟩, ⟨qB BK341⟩, ⟨qB BK342⟩, ⟨(qs HB)⟩⟩
     rw [if_neg c15] at H
     exact absurd H (by simp)
    rw [if_neg c14] at H
    exact absurd H (by simp)
   rw [if_neg c13] at H
   have c13b0 : decide (x15_1 < (l3.length : Int)) = false := decide_eq_false c13
   clear c13
   simp only [Option.some.injEq, Prod.mk.injEq] at H
   obtain ⟨rfl, rfl, rfl, rfl, rfl, rfl⟩ := H
   have hnb81 := NB340_339.out
   have hnc81 := NB339_340.out
   have hnb82 := NB340_341.out
   have hnc82 := NB341_340.out
   have hnb83 := NB340_342.out
   have hnc83 := NB342_340.out
   have hcz84_0 := b0 BK340
   have hcz84_1 := b1 BK340
   have hcz84_2 := b2 BK340
   have hfz84_0 := blk_frozen BK340.out 0
   have hfz84_1 := blk_frozen BK340.out 1
   have hfz84_2 := blk_frozen BK340.out 2
   have hnb85 := NB342_339.out
   have hnc85 := NB339_342.out
   have hnb86 := NB342_341.out
   have hnc86 := NB341_342.out
   have hcz87_0 := b0 BK342
   have hcz87_1 := b1 BK342
   have hcz87_2 := b2 BK342
   have hcz87_3 := b3 BK342
   have hcz87_4 := b4 BK342
   have hcz87_5 := b5 BK342
   have hfz87_0 := blk_frozen BK342.out 0
   have hfz87_1 := blk_frozen BK342.out 1
   have hfz87_2 := blk_frozen BK342.out 2
   have hfz87_3 := blk_frozen BK342.out 3
   have hfz87_4 := blk_frozen BK342.out 4
   have hfz87_5 := blk_frozen BK342.out 5
   have hnb88 := NB341_339.out
   have hnc88 := NB339_341.out
   have hcz89_0 := b0 BK341
   have hcz89_1 := b1 BK341
   have hcz89_2 := b2 BK341
   have hcz89_3 := b3 BK341
   have hcz89_4 := b4 BK341
   have hcz89_5 := b5 BK341
   have hfz89_0 := blk_frozen BK341.out 0
   have hfz89_1 := blk_frozen BK341.out 1
   have hfz89_2 := blk_frozen BK341.out 2
   have hfz89_3 := blk_frozen BK341.out 3
   have hfz89_4 := blk_frozen BK341.out 4
   have hfz89_5 := blk_frozen BK341.out 5
   obtain ⟨Ao90, co90, eo90⟩ := Kd.R_slice HO_343004.out
   subst eo90
   go_wp2
   refine bodyPost_ret (results_cell_row rfl _ _ gb341 50 #[.bool true, .int .i64 x341000_1, .int .i64 x341001_1, .int .i64 x341002_1, .slice Ao90 x343004_1.length co90, .int .i64 x343005_1] (0, 0) _ rfl (by refine qz ?_; refine blk_put (cs := #[.bool true, .int .i64 x341000_1, .int .i64 x341001_1, .int .i64 x341002_1, .slice Ao90 x343004_1.length co90, .int .i64 0]) ?_ 5 _ rfl; refine qz ?_; refine blk_put (cs := #[.bool true, .int .i64 x341000_1, .int .i64 x341001_1, .int .i64 x341002_1, .slice none 0 0, .int .i64 0]) ?_ 4 _ rfl; refine qz ?_; refine blk_put (cs := #[.bool true, .int .i64 x341000_1, .int .i64 x341001_1, .int .i64 0, .slice none 0 0, .int .i64 0]) ?_ 3 _ rfl; refine qz ?_; refine blk_put (cs := #[.bool true, .int .i64 x341000_1, .int .i64 0, .int .i64 0, .slice none 0 0, .int .i64 0]) ?_ 2 _ rfl; refine qz ?_; refine blk_put (cs := #[.bool true, .int .i64 0, .int .i64 0, .int .i64 0, .slice none 0 0, .int .i64 0]) ?_ 1 _ rfl; refine qz ?_; refine blk_put (cs := #[.bool false, .int .i64 0, .int .i64 0, .int .i64 0, .slice none 0 0, .int .i64 0]) ?_ 0 _ rfl; exact qB BK341) Try.underlying50 rfl (by kernel_rfl)) rfl ?_
   exact ⟨_, by first | rfl | (simp [*, errW_none, errW_some] <;> rfl), by (with_reducible repeat (first | apply Kd.R_alloc | apply Kd.R_drewN | apply Kd.R_drew)); exact Kd.R_mono (Kd.R_far (p := ⟨gb341, 5, none⟩) (Kd.R_far (p := ⟨gb341, 4, none⟩) (Kd.R_far (p := ⟨gb341, 3, none⟩) (Kd.R_far (p := ⟨gb341, 2, none⟩) (Kd.R_far (p := ⟨gb341, 1, none⟩) (Kd.R_far (p := ⟨gb341, 0, none⟩) (Kd.R_far (p := ⟨gb342, 3, none⟩) (Kd.R_far (p := ⟨gb342, 2, none⟩) (Kd.R_far (p := ⟨gb342, 1, none⟩) (Kd.R_types (Kd.R_types HO_343004.out BK342.out (by decide)) BK341.out (by decide)) (fun _ hk => hk.1.2) (.int .i64 x341000_1)) (fun _ hk => hk.1.2) (.int .i64 x341001_1)) (fun _ hk => hk.1.2) (.int .i64 x341002_1)) (fun _ hk => hk.2) (.bool true)) (fun _ hk => hk.2) (.int .i64 x341000_1)) (fun _ hk => hk.2) (.int .i64 x341001_1)) (fun _ hk => hk.2) (.int .i64 x341002_1)) (fun _ hk => hk.2) (.slice Ao90 x343004_1.length co90)) (fun _ hk => hk.2) (.int .i64 x343005_1)) (fun _ hk => trivial), (qs HB)⟩
def impl_TrainTick.f (k : Nat) (a0_0 : Int) (a0_1 : Int) (a0_2 : Int) (a1 : Int) (a2_0 : Int) (a2_1 : Int) (a2_2 : Int) (l3 : List (S60)) : Option (Bool × Int × Int × Int × (List (S60)) × Int) := (impl_RulesOk.f a0_0 a0_1 a0_2).bind fun t351 => (if t351 = true then ((impl_TrainOk.f a1 a2_0 a2_1 a2_2).bind fun t352 => (if t352 = true then ((impl_packetsOk.f k a1 l3).bind fun t353 => (if t353 = true then ((impl_trainTick.f k a0_0 a0_1 a0_2 a1 a2_0 a2_1 a2_2 l3).bind fun bt354 => (some (bt354.1, bt354.2.1, bt354.2.2.1, bt354.2.2.2.1, bt354.2.2.2.2.1, bt354.2.2.2.2.2))) else (some (false, 0, 0, 0, ([] : List (S60)), 0)))) else (some (false, 0, 0, 0, ([] : List (S60)), 0)))) else (some (false, 0, 0, 0, ([] : List (S60)), 0)))
set_option maxHeartbeats 8000000 in
set_option maxRecDepth 100000 in
theorem impl_TrainTick.calls (k : Nat) (a0_0 : Int) (a0_1 : Int) (a0_2 : Int) (a1 : Int) (a2_0 : Int) (a2_1 : Int) (a2_2 : Int) (A3 : Option Addr) (c3 : Nat) (l3 : List (S60)) (r1 : Bool) (r2 : Int) (r3 : Int) (r4 : Int) (r5 : List (S60)) (r6 : Int) (w : World) (hr3 : Kd.C k60 w A3 l3.length l3) (hc3 : l3.length ≤ c3) (h : impl_TrainTick.f k a0_0 a0_1 a0_2 a1 a2_0 a2_1 a2_2 l3 = some (r1, r2, r3, r4, r5, r6)) :
  Calls Try.prog 27 #[.agg #[.int .i64 a0_0, .int .i64 a0_1, .int .i64 a0_2], .int .i64 a1, .agg #[.int .i64 a2_0, .int .i64 a2_1, .int .i64 a2_2], .slice A3 l3.length c3] w fun e w' => ∃ v4_ : Value, e = .returned (.agg #[.bool r1, .int .i64 r2, .int .i64 r3, .int .i64 r4, v4_, .int .i64 r6]) ∧ Kd.R k60 60 w' w.heap.size (fun _ => True) v4_ r5 ∧ Below w.heap.size w w' := by
 have hu34 := Try.underlying34
 have hu48 := Try.underlying48
 have hu50 := Try.underlying50
 have HR3 := Aside0.mk hr3
 have HC3 := Aside0.mk hc3
 clear hr3 hc3
 have HB := Aside0.mk (Below.refl w.heap.size w)
 have H : ((impl_RulesOk.f a0_0 a0_1 a0_2).bind fun t351 => (if t351 = true then ((impl_TrainOk.f a1 a2_0 a2_1 a2_2).bind fun t352 => (if t352 = true then ((impl_packetsOk.f k a1 l3).bind fun t353 => (if t353 = true then ((impl_trainTick.f k a0_0 a0_1 a0_2 a1 a2_0 a2_1 a2_2 l3).bind fun bt354 => (some (bt354.1, bt354.2.1, bt354.2.2.1, bt354.2.2.2.1, bt354.2.2.2.2.1, bt354.2.2.2.2.2))) else (some (false, 0, 0, 0, ([] : List (S60)), 0)))) else (some (false, 0, 0, 0, ([] : List (S60)), 0)))) else (some (false, 0, 0, 0, ([] : List (S60)), 0)))) = some (r1, r2, r3, r4, r5, r6) := h
 clear h
 replace H := Option.bind_eq_some_iff.mp H
 obtain ⟨t351, A50, H⟩ := H
 replace H : (if t351 = true then ((impl_TrainOk.f a1 a2_0 a2_1 a2_2).bind fun t352 => (if t352 = true then ((impl_packetsOk.f k a1 l3).bind fun t353 => (if t353 = true then ((impl_trainTick.f k a0_0 a0_1 a0_2 a1 a2_0 a2_1 a2_2 l3).bind fun bt354 => (some (bt354.1, bt354.2.1, bt354.2.2.1, bt354.2.2.2.1, bt354.2.2.2.2.1, bt354.2.2.2.2.2))) else (some (false, 0, 0, 0, ([] : List (S60)), 0)))) else (some (false, 0, 0, 0, ([] : List (S60)), 0)))) else (some (false, 0, 0, 0, ([] : List (S60)), 0))) = some (r1, r2, r3, r4, r5, r6) := H
 have A5 := Aside0.mk A50
 clear A50
 by_cases c6 : t351 = true
 ·subst c6
  have H1 : ((impl_TrainOk.f a1 a2_0 a2_1 a2_2).bind fun t352 => (if t352 = true then ((impl_packetsOk.f k a1 l3).bind fun t353 => (if t353 = true then ((impl_trainTick.f k a0_0 a0_1 a0_2 a1 a2_0 a2_1 a2_2 l3).bind fun bt354 => (some (bt354.1, bt354.2.1, bt354.2.2.1, bt354.2.2.2.1, bt354.2.2.2.2.1, bt354.2.2.2.2.2))) else (some (false, 0, 0, 0, ([] : List (S60)), 0)))) else (some (false, 0, 0, 0, ([] : List (S60)), 0)))) = some (r1, r2, r3, r4, r5, r6) := by rw [if_pos rfl] at H; exact H
  clear H; have H := H1; clear H1
  replace H := Option.bind_eq_some_iff.mp H
  obtain ⟨t352, A70, H⟩ := H
  replace H : (if t352 = true then ((impl_packetsOk.f k a1 l3).bind fun t353 => (if t353 = true then ((impl_trainTick.f k a0_0 a0_1 a0_2 a1 a2_0 a2_1 a2_2 l3).bind fun bt354 => (some (bt354.1, bt354.2.1, bt354.2.2.1, bt354.2.2.2.1, bt354.2.2.2.2.1, bt354.2.2.2.2.2))) else (some (false, 0, 0, 0, ([] : List (S60)), 0)))) else (some (false, 0, 0, 0, ([] : List (S60)), 0))) = some (r1, r2, r3, r4, r5, r6) := H
  have A7 := Aside0.mk A70
  clear A70
  by_cases c8 : t352 = true
  ·subst c8
   have H1 : ((impl_packetsOk.f k a1 l3).bind fun t353 => (if t353 = true then ((impl_trainTick.f k a0_0 a0_1 a0_2 a1 a2_0 a2_1 a2_2 l3).bind fun bt354 => (some (bt354.1, bt354.2.1, bt354.2.2.1, bt354.2.2.2.1, bt354.2.2.2.2.1, bt354.2.2.2.2.2))) else (some (false, 0, 0, 0, ([] : List (S60)), 0)))) = some (r1, r2, r3, r4, r5, r6) := by rw [if_pos rfl] at H; exact H
   clear H; have H := H1; clear H1
   replace H := Option.bind_eq_some_iff.mp H
   obtain ⟨t353, A90, H⟩ := H
   replace H : (if t353 = true then ((impl_trainTick.f k a0_0 a0_1 a0_2 a1 a2_0 a2_1 a2_2 l3).bind fun bt354 => (some (bt354.1, bt354.2.1, bt354.2.2.1, bt354.2.2.2.1, bt354.2.2.2.2.1, bt354.2.2.2.2.2))) else (some (false, 0, 0, 0, ([] : List (S60)), 0))) = some (r1, r2, r3, r4, r5, r6) := H
   have A9 := Aside0.mk A90
   clear A90
   by_cases c10 : t353 = true
   ·subst c10
    have H1 : ((impl_trainTick.f k a0_0 a0_1 a0_2 a1 a2_0 a2_1 a2_2 l3).bind fun bt354 => (some (bt354.1, bt354.2.1, bt354.2.2.1, bt354.2.2.2.1, bt354.2.2.2.2.1, bt354.2.2.2.2.2))) = some (r1, r2, r3, r4, r5, r6) := by rw [if_pos rfl] at H; exact H
    clear H; have H := H1; clear H1
    replace H := Option.bind_eq_some_iff.mp H
    obtain ⟨⟨t354, t355, t356, t357, t358, t361⟩, A110, H⟩ := H
    replace H : (some (t354, t355, t356, t357, t358, t361)) = some (r1, r2, r3, r4, r5, r6) := H
    have A11 := Aside0.mk A110
    clear A110
    simp only [Option.some.injEq, Prod.mk.injEq] at H
    obtain ⟨rfl, rfl, rfl, rfl, rfl, rfl⟩ := H
    go_enter Try.func27, Try.ntmps27
    go_wp2_with (first | ((with_reducible refine gate_dst (N := 4) rfl ?_); refine boxA #[.int .i64 a0_0, .int .i64 a0_1, .int .i64 a0_2] 34 ?_; intro gb348 hg w12 hbox hb; have BK348 := Aside0.mk (hbox); have GW348 := nge HB hg; have GE348 := nge HB hg; replace HB := bst HB hb; clear hb hbox hg) | ((with_reducible refine gate_dst (N := 6) rfl ?_); refine boxA #[.int .i64 a2_0, .int .i64 a2_1, .int .i64 a2_2] 48 ?_; intro gb349 hg w13 hbox hb; have BK349 := Aside0.mk (hbox); have GW349 := nge HB hg; have GE349 := nge HB hg; replace HB := bst HB hb; have NB348_349 := nlt BK348 hg; have NB349_348 := ngt BK348 hg; replace BK348 := bkb BK348 hb; clear hb hbox hg) | ((with_reducible refine gate_dst (N := 8) rfl ?_); refine boxA #[.bool false, .int .i64 0, .int .i64 0, .int .i64 0, .slice none 0 0, .int .i64 0] 50 ?_; intro gb350 hg w14 hbox hb; have BK350 := Aside0.mk (hbox); have GW350 := nge HB hg; have GE350 := nge HB hg; replace HB := bst HB hb; have NB348_350 := nlt BK348 hg; have NB350_348 := ngt BK348 hg; replace BK348 := bkb BK348 hb; have NB349_350 := nlt BK349 hg; have NB350_349 := ngt BK349 hg; replace BK349 := bkb BK349 hb; clear hb hbox hg; have hnb15 := NB348_349.out; have hnc15 := NB349_348.out; have hnb16 := NB348_350.out; have hnc16 := NB350_348.out; have hcz17_0 := b0 BK348; have hcz17_1 := b1 BK348; have hcz17_2 := b2 BK348; have hfz17_0 := blk_frozen BK348.out 0; have hfz17_1 := blk_frozen BK348.out 1; have hfz17_2 := blk_frozen BK348.out 2) | ((with_reducible refine gate_callee (f := 58) rfl ?_); refine goesLA (some 10) rfl Try.func58 #[.agg #[.int .i64 a0_0, .int .i64 a0_1, .int .i64 a0_2]] ?_; (with_reducible refine (impl_RulesOk.calls a0_0 a0_1 a0_2 true _ A5.out).mono ?_); rintro e w18 ⟨rfl, hb⟩; refine ⟨_, rfl, ?_⟩; replace BK348 := bkb BK348 hb; replace BK349 := bkb BK349 hb; replace BK350 := bkb BK350 hb; replace HB := bst HB hb; clear hb; have hnb19 := NB349_350.out; have hnc19 := NB350_349.out; have hcz20_0 := b0 BK349; have hcz20_1 := b1 BK349; have hcz20_2 := b2 BK349; have hfz20_0 := blk_frozen BK349.out 0; have hfz20_1 := blk_frozen BK349.out 1; have hfz20_2 := blk_frozen BK349.out 2) | (go_at_call 66; (with_reducible refine (impl_TrainOk.calls a1 a2_0 a2_1 a2_2 true _ A7.out).mono ?_); rintro e w21 ⟨rfl, hb⟩; replace BK348 := bkb BK348 hb; replace BK349 := bkb BK349 hb; replace BK350 := bkb BK350 hb; replace HB := bst HB hb; clear hb) | (go_at_call 60; (with_reducible refine (impl_packetsOk.calls k a1 _ _ l3 true _ ?side1 ?side2 A9.out).mono ?_); (case side1 => exact qc (Kd.C_below HR3.out HB.out)); (case side2 => exact HC3.out); rintro e w22 ⟨rfl, hb⟩; replace BK348 := bkb BK348 hb; replace BK349 := bkb BK349 hb; replace BK350 := bkb BK350 hb; replace HB := bst HB hb; clear hb; have hcz23_0 := b0 BK348; have hcz23_1 := b1 BK348; have hcz23_2 := b2 BK348; have hfz23_0 := blk_frozen BK348.out 0; have hfz23_1 := blk_frozen BK348.out 1; have hfz23_2 := blk_frozen BK348.out 2; have hcz24_0 := b0 BK349; have hcz24_1 := b1 BK349; have hcz24_2 := b2 BK349; have hfz24_0 := blk_frozen BK349.out 0; have hfz24_1 := blk_frozen BK349.out 1; have hfz24_2 := blk_frozen BK349.out 2) | ((with_reducible refine gate_callee (f := 67) rfl ?_); refine goesLA (some 29) rfl Try.func67 #[.agg #[.int .i64 a0_0, .int .i64 a0_1, .int .i64 a0_2], .int .i64 a1, .agg #[.int .i64 a2_0, .int .i64 a2_1, .int .i64 a2_2], .slice A3 l3.length c3] ?_; (with_reducible refine (impl_trainTick.calls k a0_0 a0_1 a0_2 a1 a2_0 a2_1 a2_2 _ _ l3 t354 t355 t356 t357 t358 t361 _ ?side1 ?side2 A11.out).mono ?_); (case side1 => exact qc (Kd.C_below HR3.out HB.out)); (case side2 => exact HC3.out); rintro e w25 ⟨v359, rfl, ho0, hb⟩; refine ⟨_, rfl, ?_⟩; have HO360 := Aside0.mk (Kd.R_lower ho0 (below_size (qs HB))); replace BK348 := bkb BK348 hb; replace BK349 := bkb BK349 hb; replace BK350 := bkb BK350 hb; replace HB := bst HB hb; clear hb; (try clear ho0); have hcz26_0 := b0 BK350; have hcz26_1 := b1 BK350; have hcz26_2 := b2 BK350; have hcz26_3 := b3 BK350; have hcz26_4 := b4 BK350; have hcz26_5 := b5 BK350; have hfz26_0 := blk_frozen BK350.out 0; have hfz26_1 := blk_frozen BK350.out 1; have hfz26_2 := blk_frozen BK350.out 2; have hfz26_3 := blk_frozen BK350.out 3; have hfz26_4 := blk_frozen BK350.out 4; have hfz26_5 := blk_frozen BK350.out 5; obtain ⟨Ao27, co27, eo27⟩ := Kd.R_slice HO360.out; subst eo27))
    refine bodyPost_ret (results_cell_row rfl _ _ gb350 50 #[.bool t354, .int .i64 t355, .int .i64 t356, .int .i64 t357, .slice Ao27 t358.length co27, .int .i64 t361] (0, 0) _ rfl (by refine qz ?_; refine blk_put (cs := #[.bool t354, .int .i64 t355, .int .i64 t356, .int .i64 t357, .slice Ao27 t358.length co27, .int .i64 0]) ?_ 5 _ rfl; refine qz ?_; refine blk_put (cs := #[.bool t354, .int .i64 t355, .int .i64 t356, .int .i64 t357, .slice none 0 0, .int .i64 0]) ?_ 4 _ rfl; refine qz ?_; refine blk_put (cs := #[.bool t354, .int .i64 t355, .int .i64 t356, .int .i64 0, .slice none 0 0, .int .i64 0]) ?_ 3 _ rfl; refine qz ?_; refine blk_put (cs := #[.bool t354, .int .i64 t355, .int .i64 0, .int .i64 0, .slice none 0 0, .int .i64 0]) ?_ 2 _ rfl; refine qz ?_; refine blk_put (cs := #[.bool t354, .int .i64 0, .int .i64 0, .int .i64 0, .slice none 0 0, .int .i64 0]) ?_ 1 _ rfl; refine qz ?_; refine blk_put (cs := #[.bool false, .int .i64 0, .int .i64 0, .int .i64 0, .slice none 0 0, .int .i64 0]) ?_ 0 _ rfl; refine qz ?_; exact BK350.out) Try.underlying50 rfl (by kernel_rfl)) rfl ?_
    exact ⟨_, by first | rfl | (simp [*, errW_none, errW_some] <;> rfl), by (with_reducible repeat (first | apply Kd.R_alloc | apply Kd.R_drewN | apply Kd.R_drew)); exact Kd.R_mono (Kd.R_far (p := ⟨gb350, 5, none⟩) (Kd.R_far (p := ⟨gb350, 4, none⟩) (Kd.R_far (p := ⟨gb350, 3, none⟩) (Kd.R_far (p := ⟨gb350, 2, none⟩) (Kd.R_far (p := ⟨gb350, 1, none⟩) (Kd.R_far (p := ⟨gb350, 0, none⟩) (Kd.R_types HO360.out BK350.out (by decide)) (fun _ hk => hk.2) (.bool t354)) (fun _ hk => hk.2) (.int .i64 t355)) (fun _ hk => hk.2) (.int .i64 t356)) (fun _ hk => hk.2) (.int .i64 t357)) (fun _ hk => hk.2) (.slice Ao27 t358.length co27)) (fun _ hk => hk.2) (.int .i64 t361)) (fun _ hk => trivial), (qs HB)⟩
   replace c10 := Bool.eq_false_iff.mpr c10
   subst c10
   have H1 : (some (false, 0, 0, 0, ([] : List (S60)), 0)) = some (r1, r2, r3, r4, r5, r6) := by rw [if_neg (show ¬ (false = true) by decide)] at H; exact H
   clear H; have H := H1; clear H1
   simp only [Option.some.injEq, Prod.mk.injEq] at H
   obtain ⟨rfl, rfl, rfl, rfl, rfl, rfl⟩ := H
   go_enter Try.func27, Try.ntmps27
   go_wp2_with (first | ((with_reducible refine gate_dst (N := 4) rfl ?_); refine boxA #[.int .i64 a0_0, .int .i64 a0_1, .int .i64 a0_2] 34 ?_; intro gb348 hg w28 hbox hb; have BK348 := Aside0.mk (hbox); have GW348 := nge HB hg; have GE348 := nge HB hg; replace HB := bst HB hb; clear hb hbox hg) | ((with_reducible refine gate_dst (N := 6) rfl ?_); refine boxA #[.int .i64 a2_0, .int .i64 a2_1, .int .i64 a2_2] 48 ?_; intro gb349 hg w29 hbox hb; have BK349 := Aside0.mk (hbox); have GW349 := nge HB hg; have GE349 := nge HB hg; replace HB := bst HB hb; have NB348_349 := nlt BK348 hg; have NB349_348 := ngt BK348 hg; replace BK348 := bkb BK348 hb; clear hb hbox hg) | ((with_reducible refine gate_dst (N := 8) rfl ?_); refine boxA #[.bool false, .int .i64 0, .int .i64 0, .int .i64 0, .slice none 0 0, .int .i64 0] 50 ?_; intro gb350 hg w30 hbox hb; have BK350 := Aside0.mk (hbox); have GW350 := nge HB hg; have GE350 := nge HB hg; replace HB := bst HB hb; have NB348_350 := nlt BK348 hg; have NB350_348 := ngt BK348 hg; replace BK348 := bkb BK348 hb; have NB349_350 := nlt BK349 hg; have NB350_349 := ngt BK349 hg; replace BK349 := bkb BK349 hb; clear hb hbox hg; have hnb31 := NB348_349.out; have hnc31 := NB349_348.out; have hnb32 := NB348_350.out; have hnc32 := NB350_348.out; have hcz33_0 := b0 BK348; have hcz33_1 := b1 BK348; have hcz33_2 := b2 BK348; have hfz33_0 := blk_frozen BK348.out 0; have hfz33_1 := blk_frozen BK348.out 1; have hfz33_2 := blk_frozen BK348.out 2) | ((with_reducible refine gate_callee (f := 58) rfl ?_); refine goesLA (some 10) rfl Try.func58 #[.agg #[.int .i64 a0_0, .int .i64 a0_1, .int .i64 a0_2]] ?_; (with_reducible refine (impl_RulesOk.calls a0_0 a0_1 a0_2 true _ A5.out).mono ?_); rintro e w34 ⟨rfl, hb⟩; refine ⟨_, rfl, ?_⟩; replace BK348 := bkb BK348 hb; replace BK349 := bkb BK349 hb; replace BK350 := bkb BK350 hb; replace HB := bst HB hb; clear hb; have hnb35 := NB349_350.out; have hnc35 := NB350_349.out; have hcz36_0 := b0 BK349; have hcz36_1 := b1 BK349; have hcz36_2 := b2 BK349; have hfz36_0 := blk_frozen BK349.out 0; have hfz36_1 := blk_frozen BK349.out 1; have hfz36_2 := blk_frozen BK349.out 2) | (go_at_call 66; (with_reducible refine (impl_TrainOk.calls a1 a2_0 a2_1 a2_2 true _ A7.out).mono ?_); rintro e w37 ⟨rfl, hb⟩; replace BK348 := bkb BK348 hb; replace BK349 := bkb BK349 hb; replace BK350 := bkb BK350 hb; replace HB := bst HB hb; clear hb) | (go_at_call 60; (with_reducible refine (impl_packetsOk.calls k a1 _ _ l3 false _ ?side1 ?side2 A9.out).mono ?_); (case side1 => exact qc (Kd.C_below HR3.out HB.out)); (case side2 => exact HC3.out); rintro e w38 ⟨rfl, hb⟩; replace BK348 := bkb BK348 hb; replace BK349 := bkb BK349 hb; replace BK350 := bkb BK350 hb; replace HB := bst HB hb; clear hb; have hcz39_0 := b0 BK350; have hcz39_1 := b1 BK350; have hcz39_2 := b2 BK350; have hcz39_3 := b3 BK350; have hcz39_4 := b4 BK350; have hcz39_5 := b5 BK350; have hfz39_0 := blk_frozen BK350.out 0; have hfz39_1 := blk_frozen BK350.out 1; have hfz39_2 := blk_frozen BK350.out 2; have hfz39_3 := blk_frozen BK350.out 3; have hfz39_4 := blk_frozen BK350.out 4; have hfz39_5 := blk_frozen BK350.out 5))
   refine bodyPost_ret (results_cell_row rfl _ _ gb350 50 #[.bool false, .int .i64 0, .int .i64 0, .int .i64 0, .slice none 0 0, .int .i64 0] (0, 0) _ rfl (by refine qz ?_; refine blk_put (cs := #[.bool false, .int .i64 0, .int .i64 0, .int .i64 0, .slice none 0 0, .int .i64 0]) ?_ 5 _ rfl; refine qz ?_; refine blk_put (cs := #[.bool false, .int .i64 0, .int .i64 0, .int .i64 0, .slice none 0 0, .int .i64 0]) ?_ 4 _ rfl; refine qz ?_; refine blk_put (cs := #[.bool false, .int .i64 0, .int .i64 0, .int .i64 0, .slice none 0 0, .int .i64 0]) ?_ 3 _ rfl; refine qz ?_; refine blk_put (cs := #[.bool false, .int .i64 0, .int .i64 0, .int .i64 0, .slice none 0 0, .int .i64 0]) ?_ 2 _ rfl; refine qz ?_; refine blk_put (cs := #[.bool false, .int .i64 0, .int .i64 0, .int .i64 0, .slice none 0 0, .int .i64 0]) ?_ 1 _ rfl; refine qz ?_; refine blk_put (cs := #[.bool false, .int .i64 0, .int .i64 0, .int .i64 0, .slice none 0 0, .int .i64 0]) ?_ 0 _ rfl; refine qz ?_; exact BK350.out) Try.underlying50 rfl (by kernel_rfl)) rfl ?_
   exact ⟨_, by first | rfl | (simp [*, errW_none, errW_some] <;> rfl), by first | exact Kd.R_nil _ _ _ _ _ | exact Kd.N_nil _ _ _ _ _ | exact Kd.V_nil _ _ _ _ _ | exact Kd.Q_nil _ _ _ _ _ | exact Kd.S_nil _ _ _ _ _, (qs HB)⟩
  replace c8 := Bool.eq_false_iff.mpr c8
  subst c8
  have H1 : (some (false, 0, 0, 0, ([] : List (S60)), 0)) = some (r1, r2, r3, r4, r5, r6) := by rw [if_neg (show ¬ (false = true) by decide)] at H; exact H
  clear H; have H := H1; clear H1
  simp only [Option.some.injEq, Prod.mk.injEq] at H
  obtain ⟨rfl, rfl, rfl, rfl, rfl, rfl⟩ := H
  go_enter Try.func27, Try.ntmps27
  go_wp2_with (first | ((with_reducible refine gate_dst (N := 4) rfl ?_); refine boxA #[.int .i64 a0_0, .int .i64 a0_1, .int .i64 a0_2] 34 ?_; intro gb348 hg w40 hbox hb; have BK348 := Aside0.mk (hbox); have GW348 := nge HB hg; have GE348 := nge HB hg; replace HB := bst HB hb; clear hb hbox hg) | ((with_reducible refine gate_dst (N := 6) rfl ?_); refine boxA #[.int .i64 a2_0, .int .i64 a2_1, .int .i64 a2_2] 48 ?_; intro gb349 hg w41 hbox hb; have BK349 := Aside0.mk (hbox); have GW349 := nge HB hg; have GE349 := nge HB hg; replace HB := bst HB hb; have NB348_349 := nlt BK348 hg; have NB349_348 := ngt BK348 hg; replace BK348 := bkb BK348 hb; clear hb hbox hg) | ((with_reducible refine gate_dst (N := 8) rfl ?_); refine boxA #[.bool false, .int .i64 0, .int .i64 0, .int .i64 0, .slice none 0 0, .int .i64 0] 50 ?_; intro gb350 hg w42 hbox hb; have BK350 := Aside0.mk (hbox); have GW350 := nge HB hg; have GE350 := nge HB hg; replace HB := bst HB hb; have NB348_350 := nlt BK348 hg; have NB350_348 := ngt BK348 hg; replace BK348 := bkb BK348 hb; have NB349_350 := nlt BK349 hg; have NB350_349 := ngt BK349 hg; replace BK349 := bkb BK349 hb; clear hb hbox hg; have hnb43 := NB348_349.out; have hnc43 := NB349_348.out; have hnb44 := NB348_350.out; have hnc44 := NB350_348.out; have hcz45_0 := b0 BK348; have hcz45_1 := b1 BK348; have hcz45_2 := b2 BK348; have hfz45_0 := blk_frozen BK348.out 0; have hfz45_1 := blk_frozen BK348.out 1; have hfz45_2 := blk_frozen BK348.out 2) | ((with_reducible refine gate_callee (f := 58) rfl ?_); refine goesLA (some 10) rfl Try.func58 #[.agg #[.int .i64 a0_0, .int .i64 a0_1, .int .i64 a0_2]] ?_; (with_reducible refine (impl_RulesOk.calls a0_0 a0_1 a0_2 true _ A5.out).mono ?_); rintro e w46 ⟨rfl, hb⟩; refine ⟨_, rfl, ?_⟩; replace BK348 := bkb BK348 hb; replace BK349 := bkb BK349 hb; replace BK350 := bkb BK350 hb; replace HB := bst HB hb; clear hb; have hnb47 := NB349_350.out; have hnc47 := NB350_349.out; have hcz48_0 := b0 BK349; have hcz48_1 := b1 BK349; have hcz48_2 := b2 BK349; have hfz48_0 := blk_frozen BK349.out 0; have hfz48_1 := blk_frozen BK349.out 1; have hfz48_2 := blk_frozen BK349.out 2) | (go_at_call 66; (with_reducible refine (impl_TrainOk.calls a1 a2_0 a2_1 a2_2 false _ A7.out).mono ?_); rintro e w49 ⟨rfl, hb⟩; replace BK348 := bkb BK348 hb; replace BK349 := bkb BK349 hb; replace BK350 := bkb BK350 hb; replace HB := bst HB hb; clear hb; have hcz50_0 := b0 BK350; have hcz50_1 := b1 BK350; have hcz50_2 := b2 BK350; have hcz50_3 := b3 BK350; have hcz50_4 := b4 BK350; have hcz50_5 := b5 BK350; have hfz50_0 := blk_frozen BK350.out 0; have hfz50_1 := blk_frozen BK350.out 1; have hfz50_2 := blk_frozen BK350.out 2; have hfz50_3 := blk_frozen BK350.out 3; have hfz50_4 := blk_frozen BK350.out 4; have hfz50_5 := blk_frozen BK350.out 5))
  refine bodyPost_ret (results_cell_row rfl _ _ gb350 50 #[.bool false, .int .i64 0, .int .i64 0, .int .i64 0, .slice none 0 0, .int .i64 0] (0, 0) _ rfl (by refine qz ?_; refine blk_put (cs := #[.bool false, .int .i64 0, .int .i64 0, .int .i64 0, .slice none 0 0, .int .i64 0]) ?_ 5 _ rfl; refine qz ?_; refine blk_put (cs := #[.bool false, .int .i64 0, .int .i64 0, .int .i64 0, .slice none 0 0, .int .i64 0]) ?_ 4 _ rfl; refine qz ?_; refine blk_put (cs := #[.bool false, .int .i64 0, .int .i64 0, .int .i64 0, .slice none 0 0, .int .i64 0]) ?_ 3 _ rfl; refine qz ?_; refine blk_put (cs := #[.bool false, .int .i64 0, .int .i64 0, .int .i64 0, .slice none 0 0, .int .i64 0]) ?_ 2 _ rfl; refine qz ?_; refine blk_put (cs := #[.bool false, .int .i64 0, .int .i64 0, .int .i64 0, .slice none 0 0, .int .i64 0]) ?_ 1 _ rfl; refine qz ?_; refine blk_put (cs := #[.bool false, .int .i64 0, .int .i64 0, .int .i64 0, .slice none 0 0, .int .i64 0]) ?_ 0 _ rfl; refine qz ?_; exact BK350.out) Try.underlying50 rfl (by kernel_rfl)) rfl ?_
  exact ⟨_, by first | rfl | (simp [*, errW_none, errW_some] <;> rfl), by first | exact Kd.R_nil _ _ _ _ _ | exact Kd.N_nil _ _ _ _ _ | exact Kd.V_nil _ _ _ _ _ | exact Kd.Q_nil _ _ _ _ _ | exact Kd.S_nil _ _ _ _ _, (qs HB)⟩
 replace c6 := Bool.eq_false_iff.mpr c6
 subst c6
 have H1 : (some (false, 0, 0, 0, ([] : List (S60)), 0)) = some (r1, r2, r3, r4, r5, r6) := by rw [if_neg (show ¬ (false = true) by decide)] at H; exact H
 clear H; have H := H1; clear H1
 simp only [Option.some.injEq, Prod.mk.injEq] at H
 obtain ⟨rfl, rfl, rfl, rfl, rfl, rfl⟩ := H
 go_enter Try.func27, Try.ntmps27
 go_wp2_with (first | ((with_reducible refine gate_dst (N := 4) rfl ?_); refine boxA #[.int .i64 a0_0, .int .i64 a0_1, .int .i64 a0_2] 34 ?_; intro gb348 hg w51 hbox hb; have BK348 := Aside0.mk (hbox); have GW348 := nge HB hg; have GE348 := nge HB hg; replace HB := bst HB hb; clear hb hbox hg) | ((with_reducible refine gate_dst (N := 6) rfl ?_); refine boxA #[.int .i64 a2_0, .int .i64 a2_1, .int .i64 a2_2] 48 ?_; intro gb349 hg w52 hbox hb; have BK349 := Aside0.mk (hbox); have GW349 := nge HB hg; have GE349 := nge HB hg; replace HB := bst HB hb; have NB348_349 := nlt BK348 hg; have NB349_348 := ngt BK348 hg; replace BK348 := bkb BK348 hb; clear hb hbox hg) | ((with_reducible refine gate_dst (N := 8) rfl ?_); refine boxA #[.bool false, .int .i64 0, .int .i64 0, .int .i64 0, .slice none 0 0, .int .i64 0] 50 ?_; intro gb350 hg w53 hbox hb; have BK350 := Aside0.mk (hbox); have GW350 := nge HB hg; have GE350 := nge HB hg; replace HB := bst HB hb; have NB348_350 := nlt BK348 hg; have NB350_348 := ngt BK348 hg; replace BK348 := bkb BK348 hb; have NB349_350 := nlt BK349 hg; have NB350_349 := ngt BK349 hg; replace BK349 := bkb BK349 hb; clear hb hbox hg; have hnb54 := NB348_349.out; have hnc54 := NB349_348.out; have hnb55 := NB348_350.out; have hnc55 := NB350_348.out; have hcz56_0 := b0 BK348; have hcz56_1 := b1 BK348; have hcz56_2 := b2 BK348; have hfz56_0 := blk_frozen BK348.out 0; have hfz56_1 := blk_frozen BK348.out 1; have hfz56_2 := blk_frozen BK348.out 2) | ((with_reducible refine gate_callee (f := 58) rfl ?_); refine goesLA (some 10) rfl Try.func58 #[.agg #[.int .i64 a0_0, .int .i64 a0_1, .int .i64 a0_2]] ?_; (with_reducible refine (impl_RulesOk.calls a0_0 a0_1 a0_2 false _ A5.out).mono ?_); rintro e w57 ⟨rfl, hb⟩; refine ⟨_, rfl, ?_⟩; replace BK348 := bkb BK348 hb; replace BK349 := bkb BK349 hb; replace BK350 := bkb BK350 hb; replace HB := bst HB hb; clear hb; have hnb58 := NB350_349.out; have hnc58 := NB349_350.out; have hcz59_0 := b0 BK350; have hcz59_1 := b1 BK350; have hcz59_2 := b2 BK350; have hcz59_3 := b3 BK350; have hcz59_4 := b4 BK350; have hcz59_5 := b5 BK350; have hfz59_0 := blk_frozen BK350.out 0; have hfz59_1 := blk_frozen BK350.out 1; have hfz59_2 := blk_frozen BK350.out 2; have hfz59_3 := blk_frozen BK350.out 3; have hfz59_4 := blk_frozen BK350.out 4; have hfz59_5 := blk_frozen BK350.out 5))
 refine bodyPost_ret (results_cell_row rfl _ _ gb350 50 #[.bool false, .int .i64 0, .int .i64 0, .int .i64 0, .slice none 0 0, .int .i64 0] (0, 0) _ rfl (by refine qz ?_; refine blk_put (cs := #[.bool false, .int .i64 0, .int .i64 0, .int .i64 0, .slice none 0 0, .int .i64 0]) ?_ 5 _ rfl; refine qz ?_; refine blk_put (cs := #[.bool false, .int .i64 0, .int .i64 0, .int .i64 0, .slice none 0 0, .int .i64 0]) ?_ 4 _ rfl; refine qz ?_; refine blk_put (cs := #[.bool false, .int .i64 0, .int .i64 0, .int .i64 0, .slice none 0 0, .int .i64 0]) ?_ 3 _ rfl; refine qz ?_; refine blk_put (cs := #[.bool false, .int .i64 0, .int .i64 0, .int .i64 0, .slice none 0 0, .int .i64 0]) ?_ 2 _ rfl; refine qz ?_; refine blk_put (cs := #[.bool false, .int .i64 0, .int .i64 0, .int .i64 0, .slice none 0 0, .int .i64 0]) ?_ 1 _ rfl; refine qz ?_; refine blk_put (cs := #[.bool false, .int .i64 0, .int .i64 0, .int .i64 0, .slice none 0 0, .int .i64 0]) ?_ 0 _ rfl; refine qz ?_; exact BK350.out) Try.underlying50 rfl (by kernel_rfl)) rfl ?_
 exact ⟨_, by first | rfl | (simp [*, errW_none, errW_some] <;> rfl), by first | exact Kd.R_nil _ _ _ _ _ | exact Kd.N_nil _ _ _ _ _ | exact Kd.V_nil _ _ _ _ _ | exact Kd.Q_nil _ _ _ _ _ | exact Kd.S_nil _ _ _ _ _, (qs HB)⟩
def laws_eqTrain.f (a0_0 : Int) (a0_1 : Int) (a0_2 : Int) (a1_0 : Int) (a1_1 : Int) (a1_2 : Int) : Option (Bool) := if a0_0 = a1_0 then (if a0_1 = a1_1 then (if a0_2 = a1_2 then (some true) else (some false)) else (some false)) else (some false)
set_option maxHeartbeats 8000000 in
set_option maxRecDepth 100000 in
theorem laws_eqTrain.calls (a0_0 : Int) (a0_1 : Int) (a0_2 : Int) (a1_0 : Int) (a1_1 : Int) (a1_2 : Int) (r : Bool) (w : World) (h : laws_eqTrain.f a0_0 a0_1 a0_2 a1_0 a1_1 a1_2 = some r) :
  Calls Try.prog 68 #[.agg #[.int .i64 a0_0, .int .i64 a0_1, .int .i64 a0_2], .agg #[.int .i64 a1_0, .int .i64 a1_1, .int .i64 a1_2]] w fun e w' => e = .returned (.bool r) ∧ Below w.heap.size w w' := by
 have hu48 := Try.underlying48
 have HB := Aside0.mk (Below.refl w.heap.size w)
 have H : (if a0_0 = a1_0 then (if a0_1 = a1_1 then (if a0_2 = a1_2 then (some true) else (some false)) else (some false)) else (some false)) = some r := h
 clear h
 by_cases c3 : a0_0 = a1_0
 ·rw [if_pos c3] at H
  have c3b0 : (a0_0 == a1_0) = true := beq_iff_eq.mpr c3
  have c3b1 : (a0_0 != a1_0) = false := bne_eq_false_iff_eq.mpr c3
  clear c3
  by_cases c4 : a0_1 = a1_1
  ·rw [if_pos c4] at H
   have c4b0 : (a0_1 == a1_1) = true := beq_iff_eq.mpr c4
   have c4b1 : (a0_1 != a1_1) = false := bne_eq_false_iff_eq.mpr c4
   clear c4
   by_cases c5 : a0_2 = a1_2
   ·rw [if_pos c5] at H
    have c5b0 : (a0_2 == a1_2) = true := beq_iff_eq.mpr c5
    have c5b1 : (a0_2 != a1_2) = false := bne_eq_false_iff_eq.mpr c5
    clear c5
    obtain rfl := Option.some.inj H
    go_enter Try.func68, Try.ntmps68
    go_wp2_with (first | ((with_reducible refine gate_dst (N := 2) rfl ?_); refine boxA #[.int .i64 a0_0, .int .i64 a0_1, .int .i64 a0_2] 48 ?_; intro gb362 hg w6 hbox hb; have BK362 := Aside0.mk (hbox); have GW362 := nge HB hg; have GE362 := nge HB hg; replace HB := bst HB hb; clear hb hbox hg) | ((with_reducible refine gate_dst (N := 3) rfl ?_); refine boxA #[.int .i64 a1_0, .int .i64 a1_1, .int .i64 a1_2] 48 ?_; intro gb363 hg w7 hbox hb; have BK363 := Aside0.mk (hbox); have GW363 := nge HB hg; have GE363 := nge HB hg; replace HB := bst HB hb; have NB362_363 := nlt BK362 hg; have NB363_362 := ngt BK362 hg; replace BK362 := bkb BK362 hb; clear hb hbox hg; have hnb8 := NB362_363.out; have hnc8 := NB363_362.out; have hcz9_0 := b0 BK362; have hcz9_1 := b1 BK362; have hcz9_2 := b2 BK362; have hfz9_0 := blk_frozen BK362.out 0; have hfz9_1 := blk_frozen BK362.out 1; have hfz9_2 := blk_frozen BK362.out 2; have hcz10_0 := b0 BK363; have hcz10_1 := b1 BK363; have hcz10_2 := b2 BK363; have hfz10_0 := blk_frozen BK363.out 0; have hfz10_1 := blk_frozen BK363.out 1; have hfz10_2 := blk_frozen BK363.out 2))
    go_ret
    exact ⟨by first | rfl | (simp [*, errW_none, errW_some] <;> rfl), (qs HB)⟩
   rw [if_neg c5] at H
   have c5b0 : (a0_2 == a1_2) = false := beq_eq_false_iff_ne.mpr c5
   have c5b1 : (a0_2 != a1_2) = true := bne_iff_ne.mpr c5
   obtain rfl := Option.some.inj H
   go_enter Try.func68, Try.ntmps68
   go_wp2_with (first | ((with_reducible refine gate_dst (N := 2) rfl ?_); refine boxA #[.int .i64 a0_0, .int .i64 a0_1, .int .i64 a0_2] 48 ?_; intro gb362 hg w11 hbox hb; have BK362 := Aside0.mk (hbox); have GW362 := nge HB hg; have GE362 := nge HB hg; replace HB := bst HB hb; clear hb hbox hg) | ((with_reducible refine gate_dst (N := 3) rfl ?_); refine boxA #[.int .i64 a1_0, .int .i64 a1_1, .int .i64 a1_2] 48 ?_; intro gb363 hg w12 hbox hb; have BK363 := Aside0.mk (hbox); have GW363 := nge HB hg; have GE363 := nge HB hg; replace HB := bst HB hb; have NB362_363 := nlt BK362 hg; have NB363_362 := ngt BK362 hg; replace BK362 := bkb BK362 hb; clear hb hbox hg; have hnb13 := NB362_363.out; have hnc13 := NB363_362.out; have hcz14_0 := b0 BK362; have hcz14_1 := b1 BK362; have hcz14_2 := b2 BK362; have hfz14_0 := blk_frozen BK362.out 0; have hfz14_1 := blk_frozen BK362.out 1; have hfz14_2 := blk_frozen BK362.out 2; have hcz15_0 := b0 BK363; have hcz15_1 := b1 BK363; have hcz15_2 := b2 BK363; have hfz15_0 := blk_frozen BK363.out 0; have hfz15_1 := blk_frozen BK363.out 1; have hfz15_2 := blk_frozen BK363.out 2))
   go_ret
   exact ⟨by first | rfl | (simp [*, errW_none, errW_some] <;> rfl), (qs HB)⟩
  rw [if_neg c4] at H
  have c4b0 : (a0_1 == a1_1) = false := beq_eq_false_iff_ne.mpr c4
  have c4b1 : (a0_1 != a1_1) = true := bne_iff_ne.mpr c4
  obtain rfl := Option.some.inj H
  go_enter Try.func68, Try.ntmps68
  go_wp2_with (first | ((with_reducible refine gate_dst (N := 2) rfl ?_); refine boxA #[.int .i64 a0_0, .int .i64 a0_1, .int .i64 a0_2] 48 ?_; intro gb362 hg w16 hbox hb; have BK362 := Aside0.mk (hbox); have GW362 := nge HB hg; have GE362 := nge HB hg; replace HB := bst HB hb; clear hb hbox hg) | ((with_reducible refine gate_dst (N := 3) rfl ?_); refine boxA #[.int .i64 a1_0, .int .i64 a1_1, .int .i64 a1_2] 48 ?_; intro gb363 hg w17 hbox hb; have BK363 := Aside0.mk (hbox); have GW363 := nge HB hg; have GE363 := nge HB hg; replace HB := bst HB hb; have NB362_363 := nlt BK362 hg; have NB363_362 := ngt BK362 hg; replace BK362 := bkb BK362 hb; clear hb hbox hg; have hnb18 := NB362_363.out; have hnc18 := NB363_362.out; have hcz19_0 := b0 BK362; have hcz19_1 := b1 BK362; have hcz19_2 := b2 BK362; have hfz19_0 := blk_frozen BK362.out 0; have hfz19_1 := blk_frozen BK362.out 1; have hfz19_2 := blk_frozen BK362.out 2; have hcz20_0 := b0 BK363; have hcz20_1 := b1 BK363; have hcz20_2 := b2 BK363; have hfz20_0 := blk_frozen BK363.out 0; have hfz20_1 := blk_frozen BK363.out 1; have hfz20_2 := blk_frozen BK363.out 2))
  go_ret
  exact ⟨by first | rfl | (simp [*, errW_none, errW_some] <;> rfl), (qs HB)⟩
 rw [if_neg c3] at H
 have c3b0 : (a0_0 == a1_0) = false := beq_eq_false_iff_ne.mpr c3
 have c3b1 : (a0_0 != a1_0) = true := bne_iff_ne.mpr c3
 obtain rfl := Option.some.inj H
 go_enter Try.func68, Try.ntmps68
 go_wp2_with (first | ((with_reducible refine gate_dst (N := 2) rfl ?_); refine boxA #[.int .i64 a0_0, .int .i64 a0_1, .int .i64 a0_2] 48 ?_; intro gb362 hg w21 hbox hb; have BK362 := Aside0.mk (hbox); have GW362 := nge HB hg; have GE362 := nge HB hg; replace HB := bst HB hb; clear hb hbox hg) | ((with_reducible refine gate_dst (N := 3) rfl ?_); refine boxA #[.int .i64 a1_0, .int .i64 a1_1, .int .i64 a1_2] 48 ?_; intro gb363 hg w22 hbox hb; have BK363 := Aside0.mk (hbox); have GW363 := nge HB hg; have GE363 := nge HB hg; replace HB := bst HB hb; have NB362_363 := nlt BK362 hg; have NB363_362 := ngt BK362 hg; replace BK362 := bkb BK362 hb; clear hb hbox hg; have hnb23 := NB362_363.out; have hnc23 := NB363_362.out; have hcz24_0 := b0 BK362; have hcz24_1 := b1 BK362; have hcz24_2 := b2 BK362; have hfz24_0 := blk_frozen BK362.out 0; have hfz24_1 := blk_frozen BK362.out 1; have hfz24_2 := blk_frozen BK362.out 2; have hcz25_0 := b0 BK363; have hcz25_1 := b1 BK363; have hcz25_2 := b2 BK363; have hfz25_0 := blk_frozen BK363.out 0; have hfz25_1 := blk_frozen BK363.out 1; have hfz25_2 := blk_frozen BK363.out 2))
 go_ret
 exact ⟨by first | rfl | (simp [*, errW_none, errW_some] <;> rfl), (qs HB)⟩
end Go.Proofs.Ytndffnacbfdnoaa.PAll
