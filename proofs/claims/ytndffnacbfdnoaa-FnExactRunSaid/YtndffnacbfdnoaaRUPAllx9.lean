-- Lines of PAllx9 that this claim uses.
import Derived.Test.YtndffnacbfdnoaaRUSqd
import Derived.Test.YtndffnacbfdnoaaRUSq
import Derived.Test.YtndffnacbfdnoaaRUPAllx0
import Derived.Test.YtndffnacbfdnoaaRUPAllx8
namespace Go.Proofs.Ytndffnacbfdnoaa.PAll
open Go.RowKit Go.Proofs.YtndffnacbfdnoaaW.PrintWords Go.Proofs.YtndffnacbfdnoaaW.PrintLast Go.Proofs.YtndffnacbfdnoaaW.PrintMore
attribute [local go_sem] max2_int min2_int max_two min_two max_three min_three max_four min_four
set_option linter.unusedVariables false
set_option linter.unusedSimpArgs false
def laws_eqPacketS.T6 : Bool × List (List Nat × List Nat) := (true, [([], []), ([], []), ([0, 1], [0, 1]), ([2], [2]), ([], []), ([], []), ([4, 5], [4, 5]), ([6], [6]), ([3, 7], [3, 7]), ([8], [8])])
def laws_eqPacketS.B6 : List Nat := [0, 0, 3, 7, 0, 0, 48, 112, 255, 511]
theorem laws_eqPacketS.tab6 : rtab .any (opsOf Try.f20 6) = laws_eqPacketS.T6 := by kernel_rfl
theorem laws_eqPacketS.bits6 : waitsOk laws_eqPacketS.T6.2 laws_eqPacketS.B6 = true := by kernel_rfl
def laws_eqBox.f (a0_0 : Int) (a0_1 : Int) (a0_2 : Int) (a0_3 : Int) (a0_4 : Int) (a1_0 : Int) (a1_1 : Int) (a1_2 : Int) (a1_3 : Int) (a1_4 : Int) : Option (Bool) := if a0_0 = a1_0 then (if a0_1 = a1_1 then (if a0_2 = a1_2 then (if a0_3 = a1_3 then (if a0_4 = a1_4 then (some true) else (some false)) else (some false)) else (some false)) else (some false)) else (some false)
set_option maxHeartbeats 8000000 in
set_option maxRecDepth 100000 in
theorem laws_eqBox.calls (a0_0 : Int) (a0_1 : Int) (a0_2 : Int) (a0_3 : Int) (a0_4 : Int) (a1_0 : Int) (a1_1 : Int) (a1_2 : Int) (a1_3 : Int) (a1_4 : Int) (r : Bool) (w : World) (h : laws_eqBox.f a0_0 a0_1 a0_2 a0_3 a0_4 a1_0 a1_1 a1_2 a1_3 a1_4 = some r) :
  Calls Try.prog 62 #[.agg #[.int .i64 a0_0, .int .i64 a0_1, .int .i64 a0_2, .int .i64 a0_3, .int .i64 a0_4], .agg #[.int .i64 a1_0, .int .i64 a1_1, .int .i64 a1_2, .int .i64 a1_3, .int .i64 a1_4]] w fun e w' => e = .returned (.bool r) ∧ Below w.heap.size w w' := by
 have hu29 := Try.underlying29
 have HB := Aside0.mk (Below.refl w.heap.size w)
 have H : (if a0_0 = a1_0 then (if a0_1 = a1_1 then (if a0_2 = a1_2 then (if a0_3 = a1_3 then (if a0_4 = a1_4 then (some true) else (some false)) else (some false)) else (some false)) else (some false)) else (some false)) = some r := h
 clear h
 by_cases c3 : a0_0 = a1_0
 ·rw [if_pos c3] at H
  have c3b0 : (a0_0 == a1_0) = true := beq_iff_eq.mpr c3
  have c3b1 : (a0_0 != a1_0) = false := bne_eq_false_iff_eq.mpr c3
  clear c3
  by_cases c4 : a0_1 = a1_1
  ·rw [if_pos c4] at H
   have c4b0 : (a0_1 == a1_1) = true := beq_iff_eq.mpr c4
   have c4b1 : (a0_1 != a1_1) = false := bne_eq_false_iff_eq.mpr c4
   clear c4
   by_cases c5 : a0_2 = a1_2
   ·rw [if_pos c5] at H
    have c5b0 : (a0_2 == a1_2) = true := beq_iff_eq.mpr c5
    have c5b1 : (a0_2 != a1_2) = false := bne_eq_false_iff_eq.mpr c5
    clear c5
    by_cases c6 : a0_3 = a1_3
    ·rw [if_pos c6] at H
     have c6b0 : (a0_3 == a1_3) = true := beq_iff_eq.mpr c6
     have c6b1 : (a0_3 != a1_3) = false := bne_eq_false_iff_eq.mpr c6
     clear c6
     by_cases c7 : a0_4 = a1_4
     ·rw [if_pos c7] at H
      have c7b0 : (a0_4 == a1_4) = true := beq_iff_eq.mpr c7
      have c7b1 : (a0_4 != a1_4) = false := bne_eq_false_iff_eq.mpr c7
      clear c7
      obtain rfl := Option.some.inj H
      go_enter Try.func62, Try.ntmps62
      go_wp2_with (first | ((with_reducible refine gate_dst (N := 2) rfl ?_); refine boxA #[.int .i64 a0_0, .int .i64 a0_1, .int .i64 a0_2, .int .i64 a0_3, .int .i64 a0_4] 29 ?_; intro gb200 hg w8 hbox hb; have BK200 := Aside0.mk (hbox); have GW200 := nge HB hg; have GE200 := nge HB hg; replace HB := bst HB hb; clear hb hbox hg) | ((with_reducible refine gate_dst (N := 3) rfl ?_); refine boxA #[.int .i64 a1_0, .int .i64 a1_1, .int .i64 a1_2, .int .i64 a1_3, .int .i64 a1_4] 29 ?_; intro gb201 hg w9 hbox hb; have BK201 := Aside0.mk (hbox); have GW201 := nge HB hg; have GE201 := nge HB hg; replace HB := bst HB hb; have NB200_201 := nlt BK200 hg; have NB201_200 := ngt BK200 hg; replace BK200 := bkb BK200 hb; clear hb hbox hg; have hnb10 := NB200_201.out; have hnc10 := NB201_200.out; have hcz11_0 := b0 BK200; have hcz11_1 := b1 BK200; have hcz11_2 := b2 BK200; have hcz11_3 := b3 BK200; have hcz11_4 := b4 BK200; have hfz11_0 := blk_frozen BK200.out 0; have hfz11_1 := blk_frozen BK200.out 1; have hfz11_2 := blk_frozen BK200.out 2; have hfz11_3 := blk_frozen BK200.out 3; have hfz11_4 := blk_frozen BK200.out 4; have hcz12_0 := b0 BK201; have hcz12_1 := b1 BK201; have hcz12_2 := b2 BK201; have hcz12_3 := b3 BK201; have hcz12_4 := b4 BK201; have hfz12_0 := blk_frozen BK201.out 0; have hfz12_1 := blk_frozen BK201.out 1; have hfz12_2 := blk_frozen BK201.out 2; have hfz12_3 := blk_frozen BK201.out 3; have hfz12_4 := blk_frozen BK201.out 4))
      go_ret
      exact ⟨by first | rfl | (simp [*, errW_none, errW_some] <;> rfl), (qs HB)⟩
     rw [if_neg c7] at H
     have c7b0 : (a0_4 == a1_4) = false := beq_eq_false_iff_ne.mpr c7
     have c7b1 : (a0_4 != a1_4) = true := bne_iff_ne.mpr c7
     obtain rfl := Option.some.inj H
     go_enter Try.func62, Try.ntmps62
     go_wp2_with (first | ((with_reducible refine gate_dst (N := 2) rfl ?_); refine boxA #[.int .i64 a0_0, .int .i64 a0_1, .int .i64 a0_2, .int .i64 a0_3, .int .i64 a0_4] 29 ?_; intro gb200 hg w13 hbox hb; have BK200 := Aside0.mk (hbox); have GW200 := nge HB hg; have GE200 := nge HB hg; replace HB := bst HB hb; clear hb hbox hg) | ((with_reducible refine gate_dst (N := 3) rfl ?_); refine boxA #[.int .i64 a1_0, .int .i64 a1_1, .int .i64 a1_2, .int .i64 a1_3, .int .i64 a1_4] 29 ?_; intro gb201 hg w14 hbox hb; have BK201 := Aside0.mk (hbox); have GW201 := nge HB hg; have GE201 := nge HB hg; replace HB := bst HB hb; have NB200_201 := nlt BK200 hg; have NB201_200 := ngt BK200 hg; replace BK200 := bkb BK200 hb; clear hb hbox hg; have hnb15 := NB200_201.out; have hnc15 := NB201_200.out; have hcz16_0 := b0 BK200; have hcz16_1 := b1 BK200; have hcz16_2 := b2 BK200; have hcz16_3 := b3 BK200; have hcz16_4 := b4 BK200; have hfz16_0 := blk_frozen BK200.out 0; have hfz16_1 := blk_frozen BK200.out 1; have hfz16_2 := blk_frozen BK200.out 2; have hfz16_3 := blk_frozen BK200.out 3; have hfz16_4 := blk_frozen BK200.out 4; have hcz17_0 := b0 BK201; have hcz17_1 := b1 BK201; have hcz17_2 := b2 BK201; have hcz17_3 := b3 BK201; have hcz17_4 := b4 BK201; have hfz17_0 := blk_frozen BK201.out 0; have hfz17_1 := blk_frozen BK201.out 1; have hfz17_2 := blk_frozen BK201.out 2; have hfz17_3 := blk_frozen BK201.out 3; have hfz17_4 := blk_frozen BK201.out 4))
     go_ret
     exact ⟨by first | rfl | (simp [*, errW_none, errW_some] <;> rfl), (qs HB)⟩
    rw [if_neg c6] at H
    have c6b0 : (a0_3 == a1_3) = false := beq_eq_false_iff_ne.mpr c6
    have c6b1 : (a0_3 != a1_3) = true := bne_iff_ne.mpr c6
    obtain rfl := Option.some.inj H
    go_enter Try.func62, Try.ntmps62
    go_wp2_with (first | ((with_reducible refine gate_dst (N := 2) rfl ?_); refine boxA #[.int .i64 a0_0, .int .i64 a0_1, .int .i64 a0_2, .int .i64 a0_3, .int .i64 a0_4] 29 ?_; intro gb200 hg w18 hbox hb; have BK200 := Aside0.mk (hbox); have GW200 := nge HB hg; have GE200 := nge HB hg; replace HB := bst HB hb; clear hb hbox hg) | ((with_reducible refine gate_dst (N := 3) rfl ?_); refine boxA #[.int .i64 a1_0, .int .i64 a1_1, .int .i64 a1_2, .int .i64 a1_3, .int .i64 a1_4] 29 ?_; intro gb201 hg w19 hbox hb; have BK201 := Aside0.mk (hbox); have GW201 := nge HB hg; have GE201 := nge HB hg; replace HB := bst HB hb; have NB200_201 := nlt BK200 hg; have NB201_200 := ngt BK200 hg; replace BK200 := bkb BK200 hb; clear hb hbox hg; have hnb20 := NB200_201.out; have hnc20 := NB201_200.out; have hcz21_0 := b0 BK200; have hcz21_1 := b1 BK200; have hcz21_2 := b2 BK200; have hcz21_3 := b3 BK200; have hcz21_4 := b4 BK200; have hfz21_0 := blk_frozen BK200.out 0; have hfz21_1 := blk_frozen BK200.out 1; have hfz21_2 := blk_frozen BK200.out 2; have hfz21_3 := blk_frozen BK200.out 3; have hfz21_4 := blk_frozen BK200.out 4; have hcz22_0 := b0 BK201; have hcz22_1 := b1 BK201; have hcz22_2 := b2 BK201; have hcz22_3 := b3 BK201; have hcz22_4 := b4 BK201; have hfz22_0 := blk_frozen BK201.out 0; have hfz22_1 := blk_frozen BK201.out 1; have hfz22_2 := blk_frozen BK201.out 2; have hfz22_3 := blk_frozen BK201.out 3; have hfz22_4 := blk_frozen BK201.out 4))
    go_ret
    exact ⟨by first | rfl | (simp [*, errW_none, errW_some] <;> rfl), (qs HB)⟩
   rw [if_neg c5] at H
   have c5b0 : (a0_2 == a1_2) = false := beq_eq_false_iff_ne.mpr c5
   have c5b1 : (a0_2 != a1_2) = true := bne_iff_ne.mpr c5
   obtain rfl := Option.some.inj H
   go_enter Try.func62, Try.ntmps62
   go_wp2_with (first | ((with_reducible refine gate_dst (N := 2) rfl ?_); refine boxA #[.int .i64 a0_0, .int .i64 a0_1, .int .i64 a0_2, .int .i64 a0_3, .int .i64 a0_4] 29 ?_; intro gb200 hg w23 hbox hb; have BK200 := Aside0.mk (hbox); have GW200 := nge HB hg; have GE200 := nge HB hg; replace HB := bst HB hb; clear hb hbox hg) | ((with_reducible refine gate_dst (N := 3) rfl ?_); refine boxA #[.int .i64 a1_0, .int .i64 a1_1, .int .i64 a1_2, .int .i64 a1_3, .int .i64 a1_4] 29 ?_; intro gb201 hg w24 hbox hb; have BK201 := Aside0.mk (hbox); have GW201 := nge HB hg; have GE201 := nge HB hg; replace HB := bst HB hb; have NB200_201 := nlt BK200 hg; have NB201_200 := ngt BK200 hg; replace BK200 := bkb BK200 hb; clear hb hbox hg; have hnb25 := NB200_201.out; have hnc25 := NB201_200.out; have hcz26_0 := b0 BK200; have hcz26_1 := b1 BK200; have hcz26_2 := b2 BK200; have hcz26_3 := b3 BK200; have hcz26_4 := b4 BK200; have hfz26_0 := blk_frozen BK200.out 0; have hfz26_1 := blk_frozen BK200.out 1; have hfz26_2 := blk_frozen BK200.out 2; have hfz26_3 := blk_frozen BK200.out 3; have hfz26_4 := blk_frozen BK200.out 4; have hcz27_0 := b0 BK201; have hcz27_1 := b1 BK201; have hcz27_2 := b2 BK201; have hcz27_3 := b3 BK201; have hcz27_4 := b4 BK201; have hfz27_0 := blk_frozen BK201.out 0; have hfz27_1 := blk_frozen BK201.out 1; have hfz27_2 := blk_frozen BK201.out 2; have hfz27_3 := blk_frozen BK201.out 3; have hfz27_4 := blk_frozen BK201.out 4))
   go_ret
   exact ⟨by first | rfl | (simp [*, errW_none, errW_some] <;> rfl), (qs HB)⟩
  rw [if_neg c4] at H
  have c4b0 : (a0_1 == a1_1) = false := beq_eq_false_iff_ne.mpr c4
  have c4b1 : (a0_1 != a1_1) = true := bne_iff_ne.mpr c4
  obtain rfl := Option.some.inj H
  go_enter Try.func62, Try.ntmps62
  go_wp2_with (first | ((with_reducible refine gate_dst (N := 2) rfl ?_); refine boxA #[.int .i64 a0_0, .int .i64 a0_1, .int .i64 a0_2, .int .i64 a0_3, .int .i64 a0_4] 29 ?_; intro gb200 hg w28 hbox hb; have BK200 := Aside0.mk (hbox); have GW200 := nge HB hg; have GE200 := nge HB hg; replace HB := bst HB hb; clear hb hbox hg) | ((with_reducible refine gate_dst (N := 3) rfl ?_); refine boxA #[.int .i64 a1_0, .int .i64 a1_1, .int .i64 a1_2, .int .i64 a1_3, .int .i64 a1_4] 29 ?_; intro gb201 hg w29 hbox hb; have BK201 := Aside0.mk (hbox); have GW201 := nge HB hg; have GE201 := nge HB hg; replace HB := bst HB hb; have NB200_201 := nlt BK200 hg; have NB201_200 := ngt BK200 hg; replace BK200 := bkb BK200 hb; clear hb hbox hg; have hnb30 := NB200_201.out; have hnc30 := NB201_200.out; have hcz31_0 := b0 BK200; have hcz31_1 := b1 BK200; have hcz31_2 := b2 BK200; have hcz31_3 := b3 BK200; have hcz31_4 := b4 BK200; have hfz31_0 := blk_frozen BK200.out 0; have hfz31_1 := blk_frozen BK200.out 1; have hfz31_2 := blk_frozen BK200.out 2; have hfz31_3 := blk_frozen BK200.out 3; have hfz31_4 := blk_frozen BK200.out 4; have hcz32_0 := b0 BK201; have hcz32_1 := b1 BK201; have hcz32_2 := b2 BK201; have hcz32_3 := b3 BK201; have hcz32_4 := b4 BK201; have hfz32_0 := blk_frozen BK201.out 0; have hfz32_1 := blk_frozen BK201.out 1; have hfz32_2 := blk_frozen BK201.out 2; have hfz32_3 := blk_frozen BK201.out 3; have hfz32_4 := blk_frozen BK201.out 4))
  go_ret
  exact ⟨by first | rfl | (simp [*, errW_none, errW_some] <;> rfl), (qs HB)⟩
 rw [if_neg c3] at H
 have c3b0 : (a0_0 == a1_0) = false := beq_eq_false_iff_ne.mpr c3
 have c3b1 : (a0_0 != a1_0) = true := bne_iff_ne.mpr c3
 obtain rfl := Option.some.inj H
 go_enter Try.func62, Try.ntmps62
 go_wp2_with (first | ((with_reducible refine gate_dst (N := 2) rfl ?_); refine boxA #[.int .i64 a0_0, .int .i64 a0_1, .int .i64 a0_2, .int .i64 a0_3, .int .i64 a0_4] 29 ?_; intro gb200 hg w33 hbox hb; have BK200 := Aside0.mk (hbox); have GW200 := nge HB hg; have GE200 := nge HB hg; replace HB := bst HB hb; clear hb hbox hg) | ((with_reducible refine gate_dst (N := 3) rfl ?_); refine boxA #[.int .i64 a1_0, .int .i64 a1_1, .int .i64 a1_2, .int .i64 a1_3, .int .i64 a1_4] 29 ?_; intro gb201 hg w34 hbox hb; have BK201 := Aside0.mk (hbox); have GW201 := nge HB hg; have GE201 := nge HB hg; replace HB := bst HB hb; have NB200_201 := nlt BK200 hg; have NB201_200 := ngt BK200 hg; replace BK200 := bkb BK200 hb; clear hb hbox hg; have hnb35 := NB200_201.out; have hnc35 := NB201_200.out; have hcz36_0 := b0 BK200; have hcz36_1 := b1 BK200; have hcz36_2 := b2 BK200; have hcz36_3 := b3 BK200; have hcz36_4 := b4 BK200; have hfz36_0 := blk_frozen BK200.out 0; have hfz36_1 := blk_frozen BK200.out 1; have hfz36_2 := blk_frozen BK200.out 2; have hfz36_3 := blk_frozen BK200.out 3; have hfz36_4 := blk_frozen BK200.out 4; have hcz37_0 := b0 BK201; have hcz37_1 := b1 BK201; have hcz37_2 := b2 BK201; have hcz37_3 := b3 BK201; have hcz37_4 := b4 BK201; have hfz37_0 := blk_frozen BK201.out 0; have hfz37_1 := blk_frozen BK201.out 1; have hfz37_2 := blk_frozen BK201.out 2; have hfz37_3 := blk_frozen BK201.out 3; have hfz37_4 := blk_frozen BK201.out 4))
 go_ret
 exact ⟨by first | rfl | (simp [*, errW_none, errW_some] <;> rfl), (qs HB)⟩
end Go.Proofs.Ytndffnacbfdnoaa.PAll
