-- Lines of PAllx25 that this claim uses.
import Derived.Test.YtndffnacbfdnoaaRUSqd
import Derived.Test.YtndffnacbfdnoaaRUSq
import Derived.Test.YtndffnacbfdnoaaRUPAllx0
namespace Go.Proofs.Ytndffnacbfdnoaa.PAll
open Go.RowKit Go.Proofs.YtndffnacbfdnoaaW.PrintWords Go.Proofs.YtndffnacbfdnoaaW.PrintLast Go.Proofs.YtndffnacbfdnoaaW.PrintMore
attribute [local go_sem] max2_int min2_int max_two min_two max_three min_three max_four min_four
set_option linter.unusedVariables false
set_option linter.unusedSimpArgs false
def laws_heldMomentS.l0 : Nat → List (S86) → Int → Int → Option (Int)
 | 0, _, _, _ => none
 | k + 1, x0, x1, x5 => if x5 < (x0.length : Int) then (if 0 ≤ x5 then (if ((rd_T86 x0 x5).f0.f0) = x1 then (if ((rd_T86 x0 x5).f0.f1) = (wrap64 (x1 + 1)) then (if ((rd_T86 x0 x5).f0.f2) = (wrap64 ((wrap64 (x1 + 1)) + 1)) then (if ((rd_T86 x0 x5).f0.f3) = (wrap64 ((wrap64 ((wrap64 (x1 + 1)) + 1)) + 1)) then (if ((rd_T86 x0 x5).f0.f4) = (wrap64 ((wrap64 ((wrap64 ((wrap64 (x1 + 1)) + 1)) + 1)) + 1)) then (if ((rd_T86 x0 x5).f1.f0) = (wrap64 ((wrap64 ((wrap64 ((wrap64 ((wrap64 (x1 + 1)) + 1)) + 1)) + 1)) + 1)) then (if ((rd_T86 x0 x5).f1.f1) = (wrap64 ((wrap64 ((wrap64 ((wrap64 ((wrap64 ((wrap64 (x1 + 1)) + 1)) + 1)) + 1)) + 1)) + 1)) then (if ((rd_T86 x0 x5).f1.f2) = (wrap64 ((wrap64 ((wrap64 ((wrap64 ((wrap64 ((wrap64 ((wrap64 (x1 + 1)) + 1)) + 1)) + 1)) + 1)) + 1)) + 1)) then (if ((rd_T86 x0 x5).f2) = (wrap64 ((wrap64 ((wrap64 ((wrap64 ((wrap64 ((wrap64 ((wrap64 ((wrap64 (x1 + 1)) + 1)) + 1)) + 1)) + 1)) + 1)) + 1)) + 1)) then (if ((rd_T86 x0 x5).f3) = (wrap64 ((wrap64 ((wrap64 ((wrap64 ((wrap64 ((wrap64 ((wrap64 ((wrap64 ((wrap64 (x1 + 1)) + 1)) + 1)) + 1)) + 1)) + 1)) + 1)) + 1)) + 1)) then (laws_heldMomentS.l0 k x0 (wrap64 ((wrap64 ((wrap64 ((wrap64 ((wrap64 ((wrap64 ((wrap64 ((wrap64 ((wrap64 ((wrap64 (x1 + 1)) + 1)) + 1)) + 1)) + 1)) + 1)) + 1)) + 1)) + 1)) + 1)) (wrap64 (x5 + 1))) else (some (-1))) else (some (-1))) else (some (-1))) else (some (-1))) else (some (-1))) else (some (-1))) else (some (-1))) else (some (-1))) else (some (-1))) else (some (-1))) else (none)) else (some x1)
def laws_heldMomentS.f (k : Nat) (l0 : List (S86)) (a1 : Int) : Option (Int) := laws_heldMomentS.l0 k l0 a1 0
set_option maxHeartbeats 8000000 in
set_option maxRecDepth 100000 in
theorem laws_heldMomentS.calls (k : Nat) (A0 : Option Addr) (c0 : Nat) (l0 : List (S86)) (a1 : Int) (r : Int) (w : World) (hr0 : Kd.C k86 w A0 l0.length l0) (hc0 : l0.length ≤ c0) (h : laws_heldMomentS.f k l0 a1 = some r) :
  Calls Try.prog 45 #[.slice A0 l0.length c0, .int .i64 a1] w fun e w' => e = .returned (.int .i64 r) ∧ Drawn0 w w' := by
 have HR0 := Aside0.mk hr0
 have HC0 := Aside0.mk hc0
 clear hr0 hc0
 have H : (laws_heldMomentS.l0 k l0 a1 0) = some r := h
 clear h
 have H' := Aside0.mk H
 clear H
 go_enter Try.func45, Try.ntmps45
 go_wp2
 go_loopg [1, 5] k (fun kq v1 v5 w' => ∃ (x1_1 : Int) (x5_1 : Int), v1 = .int .i64 x1_1 ∧ v5 = .int .i64 x5_1 ∧ Aside0 (laws_heldMomentS.l0 kq l0 x1_1 x5_1 = some r) ∧ Aside0 (kq ≤ k) ∧ Drawn0 w w')
 case atStart => exact ⟨(a1), (0), (by first | rfl | (simp; done) | (simp [*]; done)), (by first | rfl | (simp; done) | (simp [*]; done)), H', ⟨Nat.le_refl _⟩, by repeat (first | exact Drawn0.refl _ | apply Drawn0.step)⟩
 case round =>
  clear H'
  try clear p2
  obtain ⟨x1_1, x5_1, rfl, rfl, HA, HK1, ⟨m1, rfl⟩⟩ := hrel
  cases gk with
  | zero => exact absurd HA.out (by simp [laws_heldMomentS.l0])
  | succ k1 =>
   have H := HA.out
   clear HA
   simp only [laws_heldMomentS.l0] at H
   by_cases c3 : x5_1 < (l0.length : Int)
   ·rw [if_pos c3] at H
    have c3b0 : decide (x5_1 < (l0.length : Int)) = true := decide_eq_true c3
    clear c3
    by_cases c4 : 0 ≤ x5_1
    ·rw [if_pos c4] at H
     have c4b0 : decide (0 ≤ x5_1) = true := decide_eq_true c4
     clear c4
     by_cases c5 : ((rd_T86 l0 x5_1).f0.f0) = x1_1
     ·rw [if_pos c5] at H
      have c5b0 : (((rd_T86 l0 x5_1).f0.f0) == x1_1) = true := beq_iff_eq.mpr c5
      have c5b1 : (((rd_T86 l0 x5_1).f0.f0) != x1_1) = false := bne_eq_false_iff_eq.mpr c5
      clear c5
      by_cases c6 : ((rd_T86 l0 x5_1).f0.f1) = (wrap64 (x1_1 + 1))
      ·rw [if_pos c6] at H
       have c6b0 : (((rd_T86 l0 x5_1).f0.f1) == (wrap64 (x1_1 + 1))) = true := beq_iff_eq.mpr c6
       have c6b1 : (((rd_T86 l0 x5_1).f0.f1) != (wrap64 (x1_1 + 1))) = false := bne_eq_false_iff_eq.mpr c6
       clear c6
       by_cases c7 : ((rd_T86 l0 x5_1).f0.f2) = (wrap64 ((wrap64 (x1_1 + 1)) + 1))
       ·rw [if_pos c7] at H
        have c7b0 : (((rd_T86 l0 x5_1).f0.f2) == (wrap64 ((wrap64 (x1_1 + 1)) + 1))) = true := beq_iff_eq.mpr c7
        have c7b1 : (((rd_T86 l0 x5_1).f0.f2) != (wrap64 ((wrap64 (x1_1 + 1)) + 1))) = false := bne_eq_false_iff_eq.mpr c7
        clear c7
        by_cases c8 : ((rd_T86 l0 x5_1).f0.f3) = (wrap64 ((wrap64 ((wrap64 (x1_1 + 1)) + 1)) + 1))
        ·rw [if_pos c8] at H
         have c8b0 : (((rd_T86 l0 x5_1).f0.f3) == (wrap64 ((wrap64 ((wrap64 (x1_1 + 1)) + 1)) + 1))) = true := beq_iff_eq.mpr c8
         have c8b1 : (((rd_T86 l0 x5_1).f0.f3) != (wrap64 ((wrap64 ((wrap64 (x1_1 + 1)) + 1)) + 1))) = false := bne_eq_false_iff_eq.mpr c8
         clear c8
         by_cases c9 : ((rd_T86 l0 x5_1).f0.f4) = (wrap64 ((wrap64 ((wrap64 ((wrap64 (x1_1 + 1)) + 1)) + 1)) + 1))
         ·rw [if_pos c9] at H
          have c9b0 : (((rd_T86 l0 x5_1).f0.f4) == (wrap64 ((wrap64 ((wrap64 ((wrap64 (x1_1 + 1)) + 1)) + 1)) + 1))) = true := beq_iff_eq.mpr c9
          have c9b1 : (((rd_T86 l0 x5_1).f0.f4) != (wrap64 ((wrap64 ((wrap64 ((wrap64 (x1_1 + 1)) + 1)) + 1)) + 1))) = false := bne_eq_false_iff_eq.mpr c9
          clear c9
          by_cases c10 : ((rd_T86 l0 x5_1).f1.f0) = (wrap64 ((wrap64 ((wrap64 ((wrap64 ((wrap64 (x1_1 + 1)) + 1)) + 1)) + 1)) + 1))
          ·rw [if_pos c10] at H
           have c10b0 : (((rd_T86 l0 x5_1).f1.f0) == (wrap64 ((wrap64 ((wrap64 ((wrap64 ((wrap64 (x1_1 + 1)) + 1)) + 1)) + 1)) + 1))) = true := beq_iff_eq.mpr c10
           have c10b1 : (((rd_T86 l0 x5_1).f1.f0) != (wrap64 ((wrap64 ((wrap64 ((wrap64 ((wrap64 (x1_1 + 1)) + 1)) + 1)) + 1)) + 1))) = false := bne_eq_false_iff_eq.mpr c10
           clear c10
           by_cases c11 : ((rd_T86 l0 x5_1).f1.f1) = (wrap64 ((wrap64 ((wrap64 ((wrap64 ((wrap64 ((wrap64 (x1_1 + 1)) + 1)) + 1)) + 1)) + 1)) + 1))
           ·rw [if_pos c11] at H
            have c11b0 : (((rd_T86 l0 x5_1).f1.f1) == (wrap64 ((wrap64 ((wrap64 ((wrap64 ((wrap64 ((wrap64 (x1_1 + 1)) + 1)) + 1)) + 1)) + 1)) + 1))) = true := beq_iff_eq.mpr c11
            have c11b1 : (((rd_T86 l0 x5_1).f1.f1) != (wrap64 ((wrap64 ((wrap64 ((wrap64 ((wrap64 ((wrap64 (x1_1 + 1)) + 1)) + 1)) + 1)) + 1)) + 1))) = false := bne_eq_false_iff_eq.mpr c11
            clear c11
            by_cases c12 : ((rd_T86 l0 x5_1).f1.f2) = (wrap64 ((wrap64 ((wrap64 ((wrap64 ((wrap64 ((wrap64 ((wrap64 (x1_1 + 1)) + 1)) + 1)) + 1)) + 1)) + 1)) + 1))
            ·rw [if_pos c12] at H
             have c12b0 : (((rd_T86 l0 x5_1).f1.f2) == (wrap64 ((wrap64 ((wrap64 ((wrap64 ((wrap64 ((wrap64 ((wrap64 (x1_1 + 1)) + 1)) + 1)) + 1)) + 1)) + 1)) + 1))) = true := beq_iff_eq.mpr c12
             have c12b1 : (((rd_T86 l0 x5_1).f1.f2) != (wrap64 ((wrap64 ((wrap64 ((wrap64 ((wrap64 ((wrap64 ((wrap64 (x1_1 + 1)) + 1)) + 1)) + 1)) + 1)) + 1)) + 1))) = false := bne_eq_false_iff_eq.mpr c12
             clear c12
             by_cases c13 : ((rd_T86 l0 x5_1).f2) = (wrap64 ((wrap64 ((wrap64 ((wrap64 ((wrap64 ((wrap64 ((wrap64 ((wrap64 (x1_1 + 1)) + 1)) + 1)) + 1)) + 1)) + 1)) + 1)) + 1))
             ·rw [if_pos c13] at H
              have c13b0 : (((rd_T86 l0 x5_1).f2) == (wrap64 ((wrap64 ((wrap64 ((wrap64 ((wrap64 ((wrap64 ((wrap64 ((wrap64 (x1_1 + 1)) + 1)) + 1)) + 1)) + 1)) + 1)) + 1)) + 1))) = true := beq_iff_eq.mpr c13
              have c13b1 : (((rd_T86 l0 x5_1).f2) != (wrap64 ((wrap64 ((wrap64 ((wrap64 ((wrap64 ((wrap64 ((wrap64 ((wrap64 (x1_1 + 1)) + 1)) + 1)) + 1)) + 1)) + 1)) + 1)) + 1))) = false := bne_eq_false_iff_eq.mpr c13
              clear c13
              by_cases c14 : ((rd_T86 l0 x5_1).f3) = (wrap64 ((wrap64 ((wrap64 ((wrap64 ((wrap64 ((wrap64 ((wrap64 ((wrap64 ((wrap64 (x1_1 + 1)) + 1)) + 1)) + 1)) + 1)) + 1)) + 1)) + 1)) + 1))
              ·rw [if_pos c14] at H
               have c14b0 : (((rd_T86 l0 x5_1).f3) == (wrap64 ((wrap64 ((wrap64 ((wrap64 ((wrap64 ((wrap64 ((wrap64 ((wrap64 ((wrap64 (x1_1 + 1)) + 1)) + 1)) + 1)) + 1)) + 1)) + 1)) + 1)) + 1))) = true := beq_iff_eq.mpr c14
               have c14b1 : (((rd_T86 l0 x5_1).f3) != (wrap64 ((wrap64 ((wrap64 ((wrap64 ((wrap64 ((wrap64 ((wrap64 ((wrap64 ((wrap64 (x1_1 + 1)) + 1)) + 1)) + 1)) + 1)) + 1)) + 1)) + 1)) + 1))) = false := bne_eq_false_iff_eq.mpr c14
               clear c14
               have H' := Aside0.mk H
               clear H
               have p880 : 0 ≤ (x5_1 : Int) := of_decide_eq_true (by assumption)
               have q880 : x5_1 < (l0.length : Int) := of_decide_eq_true (by assumption)
               obtain ⟨ad880, e880, hx880_0, hx880_1, hx880_2, hx880_3, hx880_4, hx880_5, hx880_6, hx880_7, hx880_8, hx880_9⟩ := at_T86 HR0.out x5_1 p880 q880
               cases e880
               replace p880 := eq_true p880
               replace q880 := eq_true q880
               have p881 : 0 ≤ (x5_1 : Int) := of_decide_eq_true (by assumption)
               have q881 : x5_1 < (l0.length : Int) := of_decide_eq_true (by assumption)
               obtain ⟨ad881, e881, hx881_0, hx881_1, hx881_2, hx881_3, hx881_4, hx881_5, hx881_6, hx881_7, hx881_8, hx881_9⟩ := at_T86 HR0.out x5_1 p881 q881
               obtain rfl : ad880 = ad881 := (by injection e881)
               replace p881 := eq_true p881
               replace q881 := eq_true q881
               have p882 : 0 ≤ (x5_1 : Int) := of_decide_eq_true (by assumption)
               have q882 : x5_1 < (l0.length : Int) := of_decide_eq_true (by assumption)
               obtain ⟨ad882, e882, hx882_0, hx882_1, hx882_2, hx882_3, hx882_4, hx882_5, hx882_6, hx882_7, hx882_8, hx882_9⟩ := at_T86 HR0.out x5_1 p882 q882
               obtain rfl : ad880 = ad882 := (by injection e882)
               replace p882 := eq_true p882
               replace q882 := eq_true q882
               have p883 : 0 ≤ (x5_1 : Int) := of_decide_eq_true (by assumption)
               have q883 : x5_1 < (l0.length : Int) := of_decide_eq_true (by assumption)
               obtain ⟨ad883, e883, hx883_0, hx883_1, hx883_2, hx883_3, hx883_4, hx883_5, hx883_6, hx883_7, hx883_8, hx883_9⟩ := at_T86 HR0.out x5_1 p883 q883
               obtain rfl : ad880 = ad883 := (by injection e883)
               replace p883 := eq_true p883
               replace q883 := eq_true q883
               have p884 : 0 ≤ (x5_1 : Int) := of_decide_eq_true (by assumption)
               have q884 : x5_1 < (l0.length : Int) := of_decide_eq_true (by assumption)
               obtain ⟨ad884, e884, hx884_0, hx884_1, hx884_2, hx884_3, hx884_4, hx884_5, hx884_6, hx884_7, hx884_8, hx884_9⟩ := at_T86 HR0.out x5_1 p884 q884
               obtain rfl : ad880 = ad884 := (by injection e884)
               replace p884 := eq_true p884
               replace q884 := eq_true q884
               have p885 : 0 ≤ (x5_1 : Int) := of_decide_eq_true (by assumption)
               have q885 : x5_1 < (l0.length : Int) := of_decide_eq_true (by assumption)
               obtain ⟨ad885, e885, hx885_0, hx885_1, hx885_2, hx885_3, hx885_4, hx885_5, hx885_6, hx885_7, hx885_8, hx885_9⟩ := at_T86 HR0.out x5_1 p885 q885
               obtain rfl : ad880 = ad885 := (by injection e885)
               replace p885 := eq_true p885
               replace q885 := eq_true q885
               have p886 : 0 ≤ (x5_1 : Int) := of_decide_eq_true (by assumption)
               have q886 : x5_1 < (l0.length : Int) := of_decide_eq_true (by assumption)
               obtain ⟨ad886, e886, hx886_0, hx886_1, hx886_2, hx886_3, hx886_4, hx886_5, hx886_6, hx886_7, hx886_8, hx886_9⟩ := at_T86 HR0.out x5_1 p886 q886
               obtain rfl : ad880 = ad886 := (by injection e886)
               replace p886 := eq_true p886
               replace q886 := eq_true q886
               have p887 : 0 ≤ (x5_1 : Int) := of_decide_eq_true (by assumption)
               have q887 : x5_1 < (l0.length : Int) := of_decide_eq_true (by assumption)
               obtain ⟨ad887, e887, hx887_0, hx887_1, hx887_2, hx887_3, hx887_4, hx887_5, hx887_6, hx887_7, hx887_8, hx887_9⟩ := at_T86 HR0.out x5_1 p887 q887
               obtain rfl : ad880 = ad887 := (by injection e887)
               replace p887 := eq_true p887
               replace q887 := eq_true q887
               have p888 : 0 ≤ (x5_1 : Int) := of_decide_eq_true (by assumption)
               have q888 : x5_1 < (l0.length : Int) := of_decide_eq_true (by assumption)
               obtain ⟨ad888, e888, hx888_0, hx888_1, hx888_2, hx888_3, hx888_4, hx888_5, hx888_6, hx888_7, hx888_8, hx888_9⟩ := at_T86 HR0.out x5_1 p888 q888
               obtain rfl : ad880 = ad888 := (by injection e888)
               replace p888 := eq_true p888
               replace q888 := eq_true q888
               have p889 : 0 ≤ (x5_1 : Int) := of_decide_eq_true (by assumption)
               have q889 : x5_1 < (l0.length : Int) := of_decide_eq_true (by assumption)
               obtain ⟨ad889, e889, hx889_0, hx889_1, hx889_2, hx889_3, hx889_4, hx889_5, hx889_6, hx889_7, hx889_8, hx889_9⟩ := at_T86 HR0.out x5_1 p889 q889
               obtain rfl : ad880 = ad889 := (by injection e889)
               replace p889 := eq_true p889
               replace q889 := eq_true q889
               go_wp2
               go_roundg k1
               case measure => have := HK1.out; omega
               case rel => exact ⟨(wrap64 ((wrap64 ((wrap64 ((wrap64 ((wrap64 ((wrap64 ((wrap64 ((wrap64 ((wrap64 ((wrap64 (x1_1 + 1)) + 1)) + 1)) + 1)) + 1)) + 1)) + 1)) + 1)) + 1)) + 1)), (wrap64 (x5_1 + 1)), (by first | rfl | (simp; done) | (simp [*]; done)), (by first | rfl | (simp; done) | (simp [*]; done)), H', ⟨by have := HK1.out; omega⟩, by repeat (first | exact Drawn0.refl _ | apply Drawn0.step)⟩
              rw [if_neg c14] at H
              have c14b0 : (((rd_T86 l0 x5_1).f3) == (wrap64 ((wrap64 ((wrap64 ((wrap64 ((wrap64 ((wrap64 ((wrap64 ((wrap64 ((wrap64 (x1_1 + 1)) + 1)) + 1)) + 1)) + 1)) + 1)) + 1)) + 1)) + 1))) = false := beq_eq_false_iff_ne.mpr c14
              have c14b1 : (((rd_T86 l0 x5_1).f3) != (wrap64 ((wrap64 ((wrap64 ((wrap64 ((wrap64 ((wrap64 ((wrap64 ((wrap64 ((wrap64 (x1_1 + 1)) + 1)) + 1)) + 1)) + 1)) + 1)) + 1)) + 1)) + 1))) = true := bne_iff_ne.mpr c14
              obtain rfl := Option.some.inj H
              have p880 : 0 ≤ (x5_1 : Int) := of_decide_eq_true (by assumption)
              have q880 : x5_1 < (l0.length : Int) := of_decide_eq_true (by assumption)
              obtain ⟨ad880, e880, hx880_0, hx880_1, hx880_2, hx880_3, hx880_4, hx880_5, hx880_6, hx880_7, hx880_8, hx880_9⟩ := at_T86 HR0.out x5_1 p880 q880
              cases e880
              replace p880 := eq_true p880
              replace q880 := eq_true q880
              have p881 : 0 ≤ (x5_1 : Int) := of_decide_eq_true (by assumption)
              have q881 : x5_1 < (l0.length : Int) := of_decide_eq_true (by assumption)
              obtain ⟨ad881, e881, hx881_0, hx881_1, hx881_2, hx881_3, hx881_4, hx881_5, hx881_6, hx881_7, hx881_8, hx881_9⟩ := at_T86 HR0.out x5_1 p881 q881
              obtain rfl : ad880 = ad881 := (by injection e881)
              replace p881 := eq_true p881
              replace q881 := eq_true q881
              have p882 : 0 ≤ (x5_1 : Int) := of_decide_eq_true (by assumption)
              have q882 : x5_1 < (l0.length : Int) := of_decide_eq_true (by assumption)
              obtain ⟨ad882, e882, hx882_0, hx882_1, hx882_2, hx882_3, hx882_4, hx882_5, hx882_6, hx882_7, hx882_8, hx882_9⟩ := at_T86 HR0.out x5_1 p882 q882
              obtain rfl : ad880 = ad882 := (by injection e882)
              replace p882 := eq_true p882
              replace q882 := eq_true q882
              have p883 : 0 ≤ (x5_1 : Int) := of_decide_eq_true (by assumption)
              have q883 : x5_1 < (l0.length : Int) := of_decide_eq_true (by assumption)
              obtain ⟨ad883, e883, hx883_0, hx883_1, hx883_2, hx883_3, hx883_4, hx883_5, hx883_6, hx883_7, hx883_8, hx883_9⟩ := at_T86 HR0.out x5_1 p883 q883
              obtain rfl : ad880 = ad883 := (by injection e883)
              replace p883 := eq_true p883
              replace q883 := eq_true q883
              have p884 : 0 ≤ (x5_1 : Int) := of_decide_eq_true (by assumption)
              have q884 : x5_1 < (l0.length : Int) := of_decide_eq_true (by assumption)
              obtain ⟨ad884, e884, hx884_0, hx884_1, hx884_2, hx884_3, hx884_4, hx884_5, hx884_6, hx884_7, hx884_8, hx884_9⟩ := at_T86 HR0.out x5_1 p884 q884
              obtain rfl : ad880 = ad884 := (by injection e884)
              replace p884 := eq_true p884
              replace q884 := eq_true q884
              have p885 : 0 ≤ (x5_1 : Int) := of_decide_eq_true (by assumption)
              have q885 : x5_1 < (l0.length : Int) := of_decide_eq_true (by assumption)
              obtain ⟨ad885, e885, hx885_0, hx885_1, hx885_2, hx885_3, hx885_4, hx885_5, hx885_6, hx885_7, hx885_8, hx885_9⟩ := at_T86 HR0.out x5_1 p885 q885
              obtain rfl : ad880 = ad885 := (by injection e885)
              replace p885 := eq_true p885
              replace q885 := eq_true q885
              have p886 : 0 ≤ (x5_1 : Int) := of_decide_eq_true (by assumption)
              have q886 : x5_1 < (l0.length : Int) := of_decide_eq_true (by assumption)
              obtain ⟨ad886, e886, hx886_0, hx886_1, hx886_2, hx886_3, hx886_4, hx886_5, hx886_6, hx886_7, hx886_8, hx886_9⟩ := at_T86 HR0.out x5_1 p886 q886
              obtain rfl : ad880 = ad886 := (by injection e886)
              replace p886 := eq_true p886
              replace q886 := eq_true q886
              have p887 : 0 ≤ (x5_1 : Int) := of_decide_eq_true (by assumption)
              have q887 : x5_1 < (l0.length : Int) := of_decide_eq_true (by assumption)
              obtain ⟨ad887, e887, hx887_0, hx887_1, hx887_2, hx887_3, hx887_4, hx887_5, hx887_6, hx887_7, hx887_8, hx887_9⟩ := at_T86 HR0.out x5_1 p887 q887
              obtain rfl : ad880 = ad887 := (by injection e887)
              replace p887 := eq_true p887
              replace q887 := eq_true q887
              have p888 : 0 ≤ (x5_1 : Int) := of_decide_eq_true (by assumption)
              have q888 : x5_1 < (l0.length : Int) := of_decide_eq_true (by assumption)
              obtain ⟨ad888, e888, hx888_0, hx888_1, hx888_2, hx888_3, hx888_4, hx888_5, hx888_6, hx888_7, hx888_8, hx888_9⟩ := at_T86 HR0.out x5_1 p888 q888
              obtain rfl : ad880 = ad888 := (by injection e888)
              replace p888 := eq_true p888
              replace q888 := eq_true q888
              have p889 : 0 ≤ (x5_1 : Int) := of_decide_eq_true (by assumption)
              have q889 : x5_1 < (l0.length : Int) := of_decide_eq_true (by assumption)
              obtain ⟨ad889, e889, hx889_0, hx889_1, hx889_2, hx889_3, hx889_4, hx889_5, hx889_6, hx889_7, hx889_8, hx889_9⟩ := at_T86 HR0.out x5_1 p889 q889
              obtain rfl : ad880 = ad889 := (by injection e889)
              replace p889 := eq_true p889
              replace q889 := eq_true q889
              go_wp2
              go_ret
              exact ⟨by first | rfl | (simp; done) | (simp [*]; done), by repeat (first | exact Drawn0.refl _ | apply Drawn0.step)⟩
             rw [if_neg c13] at H
             have c13b0 : (((rd_T86 l0 x5_1).f2) == (wrap64 ((wrap64 ((wrap64 ((wrap64 ((wrap64 ((wrap64 ((wrap64 ((wrap64 (x1_1 + 1)) + 1)) + 1)) + 1)) + 1)) + 1)) + 1)) + 1))) = false := beq_eq_false_iff_ne.mpr c13
             have c13b1 : (((rd_T86 l0 x5_1).f2) != (wrap64 ((wrap64 ((wrap64 ((wrap64 ((wrap64 ((wrap64 ((wrap64 ((wrap64 (x1_1 + 1)) + 1)) + 1)) + 1)) + 1)) + 1)) + 1)) + 1))) = true := bne_iff_ne.mpr c13
             obtain rfl := Option.some.inj H
             have p880 : 0 ≤ (x5_1 : Int) := of_decide_eq_true (by assumption)
             have q880 : x5_1 < (l0.length : Int) := of_decide_eq_true (by assumption)
             obtain ⟨ad880, e880, hx880_0, hx880_1, hx880_2, hx880_3, hx880_4, hx880_5, hx880_6, hx880_7, hx880_8, hx880_9⟩ := at_T86 HR0.out x5_1 p880 q880
             cases e880
             replace p880 := eq_true p880
             replace q880 := eq_true q880
             have p881 : 0 ≤ (x5_1 : Int) := of_decide_eq_true (by assumption)
             have q881 : x5_1 < (l0.length : Int) := of_decide_eq_true (by assumption)
             obtain ⟨ad881, e881, hx881_0, hx881_1, hx881_2, hx881_3, hx881_4, hx881_5, hx881_6, hx881_7, hx881_8, hx881_9⟩ := at_T86 HR0.out x5_1 p881 q881
             obtain rfl : ad880 = ad881 := (by injection e881)
             replace p881 := eq_true p881
             replace q881 := eq_true q881
             have p882 : 0 ≤ (x5_1 : Int) := of_decide_eq_true (by assumption)
             have q882 : x5_1 < (l0.length : Int) := of_decide_eq_true (by assumption)
             obtain ⟨ad882, e882, hx882_0, hx882_1, hx882_2, hx882_3, hx882_4, hx882_5, hx882_6, hx882_7, hx882_8, hx882_9⟩ := at_T86 HR0.out x5_1 p882 q882
             obtain rfl : ad880 = ad882 := (by injection e882)
             replace p882 := eq_true p882
             replace q882 := eq_true q882
             have p883 : 0 ≤ (x5_1 : Int) := of_decide_eq_true (by assumption)
             have q883 : x5_1 < (l0.length : Int) := of_decide_eq_true (by assumption)
             obtain ⟨ad883, e883, hx883_0, hx883_1, hx883_2, hx883_3, hx883_4, hx883_5, hx883_6, hx883_7, hx883_8, hx883_9⟩ := at_T86 HR0.out x5_1 p883 q883
             obtain rfl : ad880 = ad883 := (by injection e883)
             replace p883 := eq_true p883
             replace q883 := eq_true q883
             have p884 : 0 ≤ (x5_1 : Int) := of_decide_eq_true (by assumption)
             have q884 : x5_1 < (l0.length : Int) := of_decide_eq_true (by assumption)
             obtain ⟨ad884, e884, hx884_0, hx884_1, hx884_2, hx884_3, hx884_4, hx884_5, hx884_6, hx884_7, hx884_8, hx884_9⟩ := at_T86 HR0.out x5_1 p884 q884
             obtain rfl : ad880 = ad884 := (by injection e884)
             replace p884 := eq_true p884
             replace q884 := eq_true q884
             have p885 : 0 ≤ (x5_1 : Int) := of_decide_eq_true (by assumption)
             have q885 : x5_1 < (l0.length : Int) := of_decide_eq_true (by assumption)
             obtain ⟨ad885, e885, hx885_0, hx885_1, hx885_2, hx885_3, hx885_4, hx885_5, hx885_6, hx885_7, hx885_8, hx885_9⟩ := at_T86 HR0.out x5_1 p885 q885
             obtain rfl : ad880 = ad885 := (by injection e885)
             replace p885 := eq_true p885
             replace q885 := eq_true q885
             have p886 : 0 ≤ (x5_1 : Int) := of_decide_eq_true (by assumption)
             have q886 : x5_1 < (l0.length : Int) := of_decide_eq_true (by assumption)
             obtain ⟨ad886, e886, hx886_0, hx886_1, hx886_2, hx886_3, hx886_4, hx886_5, hx886_6, hx886_7, hx886_8, hx886_9⟩ := at_T86 HR0.out x5_1 p886 q886
             obtain rfl : ad880 = ad886 := (by injection e886)
             replace p886 := eq_true p886
             replace q886 := eq_true q886
             have p887 : 0 ≤ (x5_1 : Int) := of_decide_eq_true (by assumption)
             have q887 : x5_1 < (l0.length : Int) := of_decide_eq_true (by assumption)
             obtain ⟨ad887, e887, hx887_0, hx887_1, hx887_2, hx887_3, hx887_4, hx887_5, hx887_6, hx887_7, hx887_8, hx887_9⟩ := at_T86 HR0.out x5_1 p887 q887
             obtain rfl : ad880 = ad887 := (by injection e887)
             replace p887 := eq_true p887
             replace q887 := eq_true q887
             have p888 : 0 ≤ (x5_1 : Int) := of_decide_eq_true (by assumption)
             have q888 : x5_1 < (l0.length : Int) := of_decide_eq_true (by assumption)
             obtain ⟨ad888, e888, hx888_0, hx888_1, hx888_2, hx888_3, hx888_4, hx888_5, hx888_6, hx888_7, hx888_8, hx888_9⟩ := at_T86 HR0.out x5_1 p888 q888
             obtain rfl : ad880 = ad888 := (by injection e888)
             replace p888 := eq_true p888
             replace q888 := eq_true q888
             go_wp2
             go_ret
             exact ⟨by first | rfl | (simp; done) | (simp [*]; done), by repeat (first | exact Drawn0.refl _ | apply Drawn0.step)⟩
            rw [if_neg c12] at H
            have c12b0 : (((rd_T86 l0 x5_1).f1.f2) == (wrap64 ((wrap64 ((wrap64 ((wrap64 ((wrap64 ((wrap64 ((wrap64 (x1_1 + 1)) + 1)) + 1)) + 1)) + 1)) + 1)) + 1))) = false := beq_eq_false_iff_ne.mpr c12
            have c12b1 : (((rd_T86 l0 x5_1).f1.f2) != (wrap64 ((wrap64 ((wrap64 ((wrap64 ((wrap64 ((wrap64 ((wrap64 (x1_1 + 1)) + 1)) + 1)) + 1)) + 1)) + 1)) + 1))) = true := bne_iff_ne.mpr c12
            obtain rfl := Option.some.inj H
            have p880 : 0 ≤ (x5_1 : Int) := of_decide_eq_true (by assumption)
            have q880 : x5_1 < (l0.length : Int) := of_decide_eq_true (by assumption)
            obtain ⟨ad880, e880, hx880_0, hx880_1, hx880_2, hx880_3, hx880_4, hx880_5, hx880_6, hx880_7, hx880_8, hx880_9⟩ := at_T86 HR0.out x5_1 p880 q880
            cases e880
            replace p880 := eq_true p880
            replace q880 := eq_true q880
            have p881 : 0 ≤ (x5_1 : Int) := of_decide_eq_true (by assumption)
            have q881 : x5_1 < (l0.length : Int) := of_decide_eq_true (by assumption)
            obtain ⟨ad881, e881, hx881_0, hx881_1, hx881_2, hx881_3, hx881_4, hx881_5, hx881_6, hx881_7, hx881_8, hx881_9⟩ := at_T86 HR0.out x5_1 p881 q881
            obtain rfl : ad880 = ad881 := (by injection e881)
            replace p881 := eq_true p881
            replace q881 := eq_true q881
            have p882 : 0 ≤ (x5_1 : Int) := of_decide_eq_true (by assumption)
            have q882 : x5_1 < (l0.length : Int) := of_decide_eq_true (by assumption)
            obtain ⟨ad882, e882, hx882_0, hx882_1, hx882_2, hx882_3, hx882_4, hx882_5, hx882_6, hx882_7, hx882_8, hx882_9⟩ := at_T86 HR0.out x5_1 p882 q882
            obtain rfl : ad880 = ad882 := (by injection e882)
            replace p882 := eq_true p882
            replace q882 := eq_true q882
            have p883 : 0 ≤ (x5_1 : Int) := of_decide_eq_true (by assumption)
            have q883 : x5_1 < (l0.length : Int) := of_decide_eq_true (by assumption)
            obtain ⟨ad883, e883, hx883_0, hx883_1, hx883_2, hx883_3, hx883_4, hx883_5, hx883_6, hx883_7, hx883_8, hx883_9⟩ := at_T86 HR0.out x5_1 p883 q883
            obtain rfl : ad880 = ad883 := (by injection e883)
            replace p883 := eq_true p883
            replace q883 := eq_true q883
            have p884 : 0 ≤ (x5_1 : Int) := of_decide_eq_true (by assumption)
            have q884 : x5_1 < (l0.length : Int) := of_decide_eq_true (by assumption)
            obtain ⟨ad884, e884, hx884_0, hx884_1, hx884_2, hx884_3, hx884_4, hx884_5, hx884_6, hx884_7, hx884_8, hx884_9⟩ := at_T86 HR0.out x5_1 p884 q884
            obtain rfl : ad880 = ad884 := (by injection e884)
            replace p884 := eq_true p884
            replace q884 := eq_true q884
            have p885 : 0 ≤ (x5_1 : Int) := of_decide_eq_true (by assumption)
            have q885 : x5_1 < (l0.length : Int) := of_decide_eq_true (by assumption)
            obtain ⟨ad885, e885, hx885_0, hx885_1, hx885_2, hx885_3, hx885_4, hx885_5, hx885_6, hx885_7, hx885_8, hx885_9⟩ := at_T86 HR0.out x5_1 p885 q885
            obtain rfl : ad880 = ad885 := (by injection e885)
            replace p885 := eq_true p885
            replace q885 := eq_true q885
            have p886 : 0 ≤ (x5_1 : Int) := of_decide_eq_true (by assumption)
            have q886 : x5_1 < (l0.length : Int) := of_decide_eq_true (by assumption)
            obtain ⟨ad886, e886, hx886_0, hx886_1, hx886_2, hx886_3, hx886_4, hx886_5, hx886_6, hx886_7, hx886_8, hx886_9⟩ := at_T86 HR0.out x5_1 p886 q886
            obtain rfl : ad880 = ad886 := (by injection e886)
            replace p886 := eq_true p886
            replace q886 := eq_true q886
            have p887 : 0 ≤ (x5_1 : Int) := of_decide_eq_true (by assumption)
            have q887 : x5_1 < (l0.length : Int) := of_decide_eq_true (by assumption)
            obtain ⟨ad887, e887, hx887_0, hx887_1, hx887_2, hx887_3, hx887_4, hx887_5, hx887_6, hx887_7, hx887_8, hx887_9⟩ := at_T86 HR0.out x5_1 p887 q887
            obtain rfl : ad880 = ad887 := (by injection e887)
            replace p887 := eq_true p887
            replace q887 := eq_true q887
            go_wp2
            go_ret
            exact ⟨by first | rfl | (simp; done) | (simp [*]; done), by repeat (first | exact Drawn0.refl _ | apply Drawn0.step)⟩
           rw [if_neg c11] at H
           have c11b0 : (((rd_T86 l0 x5_1).f1.f1) == (wrap64 ((wrap64 ((wrap64 ((wrap64 ((wrap64 ((wrap64 (x1_1 + 1)) + 1)) + 1)) + 1)) + 1)) + 1))) = false := beq_eq_false_iff_ne.mpr c11
           have c11b1 : (((rd_T86 l0 x5_1).f1.f1) != (wrap64 ((wrap64 ((wrap64 ((wrap64 ((wrap64 ((wrap64 (x1_1 + 1)) + 1)) + 1)) + 1)) + 1)) + 1))) = true := bne_iff_ne.mpr c11
           obtain rfl := Option.some.inj H
           have p880 : 0 ≤ (x5_1 : Int) := of_decide_eq_true (by assumption)
           have q880 : x5_1 < (l0.length : Int) := of_decide_eq_true (by assumption)
           obtain ⟨ad880, e880, hx880_0, hx880_1, hx880_2, hx880_3, hx880_4, hx880_5, hx880_6, hx880_7, hx880_8, hx880_9⟩ := at_T86 HR0.out x5_1 p880 q880
           cases e880
           replace p880 := eq_true p880
           replace q880 := eq_true q880
           have p881 : 0 ≤ (x5_1 : Int) := of_decide_eq_true (by assumption)
           have q881 : x5_1 < (l0.length : Int) := of_decide_eq_true (by assumption)
           obtain ⟨ad881, e881, hx881_0, hx881_1, hx881_2, hx881_3, hx881_4, hx881_5, hx881_6, hx881_7, hx881_8, hx881_9⟩ := at_T86 HR0.out x5_1 p881 q881
           obtain rfl : ad880 = ad881 := (by injection e881)
           replace p881 := eq_true p881
           replace q881 := eq_true q881
           have p882 : 0 ≤ (x5_1 : Int) := of_decide_eq_true (by assumption)
           have q882 : x5_1 < (l0.length : Int) := of_decide_eq_true (by assumption)
           obtain ⟨ad882, e882, hx882_0, hx882_1, hx882_2, hx882_3, hx882_4, hx882_5, hx882_6, hx882_7, hx882_8, hx882_9⟩ := at_T86 HR0.out x5_1 p882 q882
           obtain rfl : ad880 = ad882 := (by injection e882)
           replace p882 := eq_true p882
           replace q882 := eq_true q882
           have p883 : 0 ≤ (x5_1 : Int) := of_decide_eq_true (by assumption)
           have q883 : x5_1 < (l0.length : Int) := of_decide_eq_true (by assumption)
           obtain ⟨ad883, e883, hx883_0, hx883_1, hx883_2, hx883_3, hx883_4, hx883_5, hx883_6, hx883_7, hx883_8, hx883_9⟩ := at_T86 HR0.out x5_1 p883 q883
           obtain rfl : ad880 = ad883 := (by injection e883)
           replace p883 := eq_true p883
           replace q883 := eq_true q883
           have p884 : 0 ≤ (x5_1 : Int) := of_decide_eq_true (by assumption)
           have q884 : x5_1 < (l0.length : Int) := of_decide_eq_true (by assumption)
           obtain ⟨ad884, e884, hx884_0, hx884_1, hx884_2, hx884_3, hx884_4, hx884_5, hx884_6, hx884_7, hx884_8, hx884_9⟩ := at_T86 HR0.out x5_1 p884 q884
           obtain rfl : ad880 = ad884 := (by injection e884)
           replace p884 := eq_true p884
           replace q884 := eq_true q884
           have p885 : 0 ≤ (x5_1 : Int) := of_decide_eq_true (by assumption)
           have q885 : x5_1 < (l0.length : Int) := of_decide_eq_true (by assumption)
           obtain ⟨ad885, e885, hx885_0, hx885_1, hx885_2, hx885_3, hx885_4, hx885_5, hx885_6, hx885_7, hx885_8, hx885_9⟩ := at_T86 HR0.out x5_1 p885 q885
           obtain rfl : ad880 = ad885 := (by injection e885)
           replace p885 := eq_true p885
           replace q885 := eq_true q885
           have p886 : 0 ≤ (x5_1 : Int) := of_decide_eq_true (by assumption)
           have q886 : x5_1 < (l0.length : Int) := of_decide_eq_true (by assumption)
           obtain ⟨ad886, e886, hx886_0, hx886_1, hx886_2, hx886_3, hx886_4, hx886_5, hx886_6, hx886_7, hx886_8, hx886_9⟩ := at_T86 HR0.out x5_1 p886 q886
           obtain rfl : ad880 = ad886 := (by injection e886)
           replace p886 := eq_true p886
           replace q886 := eq_true q886
           go_wp2
           go_ret
           exact ⟨by first | rfl | (simp; done) | (simp [*]; done), by repeat (first | exact Drawn0.refl _ | apply Drawn0.step)⟩
          rw [if_neg c10] at H
          have c10b0 : (((rd_T86 l0 x5_1).f1.f0) == (wrap64 ((wrap64 ((wrap64 ((wrap64 ((wrap64 (x1_1 + 1)) + 1)) + 1)) + 1)) + 1))) = false := beq_eq_false_iff_ne.mpr c10
          have c10b1 : (((rd_T86 l0 x5_1).f1.f0) != (wrap64 ((wrap64 ((wrap64 ((wrap64 ((wrap64 (x1_1 + 1)) + 1)) + 1)) + 1)) + 1))) = true := bne_iff_ne.mpr c10
          obtain rfl := Option.some.inj H
          have p880 : 0 ≤ (x5_1 : Int) := of_decide_eq_true (by assumption)
          have q880 : x5_1 < (l0.length : Int) := of_decide_eq_true (by assumption)
          obtain ⟨ad880, e880, hx880_0, hx880_1, hx880_2, hx880_3, hx880_4, hx880_5, hx880_6, hx880_7, hx880_8, hx880_9⟩ := at_T86 HR0.out x5_1 p880 q880
          cases e880
          replace p880 := eq_true p880
          replace q880 := eq_true q880
          have p881 : 0 ≤ (x5_1 : Int) := of_decide_eq_true (by assumption)
          have q881 : x5_1 < (l0.length : Int) := of_decide_eq_true (by assumption)
          obtain ⟨ad881, e881, hx881_0, hx881_1, hx881_2, hx881_3, hx881_4, hx881_5, hx881_6, hx881_7, hx881_8, hx881_9⟩ := at_T86 HR0.out x5_1 p881 q881
          obtain rfl : ad880 = ad881 := (by injection e881)
          replace p881 := eq_true p881
          replace q881 := eq_true q881
          have p882 : 0 ≤ (x5_1 : Int) := of_decide_eq_true (by assumption)
          have q882 : x5_1 < (l0.length : Int) := of_decide_eq_true (by assumption)
          obtain ⟨ad882, e882, hx882_0, hx882_1, hx882_2, hx882_3, hx882_4, hx882_5, hx882_6, hx882_7, hx882_8, hx882_9⟩ := at_T86 HR0.out x5_1 p882 q882
          obtain rfl : ad880 = ad882 := (by injection e882)
          replace p882 := eq_true p882
          replace q882 := eq_true q882
          have p883 : 0 ≤ (x5_1 : Int) := of_decide_eq_true (by assumption)
          have q883 : x5_1 < (l0.length : Int) := of_decide_eq_true (by assumption)
          obtain ⟨ad883, e883, hx883_0, hx883_1, hx883_2, hx883_3, hx883_4, hx883_5, hx883_6, hx883_7, hx883_8, hx883_9⟩ := at_T86 HR0.out x5_1 p883 q883
          obtain rfl : ad880 = ad883 := (by injection e883)
          replace p883 := eq_true p883
          replace q883 := eq_true q883
          have p884 : 0 ≤ (x5_1 : Int) := of_decide_eq_true (by assumption)
          have q884 : x5_1 < (l0.length : Int) := of_decide_eq_true (by assumption)
          obtain ⟨ad884, e884, hx884_0, hx884_1, hx884_2, hx884_3, hx884_4, hx884_5, hx884_6, hx884_7, hx884_8, hx884_9⟩ := at_T86 HR0.out x5_1 p884 q884
          obtain rfl : ad880 = ad884 := (by injection e884)
          replace p884 := eq_true p884
          replace q884 := eq_true q884
          have p885 : 0 ≤ (x5_1 : Int) := of_decide_eq_true (by assumption)
          have q885 : x5_1 < (l0.length : Int) := of_decide_eq_true (by assumption)
          obtain ⟨ad885, e885, hx885_0, hx885_1, hx885_2, hx885_3, hx885_4, hx885_5, hx885_6, hx885_7, hx885_8, hx885_9⟩ := at_T86 HR0.out x5_1 p885 q885
          obtain rfl : ad880 = ad885 := (by injection e885)
          replace p885 := eq_true p885
          replace q885 := eq_true q885
          go_wp2
          go_ret
          exact ⟨by first | rfl | (simp; done) | (simp [*]; done), by repeat (first | exact Drawn0.refl _ | apply Drawn0.step)⟩
         rw [if_neg c9] at H
         have c9b0 : (((rd_T86 l0 x5_1).f0.f4) == (wrap64 ((wrap64 ((wrap64 ((wrap64 (x1_1 + 1)) + 1)) + 1)) + 1))) = false := beq_eq_false_iff_ne.mpr c9
         have c9b1 : (((rd_T86 l0 x5_1).f0.f4) != (wrap64 ((wrap64 ((wrap64 ((wrap64 (x1_1 + 1)) + 1)) + 1)) + 1))) = true := bne_iff_ne.mpr c9
         obtain rfl := Option.some.inj H
         have p880 : 0 ≤ (x5_1 : Int) := of_decide_eq_true (by assumption)
         have q880 : x5_1 < (l0.length : Int) := of_decide_eq_true (by assumption)
         obtain ⟨ad880, e880, hx880_0, hx880_1, hx880_2, hx880_3, hx880_4, hx880_5, hx880_6, hx880_7, hx880_8, hx880_9⟩ := at_T86 HR0.out x5_1 p880 q880
         cases e880
         replace p880 := eq_true p880
         replace q880 := eq_true q880
         have p881 : 0 ≤ (x5_1 : Int) := of_decide_eq_true (by assumption)
         have q881 : x5_1 < (l0.length : Int) := of_decide_eq_true (by assumption)
         obtain ⟨ad881, e881, hx881_0, hx881_1, hx881_2, hx881_3, hx881_4, hx881_5, hx881_6, hx881_7, hx881_8, hx881_9⟩ := at_T86 HR0.out x5_1 p881 q881
         obtain rfl : ad880 = ad881 := (by injection e881)
         replace p881 := eq_true p881
         replace q881 := eq_true q881
         have p882 : 0 ≤ (x5_1 : Int) := of_decide_eq_true (by assumption)
         have q882 : x5_1 < (l0.length : Int) := of_decide_eq_true (by assumption)
         obtain ⟨ad882, e882, hx882_0, hx882_1, hx882_2, hx882_3, hx882_4, hx882_5, hx882_6, hx882_7, hx882_8, hx882_9⟩ := at_T86 HR0.out x5_1 p882 q882
         obtain rfl : ad880 = ad882 := (by injection e882)
         replace p882 := eq_true p882
         replace q882 := eq_true q882
         have p883 : 0 ≤ (x5_1 : Int) := of_decide_eq_true (by assumption)
         have q883 : x5_1 < (l0.length : Int) := of_decide_eq_true (by assumption)
         obtain ⟨ad883, e883, hx883_0, hx883_1, hx883_2, hx883_3, hx883_4, hx883_5, hx883_6, hx883_7, hx883_8, hx883_9⟩ := at_T86 HR0.out x5_1 p883 q883
         obtain rfl : ad880 = ad883 := (by injection e883)
         replace p883 := eq_true p883
         replace q883 := eq_true q883
         have p884 : 0 ≤ (x5_1 : Int) := of_decide_eq_true (by assumption)
         have q884 : x5_1 < (l0.length : Int) := of_decide_eq_true (by assumption)
         obtain ⟨ad884, e884, hx884_0, hx884_1, hx884_2, hx884_3, hx884_4, hx884_5, hx884_6, hx884_7, hx884_8, hx884_9⟩ := at_T86 HR0.out x5_1 p884 q884
         obtain rfl : ad880 = ad884 := (by injection e884)
         replace p884 := eq_true p884
         replace q884 := eq_true q884
         go_wp2
         go_ret
         exact ⟨by first | rfl | (simp; done) | (simp [*]; done), by repeat (first | exact Drawn0.refl _ | apply Drawn0.step)⟩
        rw [if_neg c8] at H
        have c8b0 : (((rd_T86 l0 x5_1).f0.f3) == (wrap64 ((wrap64 ((wrap64 (x1_1 + 1)) + 1)) + 1))) = false := beq_eq_false_iff_ne.mpr c8
        have c8b1 : (((rd_T86 l0 x5_1).f0.f3) != (wrap64 ((wrap64 ((wrap64 (x1_1 + 1)) + 1)) + 1))) = true := bne_iff_ne.mpr c8
        obtain rfl := Option.some.inj H
        have p880 : 0 ≤ (x5_1 : Int) := of_decide_eq_true (by assumption)
        have q880 : x5_1 < (l0.length : Int) := of_decide_eq_true (by assumption)
        obtain ⟨ad880, e880, hx880_0, hx880_1, hx880_2, hx880_3, hx880_4, hx880_5, hx880_6, hx880_7, hx880_8, hx880_9⟩ := at_T86 HR0.out x5_1 p880 q880
        cases e880
        replace p880 := eq_true p880
        replace q880 := eq_true q880
        have p881 : 0 ≤ (x5_1 : Int) := of_decide_eq_true (by assumption)
        have q881 : x5_1 < (l0.length : Int) := of_decide_eq_true (by assumption)
        obtain ⟨ad881, e881, hx881_0, hx881_1, hx881_2, hx881_3, hx881_4, hx881_5, hx881_6, hx881_7, hx881_8, hx881_9⟩ := at_T86 HR0.out x5_1 p881 q881
        obtain rfl : ad880 = ad881 := (by injection e881)
        replace p881 := eq_true p881
        replace q881 := eq_true q881
        have p882 : 0 ≤ (x5_1 : Int) := of_decide_eq_true (by assumption)
        have q882 : x5_1 < (l0.length : Int) := of_decide_eq_true (by assumption)
        obtain ⟨ad882, e882, hx882_0, hx882_1, hx882_2, hx882_3, hx882_4, hx882_5, hx882_6, hx882_7, hx882_8, hx882_9⟩ := at_T86 HR0.out x5_1 p882 q882
        obtain rfl : ad880 = ad882 := (by injection e882)
        replace p882 := eq_true p882
        replace q882 := eq_true q882
        have p883 : 0 ≤ (x5_1 : Int) := of_decide_eq_true (by assumption)
        have q883 : x5_1 < (l0.length : Int) := of_decide_eq_true (by assumption)
        obtain ⟨ad883, e883, hx883_0, hx883_1, hx883_2, hx883_3, hx883_4, hx883_5, hx883_6, hx883_7, hx883_8, hx883_9⟩ := at_T86 HR0.out x5_1 p883 q883
        obtain rfl : ad880 = ad883 := (by injection e883)
        replace p883 := eq_true p883
        replace q883 := eq_true q883
        go_wp2
        go_ret
        exact ⟨by first | rfl | (simp; done) | (simp [*]; done), by repeat (first | exact Drawn0.refl _ | apply Drawn0.step)⟩
       rw [if_neg c7] at H
       have c7b0 : (((rd_T86 l0 x5_1).f0.f2) == (wrap64 ((wrap64 (x1_1 + 1)) + 1))) = false := beq_eq_false_iff_ne.mpr c7
       have c7b1 : (((rd_T86 l0 x5_1).f0.f2) != (wrap64 ((wrap64 (x1_1 + 1)) + 1))) = true := bne_iff_ne.mpr c7
       obtain rfl := Option.some.inj H
       have p880 : 0 ≤ (x5_1 : Int) := of_decide_eq_true (by assumption)
       have q880 : x5_1 < (l0.length : Int) := of_decide_eq_true (by assumption)
       obtain ⟨ad880, e880, hx880_0, hx880_1, hx880_2, hx880_3, hx880_4, hx880_5, hx880_6, hx880_7, hx880_8, hx880_9⟩ := at_T86 HR0.out x5_1 p880 q880
       cases e880
       replace p880 := eq_true p880
       replace q880 := eq_true q880
       have p881 : 0 ≤ (x5_1 : Int) := of_decide_eq_true (by assumption)
       have q881 : x5_1 < (l0.length : Int) := of_decide_eq_true (by assumption)
       obtain ⟨ad881, e881, hx881_0, hx881_1, hx881_2, hx881_3, hx881_4, hx881_5, hx881_6, hx881_7, hx881_8, hx881_9⟩ := at_T86 HR0.out x5_1 p881 q881
       obtain rfl : ad880 = ad881 := (by injection e881)
       replace p881 := eq_true p881
       replace q881 := eq_true q881
       have p882 : 0 ≤ (x5_1 : Int) := of_decide_eq_true (by assumption)
       have q882 : x5_1 < (l0.length : Int) := of_decide_eq_true (by assumption)
       obtain ⟨ad882, e882, hx882_0, hx882_1, hx882_2, hx882_3, hx882_4, hx882_5, hx882_6, hx882_7, hx882_8, hx882_9⟩ := at_T86 HR0.out x5_1 p882 q882
       obtain rfl : ad880 = ad882 := (by injection e882)
       replace p882 := eq_true p882
       replace q882 := eq_true q882
       go_wp2
       go_ret
       exact ⟨by first | rfl | (simp; done) | (simp [*]; done), by repeat (first | exact Drawn0.refl _ | apply Drawn0.step)⟩
      rw [if_neg c6] at H
      have c6b0 : (((rd_T86 l0 x5_1).f0.f1) == (wrap64 (x1_1 + 1))) = false := beq_eq_false_iff_ne.mpr c6
      have c6b1 : (((rd_T86 l0 x5_1).f0.f1) != (wrap64 (x1_1 + 1))) = true := bne_iff_ne.mpr c6
      obtain rfl := Option.some.inj H
      have p880 : 0 ≤ (x5_1 : Int) := of_decide_eq_true (by assumption)
      have q880 : x5_1 < (l0.length : Int) := of_decide_eq_true (by assumption)
      obtain ⟨ad880, e880, hx880_0, hx880_1, hx880_2, hx880_3, hx880_4, hx880_5, hx880_6, hx880_7, hx880_8, hx880_9⟩ := at_T86 HR0.out x5_1 p880 q880
      cases e880
      replace p880 := eq_true p880
      replace q880 := eq_true q880
      have p881 : 0 ≤ (x5_1 : Int) := of_decide_eq_true (by assumption)
      have q881 : x5_1 < (l0.length : Int) := of_decide_eq_true (by assumption)
      obtain ⟨ad881, e881, hx881_0, hx881_1, hx881_2, hx881_3, hx881_4, hx881_5, hx881_6, hx881_7, hx881_8, hx881_9⟩ := at_T86 HR0.out x5_1 p881 q881
      obtain rfl : ad880 = ad881 := (by injection e881)
      replace p881 := eq_true p881
      replace q881 := eq_true q881
      go_wp2
      go_ret
      exact ⟨by first | rfl | (simp; done) | (simp [*]; done), by repeat (first | exact Drawn0.refl _ | apply Drawn0.step)⟩
     rw [if_neg c5] at H
     have c5b0 : (((rd_T86 l0 x5_1).f0.f0) == x1_1) = false := beq_eq_false_iff_ne.mpr c5
     have c5b1 : (((rd_T86 l0 x5_1).f0.f0) != x1_1) = true := bne_iff_ne.mpr c5
     obtain rfl := Option.some.inj H
     have p880 : 0 ≤ (x5_1 : Int) := of_decide_eq_true (by assumption)
     have q880 : x5_1 < (l0.length : Int) := of_decide_eq_true (by assumption)
     obtain ⟨ad880, e880, hx880_0, hx880_1, hx880_2, hx880_3, hx880_4, hx880_5, hx880_6, hx880_7, hx880_8, hx880_9⟩ := at_T86 HR0.out x5_1 p880 q880
     cases e880
     replace p880 := eq_true p880
     replace q880 := eq_true q880
     go_wp2
     go_ret
     exact ⟨by first | rfl | (simp; done) | (simp [*]; done), by repeat (first | exact Drawn0.refl _ | apply Drawn0.step)⟩
    rw [if_neg c4] at H
    exact absurd H (by simp)
   rw [if_neg c3] at H
   have c3b0 : decide (x5_1 < (l0.length : Int)) = false := decide_eq_false c3
   clear c3
   obtain rfl := Option.some.inj H
   go_wp2
   go_ret
   exact ⟨by first | rfl | (simp; done) | (simp [*]; done), by repeat (first | exact Drawn0.refl _ | apply Drawn0.step)⟩
end Go.Proofs.Ytndffnacbfdnoaa.PAll
