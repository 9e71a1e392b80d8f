-- Lines of PAllx23 that this claim uses.
import Derived.Test.YtndffnacbfdnoaaRUSqd
import Derived.Test.YtndffnacbfdnoaaRUSq
import Derived.Test.YtndffnacbfdnoaaRUPAllx0
import Derived.Test.YtndffnacbfdnoaaRUPAllx22
namespace Go.Proofs.Ytndffnacbfdnoaa.PAll
open Go.RowKit Go.Proofs.YtndffnacbfdnoaaW.PrintWords Go.Proofs.YtndffnacbfdnoaaW.PrintLast Go.Proofs.YtndffnacbfdnoaaW.PrintMore
attribute [local go_sem] max2_int min2_int max_two min_two max_three min_three max_four min_four
set_option linter.unusedVariables false
set_option linter.unusedSimpArgs false
def laws_eqMomentS.l0 : Nat → List (S86) → List (S86) → Int → Option (Bool)
 | 0, _, _, _ => none
 | k + 1, x0, x1, x5 => if x5 < (x0.length : Int) then (if 0 ≤ x5 then (if x5 < (x1.length : Int) then ((laws_eqMoment.f ((rd_T86 x0 x5).f0.f0) ((rd_T86 x0 x5).f0.f1) ((rd_T86 x0 x5).f0.f2) ((rd_T86 x0 x5).f0.f3) ((rd_T86 x0 x5).f0.f4) ((rd_T86 x0 x5).f1.f0) ((rd_T86 x0 x5).f1.f1) ((rd_T86 x0 x5).f1.f2) ((rd_T86 x0 x5).f2) ((rd_T86 x0 x5).f3) ((rd_T86 x1 x5).f0.f0) ((rd_T86 x1 x5).f0.f1) ((rd_T86 x1 x5).f0.f2) ((rd_T86 x1 x5).f0.f3) ((rd_T86 x1 x5).f0.f4) ((rd_T86 x1 x5).f1.f0) ((rd_T86 x1 x5).f1.f1) ((rd_T86 x1 x5).f1.f2) ((rd_T86 x1 x5).f2) ((rd_T86 x1 x5).f3)).bind fun t862 => (if t862 = true then (laws_eqMomentS.l0 k x0 x1 (wrap64 (x5 + 1))) else (some false))) else (none)) else (none)) else (some true)
def laws_eqMomentS.f (k : Nat) (l0 : List (S86)) (l1 : List (S86)) : Option (Bool) := if (l0.length : Int) = (l1.length : Int) then (laws_eqMomentS.l0 k l0 l1 0) else (some false)
def laws_eqMomentS.T6 : Bool × List (List Nat × List Nat) := (true, [([], []), ([], []), ([0, 1], [0, 1]), ([2], [2]), ([], []), ([], []), ([4, 5], [4, 5]), ([6], [6]), ([3, 7], [3, 7]), ([8], [8])])
def laws_eqMomentS.B6 : List Nat := [0, 0, 3, 7, 0, 0, 48, 112, 255, 511]
theorem laws_eqMomentS.tab6 : rtab .any (opsOf Try.f39 6) = laws_eqMomentS.T6 := by kernel_rfl
theorem laws_eqMomentS.bits6 : waitsOk laws_eqMomentS.T6.2 laws_eqMomentS.B6 = true := by kernel_rfl
set_option maxHeartbeats 8000000 in
set_option maxRecDepth 100000 in
theorem laws_eqMomentS.calls (k : Nat) (A0 : Option Addr) (c0 : Nat) (l0 : List (S86)) (A1 : Option Addr) (c1 : Nat) (l1 : List (S86)) (r : Bool) (w : World) (hr0 : Kd.C k86 w A0 l0.length l0) (hc0 : l0.length ≤ c0) (hr1 : Kd.C k86 w A1 l1.length l1) (hc1 : l1.length ≤ c1) (h : laws_eqMomentS.f k l0 l1 = some r) :
  Calls Try.prog 39 #[.slice A0 l0.length c0, .slice A1 l1.length c1] w fun e w' => e = .returned (.bool r) ∧ Below w.heap.size w w' := by
 have hu86 := Try.underlying86
 have HR0 := Aside0.mk hr0
 have HC0 := Aside0.mk hc0
 clear hr0 hc0
 have HR1 := Aside0.mk hr1
 have HC1 := Aside0.mk hc1
 clear hr1 hc1
 have HB := Aside0.mk (Below.refl w.heap.size w)
 have H : (if (l0.length : Int) = (l1.length : Int) then (laws_eqMomentS.l0 k l0 l1 0) else (some false)) = some r := h
 clear h
 by_cases c3 : (l0.length : Int) = (l1.length : Int)
 ·rw [if_pos c3] at H
  have c3b0 : ((l0.length : Int) == (l1.length : Int)) = true := beq_iff_eq.mpr c3
  have c3b1 : ((l0.length : Int) != (l1.length : Int)) = false := bne_eq_false_iff_eq.mpr c3
  have c3b2 : (l0.length == l1.length) = true := by first | simpa using c3 | (simp at c3 ⊢; omega)
  clear c3
  have H' := Aside0.mk H
  clear H
  go_enter Try.func39, Try.ntmps39
  go_wp2
  go_loopg [5] k (fun kq v5 w' => ∃ (x5_1 : Int), v5 = .int .i64 x5_1 ∧ Aside0 (laws_eqMomentS.l0 kq l0 l1 x5_1 = some r) ∧ Aside0 (kq ≤ k) ∧ Aside0 (Below w.heap.size w w'))
  case atStart => exact ⟨(0), (by first | rfl | (simp; done) | (simp [*]; done)), H', ⟨Nat.le_refl _⟩, ⟨(qs HB)⟩⟩
  case round =>
   clear H'
   try clear c1; try clear p2; try clear c3; try clear c3b0; try clear c3b1; try clear c3b2
   obtain ⟨x5_1, rfl, HA, HK1, HB⟩ := hrel
   cases gk with
   | zero => exact absurd HA.out (by simp [laws_eqMomentS.l0])
   | succ k1 =>
    have H := HA.out
    clear HA
    simp only [laws_eqMomentS.l0] at H
    by_cases c4 : x5_1 < (l0.length : Int)
    ·rw [if_pos c4] at H
     have c4b0 : decide (x5_1 < (l0.length : Int)) = true := decide_eq_true c4
     clear c4
     by_cases c5 : 0 ≤ x5_1
     ·rw [if_pos c5] at H
      have c5b0 : decide (0 ≤ x5_1) = true := decide_eq_true c5
      clear c5
      by_cases c6 : x5_1 < (l1.length : Int)
      ·rw [if_pos c6] at H
       have c6b0 : decide (x5_1 < (l1.length : Int)) = true := decide_eq_true c6
       clear c6
       replace H := Option.bind_eq_some_iff.mp H
       obtain ⟨t862, A70, H⟩ := H
       replace H : (if t862 = true then (laws_eqMomentS.l0 k1 l0 l1 (wrap64 (x5_1 + 1))) else (some false)) = some r := H
       have A7 := Aside0.mk A70
       clear A70
       by_cases c8 : t862 = true
       ·subst c8
        have H1 : (laws_eqMomentS.l0 k1 l0 l1 (wrap64 (x5_1 + 1))) = some r := by rw [if_pos rfl] at H; exact H
        clear H; have H := H1; clear H1
        have H' := Aside0.mk H
        clear H
        try go_wp2
        replace HB := Aside0.mk (below_drew1 HB.out)
        have p860 : 0 ≤ (x5_1 : Int) := of_decide_eq_true (by assumption)
        have q860 : x5_1 < (l0.length : Int) := of_decide_eq_true (by assumption)
        obtain ⟨ad860, e860, hx860_0, hx860_1, hx860_2, hx860_3, hx860_4, hx860_5, hx860_6, hx860_7, hx860_8, hx860_9⟩ := at_T86 HR0.out x5_1 p860 q860
        have hw860_9 := hx860_9; have hw860_8 := hx860_8; have hw860_7 := hx860_7; have hw860_6 := hx860_6; have hw860_5 := hx860_5; have hw860_4 := hx860_4; have hw860_3 := hx860_3; have hw860_2 := hx860_2; have hw860_1 := hx860_1; have hw860_0 := hx860_0
        cases e860
        replace hx860_0 := (HB.out.cell (World.block_lt_of_cell? w _ hx860_0)).trans hx860_0
        replace hx860_1 := (HB.out.cell (World.block_lt_of_cell? w _ hx860_1)).trans hx860_1
        replace hx860_2 := (HB.out.cell (World.block_lt_of_cell? w _ hx860_2)).trans hx860_2
        replace hx860_3 := (HB.out.cell (World.block_lt_of_cell? w _ hx860_3)).trans hx860_3
        replace hx860_4 := (HB.out.cell (World.block_lt_of_cell? w _ hx860_4)).trans hx860_4
        replace hx860_5 := (HB.out.cell (World.block_lt_of_cell? w _ hx860_5)).trans hx860_5
        replace hx860_6 := (HB.out.cell (World.block_lt_of_cell? w _ hx860_6)).trans hx860_6
        replace hx860_7 := (HB.out.cell (World.block_lt_of_cell? w _ hx860_7)).trans hx860_7
        replace hx860_8 := (HB.out.cell (World.block_lt_of_cell? w _ hx860_8)).trans hx860_8
        replace hx860_9 := (HB.out.cell (World.block_lt_of_cell? w _ hx860_9)).trans hx860_9
        replace p860 := eq_true p860
        replace q860 := eq_true q860
        have p861 : 0 ≤ (x5_1 : Int) := of_decide_eq_true (by assumption)
        have q861 : x5_1 < (l1.length : Int) := of_decide_eq_true (by assumption)
        obtain ⟨ad861, e861, hx861_0, hx861_1, hx861_2, hx861_3, hx861_4, hx861_5, hx861_6, hx861_7, hx861_8, hx861_9⟩ := at_T86 HR1.out x5_1 p861 q861
        have hw861_9 := hx861_9; have hw861_8 := hx861_8; have hw861_7 := hx861_7; have hw861_6 := hx861_6; have hw861_5 := hx861_5; have hw861_4 := hx861_4; have hw861_3 := hx861_3; have hw861_2 := hx861_2; have hw861_1 := hx861_1; have hw861_0 := hx861_0
        cases e861
        replace hx861_0 := (HB.out.cell (World.block_lt_of_cell? w _ hx861_0)).trans hx861_0
        replace hx861_1 := (HB.out.cell (World.block_lt_of_cell? w _ hx861_1)).trans hx861_1
        replace hx861_2 := (HB.out.cell (World.block_lt_of_cell? w _ hx861_2)).trans hx861_2
        replace hx861_3 := (HB.out.cell (World.block_lt_of_cell? w _ hx861_3)).trans hx861_3
        replace hx861_4 := (HB.out.cell (World.block_lt_of_cell? w _ hx861_4)).trans hx861_4
        replace hx861_5 := (HB.out.cell (World.block_lt_of_cell? w _ hx861_5)).trans hx861_5
        replace hx861_6 := (HB.out.cell (World.block_lt_of_cell? w _ hx861_6)).trans hx861_6
        replace hx861_7 := (HB.out.cell (World.block_lt_of_cell? w _ hx861_7)).trans hx861_7
        replace hx861_8 := (HB.out.cell (World.block_lt_of_cell? w _ hx861_8)).trans hx861_8
        replace hx861_9 := (HB.out.cell (World.block_lt_of_cell? w _ hx861_9)).trans hx861_9
        replace p861 := eq_true p861
        replace q861 := eq_true q861
        refine start_ (n := 10) (S := fun w' => w'.cell? (ad860.add ((x5_1).toNat * 10)) = some (.int .i64 ((rd_T86 l0 x5_1).f0.f0)) ∧ w'.cell? ⟨(ad860.add ((x5_1).toNat * 10)).block, (ad860.add ((x5_1).toNat * 10)).off + 1, none⟩ = some (.int .i64 ((rd_T86 l0 x5_1).f0.f1)) ∧ w'.cell? ⟨(ad860.add ((x5_1).toNat * 10)).block, (ad860.add ((x5_1).toNat * 10)).off + 2, none⟩ = some (.int .i64 ((rd_T86 l0 x5_1).f0.f2)) ∧ w'.cell? ⟨(ad860.add ((x5_1).toNat * 10)).block, (ad860.add ((x5_1).toNat * 10)).off + 3, none⟩ = some (.int .i64 ((rd_T86 l0 x5_1).f0.f3)) ∧ w'.cell? ⟨(ad860.add ((x5_1).toNat * 10)).block, (ad860.add ((x5_1).toNat * 10)).off + 4, none⟩ = some (.int .i64 ((rd_T86 l0 x5_1).f0.f4)) ∧ w'.cell? ⟨(ad860.add ((x5_1).toNat * 10)).block, (ad860.add ((x5_1).toNat * 10)).off + 5, none⟩ = some (.int .i64 ((rd_T86 l0 x5_1).f1.f0)) ∧ w'.cell? ⟨(ad860.add ((x5_1).toNat * 10)).block, (ad860.add ((x5_1).toNat * 10)).off + 6, none⟩ = some (.int .i64 ((rd_T86 l0 x5_1).f1.f1)) ∧ w'.cell? ⟨(ad860.add ((x5_1).toNat * 10)).block, (ad860.add ((x5_1).toNat * 10)).off + 7, none⟩ = some (.int .i64 ((rd_T86 l0 x5_1).f1.f2)) ∧ w'.cell? ⟨(ad860.add ((x5_1).toNat * 10)).block, (ad860.add ((x5_1).toNat * 10)).off + 8, none⟩ = some (.int .i64 ((rd_T86 l0 x5_1).f2)) ∧ w'.cell? ⟨(ad860.add ((x5_1).toNat * 10)).block, (ad860.add ((x5_1).toNat * 10)).off + 9, none⟩ = some (.int .i64 ((rd_T86 l0 x5_1).f3)) ∧ w'.cell? (ad861.add ((x5_1).toNat * 10)) = some (.int .i64 ((rd_T86 l1 x5_1).f0.f0)) ∧ w'.cell? ⟨(ad861.add ((x5_1).toNat * 10)).block, (ad861.add ((x5_1).toNat * 10)).off + 1, none⟩ = some (.int .i64 ((rd_T86 l1 x5_1).f0.f1)) ∧ w'.cell? ⟨(ad861.add ((x5_1).toNat * 10)).block, (ad861.add ((x5_1).toNat * 10)).off + 2, none⟩ = some (.int .i64 ((rd_T86 l1 x5_1).f0.f2)) ∧ w'.cell? ⟨(ad861.add ((x5_1).toNat * 10)).block, (ad861.add ((x5_1).toNat * 10)).off + 3, none⟩ = some (.int .i64 ((rd_T86 l1 x5_1).f0.f3)) ∧ w'.cell? ⟨(ad861.add ((x5_1).toNat * 10)).block, (ad861.add ((x5_1).toNat * 10)).off + 4, none⟩ = some (.int .i64 ((rd_T86 l1 x5_1).f0.f4)) ∧ w'.cell? ⟨(ad861.add ((x5_1).toNat * 10)).block, (ad861.add ((x5_1).toNat * 10)).off + 5, none⟩ = some (.int .i64 ((rd_T86 l1 x5_1).f1.f0)) ∧ w'.cell? ⟨(ad861.add ((x5_1).toNat * 10)).block, (ad861.add ((x5_1).toNat * 10)).off + 6, none⟩ = some (.int .i64 ((rd_T86 l1 x5_1).f1.f1)) ∧ w'.cell? ⟨(ad861.add ((x5_1).toNat * 10)).block, (ad861.add ((x5_1).toNat * 10)).off + 7, none⟩ = some (.int .i64 ((rd_T86 l1 x5_1).f1.f2)) ∧ w'.cell? ⟨(ad861.add ((x5_1).toNat * 10)).block, (ad861.add ((x5_1).toNat * 10)).off + 8, none⟩ = some (.int .i64 ((rd_T86 l1 x5_1).f2)) ∧ w'.cell? ⟨(ad861.add ((x5_1).toNat * 10)).block, (ad861.add ((x5_1).toNat * 10)).off + 9, none⟩ = some (.int .i64 ((rd_T86 l1 x5_1).f3))) (ds := []) #[false, false, false, false, false, false, false, false, false, false] (by kernel_rfl) rfl rfl ⟨((HB.out.cell (World.block_lt_of_cell? w _ hw860_0)).trans hw860_0), ((HB.out.cell (World.block_lt_of_cell? w _ hw860_1)).trans hw860_1), ((HB.out.cell (World.block_lt_of_cell? w _ hw860_2)).trans hw860_2), ((HB.out.cell (World.block_lt_of_cell? w _ hw860_3)).trans hw860_3), ((HB.out.cell (World.block_lt_of_cell? w _ hw860_4)).trans hw860_4), ((HB.out.cell (World.block_lt_of_cell? w _ hw860_5)).trans hw860_5), ((HB.out.cell (World.block_lt_of_cell? w _ hw860_6)).trans hw860_6), ((HB.out.cell (World.block_lt_of_cell? w _ hw860_7)).trans hw860_7), ((HB.out.cell (World.block_lt_of_cell? w _ hw860_8)).trans hw860_8), ((HB.out.cell (World.block_lt_of_cell? w _ hw860_9)).trans hw860_9), ((HB.out.cell (World.block_lt_of_cell? w _ hw861_0)).trans hw861_0), ((HB.out.cell (World.block_lt_of_cell? w _ hw861_1)).trans hw861_1), ((HB.out.cell (World.block_lt_of_cell? w _ hw861_2)).trans hw861_2), ((HB.out.cell (World.block_lt_of_cell? w _ hw861_3)).trans hw861_3), ((HB.out.cell (World.block_lt_of_cell? w _ hw861_4)).trans hw861_4), ((HB.out.cell (World.block_lt_of_cell? w _ hw861_5)).trans hw861_5), ((HB.out.cell (World.block_lt_of_cell? w _ hw861_6)).trans hw861_6), ((HB.out.cell (World.block_lt_of_cell? w _ hw861_7)).trans hw861_7), ((HB.out.cell (World.block_lt_of_cell? w _ hw861_8)).trans hw861_8), ((HB.out.cell (World.block_lt_of_cell? w _ hw861_9)).trans hw861_9)⟩ (fun hHeld => ?_); refine with_tabW laws_eqMomentS.tab6 laws_eqMomentS.bits6 (fun HT_ HW_ => ?_)
        generalize wr.drew = w9 at HB hx860_0 hx860_1 hx860_2 hx860_3 hx860_4 hx860_5 hx860_6 hx860_7 hx860_8 hx860_9 hx861_0 hx861_1 hx861_2 hx861_3 hx861_4 hx861_5 hx861_6 hx861_7 hx861_8 hx861_9 hHeld ⊢
        refine pureA 0 17 #[true, false, false, false, false, false, false, false, false, false] (any_of HT_.out (by kernel_rfl)) ?_
        refine pureA 1 18 #[true, true, false, false, false, false, false, false, false, false] (any_of HT_.out (by kernel_rfl)) ?_
        refine pureA 2 19 #[true, true, true, false, false, false, false, false, false, false] (any_of HT_.out (by kernel_rfl)) ?_
        refine pureA 4 21 #[true, true, true, false, true, false, false, false, false, false] (any_of HT_.out (by kernel_rfl)) ?_
        refine pureA 5 22 #[true, true, true, false, true, true, false, false, false, false] (any_of HT_.out (by kernel_rfl)) ?_
        refine pureA 6 23 #[true, true, true, false, true, true, true, false, false, false] (any_of HT_.out (by kernel_rfl)) ?_
        refine takeA 3 20 #[true, true, true, true, true, true, true, false, false, false] (take_ofW HT_.out HW_.out (by kernel_rfl)) hHeld ?_
        refine takeA 7 24 #[true, true, true, true, true, true, true, true, false, false] (take_ofW HT_.out HW_.out (by kernel_rfl)) hHeld ?_
        refine one_ (i := 8) (N := some 25) #[true, true, true, true, true, true, true, true, true, false] rfl rfl (one_of HT_.out (by kernel_rfl)) (by decide) (fun K hK => ?_)
        refine goesA Try.func87 #[.agg #[.int .i64 ((rd_T86 l0 x5_1).f0.f0), .int .i64 ((rd_T86 l0 x5_1).f0.f1), .int .i64 ((rd_T86 l0 x5_1).f0.f2), .int .i64 ((rd_T86 l0 x5_1).f0.f3), .int .i64 ((rd_T86 l0 x5_1).f0.f4), .int .i64 ((rd_T86 l0 x5_1).f1.f0), .int .i64 ((rd_T86 l0 x5_1).f1.f1), .int .i64 ((rd_T86 l0 x5_1).f1.f2), .int .i64 ((rd_T86 l0 x5_1).f2), .int .i64 ((rd_T86 l0 x5_1).f3)], .agg #[.int .i64 ((rd_T86 l1 x5_1).f0.f0), .int .i64 ((rd_T86 l1 x5_1).f0.f1), .int .i64 ((rd_T86 l1 x5_1).f0.f2), .int .i64 ((rd_T86 l1 x5_1).f0.f3), .int .i64 ((rd_T86 l1 x5_1).f0.f4), .int .i64 ((rd_T86 l1 x5_1).f1.f0), .int .i64 ((rd_T86 l1 x5_1).f1.f1), .int .i64 ((rd_T86 l1 x5_1).f1.f2), .int .i64 ((rd_T86 l1 x5_1).f2), .int .i64 ((rd_T86 l1 x5_1).f3)]] ?_
        with_reducible refine (laws_eqMoment.calls ((rd_T86 l0 x5_1).f0.f0) ((rd_T86 l0 x5_1).f0.f1) ((rd_T86 l0 x5_1).f0.f2) ((rd_T86 l0 x5_1).f0.f3) ((rd_T86 l0 x5_1).f0.f4) ((rd_T86 l0 x5_1).f1.f0) ((rd_T86 l0 x5_1).f1.f1) ((rd_T86 l0 x5_1).f1.f2) ((rd_T86 l0 x5_1).f2) ((rd_T86 l0 x5_1).f3) ((rd_T86 l1 x5_1).f0.f0) ((rd_T86 l1 x5_1).f0.f1) ((rd_T86 l1 x5_1).f0.f2) ((rd_T86 l1 x5_1).f0.f3) ((rd_T86 l1 x5_1).f0.f4) ((rd_T86 l1 x5_1).f1.f0) ((rd_T86 l1 x5_1).f1.f1) ((rd_T86 l1 x5_1).f1.f2) ((rd_T86 l1 x5_1).f2) ((rd_T86 l1 x5_1).f3) true _ A7.out).mono ?_
        rintro e w10 ⟨rfl, hb⟩
        refine ⟨_, rfl, ?_⟩
        replace HB := bst HB hb; clear hb
        refine hK.out _ _ ⟨((HB.out.cell (World.block_lt_of_cell? w _ hw860_0)).trans hw860_0), ((HB.out.cell (World.block_lt_of_cell? w _ hw860_1)).trans hw860_1), ((HB.out.cell (World.block_lt_of_cell? w _ hw860_2)).trans hw860_2), ((HB.out.cell (World.block_lt_of_cell? w _ hw860_3)).trans hw860_3), ((HB.out.cell (World.block_lt_of_cell? w _ hw860_4)).trans hw860_4), ((HB.out.cell (World.block_lt_of_cell? w _ hw860_5)).trans hw860_5), ((HB.out.cell (World.block_lt_of_cell? w _ hw860_6)).trans hw860_6), ((HB.out.cell (World.block_lt_of_cell? w _ hw860_7)).trans hw860_7), ((HB.out.cell (World.block_lt_of_cell? w _ hw860_8)).trans hw860_8), ((HB.out.cell (World.block_lt_of_cell? w _ hw860_9)).trans hw860_9), ((HB.out.cell (World.block_lt_of_cell? w _ hw861_0)).trans hw861_0), ((HB.out.cell (World.block_lt_of_cell? w _ hw861_1)).trans hw861_1), ((HB.out.cell (World.block_lt_of_cell? w _ hw861_2)).trans hw861_2), ((HB.out.cell (World.block_lt_of_cell? w _ hw861_3)).trans hw861_3), ((HB.out.cell (World.block_lt_of_cell? w _ hw861_4)).trans hw861_4), ((HB.out.cell (World.block_lt_of_cell? w _ hw861_5)).trans hw861_5), ((HB.out.cell (World.block_lt_of_cell? w _ hw861_6)).trans hw861_6), ((HB.out.cell (World.block_lt_of_cell? w _ hw861_7)).trans hw861_7), ((HB.out.cell (World.block_lt_of_cell? w _ hw861_8)).trans hw861_8), ((HB.out.cell (World.block_lt_of_cell? w _ hw861_9)).trans hw861_9)⟩ (fun hHeld => ?_)
        clear hK K
        refine normP ?_
        refine pureA 9 26 #[true, true, true, true, true, true, true, true, true, true] (any_of HT_.out (by kernel_rfl)) ?_
        refine done_ (done_of HT_.out (by kernel_rfl)) ?_
        try go_wp2
        go_roundg k1
        case measure => have := HK1.out; omega
        case rel => exact ⟨(wrap64 (x5_1 + 1)), (by first | rfl | (simp; done) | (simp [*]; done)), H', ⟨by have := HK1.out; omega⟩, ⟨(qs HB)⟩⟩
       replace c8 := Bool.eq_false_iff.mpr c8
       subst c8
       have H1 : (some false) = some r := by rw [if_neg (show ¬ (false = true) by decide)] at H; exact H
       clear H; have H := H1; clear H1
       obtain rfl := Option.some.inj H
       try go_wp2
       replace HB := Aside0.mk (below_drew1 HB.out)
       have p860 : 0 ≤ (x5_1 : Int) := of_decide_eq_true (by assumption)
       have q860 : x5_1 < (l0.length : Int) := of_decide_eq_true (by assumption)
       obtain ⟨ad860, e860, hx860_0, hx860_1, hx860_2, hx860_3, hx860_4, hx860_5, hx860_6, hx860_7, hx860_8, hx860_9⟩ := at_T86 HR0.out x5_1 p860 q860
       have hw860_9 := hx860_9; have hw860_8 := hx860_8; have hw860_7 := hx860_7; have hw860_6 := hx860_6; have hw860_5 := hx860_5; have hw860_4 := hx860_4; have hw860_3 := hx860_3; have hw860_2 := hx860_2; have hw860_1 := hx860_1; have hw860_0 := hx860_0
       cases e860
       replace hx860_0 := (HB.out.cell (World.block_lt_of_cell? w _ hx860_0)).trans hx860_0
       replace hx860_1 := (HB.out.cell (World.block_lt_of_cell? w _ hx860_1)).trans hx860_1
       replace hx860_2 := (HB.out.cell (World.block_lt_of_cell? w _ hx860_2)).trans hx860_2
       replace hx860_3 := (HB.out.cell (World.block_lt_of_cell? w _ hx860_3)).trans hx860_3
       replace hx860_4 := (HB.out.cell (World.block_lt_of_cell? w _ hx860_4)).trans hx860_4
       replace hx860_5 := (HB.out.cell (World.block_lt_of_cell? w _ hx860_5)).trans hx860_5
       replace hx860_6 := (HB.out.cell (World.block_lt_of_cell? w _ hx860_6)).trans hx860_6
       replace hx860_7 := (HB.out.cell (World.block_lt_of_cell? w _ hx860_7)).trans hx860_7
       replace hx860_8 := (HB.out.cell (World.block_lt_of_cell? w _ hx860_8)).trans hx860_8
       replace hx860_9 := (HB.out.cell (World.block_lt_of_cell? w _ hx860_9)).trans hx860_9
       replace p860 := eq_true p860
       replace q860 := eq_true q860
       have p861 : 0 ≤ (x5_1 : Int) := of_decide_eq_true (by assumption)
       have q861 : x5_1 < (l1.length : Int) := of_decide_eq_true (by assumption)
       obtain ⟨ad861, e861, hx861_0, hx861_1, hx861_2, hx861_3, hx861_4, hx861_5, hx861_6, hx861_7, hx861_8, hx861_9⟩ := at_T86 HR1.out x5_1 p861 q861
       have hw861_9 := hx861_9; have hw861_8 := hx861_8; have hw861_7 := hx861_7; have hw861_6 := hx861_6; have hw861_5 := hx861_5; have hw861_4 := hx861_4; have hw861_3 := hx861_3; have hw861_2 := hx861_2; have hw861_1 := hx861_1; have hw861_0 := hx861_0
       cases e861
       replace hx861_0 := (HB.out.cell (World.block_lt_of_cell? w _ hx861_0)).trans hx861_0
       replace hx861_1 := (HB.out.cell (World.block_lt_of_cell? w _ hx861_1)).trans hx861_1
       replace hx861_2 := (HB.out.cell (World.block_lt_of_cell? w _ hx861_2)).trans hx861_2
       replace hx861_3 := (HB.out.cell (World.block_lt_of_cell? w _ hx861_3)).trans hx861_3
       replace hx861_4 := (HB.out.cell (World.block_lt_of_cell? w _ hx861_4)).trans hx861_4
       replace hx861_5 := (HB.out.cell (World.block_lt_of_cell? w _ hx861_5)).trans hx861_5
       replace hx861_6 := (HB.out.cell (World.block_lt_of_cell? w _ hx861_6)).trans hx861_6
       replace hx861_7 := (HB.out.cell (World.block_lt_of_cell? w _ hx861_7)).trans hx861_7
       replace hx861_8 := (HB.out.cell (World.block_lt_of_cell? w _ hx861_8)).trans hx861_8
       replace hx861_9 := (HB.out.cell (World.block_lt_of_cell? w _ hx861_9)).trans hx861_9
       replace p861 := eq_true p861
       replace q861 := eq_true q861
       refine start_ (n := 10) (S := fun w' => w'.cell? (ad860.add ((x5_1).toNat * 10)) = some (.int .i64 ((rd_T86 l0 x5_1).f0.f0)) ∧ w'.cell? ⟨(ad860.add ((x5_1).toNat * 10)).block, (ad860.add ((x5_1).toNat * 10)).off + 1, none⟩ = some (.int .i64 ((rd_T86 l0 x5_1).f0.f1)) ∧ w'.cell? ⟨(ad860.add ((x5_1).toNat * 10)).block, (ad860.add ((x5_1).toNat * 10)).off + 2, none⟩ = some (.int .i64 ((rd_T86 l0 x5_1).f0.f2)) ∧ w'.cell? ⟨(ad860.add ((x5_1).toNat * 10)).block, (ad860.add ((x5_1).toNat * 10)).off + 3, none⟩ = some (.int .i64 ((rd_T86 l0 x5_1).f0.f3)) ∧ w'.cell? ⟨(ad860.add ((x5_1).toNat * 10)).block, (ad860.add ((x5_1).toNat * 10)).off + 4, none⟩ = some (.int .i64 ((rd_T86 l0 x5_1).f0.f4)) ∧ w'.cell? ⟨(ad860.add ((x5_1).toNat * 10)).block, (ad860.add ((x5_1).toNat * 10)).off + 5, none⟩ = some (.int .i64 ((rd_T86 l0 x5_1).f1.f0)) ∧ w'.cell? ⟨(ad860.add ((x5_1).toNat * 10)).block, (ad860.add ((x5_1).toNat * 10)).off + 6, none⟩ = some (.int .i64 ((rd_T86 l0 x5_1).f1.f1)) ∧ w'.cell? ⟨(ad860.add ((x5_1).toNat * 10)).block, (ad860.add ((x5_1).toNat * 10)).off + 7, none⟩ = some (.int .i64 ((rd_T86 l0 x5_1).f1.f2)) ∧ w'.cell? ⟨(ad860.add ((x5_1).toNat * 10)).block, (ad860.add ((x5_1).toNat * 10)).off + 8, none⟩ = some (.int .i64 ((rd_T86 l0 x5_1).f2)) ∧ w'.cell? ⟨(ad860.add ((x5_1).toNat * 10)).block, (ad860.add ((x5_1).toNat * 10)).off + 9, none⟩ = some (.int .i64 ((rd_T86 l0 x5_1).f3)) ∧ w'.cell? (ad861.add ((x5_1).toNat * 10)) = some (.int .i64 ((rd_T86 l1 x5_1).f0.f0)) ∧ w'.cell? ⟨(ad861.add ((x5_1).toNat * 10)).block, (ad861.add ((x5_1).toNat * 10)).off + 1, none⟩ = some (.int .i64 ((rd_T86 l1 x5_1).f0.f1)) ∧ w'.cell? ⟨(ad861.add ((x5_1).toNat * 10)).block, (ad861.add ((x5_1).toNat * 10)).off + 2, none⟩ = some (.int .i64 ((rd_T86 l1 x5_1).f0.f2)) ∧ w'.cell? ⟨(ad861.add ((x5_1).toNat * 10)).block, (ad861.add ((x5_1).toNat * 10)).off + 3, none⟩ = some (.int .i64 ((rd_T86 l1 x5_1).f0.f3)) ∧ w'.cell? ⟨(ad861.add ((x5_1).toNat * 10)).block, (ad861.add ((x5_1).toNat * 10)).off + 4, none⟩ = some (.int .i64 ((rd_T86 l1 x5_1).f0.f4)) ∧ w'.cell? ⟨(ad861.add ((x5_1).toNat * 10)).block, (ad861.add ((x5_1).toNat * 10)).off + 5, none⟩ = some (.int .i64 ((rd_T86 l1 x5_1).f1.f0)) ∧ w'.cell? ⟨(ad861.add ((x5_1).toNat * 10)).block, (ad861.add ((x5_1).toNat * 10)).off + 6, none⟩ = some (.int .i64 ((rd_T86 l1 x5_1).f1.f1)) ∧ w'.cell? ⟨(ad861.add ((x5_1).toNat * 10)).block, (ad861.add ((x5_1).toNat * 10)).off + 7, none⟩ = some (.int .i64 ((rd_T86 l1 x5_1).f1.f2)) ∧ w'.cell? ⟨(ad861.add ((x5_1).toNat * 10)).block, (ad861.add ((x5_1).toNat * 10)).off + 8, none⟩ = some (.int .i64 ((rd_T86 l1 x5_1).f2)) ∧ w'.cell? ⟨(ad861.add ((x5_1).toNat * 10)).block, (ad861.add ((x5_1).toNat * 10)).off + 9, none⟩ = some (.int .i64 ((rd_T86 l1 x5_1).f3))) (ds := []) #[false, false, false, false, false, false, false, false, false, false] (by kernel_rfl) rfl rfl ⟨((HB.out.cell (World.block_lt_of_cell? w _ hw860_0)).trans hw860_0), ((HB.out.cell (World.block_lt_of_cell? w _ hw860_1)).trans hw860_1), ((HB.out.cell (World.block_lt_of_cell? w _ hw860_2)).trans hw860_2), ((HB.out.cell (World.block_lt_of_cell? w _ hw860_3)).trans hw860_3), ((HB.out.cell (World.block_lt_of_cell? w _ hw860_4)).trans hw860_4), ((HB.out.cell (World.block_lt_of_cell? w _ hw860_5)).trans hw860_5), ((HB.out.cell (World.block_lt_of_cell? w _ hw860_6)).trans hw860_6), ((HB.out.cell (World.block_lt_of_cell? w _ hw860_7)).trans hw860_7), ((HB.out.cell (World.block_lt_of_cell? w _ hw860_8)).trans hw860_8), ((HB.out.cell (World.block_lt_of_cell? w _ hw860_9)).trans hw860_9), ((HB.out.cell (World.block_lt_of_cell? w _ hw861_0)).trans hw861_0), ((HB.out.cell (World.block_lt_of_cell? w _ hw861_1)).trans hw861_1), ((HB.out.cell (World.block_lt_of_cell? w _ hw861_2)).trans hw861_2), ((HB.out.cell (World.block_lt_of_cell? w _ hw861_3)).trans hw861_3), ((HB.out.cell (World.block_lt_of_cell? w _ hw861_4)).trans hw861_4), ((HB.out.cell (World.block_lt_of_cell? w _ hw861_5)).trans hw861_5), ((HB.out.cell (World.block_lt_of_cell? w _ hw861_6)).trans hw861_6), ((HB.out.cell (World.block_lt_of_cell? w _ hw861_7)).trans hw861_7), ((HB.out.cell (World.block_lt_of_cell? w _ hw861_8)).trans hw861_8), ((HB.out.cell (World.block_lt_of_cell? w _ hw861_9)).trans hw861_9)⟩ (fun hHeld => ?_); refine with_tabW laws_eqMomentS.tab6 laws_eqMomentS.bits6 (fun HT_ HW_ => ?_)
       generalize wr.drew = w11 at HB hx860_0 hx860_1 hx860_2 hx860_3 hx860_4 hx860_5 hx860_6 hx860_7 hx860_8 hx860_9 hx861_0 hx861_1 hx861_2 hx861_3 hx861_4 hx861_5 hx861_6 hx861_7 hx861_8 hx861_9 hHeld ⊢
       refine pureA 0 17 #[true, false, false, false, false, false, false, false, false, false] (any_of HT_.out (by kernel_rfl)) ?_
       refine pureA 1 18 #[true, true, false, false, false, false, false, false, false, false] (any_of HT_.out (by kernel_rfl)) ?_
       refine pureA 2 19 #[true, true, true, false, false, false, false, false, false, false] (any_of HT_.out (by kernel_rfl)) ?_
       refine pureA 4 21 #[true, true, true, false, true, false, false, false, false, false] (any_of HT_.out (by kernel_rfl)) ?_
       refine pureA 5 22 #[true, true, true, false, true, true, false, false, false, false] (any_of HT_.out (by kernel_rfl)) ?_
       refine pureA 6 23 #[true, true, true, false, true, true, true, false, false, false] (any_of HT_.out (by kernel_rfl)) ?_
       refine takeA 3 20 #[true, true, true, true, true, true, true, false, false, false] (take_ofW HT_.out HW_.out (by kernel_rfl)) hHeld ?_
       refine takeA 7 24 #[true, true, true, true, true, true, true, true, false, false] (take_ofW HT_.out HW_.out (by kernel_rfl)) hHeld ?_
       refine one_ (i := 8) (N := some 25) #[true, true, true, true, true, true, true, true, true, false] rfl rfl (one_of HT_.out (by kernel_rfl)) (by decide) (fun K hK => ?_)
       refine goesA Try.func87 #[.agg #[.int .i64 ((rd_T86 l0 x5_1).f0.f0), .int .i64 ((rd_T86 l0 x5_1).f0.f1), .int .i64 ((rd_T86 l0 x5_1).f0.f2), .int .i64 ((rd_T86 l0 x5_1).f0.f3), .int .i64 ((rd_T86 l0 x5_1).f0.f4), .int .i64 ((rd_T86 l0 x5_1).f1.f0), .int .i64 ((rd_T86 l0 x5_1).f1.f1), .int .i64 ((rd_T86 l0 x5_1).f1.f2), .int .i64 ((rd_T86 l0 x5_1).f2), .int .i64 ((rd_T86 l0 x5_1).f3)], .agg #[.int .i64 ((rd_T86 l1 x5_1).f0.f0), .int .i64 ((rd_T86 l1 x5_1).f0.f1), .int .i64 ((rd_T86 l1 x5_1).f0.f2), .int .i64 ((rd_T86 l1 x5_1).f0.f3), .int .i64 ((rd_T86 l1 x5_1).f0.f4), .int .i64 ((rd_T86 l1 x5_1).f1.f0), .int .i64 ((rd_T86 l1 x5_1).f1.f1), .int .i64 ((rd_T86 l1 x5_1).f1.f2), .int .i64 ((rd_T86 l1 x5_1).f2), .int .i64 ((rd_T86 l1 x5_1).f3)]] ?_
       with_reducible refine (laws_eqMoment.calls ((rd_T86 l0 x5_1).f0.f0) ((rd_T86 l0 x5_1).f0.f1) ((rd_T86 l0 x5_1).f0.f2) ((rd_T86 l0 x5_1).f0.f3) ((rd_T86 l0 x5_1).f0.f4) ((rd_T86 l0 x5_1).f1.f0) ((rd_T86 l0 x5_1).f1.f1) ((rd_T86 l0 x5_1).f1.f2) ((rd_T86 l0 x5_1).f2) ((rd_T86 l0 x5_1).f3) ((rd_T86 l1 x5_1).f0.f0) ((rd_T86 l1 x5_1).f0.f1) ((rd_T86 l1 x5_1).f0.f2) ((rd_T86 l1 x5_1).f0.f3) ((rd_T86 l1 x5_1).f0.f4) ((rd_T86 l1 x5_1).f1.f0) ((rd_T86 l1 x5_1).f1.f1) ((rd_T86 l1 x5_1).f1.f2) ((rd_T86 l1 x5_1).f2) ((rd_T86 l1 x5_1).f3) false _ A7.out).mono ?_
       rintro e w12 ⟨rfl, hb⟩
       refine ⟨_, rfl, ?_⟩
       replace HB := bst HB hb; clear hb
       refine hK.out _ _ ⟨((HB.out.cell (World.block_lt_of_cell? w _ hw860_0)).trans hw860_0), ((HB.out.cell (World.block_lt_of_cell? w _ hw860_1)).trans hw860_1), ((HB.out.cell (World.block_lt_of_cell? w _ hw860_2)).trans hw860_2), ((HB.out.cell (World.block_lt_of_cell? w _ hw860_3)).trans hw860_3), ((HB.out.cell (World.block_lt_of_cell? w _ hw860_4)).trans hw860_4), ((HB.out.cell (World.block_lt_of_cell? w _ hw860_5)).trans hw860_5), ((HB.out.cell (World.block_lt_of_cell? w _ hw860_6)).trans hw860_6), ((HB.out.cell (World.block_lt_of_cell? w _ hw860_7)).trans hw860_7), ((HB.out.cell (World.block_lt_of_cell? w _ hw860_8)).trans hw860_8), ((HB.out.cell (World.block_lt_of_cell? w _ hw860_9)).trans hw860_9), ((HB.out.cell (World.block_lt_of_cell? w _ hw861_0)).trans hw861_0), ((HB.out.cell (World.block_lt_of_cell? w _ hw861_1)).trans hw861_1), ((HB.out.cell (World.block_lt_of_cell? w _ hw861_2)).trans hw861_2), ((HB.out.cell (World.block_lt_of_cell? w _ hw861_3)).trans hw861_3), ((HB.out.cell (World.block_lt_of_cell? w _ hw861_4)).trans hw861_4), ((HB.out.cell (World.block_lt_of_cell? w _ hw861_5)).trans hw861_5), ((HB.out.cell (World.block_lt_of_cell? w _ hw861_6)).trans hw861_6), ((HB.out.cell (World.block_lt_of_cell? w _ hw861_7)).trans hw861_7), ((HB.out.cell (World.block_lt_of_cell? w _ hw861_8)).trans hw861_8), ((HB.out.cell (World.block_lt_of_cell? w _ hw861_9)).trans hw861_9)⟩ (fun hHeld => ?_)
       clear hK K
       refine normP ?_
       refine pureA 9 26 #[true, true, true, true, true, true, true, true, true, true] (any_of HT_.out (by kernel_rfl)) ?_
       refine done_ (done_of HT_.out (by kernel_rfl)) ?_
       try go_wp2
       go_ret
       exact ⟨by first | rfl | (simp [*, errW_none, errW_some] <;> rfl), (qs HB)⟩
      rw [if_neg c6] at H
      exact absurd H (by simp)
     rw [if_neg c5] at H
     exact absurd H (by simp)
    rw [if_neg c4] at H
    have c4b0 : decide (x5_1 < (l0.length : Int)) = false := decide_eq_false c4
    clear c4
    obtain rfl := Option.some.inj H
    go_wp2
    go_ret
    exact ⟨by first | rfl | (simp [*, errW_none, errW_some] <;> rfl), (qs HB)⟩
 rw [if_neg c3] at H
 have c3b0 : ((l0.length : Int) == (l1.length : Int)) = false := beq_eq_false_iff_ne.mpr c3
 have c3b1 : ((l0.length : Int) != (l1.length : Int)) = true := bne_iff_ne.mpr c3
 have c3b2 : (l0.length == l1.length) = false := by first | simpa using c3 | (simp at c3 ⊢; omega)
 obtain rfl := Option.some.inj H
 go_enter Try.func39, Try.ntmps39
 go_wp2
 go_ret
 exact ⟨by first | rfl | (simp [*, errW_none, errW_some] <;> rfl), (qs HB)⟩
def laws_eqSet.f (a0_0 : Int) (a0_1 : Int) (a1_0 : Int) (a1_1 : Int) : Option (Bool) := if a0_0 = a1_0 then (if a0_1 = a1_1 then (some true) else (some false)) else (some false)
set_option maxHeartbeats 8000000 in
set_option maxRecDepth 100000 in
theorem laws_eqSet.calls (a0_0 : Int) (a0_1 : Int) (a1_0 : Int) (a1_1 : Int) (r : Bool) (w : World) (h : laws_eqSet.f a0_0 a0_1 a1_0 a1_1 = some r) :
  Calls Try.prog 88 #[.agg #[.int .i64 a0_0, .int .i64 a0_1], .agg #[.int .i64 a1_0, .int .i64 a1_1]] w fun e w' => e = .returned (.bool r) ∧ Below w.heap.size w w' := by
 have hu84 := Try.underlying84
 have HB := Aside0.mk (Below.refl w.heap.size w)
 have H : (if a0_0 = a1_0 then (if a0_1 = a1_1 then (some true) else (some false)) else (some false)) = some r := h
 clear h
 by_cases c3 : a0_0 = a1_0
 ·rw [if_pos c3] at H
  have c3b0 : (a0_0 == a1_0) = true := beq_iff_eq.mpr c3
  have c3b1 : (a0_0 != a1_0) = false := bne_eq_false_iff_eq.mpr c3
  clear c3
  by_cases c4 : a0_1 = a1_1
  ·rw [if_pos c4] at H
   have c4b0 : (a0_1 == a1_1) = true := beq_iff_eq.mpr c4
   have c4b1 : (a0_1 != a1_1) = false := bne_eq_false_iff_eq.mpr c4
   clear c4
   obtain rfl := Option.some.inj H
   go_enter Try.func88, Try.ntmps88
   go_wp2_with (first | ((with_reducible refine gate_dst (N := 2) rfl ?_); refine boxA #[.int .i64 a0_0, .int .i64 a0_1] 84 ?_; intro gb863 hg w5 hbox hb; have BK863 := Aside0.mk (hbox); have GW863 := nge HB hg; have GE863 := nge HB hg; replace HB := bst HB hb; clear hb hbox hg) | ((with_reducible refine gate_dst (N := 3) rfl ?_); refine boxA #[.int .i64 a1_0, .int .i64 a1_1] 84 ?_; intro gb864 hg w6 hbox hb; have BK864 := Aside0.mk (hbox); have GW864 := nge HB hg; have GE864 := nge HB hg; replace HB := bst HB hb; have NB863_864 := nlt BK863 hg; have NB864_863 := ngt BK863 hg; replace BK863 := bkb BK863 hb; clear hb hbox hg; have hnb7 := NB863_864.out; have hnc7 := NB864_863.out; have hcz8_0 := b0 BK863; have hcz8_1 := b1 BK863; have hfz8_0 := blk_frozen BK863.out 0; have hfz8_1 := blk_frozen BK863.out 1; have hcz9_0 := b0 BK864; have hcz9_1 := b1 BK864; have hfz9_0 := blk_frozen BK864.out 0; have hfz9_1 := blk_frozen BK864.out 1))
   go_ret
   exact ⟨by first | rfl | (simp [*, errW_none, errW_some] <;> rfl), (qs HB)⟩
  rw [if_neg c4] at H
  have c4b0 : (a0_1 == a1_1) = false := beq_eq_false_iff_ne.mpr c4
  have c4b1 : (a0_1 != a1_1) = true := bne_iff_ne.mpr c4
  obtain rfl := Option.some.inj H
  go_enter Try.func88, Try.ntmps88
  go_wp2_with (first | ((with_reducible refine gate_dst (N := 2) rfl ?_); refine boxA #[.int .i64 a0_0, .int .i64 a0_1] 84 ?_; intro gb863 hg w10 hbox hb; have BK863 := Aside0.mk (hbox); have GW863 := nge HB hg; have GE863 := nge HB hg; replace HB := bst HB hb; clear hb hbox hg) | ((with_reducible refine gate_dst (N := 3) rfl ?_); refine boxA #[.int .i64 a1_0, .int .i64 a1_1] 84 ?_; intro gb864 hg w11 hbox hb; have BK864 := Aside0.mk (hbox); have GW864 := nge HB hg; have GE864 := nge HB hg; replace HB := bst HB hb; have NB863_864 := nlt BK863 hg; have NB864_863 := ngt BK863 hg; replace BK863 := bkb BK863 hb; clear hb hbox hg; have hnb12 := NB863_864.out; have hnc12 := NB864_863.out; have hcz13_0 := b0 BK863; have hcz13_1 := b1 BK863; have hfz13_0 := blk_frozen BK863.out 0; have hfz13_1 := blk_frozen BK863.out 1; have hcz14_0 := b0 BK864; have hcz14_1 := b1 BK864; have hfz14_0 := blk_frozen BK864.out 0; have hfz14_1 := blk_frozen BK864.out 1))
  go_ret
  exact ⟨by first | rfl | (simp [*, errW_none, errW_some] <;> rfl), (qs HB)⟩
 rw [if_neg c3] at H
 have c3b0 : (a0_0 == a1_0) = false := beq_eq_false_iff_ne.mpr c3
 have c3b1 : (a0_0 != a1_0) = true := bne_iff_ne.mpr c3
 obtain rfl := Option.some.inj H
 go_enter Try.func88, Try.ntmps88
 go_wp2_with (first | ((with_reducible refine gate_dst (N := 2) rfl ?_); refine boxA #[.int .i64 a0_0, .int .i64 a0_1] 84 ?_; intro gb863 hg w15 hbox hb; have BK863 := Aside0.mk (hbox); have GW863 := nge HB hg; have GE863 := nge HB hg; replace HB := bst HB hb; clear hb hbox hg) | ((with_reducible refine gate_dst (N := 3) rfl ?_); refine boxA #[.int .i64 a1_0, .int .i64 a1_1] 84 ?_; intro gb864 hg w16 hbox hb; have BK864 := Aside0.mk (hbox); have GW864 := nge HB hg; have GE864 := nge HB hg; replace HB := bst HB hb; have NB863_864 := nlt BK863 hg; have NB864_863 := ngt BK863 hg; replace BK863 := bkb BK863 hb; clear hb hbox hg; have hnb17 := NB863_864.out; have hnc17 := NB864_863.out; have hcz18_0 := b0 BK863; have hcz18_1 := b1 BK863; have hfz18_0 := blk_frozen BK863.out 0; have hfz18_1 := blk_frozen BK863.out 1; have hcz19_0 := b0 BK864; have hcz19_1 := b1 BK864; have hfz19_0 := blk_frozen BK864.out 0; have hfz19_1 := blk_frozen BK864.out 1))
 go_ret
 exact ⟨by first | rfl | (simp [*, errW_none, errW_some] <;> rfl), (qs HB)⟩
def laws_eqSetS.l0 : Nat → List (S84) → List (S84) → Int → Option (Bool)
 | 0, _, _, _ => none
 | k + 1, x0, x1, x5 => if x5 < (x0.length : Int) then (if 0 ≤ x5 then (if x5 < (x1.length : Int) then ((laws_eqSet.f ((rd_T84 x0 x5).f0) ((rd_T84 x0 x5).f1) ((rd_T84 x1 x5).f0) ((rd_T84 x1 x5).f1)).bind fun t867 => (if t867 = true then (laws_eqSetS.l0 k x0 x1 (wrap64 (x5 + 1))) else (some false))) else (none)) else (none)) else (some true)
def laws_eqSetS.f (k : Nat) (l0 : List (S84)) (l1 : List (S84)) : Option (Bool) := if (l0.length : Int) = (l1.length : Int) then (laws_eqSetS.l0 k l0 l1 0) else (some false)
def laws_eqSetS.T6 : Bool × List (List Nat × List Nat) := (true, [([], []), ([], []), ([0, 1], [0, 1]), ([2], [2]), ([], []), ([], []), ([4, 5], [4, 5]), ([6], [6]), ([3, 7], [3, 7]), ([8], [8])])
def laws_eqSetS.B6 : List Nat := [0, 0, 3, 7, 0, 0, 48, 112, 255, 511]
theorem laws_eqSetS.tab6 : rtab .any (opsOf Try.f40 6) = laws_eqSetS.T6 := by kernel_rfl
theorem laws_eqSetS.bits6 : waitsOk laws_eqSetS.T6.2 laws_eqSetS.B6 = true := by kernel_rfl
set_option maxHeartbeats 8000000 in
set_option maxRecDepth 100000 in
theorem laws_eqSetS.calls (k : Nat) (A0 : Option Addr) (c0 : Nat) (l0 : List (S84)) (A1 : Option Addr) (c1 : Nat) (l1 : List (S84)) (r : Bool) (w : World) (hr0 : Kd.C k84 w A0 l0.length l0) (hc0 : l0.length ≤ c0) (hr1 : Kd.C k84 w A1 l1.length l1) (hc1 : l1.length ≤ c1) (h : laws_eqSetS.f k l0 l1 = some r) :
  Calls Try.prog 40 #[.slice A0 l0.length c0, .slice A1 l1.length c1] w fun e w' => e = .returned (.bool r) ∧ Below w.heap.size w w' := by
 have hu84 := Try.underlying84
 have HR0 := Aside0.mk hr0
 have HC0 := Aside0.mk hc0
 clear hr0 hc0
 have HR1 := Aside0.mk hr1
 have HC1 := Aside0.mk hc1
 clear hr1 hc1
 have HB := Aside0.mk (Below.refl w.heap.size w)
 have H : (if (l0.length : Int) = (l1.length : Int) then (laws_eqSetS.l0 k l0 l1 0) else (some false)) = some r := h
 clear h
 by_cases c3 : (l0.length : Int) = (l1.length : Int)
 ·rw [if_pos c3] at H
  have c3b0 : ((l0.length : Int) == (l1.length : Int)) = true := beq_iff_eq.mpr c3
  have c3b1 : ((l0.length : Int) != (l1.length : Int)) = false := bne_eq_false_iff_eq.mpr c3
  have c3b2 : (l0.length == l1.length) = true := by first | simpa using c3 | (simp at c3 ⊢; omega)
  clear c3
  have H' := Aside0.mk H
  clear H
  go_enter Try.func40, Try.ntmps40
  go_wp2
  go_loopg [5] k (fun kq v5 w' => ∃ (x5_1 : Int), v5 = .int .i64 x5_1 ∧ Aside0 (laws_eqSetS.l0 kq l0 l1 x5_1 = some r) ∧ Aside0 (kq ≤ k) ∧ Aside0 (Below w.heap.size w w'))
  case atStart => exact ⟨(0), (by first | rfl | (simp; done) | (simp [*]; done)), H', ⟨Nat.le_refl _⟩, ⟨(qs HB)⟩⟩
  case round =>
   clear H'
   try clear c1; try clear p2; try clear c3; try clear c3b0; try clear c3b1; try clear c3b2
   obtain ⟨x5_1, rfl, HA, HK1, HB⟩ := hrel
   cases gk with
   | zero => exact absurd HA.out (by simp [laws_eqSetS.l0])
   | succ k1 =>
    have H := HA.out
    clear HA
    simp only [laws_eqSetS.l0] at H
    by_cases c4 : x5_1 < (l0.length : Int)
    ·rw [if_pos c4] at H
     have c4b0 : decide (x5_1 < (l0.length : Int)) = true := decide_eq_true c4
     clear c4
     by_cases c5 : 0 ≤ x5_1
     ·rw [if_pos c5] at H
      have c5b0 : decide (0 ≤ x5_1) = true := decide_eq_true c5
      clear c5
      by_cases c6 : x5_1 < (l1.length : Int)
      ·rw [if_pos c6] at H
       have c6b0 : decide (x5_1 < (l1.length : Int)) = true := decide_eq_true c6
       clear c6
       replace H := Option.bind_eq_some_iff.mp H
       obtain ⟨t867, A70, H⟩ := H
       replace H : (if t867 = true then (laws_eqSetS.l0 k1 l0 l1 (wrap64 (x5_1 + 1))) else (some false)) = some r := H
       have A7 := Aside0.mk A70
       clear A70
       by_cases c8 : t867 = true
       ·subst c8
        have H1 : (laws_eqSetS.l0 k1 l0 l1 (wrap64 (x5_1 + 1))) = some r := by rw [if_pos rfl] at H; exact H
        clear H; have H := H1; clear H1
        have H' := Aside0.mk H
        clear H
        try go_wp2
        replace HB := Aside0.mk (below_drew1 HB.out)
        have p865 : 0 ≤ (x5_1 : Int) := of_decide_eq_true (by assumption)
        have q865 : x5_1 < (l0.length : Int) := of_decide_eq_true (by assumption)
        obtain ⟨ad865, e865, hx865_0, hx865_1⟩ := at_T84 HR0.out x5_1 p865 q865
        have hw865_1 := hx865_1; have hw865_0 := hx865_0
        cases e865
        replace hx865_0 := (HB.out.cell (World.block_lt_of_cell? w _ hx865_0)).trans hx865_0
        replace hx865_1 := (HB.out.cell (World.block_lt_of_cell? w _ hx865_1)).trans hx865_1
        replace p865 := eq_true p865
        replace q865 := eq_true q865
        have p866 : 0 ≤ (x5_1 : Int) := of_decide_eq_true (by assumption)
        have q866 : x5_1 < (l1.length : Int) := of_decide_eq_true (by assumption)
        obtain ⟨ad866, e866, hx866_0, hx866_1⟩ := at_T84 HR1.out x5_1 p866 q866
        have hw866_1 := hx866_1; have hw866_0 := hx866_0
        cases e866
        replace hx866_0 := (HB.out.cell (World.block_lt_of_cell? w _ hx866_0)).trans hx866_0
        replace hx866_1 := (HB.out.cell (World.block_lt_of_cell? w _ hx866_1)).trans hx866_1
        replace p866 := eq_true p866
        replace q866 := eq_true q866
        refine start_ (n := 10) (S := fun w' => w'.cell? (ad865.add ((x5_1).toNat * 2)) = some (.int .i64 ((rd_T84 l0 x5_1).f0)) ∧ w'.cell? ⟨(ad865.add ((x5_1).toNat * 2)).block, (ad865.add ((x5_1).toNat * 2)).off + 1, none⟩ = some (.int .i64 ((rd_T84 l0 x5_1).f1)) ∧ w'.cell? (ad866.add ((x5_1).toNat * 2)) = some (.int .i64 ((rd_T84 l1 x5_1).f0)) ∧ w'.cell? ⟨(ad866.add ((x5_1).toNat * 2)).block, (ad866.add ((x5_1).toNat * 2)).off + 1, none⟩ = some (.int .i64 ((rd_T84 l1 x5_1).f1))) (ds := []) #[false, false, false, false, false, false, false, false, false, false] (by kernel_rfl) rfl rfl ⟨((HB.out.cell (World.block_lt_of_cell? w _ hw865_0)).trans hw865_0), ((HB.out.cell (World.block_lt_of_cell? w _ hw865_1)).trans hw865_1), ((HB.out.cell (World.block_lt_of_cell? w _ hw866_0)).trans hw866_0), ((HB.out.cell (World.block_lt_of_cell? w _ hw866_1)).trans hw866_1)⟩ (fun hHeld => ?_); refine with_tabW laws_eqSetS.tab6 laws_eqSetS.bits6 (fun HT_ HW_ => ?_)
        generalize wr.drew = w9 at HB hx865_0 hx865_1 hx866_0 hx866_1 hHeld ⊢
        refine pureA 0 17 #[true, false, false, false, false, false, false, false, false, false] (any_of HT_.out (by kernel_rfl)) ?_
        refine pureA 1 18 #[true, true, false, false, false, false, false, false, false, false] (any_of HT_.out (by kernel_rfl)) ?_
        refine pureA 2 19 #[true, true, true, false, false, false, false, false, false, false] (any_of HT_.out (by kernel_rfl)) ?_
        refine pureA 4 21 #[true, true, true, false, true, false, false, false, false, false] (any_of HT_.out (by kernel_rfl)) ?_
        refine pureA 5 22 #[true, true, true, false, true, true, false, false, false, false] (any_of HT_.out (by kernel_rfl)) ?_
        refine pureA 6 23 #[true, true, true, false, true, true, true, false, false, false] (any_of HT_.out (by kernel_rfl)) ?_
        refine takeA 3 20 #[true, true, true, true, true, true, true, false, false, false] (take_ofW HT_.out HW_.out (by kernel_rfl)) hHeld ?_
        refine takeA 7 24 #[true, true, true, true, true, true, true, true, false, false] (take_ofW HT_.out HW_.out (by kernel_rfl)) hHeld ?_
        refine one_ (i := 8) (N := some 25) #[true, true, true, true, true, true, true, true, true, false] rfl rfl (one_of HT_.out (by kernel_rfl)) (by decide) (fun K hK => ?_)
        refine goesA Try.func88 #[.agg #[.int .i64 ((rd_T84 l0 x5_1).f0), .int .i64 ((rd_T84 l0 x5_1).f1)], .agg #[.int .i64 ((rd_T84 l1 x5_1).f0), .int .i64 ((rd_T84 l1 x5_1).f1)]] ?_
        with_reducible refine (laws_eqSet.calls ((rd_T84 l0 x5_1).f0) ((rd_T84 l0 x5_1).f1) ((rd_T84 l1 x5_1).f0) ((rd_T84 l1 x5_1).f1) true _ A7.out).mono ?_
        rintro e w10 ⟨rfl, hb⟩
        refine ⟨_, rfl, ?_⟩
        replace HB := bst HB hb; clear hb
        refine hK.out _ _ ⟨((HB.out.cell (World.block_lt_of_cell? w _ hw865_0)).trans hw865_0), ((HB.out.cell (World.block_lt_of_cell? w _ hw865_1)).trans hw865_1), ((HB.out.cell (World.block_lt_of_cell? w _ hw866_0)).trans hw866_0), ((HB.out.cell (World.block_lt_of_cell? w _ hw866_1)).trans hw866_1)⟩ (fun hHeld => ?_)
        clear hK K
        refine normP ?_
        refine pureA 9 26 #[true, true, true, true, true, true, true, true, true, true] (any_of HT_.out (by kernel_rfl)) ?_
        refine done_ (done_of HT_.out (by kernel_rfl)) ?_
        try go_wp2
        go_roundg k1
        case measure => have := HK1.out; omega
        case rel => exact ⟨(wrap64 (x5_1 + 1)), (by first | rfl | (simp; done) | (simp [*]; done)), H', ⟨by have := HK1.out; omega⟩, ⟨(qs HB)⟩⟩
       replace c8 := Bool.eq_false_iff.mpr c8
       subst c8
       have H1 : (some false) = some r := by rw [if_neg (show ¬ (false = true) by decide)] at H; exact H
       clear H; have H := H1; clear H1
       obtain rfl := Option.some.inj H
       try go_wp2
       replace HB := Aside0.mk (below_drew1 HB.out)
       have p865 : 0 ≤ (x5_1 : Int) := of_decide_eq_true (by assumption)
       have q865 : x5_1 < (l0.length : Int) := of_decide_eq_true (by assumption)
       obtain ⟨ad865, e865, hx865_0, hx865_1⟩ := at_T84 HR0.out x5_1 p865 q865
       have hw865_1 := hx865_1; have hw865_0 := hx865_0
       cases e865
       replace hx865_0 := (HB.out.cell (World.block_lt_of_cell? w _ hx865_0)).trans hx865_0
       replace hx865_1 := (HB.out.cell (World.block_lt_of_cell? w _ hx865_1)).trans hx865_1
       replace p865 := eq_true p865
       replace q865 := eq_true q865
       have p866 : 0 ≤ (x5_1 : Int) := of_decide_eq_true (by assumption)
       have q866 : x5_1 < (l1.length : Int) := of_decide_eq_true (by assumption)
       obtain ⟨ad866, e866, hx866_0, hx866_1⟩ := at_T84 HR1.out x5_1 p866 q866
       have hw866_1 := hx866_1; have hw866_0 := hx866_0
       cases e866
       replace hx866_0 := (HB.out.cell (World.block_lt_of_cell? w _ hx866_0)).trans hx866_0
       replace hx866_1 := (HB.out.cell (World.block_lt_of_cell? w _ hx866_1)).trans hx866_1
       replace p866 := eq_true p866
       replace q866 := eq_true q866
       refine start_ (n := 10) (S := fun w' => w'.cell? (ad865.add ((x5_1).toNat * 2)) = some (.int .i64 ((rd_T84 l0 x5_1).f0)) ∧ w'.cell? ⟨(ad865.add ((x5_1).toNat * 2)).block, (ad865.add ((x5_1).toNat * 2)).off + 1, none⟩ = some (.int .i64 ((rd_T84 l0 x5_1).f1)) ∧ w'.cell? (ad866.add ((x5_1).toNat * 2)) = some (.int .i64 ((rd_T84 l1 x5_1).f0)) ∧ w'.cell? ⟨(ad866.add ((x5_1).toNat * 2)).block, (ad866.add ((x5_1).toNat * 2)).off + 1, none⟩ = some (.int .i64 ((rd_T84 l1 x5_1).f1))) (ds := []) #[false, false, false, false, false, false, false, false, false, false] (by kernel_rfl) rfl rfl ⟨((HB.out.cell (World.block_lt_of_cell? w _ hw865_0)).trans hw865_0), ((HB.out.cell (World.block_lt_of_cell? w _ hw865_1)).trans hw865_1), ((HB.out.cell (World.block_lt_of_cell? w _ hw866_0)).trans hw866_0), ((HB.out.cell (World.block_lt_of_cell? w _ hw866_1)).trans hw866_1)⟩ (fun hHeld => ?_); refine with_tabW laws_eqSetS.tab6 laws_eqSetS.bits6 (fun HT_ HW_ => ?_)
       generalize wr.drew = w11 at HB hx865_0 hx865_1 hx866_0 hx866_1 hHeld ⊢
       refine pureA 0 17 #[true, false, false, false, false, false, false, false, false, false] (any_of HT_.out (by kernel_rfl)) ?_
       refine pureA 1 18 #[true, true, false, false, false, false, false, false, false, false] (any_of HT_.out (by kernel_rfl)) ?_
       refine pureA 2 19 #[true, true, true, false, false, false, false, false, false, false] (any_of HT_.out (by kernel_rfl)) ?_
       refine pureA 4 21 #[true, true, true, false, true, false, false, false, false, false] (any_of HT_.out (by kernel_rfl)) ?_
       refine pureA 5 22 #[true, true, true, false, true, true, false, false, false, false] (any_of HT_.out (by kernel_rfl)) ?_
       refine pureA 6 23 #[true, true, true, false, true, true, true, false, false, false] (any_of HT_.out (by kernel_rfl)) ?_
       refine takeA 3 20 #[true, true, true, true, true, true, true, false, false, false] (take_ofW HT_.out HW_.out (by kernel_rfl)) hHeld ?_
       refine takeA 7 24 #[true, true, true, true, true, true, true, true, false, false] (take_ofW HT_.out HW_.out (by kernel_rfl)) hHeld ?_
       refine one_ (i := 8) (N := some 25) #[true, true, true, true, true, true, true, true, true, false] rfl rfl (one_of HT_.out (by kernel_rfl)) (by decide) (fun K hK => ?_)
       refine goesA Try.func88 #[.agg #[.int .i64 ((rd_T84 l0 x5_1).f0), .int .i64 ((rd_T84 l0 x5_1).f1)], .agg #[.int .i64 ((rd_T84 l1 x5_1).f0), .int .i64 ((rd_T84 l1 x5_1).f1)]] ?_
       with_reducible refine (laws_eqSet.calls ((rd_T84 l0 x5_1).f0) ((rd_T84 l0 x5_1).f1) ((rd_T84 l1 x5_1).f0) ((rd_T84 l1 x5_1).f1) false _ A7.out).mono ?_
       rintro e w12 ⟨rfl, hb⟩
       refine ⟨_, rfl, ?_⟩
       replace HB := bst HB hb; clear hb
       refine hK.out _ _ ⟨((HB.out.cell (World.block_lt_of_cell? w _ hw865_0)).trans hw865_0), ((HB.out.cell (World.block_lt_of_cell? w _ hw865_1)).trans hw865_1), ((HB.out.cell (World.block_lt_of_cell? w _ hw866_0)).trans hw866_0), ((HB.out.cell (World.block_lt_of_cell? w _ hw866_1)).trans hw866_1)⟩ (fun hHeld => ?_)
       clear hK K
       refine normP ?_
       refine pureA 9 26 #[true, true, true, true, true, true, true, true, true, true] (any_of HT_.out (by kernel_rfl)) ?_
       refine done_ (done_of HT_.out (by kernel_rfl)) ?_
       try go_wp2
       go_ret
       exact ⟨by first | rfl | (simp [*, errW_none, errW_some] <;> rfl), (qs HB)⟩
      rw [if_neg c6] at H
      exact absurd H (by simp)
     rw [if_neg c5] at H
     exact absurd H (by simp)
    rw [if_neg c4] at H
    have c4b0 : decide (x5_1 < (l0.length : Int)) = false := decide_eq_false c4
    clear c4
    obtain rfl := Option.some.inj H
    go_wp2
    go_ret
    exact ⟨by first | rfl | (simp [*, errW_none, errW_some] <;> rfl), (qs HB)⟩
 rw [if_neg c3] at H
 have c3b0 : ((l0.length : Int) == (l1.length : Int)) = false := beq_eq_false_iff_ne.mpr c3
 have c3b1 : ((l0.length : Int) != (l1.length : Int)) = true := bne_iff_ne.mpr c3
 have c3b2 : (l0.length == l1.length) = false := by first | simpa using c3 | (simp at c3 ⊢; omega)
 obtain rfl := Option.some.inj H
 go_enter Try.func40, Try.ntmps40
 go_wp2
 go_ret
 exact ⟨by first | rfl | (simp [*, errW_none, errW_some] <;> rfl), (qs HB)⟩
end Go.Proofs.Ytndffnacbfdnoaa.PAll
