-- Lines of PAllx27 that this claim uses.
import Derived.Test.YtndffnacbfdnoaaCOSqd
import Derived.Test.YtndffnacbfdnoaaCOSq
import Derived.Test.YtndffnacbfdnoaaCOPAllx0
import Derived.Test.YtndffnacbfdnoaaCOPAllx22
import Derived.Test.YtndffnacbfdnoaaCOPAllx26
import Derived.Test.YtndffnacbfdnoaaCORun
namespace Go.Proofs.Ytndffnacbfdnoaa.PAll
open Go.RowKit Go.Proofs.YtndffnacbfdnoaaW.PrintWords Go.Proofs.YtndffnacbfdnoaaW.PrintLast Go.Proofs.YtndffnacbfdnoaaW.PrintMore
attribute [local go_sem] max2_int min2_int max_two min_two max_three min_three max_four min_four   -- for this text's walks alone
set_option linter.unusedVariables false
set_option linter.unusedSimpArgs false
mutual
def laws_FnComes.j0 : Nat → List Int → List Int → Bool → Option (Bool)
 | 0, _, _, _ => none
 | k + 1, x0, x1, x24 => if x24 = true then (some true) else ((spec_Drawn.f k x0).bind fun bt999 => ((laws_wByte.f x1 0).bind fun t1010 => (if bt999.2.2.1 < (wrap64 (1 + (Int.tmod t1010 6))) then (laws_FnComes.j1 k x1 bt999.2.2.2.1 bt999.2.2.2.2.2 (wrap64 (1 + (Int.tmod t1010 6))) bt999.1 bt999.2.1 (wrap64 (1 + (Int.tmod t1010 6)))) else (laws_FnComes.j1 k x1 bt999.2.2.2.1 bt999.2.2.2.2.2 (wrap64 (1 + (Int.tmod t1010 6))) bt999.1 bt999.2.1 bt999.2.2.1))))
def laws_FnComes.j1 : Nat → List Int → List (S84) → Int → Int → Int → Int → Int → Option (Bool)
 | 0, _, _, _, _, _, _, _ => none
 | k + 1, x1, x6, x8, x9, x1010000, x1010001, x1010002 => if x1010001 < (wrap64 (x1010000 + (wrap64 (2 * x9)))) then (laws_FnComes.j2 k x1 x6 x8 x9 x1010000 (wrap64 (x1010000 + (wrap64 (2 * x9)))) x1010002) else (laws_FnComes.j2 k x1 x6 x8 x9 x1010000 x1010001 x1010002)
def laws_FnComes.j2 : Nat → List Int → List (S84) → Int → Int → Int → Int → Int → Option (Bool)
 | 0, _, _, _, _, _, _, _ => none
 | k + 1, x1, x6, x8, x9, x1010000, x1010001, x1010002 => if 400 ≤ 11728124029610 then ((some (List.replicate 400 [] : List (List Int))).bind fun y1011 => (laws_FnComes.l0 k x1 x6 x8 x9 y1011 (y1011.length : Int) 0 x1010000 x1010001 x1010002)) else (none)
def laws_FnComes.l0 : Nat → List Int → List (S84) → Int → Int → List (List Int) → Int → Int → Int → Int → Int → Option (Bool)
 | 0, _, _, _, _, _, _, _, _, _, _ => none
 | k + 1, x1, x6, x8, x9, x10, x58, x59, x1010000, x1010001, x1010002 => if x59 < x58 then ((laws_wByte.f x1 x59).bind fun t1014 => (if x9 = 0 then (none) else (if 0 ≤ x59 then (if x59 < (x10.length : Int) then (laws_FnComes.l0 k x1 x6 x8 x9 (x10.set (x59 : Int).toNat (([wrap64 (1 + (Int.tmod t1014 x9))] : List Int))) x58 (wrap64 (x59 + 1)) x1010000 x1010001 x1010002) else (none)) else (none)))) else ((impl_Run.f x1010000 x1010001 x1010002 x6 x10 x8).bind fun t1019 => (if (t1019.length : Int) = x8 then (if (x6.length : Int) > 0 then (if 0 ≤ (wrap64 ((x6.length : Int) - 1)) then (if (wrap64 ((x6.length : Int) - 1)) < (x6.length : Int) then (laws_FnComes.j4 k x6 x9 t1019 ((rd_T84 x6 (wrap64 ((x6.length : Int) - 1))).f0) x1010000 x1010001 x1010002) else (none)) else (none)) else (laws_FnComes.j4 k x6 x9 t1019 0 x1010000 x1010001 x1010002)) else (some false)))
def laws_FnComes.j4 : Nat → List (S84) → Int → List (S86) → Int → Int → Int → Int → Option (Bool)
 | 0, _, _, _, _, _, _, _ => none
 | k + 1, x6, x9, x12, x13, x1010000, x1010001, x1010002 => laws_FnComes.l1 k x6 x9 x13 x12 (x12.length : Int) 0 x1010000 x1010001 x1010002
def laws_FnComes.l1 : Nat → List (S84) → Int → Int → List (S86) → Int → Int → Int → Int → Int → Option (Bool)
 | 0, _, _, _, _, _, _, _, _, _ => none
 | k + 1, x6, x9, x13, x92, x93, x94, x1010000, x1010001, x1010002 => if x94 < x93 then (if 0 ≤ x94 then (if x94 < (x92.length : Int) then (if (wrap64 (x94 + 1)) ≥ (wrap64 (x13 + x9)) then (if ((rd_T86 x92 x94).f1.f0) = (x6.length : Int) then (if (wrap64 (x94 + 1)) ≥ (wrap64 (x13 + (wrap64 (2 * x9)))) then (laws_FnComes.j6 k x6 x9 x13 (wrap64 (x94 + 1)) x92 x93 x94 (((rd_T86 x92 x94).f0.f2) != (x6.length : Int)) x1010000 x1010001 x1010002 ((rd_T86 x92 x94).f0.f0) ((rd_T86 x92 x94).f0.f1) ((rd_T86 x92 x94).f0.f2) ((rd_T86 x92 x94).f0.f3) ((rd_T86 x92 x94).f0.f4) ((rd_T86 x92 x94).f1.f0) ((rd_T86 x92 x94).f1.f1) ((rd_T86 x92 x94).f1.f2) ((rd_T86 x92 x94).f2) ((rd_T86 x92 x94).f3)) else (laws_FnComes.j6 k x6 x9 x13 (wrap64 (x94 + 1)) x92 x93 x94 false x1010000 x1010001 x1010002 ((rd_T86 x92 x94).f0.f0) ((rd_T86 x92 x94).f0.f1) ((rd_T86 x92 x94).f0.f2) ((rd_T86 x92 x94).f0.f3) ((rd_T86 x92 x94).f0.f4) ((rd_T86 x92 x94).f1.f0) ((rd_T86 x92 x94).f1.f1) ((rd_T86 x92 x94).f1.f2) ((rd_T86 x92 x94).f2) ((rd_T86 x92 x94).f3))) else (laws_FnComes.j6 k x6 x9 x13 (wrap64 (x94 + 1)) x92 x93 x94 true x1010000 x1010001 x1010002 ((rd_T86 x92 x94).f0.f0) ((rd_T86 x92 x94).f0.f1) ((rd_T86 x92 x94).f0.f2) ((rd_T86 x92 x94).f0.f3) ((rd_T86 x92 x94).f0.f4) ((rd_T86 x92 x94).f1.f0) ((rd_T86 x92 x94).f1.f1) ((rd_T86 x92 x94).f1.f2) ((rd_T86 x92 x94).f2) ((rd_T86 x92 x94).f3))) else (if (wrap64 (x94 + 1)) ≥ (wrap64 (x13 + (wrap64 (2 * x9)))) then (laws_FnComes.j6 k x6 x9 x13 (wrap64 (x94 + 1)) x92 x93 x94 (((rd_T86 x92 x94).f0.f2) != (x6.length : Int)) x1010000 x1010001 x1010002 ((rd_T86 x92 x94).f0.f0) ((rd_T86 x92 x94).f0.f1) ((rd_T86 x92 x94).f0.f2) ((rd_T86 x92 x94).f0.f3) ((rd_T86 x92 x94).f0.f4) ((rd_T86 x92 x94).f1.f0) ((rd_T86 x92 x94).f1.f1) ((rd_T86 x92 x94).f1.f2) ((rd_T86 x92 x94).f2) ((rd_T86 x92 x94).f3)) else (laws_FnComes.j6 k x6 x9 x13 (wrap64 (x94 + 1)) x92 x93 x94 false x1010000 x1010001 x1010002 ((rd_T86 x92 x94).f0.f0) ((rd_T86 x92 x94).f0.f1) ((rd_T86 x92 x94).f0.f2) ((rd_T86 x92 x94).f0.f3) ((rd_T86 x92 x94).f0.f4) ((rd_T86 x92 x94).f1.f0) ((rd_T86 x92 x94).f1.f1) ((rd_T86 x92 x94).f1.f2) ((rd_T86 x92 x94).f2) ((rd_T86 x92 x94).f3)))) else (none)) else (none)) else (some true)
def laws_FnComes.j6 : Nat → List (S84) → Int → Int → Int → List (S86) → Int → Int → Bool → Int → Int → Int → Int → Int → Int → Int → Int → Int → Int → Int → Int → Int → Option (Bool)
 | 0, _, _, _, _, _, _, _, _, _, _, _, _, _, _, _, _, _, _, _, _, _ => none
 | k + 1, x6, x9, x13, x16, x92, x93, x94, x129, x1010000, x1010001, x1010002, x1025000, x1025001, x1025002, x1025003, x1025004, x1025005, x1025006, x1025007, x1025008, x1025009 => if x129 = true then (some false) else (if x16 > (wrap64 (x1010000 + (wrap64 (2 * x9)))) then ((impl_TrainSilent.f x1010000 x1010001 x1010002 x16 x1025005 x1025006 x1025007).bind fun t1025 => (if t1025 = true then (some false) else ((impl_BoxSilent.f x1010000 x1010001 x1010002 x16 x1025000 x1025001 x1025002 x1025003 x1025004).bind fun t1026 => (if t1026 = true then (some false) else (laws_FnComes.l1 k x6 x9 x13 x92 x93 (wrap64 (x94 + 1)) x1010000 x1010001 x1010002))))) else (laws_FnComes.l1 k x6 x9 x13 x92 x93 (wrap64 (x94 + 1)) x1010000 x1010001 x1010002))
end
def laws_FnComes.f (k : Nat) (l0 : List Int) (l1 : List Int) : Option (Bool) := if (l0.length : Int) > 1048576 then (laws_FnComes.j0 k l0 l1 true) else (laws_FnComes.j0 k l0 l1 (decide ((l1.length : Int) > 1048576)))
set_option maxHeartbeats 8000000 in
set_option maxRecDepth 100000 in
theorem laws_FnComes.calls (k : Nat) (A0 : Option Addr) (c0 : Nat) (l0 : List Int) (A1 : Option Addr) (c1 : Nat) (l1 : List Int) (w : World) (hr0 : Kd.C (Kd.int .u8) w A0 l0.length l0) (hc0 : l0.length ≤ c0) (hr1 : Kd.C (Kd.int .u8) w A1 l1.length l1) (hc1 : l1.length ≤ c1) (h : laws_FnComes.f k l0 l1 = some true) :
  Calls Try.prog 7 #[.slice A0 l0.length c0, .slice A1 l1.length c1] w fun e w' => e = .returned (.bool true) ∧ Below w.heap.size w w' := by
 have hu34 := Try.underlying34
 have hu86 := Try.underlying86
 have hu48 := Try.underlying48
 have hu29 := Try.underlying29
 have HR0 := Aside0.mk hr0
 have HC0 := Aside0.mk hc0
 clear hr0 hc0
 have HR1 := Aside0.mk hr1
 have HC1 := Aside0.mk hc1
 clear hr1 hc1
 have HB := Aside0.mk (Below.refl w.heap.size w)
 have H : (if (l0.length : Int) > 1048576 then (laws_FnComes.j0 k l0 l1 true) else (laws_FnComes.j0 k l0 l1 (decide ((l1.length : Int) > 1048576)))) = some true := h
 clear h
 have HC3 := Aside0.mk H
 clear H
 go_enter Try.func7, Try.ntmps7
 go_upto_region 1 with (fail)
 go_cut [24] (fun v24 wc => ∃ (kq : Nat) (x24_2 : Bool), v24 = .bool x24_2 ∧ Aside0 (laws_FnComes.j0 kq l0 l1 x24_2 = some true) ∧ Aside0 (kq ≤ k) ∧ Aside0 (Below w.heap.size w wc))
 case first =>
  have H := HC3.out
  clear HC3
  by_cases c4 : (l0.length : Int) > 1048576
  ·rw [if_pos c4] at H
   have c4b0 : decide (1048576 < (l0.length : Int)) = true := decide_eq_true c4
   have c4b1 : decide (1048576 < l0.length) = true := decide_eq_true (by omega)
   clear c4
   (first | rw [c4b0] | (simp only [i64_w, i32_w]; rw [c4b0]) | skip)
   have H' := Aside0.mk H
   clear H
   go_wp2
   go_meet
   case rel => exact ⟨_, (true), (by first | rfl | (simp; done) | (simp [*]; done)), H', ⟨by first | omega | exact Nat.le_refl _⟩, ⟨(qs HB)⟩⟩
  rw [if_neg c4] at H
  have c4b0 : decide (1048576 < (l0.length : Int)) = false := decide_eq_false c4
  have c4b1 : decide (1048576 < l0.length) = false := decide_eq_false (by omega)
  clear c4
  (first | rw [c4b0] | (simp only [i64_w, i32_w]; rw [c4b0]) | skip)
  have H' := Aside0.mk H
  clear H
  go_wp2
  go_meet
  case rel => exact ⟨_, (decide ((l1.length : Int) > 1048576)), (by first | rfl | (simp; done) | (simp [*]; done)), H', ⟨by first | omega | exact Nat.le_refl _⟩, ⟨(qs HB)⟩⟩
 case rest =>
  clear HC3
  try clear c1; try clear p2; try clear c4; try clear c4b0; try clear c4b1
  obtain ⟨kq, x24_2, rfl, HA, HJ2, HB⟩ := hcut
  cases kq with
  | zero => exact absurd HA.out (by simp [laws_FnComes.j0])
  | succ kj2 =>
   have H := HA.out
   clear HA
   simp only [laws_FnComes.j0] at H
   by_cases c5 : x24_2 = true
   ·subst c5
    have H1 : some true = some true := rfl
    clear H; have H := H1; clear H1
    go_wp2
    go_ret
    exact ⟨by first | rfl | (simp [errW_none, errW_some] <;> rfl) | (simp [*, errW_none, errW_some] <;> rfl), (qs HB)⟩
   replace c5 := Bool.eq_false_iff.mpr c5
   subst c5
   have H1 : ((spec_Drawn.f kj2 l0).bind fun bt999 => ((laws_wByte.f l1 0).bind fun t1010 => (if bt999.2.2.1 < (wrap64 (1 + (Int.tmod t1010 6))) then (laws_FnComes.j1 kj2 l1 bt999.2.2.2.1 bt999.2.2.2.2.2 (wrap64 (1 + (Int.tmod t1010 6))) bt999.1 bt999.2.1 (wrap64 (1 + (Int.tmod t1010 6)))) else (laws_FnComes.j1 kj2 l1 bt999.2.2.2.1 bt999.2.2.2.2.2 (wrap64 (1 + (Int.tmod t1010 6))) bt999.1 bt999.2.1 bt999.2.2.1)))) = some true := by rw [if_neg (show ¬ (false = true) by decide)] at H; exact H
   clear H; have H := H1; clear H1
   replace H := Option.bind_eq_some_iff.mp H
   obtain ⟨⟨t999, t1000, t1001, t1002, t1005, t1008⟩, A60, H⟩ := H
   replace H : ((laws_wByte.f l1 0).bind fun t1010 => (if t1001 < (wrap64 (1 + (Int.tmod t1010 6))) then (laws_FnComes.j1 kj2 l1 t1002 t1008 (wrap64 (1 + (Int.tmod t1010 6))) t999 t1000 (wrap64 (1 + (Int.tmod t1010 6)))) else (laws_FnComes.j1 kj2 l1 t1002 t1008 (wrap64 (1 + (Int.tmod t1010 6))) t999 t1000 t1001))) = some true := H
   have A6 := Aside0.mk A60
   clear A60
   replace H := Option.bind_eq_some_iff.mp H
   obtain ⟨t1010, A70, H⟩ := H
   replace H : (if t1001 < (wrap64 (1 + (Int.tmod t1010 6))) then (laws_FnComes.j1 kj2 l1 t1002 t1008 (wrap64 (1 + (Int.tmod t1010 6))) t999 t1000 (wrap64 (1 + (Int.tmod t1010 6)))) else (laws_FnComes.j1 kj2 l1 t1002 t1008 (wrap64 (1 + (Int.tmod t1010 6))) t999 t1000 t1001)) = some true := H
   have A7 := Aside0.mk A70
   clear A70
   have HC8 := Aside0.mk H
   clear H
   go_upto_if 39 with (first | ((with_reducible refine gate_callee (f := 46) rfl ?_); refine goesLA (some 27) rfl Try.func46 #[.slice A0 l0.length c0] ?_; (with_reducible refine (spec_Drawn.calls kj2 _ _ l0 t999 t1000 t1001 t1002 t1005 t1008 _ ?side1 ?side2 A6.out).mono ?_); (case side1 => exact qc (Kd.C_below HR0.out HB.out)); (case side2 => exact HC0.out); rintro e w9 ⟨v1003, v1006, rfl, ho0, ho1, hb⟩; refine ⟨_, rfl, ?_⟩; have HO1004 := Aside0.mk (Kd.R_lower ho0 (below_size (qs HB))); have HO1007 := Aside0.mk (Kd.S_lower ho1 (below_size (qs HB))); replace HB := bst HB hb; clear hb; (try clear ho0); (try clear ho1)) | ((with_reducible refine gate_dst (N := 5) rfl ?_); (try (refine gate_guard (by rfl) ?_; dsimp only)); refine boxA #[.int .i64 0, .int .i64 0, .int .i64 0] 34 ?_; intro gb1009 hg w10 hbox hb; replace HO1004 := rbl HO1004 hb; replace HO1007 := Aside0.mk (Kd.S_below (by (with_reducible repeat (first | apply Kd.S_alloc | apply Kd.S_drewN | apply Kd.S_drew)); exact HO1007.out) hb); have BK1009 := Aside0.mk (hbox); have GW1009 := nge HB hg; have GE1009 := nge HB hg; replace HB := bst HB hb; clear hb hbox hg; have hcz11_0 := b0 BK1009; have hcz11_1 := b1 BK1009; have hcz11_2 := b2 BK1009; have hfz11_0 := blk_frozen BK1009.out 0; have hfz11_1 := blk_frozen BK1009.out 1; have hfz11_2 := blk_frozen BK1009.out 2) | ((with_reducible refine gate_callee (f := 47) rfl ?_); refine goesLA (some 33) rfl Try.func47 #[.slice A1 l1.length c1, .int .i64 0] ?_; (with_reducible refine (laws_wByte.calls _ _ l1 0 t1010 _ ?side1 ?side2 A7.out).mono ?_); (case side1 => exact Kd.C_below HR1.out (qs HB)); (case side2 => exact HC1.out); rintro e w' ⟨rfl, ⟨nd, rfl⟩⟩; refine ⟨_, rfl, ?_⟩))
   (try simp only [Act.put, List.setIfInBounds_toArray, List.set_cons_zero, List.set_cons_succ])
   go_cut [] (fun wc => ∃ (kq : Nat) (x1010002_7 : Int), Aside0 (laws_FnComes.j1 kq l1 t1002 t1008 (wrap64 (1 + (Int.tmod t1010 6))) t999 t1000 x1010002_7 = some true) ∧ Aside0 (kq ≤ kj2) ∧ Aside0 (Kd.R k84 84 wc w.heap.size (fun _ => True) v1003 t1002) ∧ Aside0 (wc.heap[gb1009]? = some (.cells #[.int .i64 t999, .int .i64 t1000, .int .i64 x1010002_7] 34 (0, 0))) ∧ Aside0 (Below w.heap.size w wc))
   case first =>
    have H := HC8.out
    clear HC8
    by_cases c12 : t1001 < (wrap64 (1 + (Int.tmod t1010 6)))
    ·rw [if_pos c12] at H
     have c12b0 : decide (t1001 < (wrap64 (1 + (Int.tmod t1010 6)))) = true := decide_eq_true c12
     clear c12
     (first | rw [c12b0] | (simp only [i64_w, i32_w]; rw [c12b0]) | skip)
     have H' := Aside0.mk H
     clear H
     have hcz13_0 := b0 BK1009
     have hcz13_1 := b1 BK1009
     have hcz13_2 := b2 BK1009
     have hfz13_0 := blk_frozen BK1009.out 0
     have hfz13_1 := blk_frozen BK1009.out 1
     have hfz13_2 := blk_frozen BK1009.out 2
     go_wp2
     go_meet
     case rel => exact ⟨_, (wrap64 (1 + (Int.tmod t1010 6))), H', ⟨by have := HJ2.out; first | omega | exact Nat.le_refl _⟩, ⟨by (with_reducible repeat (first | apply Kd.R_alloc | apply Kd.R_drewN | apply Kd.R_drew)); exact Kd.R_mono (Kd.R_far (p := ⟨gb1009, 2, none⟩) (Kd.R_far (p := ⟨gb1009, 2, none⟩) (Kd.R_far (p := ⟨gb1009, 1, none⟩) (Kd.R_far (p := ⟨gb1009, 0, none⟩) (Kd.R_types HO1004.out BK1009.out (by decide)) (fun _ hk => hk.2) (.int .i64 t999)) (fun _ hk => hk.2) (.int .i64 t1000)) (fun _ hk => hk.2) (.int .i64 t1001)) (fun _ hk => hk.2) (.int .i64 (wrap64 (1 + (Int.tmod t1010 6))))) (fun _ hk => trivial)⟩, ⟨by (with_reducible repeat (first | refine blk_drewN ?_ _ | refine blk_drew ?_ | refine blk_alloc ?_ _)); refine blk_put (cs := #[.int .i64 t999, .int .i64 t1000, .int .i64 t1001]) ?_ 2 _ rfl; (with_reducible repeat (first | refine blk_drewN ?_ _ | refine blk_drew ?_ | refine blk_alloc ?_ _)); refine blk_put (cs := #[.int .i64 t999, .int .i64 t1000, .int .i64 0]) ?_ 2 _ rfl; (with_reducible repeat (first | refine blk_drewN ?_ _ | refine blk_drew ?_ | refine blk_alloc ?_ _)); refine blk_put (cs := #[.int .i64 t999, .int .i64 0, .int .i64 0]) ?_ 1 _ rfl; (with_reducible repeat (first | refine blk_drewN ?_ _ | refine blk_drew ?_ | refine blk_alloc ?_ _)); refine blk_put (cs := #[.int .i64 0, .int .i64 0, .int .i64 0]) ?_ 0 _ rfl; (with_reducible repeat (first | refine blk_drewN ?_ _ | refine blk_drew ?_ | refine blk_alloc ?_ _)); exact BK1009.out⟩, ⟨(qs HB)⟩⟩
    rw [if_neg c12] at H
    have c12b0 : decide (t1001 < (wrap64 (1 + (Int.tmod t1010 6)))) = false := decide_eq_false c12
    clear c12
    (first | rw [c12b0] | (simp only [i64_w, i32_w]; rw [c12b0]) | skip)
    have H' := Aside0.mk H
    clear H
    go_wp2
    go_meet
    case rel => exact ⟨_, (t1001), H', ⟨by have := HJ2.out; first | omega | exact Nat.le_refl _⟩, ⟨by (with_reducible repeat (first | apply Kd.R_alloc | apply Kd.R_drewN | apply Kd.R_drew)); exact Kd.R_mono (Kd.R_far (p := ⟨gb1009, 2, none⟩) (Kd.R_far (p := ⟨gb1009, 1, none⟩) (Kd.R_far (p := ⟨gb1009, 0, none⟩) (Kd.R_types HO1004.out BK1009.out (by decide)) (fun _ hk => hk.2) (.int .i64 t999)) (fun _ hk => hk.2) (.int .i64 t1000)) (fun _ hk => hk.2) (.int .i64 t1001)) (fun _ hk => trivial)⟩, ⟨by (with_reducible repeat (first | refine blk_drewN ?_ _ | refine blk_drew ?_ | refine blk_alloc ?_ _)); refine blk_put (cs := #[.int .i64 t999, .int .i64 t1000, .int .i64 0]) ?_ 2 _ rfl; (with_reducible repeat (first | refine blk_drewN ?_ _ | refine blk_drew ?_ | refine blk_alloc ?_ _)); refine blk_put (cs := #[.int .i64 t999, .int .i64 0, .int .i64 0]) ?_ 1 _ rfl; (with_reducible repeat (first | refine blk_drewN ?_ _ | refine blk_drew ?_ | refine blk_alloc ?_ _)); refine blk_put (cs := #[.int .i64 0, .int .i64 0, .int .i64 0]) ?_ 0 _ rfl; (with_reducible repeat (first | refine blk_drewN ?_ _ | refine blk_drew ?_ | refine blk_alloc ?_ _)); exact BK1009.out⟩, ⟨(qs HB)⟩⟩
   case rest =>
    clear HC8
    try clear c1; try clear p2; try clear c4; try clear c4b0; try clear c4b1; try clear c5; try clear p6; try clear c7; try clear c12; try clear c12b0; try clear hcz11_0; try clear hcz11_1; try clear hcz11_2; try clear hcz13_0; try clear hcz13_1; try clear hcz13_2; try clear hfz11_0; try clear hfz11_1; try clear hfz11_2; try clear hfz13_0; try clear hfz13_1; try clear hfz13_2; try clear p2
    obtain ⟨kq, x1010002_7, HA, HJ7, HO_6, BK1009, HB⟩ := hcut
    cases kq with
    | zero => exact absurd HA.out (by simp [laws_FnComes.j1])
    | succ kj7 =>
     have H := HA.out
     clear HA
     simp only [laws_FnComes.j1] at H
     have HC14 := Aside0.mk H
     clear H
     have hcz15_0 := b0 BK1009
     have hcz15_1 := b1 BK1009
     have hcz15_2 := b2 BK1009
     have hfz15_0 := blk_frozen BK1009.out 0
     have hfz15_1 := blk_frozen BK1009.out 1
     have hfz15_2 := blk_frozen BK1009.out 2
     go_upto_if 49 with (fail)
     go_cut [] (fun wc => ∃ (kq : Nat) (x1010001_13 : Int), Aside0 (laws_FnComes.j2 kq l1 t1002 t1008 (wrap64 (1 + (Int.tmod t1010 6))) t999 x1010001_13 x1010002_7 = some true) ∧ Aside0 (kq ≤ kj7) ∧ Aside0 (Kd.R k84 84 wc w.heap.size (fun _ => True) v1003 t1002) ∧ Aside0 (wc.heap[gb1009]? = some (.cells #[.int .i64 t999, .int .i64 x1010001_13, .int .i64 x1010002_7] 34 (0, 0))) ∧ Aside0 (Below w.heap.size w wc))
     case first =>
      have H := HC14.out
      clear HC14
      by_cases c16 : t1000 < (wrap64 (t999 + (wrap64 (2 * (wrap64 (1 + (Int.tmod t1010 6)))))))
      ·rw [if_pos c16] at H
       have c16b0 : decide (t1000 < (wrap64 (t999 + (wrap64 (2 * (wrap64 (1 + (Int.tmod t1010 6)))))))) = true := decide_eq_true c16
       clear c16
       (first | rw [c16b0] | (simp only [i64_w, i32_w]; rw [c16b0]) | skip)
       have H' := Aside0.mk H
       clear H
       have hcz17_0 := b0 BK1009
       have hcz17_1 := b1 BK1009
       have hcz17_2 := b2 BK1009
       have hfz17_0 := blk_frozen BK1009.out 0
       have hfz17_1 := blk_frozen BK1009.out 1
       have hfz17_2 := blk_frozen BK1009.out 2
       go_wp2
       go_meet
       case rel => exact ⟨_, (wrap64 (t999 + (wrap64 (2 * (wrap64 (1 + (Int.tmod t1010 6))))))), H', ⟨by have := HJ2.out; have := HJ7.out; first | omega | exact Nat.le_refl _⟩, ⟨by (with_reducible repeat (first | apply Kd.R_alloc | apply Kd.R_drewN | apply Kd.R_drew)); exact Kd.R_mono (Kd.R_far (p := ⟨gb1009, 1, none⟩) (Kd.R_types HO_6.out BK1009.out (by decide)) (fun _ hk => hk.2) (.int .i64 (wrap64 (t999 + (wrap64 (2 * (wrap64 (1 + (Int.tmod t1010 6))))))))) (fun _ hk => trivial)⟩, ⟨by (with_reducible repeat (first | refine blk_drewN ?_ _ | refine blk_drew ?_ | refine blk_alloc ?_ _)); refine blk_put (cs := #[.int .i64 t999, .int .i64 t1000, .int .i64 x1010002_7]) ?_ 1 _ rfl; (with_reducible repeat (first | refine blk_drewN ?_ _ | refine blk_drew ?_ | refine blk_alloc ?_ _)); exact BK1009.out⟩, ⟨(qs HB)⟩⟩
      rw [if_neg c16] at H
      have c16b0 : decide (t1000 < (wrap64 (t999 + (wrap64 (2 * (wrap64 (1 + (Int.tmod t1010 6)))))))) = false := decide_eq_false c16
      clear c16
      (first | rw [c16b0] | (simp only [i64_w, i32_w]; rw [c16b0]) | skip)
      have H' := Aside0.mk H
      clear H
      go_wp2
      go_meet
      case rel => exact ⟨_, (t1000), H', ⟨by have := HJ2.out; have := HJ7.out; first | omega | exact Nat.le_refl _⟩, ⟨by (with_reducible repeat (first | apply Kd.R_alloc | apply Kd.R_drewN | apply Kd.R_drew)); exact HO_6.out⟩, ⟨qb BK1009⟩, ⟨(qs HB)⟩⟩
     case rest =>
      clear HC14
      try clear c1; try clear p2; try clear c4; try clear c4b0; try clear c4b1; try clear c5; try clear p6; try clear c7; try clear c12; try clear c12b0; try clear c16; try clear c16b0; try clear hcz11_0; try clear hcz11_1; try clear hcz11_2; try clear hcz13_0; try clear hcz13_1; try clear hcz13_2; try clear hcz15_0; try clear hcz15_1; try clear hcz15_2; try clear hcz17_0; try clear hcz17_1; try clear hcz17_2; try clear hfz11_0; try clear hfz11_1; try clear hfz11_2; try clear hfz13_0; try clear hfz13_1; try clear hfz13_2; try clear hfz15_0; try clear hfz15_1; try clear hfz15_2; try clear hfz17_0; try clear hfz17_1; try clear hfz17_2; try clear p2; try clear p6
      obtain ⟨kq, x1010001_13, HA, HJ13, HO_6, BK1009, HB⟩ := hcut
      cases kq with
      | zero => exact absurd HA.out (by simp [laws_FnComes.j2])
      | succ kj13 =>
       have H := HA.out
       clear HA
       simp only [laws_FnComes.j2] at H
       by_cases c18 : 400 ≤ 11728124029610
       ·rw [if_pos c18] at H
        have c18b0 := eq_true c18
        have c18b1 : decide (400 ≤ 11728124029610) = true := decide_eq_true c18
        clear c18
        obtain ⟨y1011, hy1011⟩ : ∃ y_ : List (List Int), y_ = (List.replicate 400 []) := ⟨_, rfl⟩
        replace H : (laws_FnComes.l0 kj13 l1 t1002 t1008 (wrap64 (1 + (Int.tmod t1010 6))) y1011 (y1011.length : Int) 0 t999 x1010001_13 x1010002_7) = some true := by first | (rw [hy1011]; with_reducible exact H) | (have H2_ := (Option.bind_some _ _).symm.trans H; rw [hy1011]; with_reducible exact H2_) | (have H2_ := (Option.bind_some _ _).symm.trans H; with_reducible exact H2_) | with_reducible exact H | (rw [hy1011]; exact H) | exact H
        have Ny1011 := Aside0.mk hy1011
        clear hy1011
        have H' := Aside0.mk H
        clear H
        go_wp2_with (first | ((with_reducible refine gate_dst (N := 56) rfl ?_); (try (refine gate_guard (by rfl) ?_; dsimp only)); refine Kd.S_make (Kd.slice 3 (Kd.int .i64)) _ 82 rfl (N := 56) rfl 65 _ _ rfl 400 rfl rfl Try.underlying65 (.slice none 0 0) 24 info82 rfl (by decide) (by omega) [] (ok := fun _ => True) (okp := fun _ => True) ⟨_, rfl, Kd.R_nil _ _ _ _ _⟩ (fun _ hk => hk) trivial (by omega) (by omega) (Below.refl _ _) (Nat.le_refl _) ?_; intro v1012 w19 ho20 hb hg_ hnew_; clear hg_ hnew_; (first | rw [← Ny1011.out] at ho20 | (simp only [Int.reduceToNat] at ho20; rw [← Ny1011.out] at ho20)); replace HO_6 := rbl HO_6 hb; have HO1013 := Aside0.mk (Kd.S_lower ho20 (below_size (qs HB))); replace BK1009 := bkb BK1009 hb; replace HB := bst HB hb; clear hb ho20; obtain ⟨Ao21, co21, eo21⟩ := Kd.S_slice HO1013.out; subst eo21))
        go_loopg [59] kj13 (fun kq v59 w' => ∃ (x10_4 : List (List Int)) (x59_4 : Int), v59 = .int .i64 x59_4 ∧ Aside0 (laws_FnComes.l0 kq l1 t1002 t1008 (wrap64 (1 + (Int.tmod t1010 6))) x10_4 (y1011.length : Int) x59_4 t999 x1010001_13 x1010002_7 = some true) ∧ Aside0 (kq ≤ kj13) ∧ Aside0 (Kd.R k84 84 w' w.heap.size (fun _ => True) v1003 t1002) ∧ Aside0 (Kd.S (Kd.slice 3 (Kd.int .i64)) 82 w' w.heap.size (fun _ => True) (.slice Ao21 y1011.length co21) x10_4) ∧ Aside0 (w'.heap[gb1009]? = some (.cells #[.int .i64 t999, .int .i64 x1010001_13, .int .i64 x1010002_7] 34 (0, 0))) ∧ Aside0 (Below w.heap.size w w'))
        case atStart => exact ⟨(y1011), (0), (by first | rfl | (simp; done) | (simp [*]; done)), H', ⟨Nat.le_refl _⟩, ⟨by (with_reducible repeat (first | apply Kd.R_alloc | apply Kd.R_drewN | apply Kd.R_drew)); exact HO_6.out⟩, ⟨by (with_reducible repeat (first | apply Kd.S_alloc | apply Kd.S_drewN | apply Kd.S_drew)); exact HO1013.out⟩, ⟨qb BK1009⟩, ⟨(qs HB)⟩⟩
        case round =>
         clear H'
         try clear c1; try clear p2; try clear c4; try clear c4b0; try clear c4b1; try clear c5; try clear p6; try clear c7; try clear c12; try clear c12b0; try clear c16; try clear c16b0; try clear c18; try clear c18b0; try clear c18b1; try clear hcz11_0; try clear hcz11_1; try clear hcz11_2; try clear hcz13_0; try clear hcz13_1; try clear hcz13_2; try clear hcz15_0; try clear hcz15_1; try clear hcz15_2; try clear hcz17_0; try clear hcz17_1; try clear hcz17_2; try clear hfz11_0; try clear hfz11_1; try clear hfz11_2; try clear hfz13_0; try clear hfz13_1; try clear hfz13_2; try clear hfz15_0; try clear hfz15_1; try clear hfz15_2; try clear hfz17_0; try clear hfz17_1; try clear hfz17_2; try clear p2; try clear p6
         obtain ⟨x10_4, x59_4, rfl, HA, HK4, HO_6, HO_10, BK1009, HB⟩ := hrel
         have hl10_4 := (Kd.S_reads' HO_10.out).1
         rw [hl10_4] at HO_10
         (try simp only [hl10_4])
         (try simp only [hl10_4] at BK1009)
         (try simp only [hl10_4] at HO_6)
         cases gk with
         | zero => exact absurd HA.out (by simp [laws_FnComes.l0])
         | succ k4 =>
          have H := HA.out
          clear HA
          simp only [laws_FnComes.l0] at H
          by_cases c22 : x59_4 < (y1011.length : Int)
          ·rw [if_pos c22] at H
           have c22b0 : decide (x59_4 < (y1011.length : Int)) = true := decide_eq_true c22
           clear c22
           replace H := Option.bind_eq_some_iff.mp H
           obtain ⟨t1014, A230, H⟩ := H
           replace H : (if (wrap64 (1 + (Int.tmod t1010 6))) = 0 then (none) else (if 0 ≤ x59_4 then (if x59_4 < (x10_4.length : Int) then (laws_FnComes.l0 k4 l1 t1002 t1008 (wrap64 (1 + (Int.tmod t1010 6))) (x10_4.set (x59_4 : Int).toNat (([wrap64 (1 + (Int.tmod t1014 (wrap64 (1 + (Int.tmod t1010 6)))))] : List Int))) (y1011.length : Int) (wrap64 (x59_4 + 1)) t999 x1010001_13 x1010002_7) else (none)) else (none))) = some true := H
           have A23 := Aside0.mk A230
           clear A230
           by_cases c24 : (wrap64 (1 + (Int.tmod t1010 6))) = 0
           ·rw [if_pos c24] at H
            exact absurd H (by simp)
           rw [if_neg c24] at H
           have c24b0 : ((wrap64 (1 + (Int.tmod t1010 6))) == 0) = false := beq_eq_false_iff_ne.mpr c24
           have c24b1 : ((wrap64 (1 + (Int.tmod t1010 6))) != 0) = true := bne_iff_ne.mpr c24
           obtain ⟨y1015, hy1015⟩ : ∃ y_ : List Int, y_ = (([wrap64 (1 + (Int.tmod t1014 (wrap64 (1 + (Int.tmod t1010 6)))))] : List Int)) := ⟨_, rfl⟩
           replace H : (if 0 ≤ x59_4 then (if x59_4 < (x10_4.length : Int) then (laws_FnComes.l0 k4 l1 t1002 t1008 (wrap64 (1 + (Int.tmod t1010 6))) (x10_4.set (x59_4 : Int).toNat y1015) (y1011.length : Int) (wrap64 (x59_4 + 1)) t999 x1010001_13 x1010002_7) else (none)) else (none)) = some true := by first | (rw [hy1015]; with_reducible exact H) | (have H2_ := (Option.bind_some _ _).symm.trans H; rw [hy1015]; with_reducible exact H2_) | (have H2_ := (Option.bind_some _ _).symm.trans H; with_reducible exact H2_) | with_reducible exact H | (rw [hy1015]; exact H) | exact H
           have Ny1015 := Aside0.mk hy1015
           clear hy1015
           by_cases c25 : 0 ≤ x59_4
           ·rw [if_pos c25] at H
            have c25b0 : decide (0 ≤ x59_4) = true := decide_eq_true c25
            clear c25
            by_cases c26 : x59_4 < (x10_4.length : Int)
            ·rw [if_pos c26] at H
             have c26b0 : decide (x59_4 < (x10_4.length : Int)) = true := decide_eq_true c26
             clear c26
             obtain ⟨y1018, hy1018⟩ : ∃ y_ : List (List Int), y_ = (x10_4.set (x59_4 : Int).toNat y1015) := ⟨_, rfl⟩
             replace H : (laws_FnComes.l0 k4 l1 t1002 t1008 (wrap64 (1 + (Int.tmod t1010 6))) y1018 (y1011.length : Int) (wrap64 (x59_4 + 1)) t999 x1010001_13 x1010002_7) = some true := by first | (rw [hy1018]; with_reducible exact H) | (have H2_ := (Option.bind_some _ _).symm.trans H; rw [hy1018]; with_reducible exact H2_) | (have H2_ := (Option.bind_some _ _).symm.trans H; with_reducible exact H2_) | with_reducible exact H | (rw [hy1018]; exact H) | exact H
             have Ny1018 := Aside0.mk hy1018
             clear hy1018
             have H' := Aside0.mk H
             clear H
             go_wp2_with (first | ((with_reducible refine gate_callee (f := 47) rfl ?_); refine goesLA (some 66) rfl Try.func47 #[.slice A1 l1.length c1, .int .i64 x59_4] ?_; (with_reducible refine (laws_wByte.calls _ _ l1 x59_4 t1014 _ ?side1 ?side2 A23.out).mono ?_); (case side1 => exact qc (Kd.C_below HR1.out HB.out)); (case side2 => exact HC1.out); rintro e w' ⟨rfl, ⟨nd, rfl⟩⟩; refine ⟨_, rfl, ?_⟩; (try (rw [drewN_self wr]; generalize hq_ : World.drewN wr _ = wr; have n0_ : Aside0 (Kd.S (Kd.slice 3 (Kd.int .i64)) 82 wr w.heap.size (fun _ => True) (.slice Ao21 x10_4.length co21) x10_4) := ⟨by rw [← hq_]; exact (by (with_reducible repeat (first | apply Kd.S_alloc | apply Kd.S_drewN | apply Kd.S_drew)); exact HO_10.out)⟩; have n1_ : Aside0 (Kd.R k84 84 wr w.heap.size (fun _ => True) v1003 t1002) := ⟨by rw [← hq_]; exact (qr HO_6)⟩; have n2_ : Aside0 (wr.heap[gb1009]? = some (.cells #[.int .i64 t999, .int .i64 x1010001_13, .int .i64 x1010002_7] 34 (0, 0))) := ⟨by rw [← hq_]; exact (qb BK1009)⟩; have n3_ : Aside0 (Below w.heap.size w wr) := ⟨by rw [← hq_]; exact (qs HB)⟩; clear HO_10 HO_6 BK1009 HB hq_; have HO_10 := n0_; have HO_6 := n1_; have BK1009 := n2_; have HB := n3_; clear n0_ n1_ n2_ n3_))) | ((with_reducible refine gate_dst (N := 70) rfl ?_); (try (refine gate_guard (by rfl) ?_; dsimp only)); refine Kd.R_lit (Kd.int .i64) _ 3 ?hg (N := 70) ?hd (xs := ([wrap64 (1 + (Int.tmod t1014 (wrap64 (1 + (Int.tmod t1010 6)))))] : List Int)) (inner := [.int .i64 (wrap64 (1 + (Int.tmod t1014 (wrap64 (1 + (Int.tmod t1010 6))))))]) (ok := fun _ => True) (okp := fun _ => True) ?hr ?hp (fun _ hk => hk) trivial (Below.refl _ _) (Nat.le_refl _) (by simp) ?_; (case hd => rfl); (case hg => rfl); (case hr => first | (go_simp; done) | (go_simp; rfl)); (case hp => exact (Reps.one (show Kd.M (Kd.int .i64) _ _ _ (wrap64 (1 + (Int.tmod t1014 (wrap64 (1 + (Int.tmod t1010 6)))))) [.int .i64 (wrap64 (1 + (Int.tmod t1014 (wrap64 (1 + (Int.tmod t1010 6))))))] from rfl) (Reps.none _ _))); intro v1016 w28 ho29 hb hg_ hnew_; clear hg_ hnew_; (first | rw [← Ny1015.out] at ho29 | (simp only [Int.reduceToNat] at ho29; rw [← Ny1015.out] at ho29)); replace HO_6 := rbl HO_6 hb; replace HO_10 := Aside0.mk (Kd.S_elder' (by (with_reducible repeat (first | apply Kd.S_alloc | apply Kd.S_drewN | apply Kd.S_drew)); exact HO_10.out) (Kd.R_base ho29) hb); have HO1017 := Aside0.mk (Kd.R_lower ho29 (below_size (qs HB))); replace BK1009 := bkb BK1009 hb; replace HB := bst HB hb; clear hb ho29; have p27 : 0 ≤ (x59_4 : Int) := of_decide_eq_true (by first | (with_reducible assumption) | assumption); have q27 : (x59_4 : Int) < ((x10_4.length : Int) : Int) := of_decide_eq_true (by first | (with_reducible assumption) | assumption); obtain ⟨go27, co27, eo27, gb27, gl27, cl27, HG27⟩ := Kd.S_form HO_10.out (by omega); (first | cases eo27 | (injection eo27 with ea_ en_ ec_; (first | subst ea_ | (injection ea_ with ea_; subst ea_)); subst ec_; clear en_)); have GB27 := Aside0.mk gb27; have GG27 := Aside0.mk HG27; clear gb27 gl27 HG27; obtain ⟨_, ce27, hcl27, hM27, hcc27, hfr27, _, _⟩ := Kd.S_elem HO_10.out [] (x59_4 : Int) p27 q27; obtain ⟨ve27_0, rfl, ge27_0⟩ := hM27; have hx27_0 := hcc27 0 _ rfl; have hf27_0 := hfr27 0; (try simp only [show ((Kd.slice 3 (Kd.int .i64))).sz = 1 from rfl, Nat.mul_one, Nat.add_zero] at hx27_0); (try simp only [show ((Kd.slice 3 (Kd.int .i64))).sz = 1 from rfl, Nat.mul_one, Nat.add_zero] at hf27_0); clear hcl27 hcc27 hfr27; replace p27 := eq_true p27; replace q27 := eq_true q27; have n_ := Aside0.mk (Kd.S_mono (ok' := (fun k_ => some k_ ≠ (v1016 : Value).ownBlock)) HO_10.out (fun k_ hk => hk.2)); clear HO_10; have HO_10 := n_; clear n_; have HX30 := Aside0.mk (show Kd.S (Kd.slice 3 (Kd.int .i64)) 82 w28 w.heap.size (fun k_ => ((fun _ => True)) k_ ∧ ¬ ((fun k_ => some k_ = (v1016 : Value).ownBlock)) k_) (.slice (some ⟨go27, 0, none⟩) x10_4.length co21) x10_4 from (by (with_reducible repeat (first | apply Kd.S_alloc | apply Kd.S_drewN | apply Kd.S_drew)); exact Kd.S_mono HO_10.out (fun k_ hk => ⟨trivial, fun e_ => hk e_⟩))); obtain ⟨oki30, ce30, hcl30, hM30, hcc30, hfr30, hoki30, hH30⟩ := Kd.S_elem HX30.out [] (x59_4 : Int) (of_decide_eq_true (by first | (with_reducible assumption) | assumption)) (by have h_ : (x59_4 : Int) < ((x10_4.length : Int) : Int) := of_decide_eq_true (by first | (with_reducible assumption) | assumption); first | exact h_ | (have e_ := (Kd.S_reads' HO_10.out).1; omega) | simpa using h_); obtain ⟨ve30_0, rfl, ge30_0⟩ := hM30; have HP30 := Kd.S_seg hH30 (of_decide_eq_true (by first | (with_reducible assumption) | assumption)) (by have h_ : (x59_4 : Int) < ((x10_4.length : Int) : Int) := of_decide_eq_true (by first | (with_reducible assumption) | assumption); first | exact h_ | (have e_ := (Kd.S_reads' HO_10.out).1; omega) | simpa using h_) (seg := [v1016]) (j := 0) (show 1 ≤ 1 from by decide) (x' := y1015) (Kd.M_row (Kd.R_mono (Kd.R_tight rfl (Kd.R_mono (ok' := fun k_ => ((fun _ => True)) k_ ∧ k_ ≠ go27) (Kd.R_apart' (HO1017.out) (Kd.S_typed HO_10.out) (by decide)) (fun k_ hk => ⟨trivial, fun e_ => (hk.2) (by rw [e_]; rfl)⟩))) (fun _ h_ => Or.inr (h_)))) (fun _ hk => hk) (fun k_ hk_ => ((Kd.R_mono (ok' := fun k_ => ((fun _ => True)) k_ ∧ k_ ≠ go27) (Kd.R_apart' (HO1017.out) (Kd.S_typed HO_10.out) (by decide)) (fun k_ hk => ⟨trivial, fun e_ => (hk.2) (by rw [e_]; rfl)⟩))).1 k_ hk_.symm); have hx30_0 := hcc30 0 _ rfl; (try simp only [show ((Kd.slice 3 (Kd.int .i64))).sz = 1 from rfl, Nat.mul_one, Nat.add_zero] at hx30_0); have hf30_0 := hfr30 0; (try simp only [show ((Kd.slice 3 (Kd.int .i64))).sz = 1 from rfl, Nat.mul_one, Nat.add_zero] at hf30_0); clear hcl30 hcc30 hfr30 hoki30 hH30; (try simp only [show ((Kd.slice 3 (Kd.int .i64))).sz = 1 from rfl, Nat.mul_one, Nat.add_zero] at HP30)) | ((with_reducible refine gate_store (t := 82) (p := 71) rfl ?_); refine store_event (t := 82) (p := 71) (v := ?vo_w31) (w1 := (w28.setCell ⟨go27, (x59_4 : Int).toNat, none⟩ (v1016))) ?hg ?ho ?hn ?hr ?_; (case ho => rfl); (case hg => rfl); (case hn => rfl); (case hr => obtain ⟨Av_, cv_, ev_⟩ := Kd.R_slice HO1017.out; subst ev_; first | (go_simp; done) | (go_simp; rfl)); intro w31 hw; have hg : w28.grownBy w31 (some go27) := (by rw [hw]; exact HP30.2); have hp_ : Kd.S (Kd.slice 3 (Kd.int .i64)) 82 w31 w.heap.size (fun _ => True) (.slice (some ⟨go27, 0, none⟩) x10_4.length co21) y1018 := (by rw [hw, Ny1018.out]; exact HP30.1); clear HP30; replace HO_6 := Aside0.mk (Kd.R_over' (v := (.slice (some ⟨go27, 0, none⟩) x10_4.length co21)) (qr HO_6) (Kd.S_typed HO_10.out) (by decide) hg); replace BK1009 := Aside0.mk (blk_grown (g := gb1009) (o := .cells #[.int .i64 t999, .int .i64 x1010001_13, .int .i64 x1010002_7] 34 (0, 0)) (qb BK1009) hg (Kd.S_ne HO_10.out BK1009.out (by decide))); replace HO_10 := Aside0.mk (hp_); replace HB := Aside0.mk ((by rw [hw]; exact below_set (HB.out) GB27.out : Below w.heap.size w w31)); clear HO1017; clear hg hw hp_))
             (try simp only [← hl10_4])
             go_roundg k4
             case measure => have := HJ2.out; have := HJ7.out; have := HJ13.out; have := HK4.out; omega
             case rel => exact ⟨(y1018), (wrap64 (x59_4 + 1)), (by first | rfl | (simp; done) | (simp [*]; done)), H', ⟨by have := HJ2.out; have := HJ7.out; have := HJ13.out; have := HK4.out; omega⟩, ⟨by (try simp only [hl10_4]); (with_reducible repeat (first | apply Kd.R_alloc | apply Kd.R_drewN | apply Kd.R_drew)); exact HO_6.out⟩, ⟨by (try simp only [hl10_4]); (with_reducible repeat (first | apply Kd.S_alloc | apply Kd.S_drewN | apply Kd.S_drew)); exact HO_10.out⟩, ⟨by (try simp only [hl10_4]); (with_reducible repeat (first | refine blk_drewN ?_ _ | refine blk_drew ?_ | refine blk_alloc ?_ _)); exact BK1009.out⟩, ⟨(qs HB)⟩⟩
            rw [if_neg c26] at H
            exact absurd H (by simp)
           rw [if_neg c25] at H
           exact absurd H (by simp)
          rw [if_neg c22] at H
          have c22b0 : decide (x59_4 < (y1011.length : Int)) = false := decide_eq_false c22
          clear c22
          replace H := Option.bind_eq_some_iff.mp H
          obtain ⟨t1019, A320, H⟩ := H
          replace H : (if (t1019.length : Int) = t1008 then (if (t1002.length : Int) > 0 then (if 0 ≤ (wrap64 ((t1002.length : Int) - 1)) then (if (wrap64 ((t1002.length : Int) - 1)) < (t1002.length : Int) then (laws_FnComes.j4 k4 t1002 (wrap64 (1 + (Int.tmod t1010 6))) t1019 ((rd_T84 t1002 (wrap64 ((t1002.length : Int) - 1))).f0) t999 x1010001_13 x1010002_7) else (none)) else (none)) else (laws_FnComes.j4 k4 t1002 (wrap64 (1 + (Int.tmod t1010 6))) t1019 0 t999 x1010001_13 x1010002_7)) else (some false)) = some true := H
          have A32 := Aside0.mk A320
          clear A320
          by_cases c33 : (t1019.length : Int) = t1008
          ·rw [if_pos c33] at H
           have c33b0 : ((t1019.length : Int) == t1008) = true := beq_iff_eq.mpr c33
           have c33b1 : ((t1019.length : Int) != t1008) = false := bne_eq_false_iff_eq.mpr c33
           clear c33
           have HC34 := Aside0.mk H
           clear H
           have hcz35_0 := b0 BK1009
           have hcz35_1 := b1 BK1009
           have hcz35_2 := b2 BK1009
           have hfz35_0 := blk_frozen BK1009.out 0
           have hfz35_1 := blk_frozen BK1009.out 1
           have hfz35_2 := blk_frozen BK1009.out 2
           obtain ⟨Ao36, co36, eo36⟩ := Kd.R_slice HO_6.out
           subst eo36
           have c22c0 : decide (x59_4 < (x10_4.length : Int)) = false := by rw [← hl10_4]; exact c22b0
           go_upto_if 84 with (first | ((with_reducible refine gate_callee (f := 38) rfl ?_); refine goesLA (some 77) rfl Try.func38 #[.agg #[.int .i64 t999, .int .i64 x1010001_13, .int .i64 x1010002_7], .slice Ao36 t1002.length co36, .slice Ao21 x10_4.length co21, .int .i64 t1008] ?_; (with_reducible refine (impl_Run.calls t999 x1010001_13 x1010002_7 _ _ t1002 _ _ x10_4 t1008 t1019 _ ?side1 ?side2 ?side3 ?side4 A32.out).mono ?_); (case side1 => exact qc (Kd.R_reads' HO_6.out).2.2); (case side2 => exact (Kd.R_reads' HO_6.out).2.1); (case side3 => repeat (first | exact (Kd.S_reads' HO_10.out).2.2 | (with_reducible refine Kd.C_alloc ?_ _) | (with_reducible refine Kd.C_drewN ?_ _) | (with_reducible refine Kd.C_drew ?_))); (case side4 => exact (Kd.S_reads' HO_10.out).2.1); rintro e w37 ⟨v1020, rfl, ho0, hb⟩; refine ⟨_, rfl, ?_⟩; replace HO_6 := rbl HO_6 hb; replace HO_10 := Aside0.mk (Kd.S_below (by (with_reducible repeat (first | apply Kd.S_alloc | apply Kd.S_drewN | apply Kd.S_drew)); exact HO_10.out) hb); have HO1021 := Aside0.mk (Kd.R_lower ho0 (below_size (qs HB))); replace BK1009 := bkb BK1009 hb; replace HB := bst HB hb; clear hb; (try clear ho0); obtain ⟨Ao38, co38, eo38⟩ := Kd.R_slice HO1021.out; subst eo38))
           (try simp only [Act.put, List.setIfInBounds_toArray, List.set_cons_zero, List.set_cons_succ])
           go_cut [13] (fun v13 wc => ∃ (kq : Nat) (x13_33 : Int), v13 = .int .i64 x13_33 ∧ Aside0 (laws_FnComes.j4 kq t1002 (wrap64 (1 + (Int.tmod t1010 6))) t1019 x13_33 t999 x1010001_13 x1010002_7 = some true) ∧ Aside0 (kq ≤ k4) ∧ Aside0 (Kd.R k84 84 wc w.heap.size (fun _ => True) (.slice Ao36 t1002.length co36) t1002) ∧ Aside0 (Kd.R k86 86 wc w.heap.size (fun _ => True) (.slice Ao38 t1019.length co38) t1019) ∧ Aside0 (wc.heap[gb1009]? = some (.cells #[.int .i64 t999, .int .i64 x1010001_13, .int .i64 x1010002_7] 34 (0, 0))) ∧ Aside0 (Below w.heap.size w wc))
           case first =>
            have H := HC34.out
            clear HC34
            by_cases c39 : (t1002.length : Int) > 0
            ·rw [if_pos c39] at H
             have c39b0 : decide (0 < (t1002.length : Int)) = true := decide_eq_true c39
             have c39b1 : decide (0 < t1002.length) = true := decide_eq_true (by omega)
             clear c39
             (first | rw [c39b0] | rw [c39b1] | skip)
             obtain ⟨ji40, hji40⟩ : ∃ j_ : Int, (wrap64 ((t1002.length : Int) - 1)) = j_ := ⟨_, rfl⟩
             replace H : (if 0 ≤ (ji40) then (if (ji40) < (t1002.length : Int) then (laws_FnComes.j4 k4 t1002 (wrap64 (1 + (Int.tmod t1010 6))) t1019 ((rd_T84 t1002 (ji40)).f0) t999 x1010001_13 x1010002_7) else (none)) else (none)) = some true := by first | (rw [hji40] at H; exact H) | (simp only [hji40] at H ⊢; exact H)
             have hji40w : (IntKind.i64.wrap ((t1002.length : Int) - 1)) = ji40 := (i64_w _).trans hji40
             by_cases c41 : 0 ≤ (ji40)
             ·rw [if_pos c41] at H
              have c41b0 : decide (0 ≤ (ji40)) = true := decide_eq_true c41
              clear c41
              by_cases c42 : (ji40) < (t1002.length : Int)
              ·rw [if_pos c42] at H
               have c42b0 : decide ((ji40) < (t1002.length : Int)) = true := decide_eq_true c42
               clear c42
               have H' := Aside0.mk H
               clear H
               have p1022 : 0 ≤ ((ji40) : Int) := of_decide_eq_true (by first | (with_reducible assumption) | assumption)
               have q1022 : (ji40) < (t1002.length : Int) := of_decide_eq_true (by first | (with_reducible assumption) | assumption)
               obtain ⟨ad1022, e1022, hx1022_0, hx1022_1⟩ := at_T84 (Kd.R_reads' HO_6.out).2.2 (ji40) p1022 q1022
               cases e1022
               replace p1022 := eq_true p1022
               replace q1022 := eq_true q1022
               go_wp2
               go_meet
               case rel => exact ⟨_, ((rd_T84 t1002 (ji40)).f0), (by first | rfl | (simp; done) | (simp only [← hji40] <;> (first | rfl | simp)) | (simp [*]; done)), H', ⟨by have := HJ2.out; have := HJ7.out; have := HJ13.out; have := HK4.out; first | omega | exact Nat.le_refl _⟩, ⟨by (try simp only [hl10_4]); (with_reducible repeat (first | apply Kd.R_alloc | apply Kd.R_drewN | apply Kd.R_drew)); exact HO_6.out⟩, ⟨by (try simp only [hl10_4]); (with_reducible repeat (first | apply Kd.R_alloc | apply Kd.R_drewN | apply Kd.R_drew)); exact HO1021.out⟩, ⟨by (try simp only [hl10_4]); (with_reducible repeat (first | refine blk_drewN ?_ _ | refine blk_drew ?_ | refine blk_alloc ?_ _)); exact BK1009.out⟩, ⟨(qs HB)⟩⟩
              rw [if_neg c42] at H
              exact absurd H (by simp)
             rw [if_neg c41] at H
             exact absurd H (by simp)
            rw [if_neg c39] at H
            have c39b0 : decide (0 < (t1002.length : Int)) = false := decide_eq_false c39
            have c39b1 : decide (0 < t1002.length) = false := decide_eq_false (by omega)
            clear c39
            (first | rw [c39b0] | rw [c39b1] | skip)
            have H' := Aside0.mk H
            clear H
            go_wp2
            go_meet
            case rel => exact ⟨_, (0), (by first | rfl | (simp; done) | (simp [*]; done)), H', ⟨by have := HJ2.out; have := HJ7.out; have := HJ13.out; have := HK4.out; first | omega | exact Nat.le_refl _⟩, ⟨by (try simp only [hl10_4]); (with_reducible repeat (first | apply Kd.R_alloc | apply Kd.R_drewN | apply Kd.R_drew)); exact HO_6.out⟩, ⟨by (try simp only [hl10_4]); (with_reducible repeat (first | apply Kd.R_alloc | apply Kd.R_drewN | apply Kd.R_drew)); exact HO1021.out⟩, ⟨by (try simp only [hl10_4]); (with_reducible repeat (first | refine blk_drewN ?_ _ | refine blk_drew ?_ | refine blk_alloc ?_ _)); exact BK1009.out⟩, ⟨(qs HB)⟩⟩
           case rest =>
            clear HC34
            try clear c1; try clear p1; try clear q1; try clear hx1; try clear c2; try clear p2; try clear q2; try clear hx2; try clear hf2; try clear c3; try clear hx3; try clear hf3; try clear c4; try clear c4b0; try clear c4b1; try clear c5; try clear p6; try clear c7; try clear p10; try clear q10; try clear hx10; try clear c12; try clear c12b0; try clear c16; try clear c16b0; try clear c18; try clear c18b0; try clear c18b1; try clear c22; try clear c22b0; try clear c24; try clear c24b0; try clear c24b1; try clear c25; try clear c25b0; try clear c26; try clear c26b0; try clear c27; try clear p27; try clear q27; try clear hx27; try clear hf27; try clear c30; try clear hx30; try clear hf30; try clear c33; try clear c33b0; try clear c33b1; try clear c38; try clear c39; try clear c39b0; try clear c39b1; try clear c41; try clear c41b0; try clear c42; try clear c42b0; try clear hcz11_0; try clear hcz11_1; try clear hcz11_2; try clear hcz13_0; try clear hcz13_1; try clear hcz13_2; try clear hcz15_0; try clear hcz15_1; try clear hcz15_2; try clear hcz17_0; try clear hcz17_1; try clear hcz17_2; try clear hcz35_0; try clear hcz35_1; try clear hcz35_2; try clear hfz11_0; try clear hfz11_1; try clear hfz11_2; try clear hfz13_0; try clear hfz13_1; try clear hfz13_2; try clear hfz15_0; try clear hfz15_1; try clear hfz15_2; try clear hfz17_0; try clear hfz17_1; try clear hfz17_2; try clear hfz35_0; try clear hfz35_1; try clear hfz35_2; try clear hx1022_0; try clear hx1022_1; try clear hx27_0; try clear hx30_0; try clear p1022; try clear p2; try clear p27; try clear p6; try clear q1022; try clear q27
            obtain ⟨kq, x13_33, rfl, HA, HJ33, HO_6, HO_12, BK1009, HB⟩ := hcut
            cases kq with
            | zero => exact absurd HA.out (by simp [laws_FnComes.j4])
            | succ kj33 =>
             have H := HA.out
             clear HA
             simp only [laws_FnComes.j4] at H
             have H' := Aside0.mk H
             clear H
             go_wp2
             go_loopg [94] kj33 (fun kq v94 w' => ∃ (x94_6 : Int), v94 = .int .i64 x94_6 ∧ Aside0 (laws_FnComes.l1 kq t1002 (wrap64 (1 + (Int.tmod t1010 6))) x13_33 t1019 (t1019.length : Int) x94_6 t999 x1010001_13 x1010002_7 = some true) ∧ Aside0 (kq ≤ kj33) ∧ Aside0 (Kd.R k84 84 w' w.heap.size (fun _ => True) (.slice Ao36 t1002.length co36) t1002) ∧ Aside0 (Kd.R k86 86 w' w.heap.size (fun _ => True) (.slice Ao38 t1019.length co38) t1019) ∧ Aside0 (w'.heap[gb1009]? = some (.cells #[.int .i64 t999, .int .i64 x1010001_13, .int .i64 x1010002_7] 34 (0, 0))) ∧ Aside0 (Below w.heap.size w w'))
             case atStart => exact ⟨(0), (by first | rfl | (simp; done) | (simp [*]; done)), H', ⟨Nat.le_refl _⟩, ⟨by (try simp only [hl10_4]); (with_reducible repeat (first | apply Kd.R_alloc | apply Kd.R_drewN | apply Kd.R_drew)); exact HO_6.out⟩, ⟨by (try simp only [hl10_4]); (with_reducible repeat (first | apply Kd.R_alloc | apply Kd.R_drewN | apply Kd.R_drew)); exact HO_12.out⟩, ⟨by (try simp only [hl10_4]); (with_reducible repeat (first | refine blk_drewN ?_ _ | refine blk_drew ?_ | refine blk_alloc ?_ _)); exact BK1009.out⟩, ⟨(qs HB)⟩⟩
             case round =>
              clear H'
              try clear c1; try clear p1; try clear q1; try clear hx1; try clear c2; try clear p2; try clear q2; try clear hx2; try clear hf2; try clear c3; try clear hx3; try clear hf3; try clear c4; try clear c4b0; try clear c4b1; try clear c5; try clear p6; try clear c7; try clear p10; try clear q10; try clear hx10; try clear c12; try clear c12b0; try clear c16; try clear c16b0; try clear c18; try clear c18b0; try clear c18b1; try clear c22; try clear c22b0; try clear c24; try clear c24b0; try clear c24b1; try clear c25; try clear c25b0; try clear c26; try clear c26b0; try clear c27; try clear p27; try clear q27; try clear hx27; try clear hf27; try clear c30; try clear hx30; try clear hf30; try clear c33; try clear c33b0; try clear c33b1; try clear c38; try clear c39; try clear c39b0; try clear c39b1; try clear c41; try clear c41b0; try clear c42; try clear c42b0; try clear hcz11_0; try clear hcz11_1; try clear hcz11_2; try clear hcz13_0; try clear hcz13_1; try clear hcz13_2; try clear hcz15_0; try clear hcz15_1; try clear hcz15_2; try clear hcz17_0; try clear hcz17_1; try clear hcz17_2; try clear hcz35_0; try clear hcz35_1; try clear hcz35_2; try clear hfz11_0; try clear hfz11_1; try clear hfz11_2; try clear hfz13_0; try clear hfz13_1; try clear hfz13_2; try clear hfz15_0; try clear hfz15_1; try clear hfz15_2; try clear hfz17_0; try clear hfz17_1; try clear hfz17_2; try clear hfz35_0; try clear hfz35_1; try clear hfz35_2; try clear hx1022_0; try clear hx1022_1; try clear hx27_0; try clear hx30_0; try clear p1; try clear p10; try clear p1022; try clear p2; try clear p27; try clear p6; try clear q1; try clear q10; try clear q1022; try clear q2; try clear q27
              obtain ⟨x94_6, rfl, HA, HK6, HO_6, HO_92, BK1009, HB⟩ := hrel
              cases gk with
              | zero => exact absurd HA.out (by simp [laws_FnComes.l1])
              | succ k6 =>
               have H := HA.out
               clear HA
               simp only [laws_FnComes.l1] at H
               by_cases c43 : x94_6 < (t1019.length : Int)
               ·rw [if_pos c43] at H
                have c43b0 : decide (x94_6 < (t1019.length : Int)) = true := decide_eq_true c43
                clear c43
                by_cases c44 : 0 ≤ x94_6
                ·rw [if_pos c44] at H
                 have c44b0 : decide (0 ≤ x94_6) = true := decide_eq_true c44
                 clear c44
                 by_cases c45 : x94_6 < (t1019.length : Int)
                 ·rw [if_pos c45] at H
                  have c45b0 : decide (x94_6 < (t1019.length : Int)) = true := decide_eq_true c45
                  clear c45
                  have HC46 := Aside0.mk H
                  clear H
                  have p1023 : 0 ≤ (x94_6 : Int) := of_decide_eq_true (by first | (with_reducible assumption) | assumption)
                  have q1023 : x94_6 < (t1019.length : Int) := of_decide_eq_true (by first | (with_reducible assumption) | assumption)
                  obtain ⟨ad1023, e1023, hx1023_0, hx1023_1, hx1023_2, hx1023_3, hx1023_4, hx1023_5, hx1023_6, hx1023_7, hx1023_8, hx1023_9⟩ := at_T86 (Kd.R_reads' HO_92.out).2.2 x94_6 p1023 q1023
                  cases e1023
                  replace p1023 := eq_true p1023
                  replace q1023 := eq_true q1023
                  go_upto_region 25 with (first | ((with_reducible refine gate_dst (N := 15) rfl ?_); (try (refine gate_guard (by rfl) ?_; dsimp only)); refine boxA #[.int .i64 0, .int .i64 0, .int .i64 0, .int .i64 0, .int .i64 0, .int .i64 0, .int .i64 0, .int .i64 0, .int .i64 0, .int .i64 0] 86 ?_; intro gb1024 hg w47 hbox hb; replace HO_6 := rbl HO_6 hb; replace HO_92 := Aside0.mk (Kd.R_below (Kd.R_elderB (qr HO_92) gb1024 (Nat.le_of_eq hg.symm)) hb); have BK1024 := Aside0.mk (hbox); have GW1024 := nge HB hg; have GE1024 := nge HB hg; replace HB := bst HB hb; have NB1009_1024 := nlt BK1009 hg; have NB1024_1009 := ngt BK1009 hg; replace BK1009 := bkb BK1009 hb; clear hb hbox hg; have hnb48 := NB1024_1009.out; have hnc48 := NB1009_1024.out; have hcz49_0 := b0 BK1024; have hcz49_1 := b1 BK1024; have hcz49_2 := b2 BK1024; have hcz49_3 := b3 BK1024; have hcz49_4 := b4 BK1024; have hcz49_5 := b5 BK1024; have hcz49_6 := b6 BK1024; have hcz49_7 := b7 BK1024; have hcz49_8 := b8 BK1024; have hcz49_9 := b9 BK1024; have hfz49_0 := blk_frozen BK1024.out 0; have hfz49_1 := blk_frozen BK1024.out 1; have hfz49_2 := blk_frozen BK1024.out 2; have hfz49_3 := blk_frozen BK1024.out 3; have hfz49_4 := blk_frozen BK1024.out 4; have hfz49_5 := blk_frozen BK1024.out 5; have hfz49_6 := blk_frozen BK1024.out 6; have hfz49_7 := blk_frozen BK1024.out 7; have hfz49_8 := blk_frozen BK1024.out 8; have hfz49_9 := blk_frozen BK1024.out 9))
                  (try simp only [Act.put, List.setIfInBounds_toArray, List.set_cons_zero, List.set_cons_succ])
                  go_cut [129] (fun v129 wc => ∃ (kq : Nat) (x129_45 : Bool), v129 = .bool x129_45 ∧ Aside0 (laws_FnComes.j6 kq t1002 (wrap64 (1 + (Int.tmod t1010 6))) x13_33 (wrap64 (x94_6 + 1)) t1019 (t1019.length : Int) x94_6 x129_45 t999 x1010001_13 x1010002_7 ((rd_T86 t1019 x94_6).f0.f0) ((rd_T86 t1019 x94_6).f0.f1) ((rd_T86 t1019 x94_6).f0.f2) ((rd_T86 t1019 x94_6).f0.f3) ((rd_T86 t1019 x94_6).f0.f4) ((rd_T86 t1019 x94_6).f1.f0) ((rd_T86 t1019 x94_6).f1.f1) ((rd_T86 t1019 x94_6).f1.f2) ((rd_T86 t1019 x94_6).f2) ((rd_T86 t1019 x94_6).f3) = some true) ∧ Aside0 (kq ≤ k6) ∧ Aside0 (Kd.R k84 84 wc w.heap.size (fun _ => True) (.slice Ao36 t1002.length co36) t1002) ∧ Aside0 (Kd.R k86 86 wc w.heap.size (fun k_ => k_ ≠ gb1024) (.slice (some ad1023) t1019.length co38) t1019) ∧ Aside0 (wc.heap[gb1009]? = some (.cells #[.int .i64 t999, .int .i64 x1010001_13, .int .i64 x1010002_7] 34 (0, 0))) ∧ Aside0 (wc.heap[gb1024]? = some (.cells #[.int .i64 ((rd_T86 t1019 x94_6).f0.f0), .int .i64 ((rd_T86 t1019 x94_6).f0.f1), .int .i64 ((rd_T86 t1019 x94_6).f0.f2), .int .i64 ((rd_T86 t1019 x94_6).f0.f3), .int .i64 ((rd_T86 t1019 x94_6).f0.f4), .int .i64 ((rd_T86 t1019 x94_6).f1.f0), .int .i64 ((rd_T86 t1019 x94_6).f1.f1), .int .i64 ((rd_T86 t1019 x94_6).f1.f2), .int .i64 ((rd_T86 t1019 x94_6).f2), .int .i64 ((rd_T86 t1019 x94_6).f3)] 86 (0, 0))) ∧ Aside0 (Below w.heap.size w wc))
                  case first =>
                   have H := HC46.out
                   clear HC46
                   by_cases c50 : (wrap64 (x94_6 + 1)) ≥ (wrap64 (x13_33 + (wrap64 (1 + (Int.tmod t1010 6)))))
                   ·rw [if_pos c50] at H
                    have c50b0 : decide ((wrap64 (x13_33 + (wrap64 (1 + (Int.tmod t1010 6))))) ≤ (wrap64 (x94_6 + 1))) = true := decide_eq_true c50
                    clear c50
                    (first | rw [c50b0] | (simp only [i64_w, i32_w]; rw [c50b0]) | skip)
                    by_cases c51 : ((rd_T86 t1019 x94_6).f1.f0) = (t1002.length : Int)
                    ·rw [if_pos c51] at H
                     have c51b0 : (((rd_T86 t1019 x94_6).f1.f0) == (t1002.length : Int)) = true := beq_iff_eq.mpr c51
                     have c51b1 : (((rd_T86 t1019 x94_6).f1.f0) != (t1002.length : Int)) = false := bne_eq_false_iff_eq.mpr c51
                     clear c51
                     by_cases c52 : (wrap64 (x94_6 + 1)) ≥ (wrap64 (x13_33 + (wrap64 (2 * (wrap64 (1 + (Int.tmod t1010 6)))))))
                     ·rw [if_pos c52] at H
                      have c52b0 : decide ((wrap64 (x13_33 + (wrap64 (2 * (wrap64 (1 + (Int.tmod t1010 6))))))) ≤ (wrap64 (x94_6 + 1))) = true := decide_eq_true c52
                      clear c52
                      have H' := Aside0.mk H
                      clear H
                      have hnb53 := NB1024_1009.out
                      have hnc53 := NB1009_1024.out
                      have hcz54_0 := b0 BK1024
                      have hcz54_1 := b1 BK1024
                      have hcz54_2 := b2 BK1024
                      have hcz54_3 := b3 BK1024
                      have hcz54_4 := b4 BK1024
                      have hcz54_5 := b5 BK1024
                      have hcz54_6 := b6 BK1024
                      have hcz54_7 := b7 BK1024
                      have hcz54_8 := b8 BK1024
                      have hcz54_9 := b9 BK1024
                      have hfz54_0 := blk_frozen BK1024.out 0
                      have hfz54_1 := blk_frozen BK1024.out 1
                      have hfz54_2 := blk_frozen BK1024.out 2
                      have hfz54_3 := blk_frozen BK1024.out 3
                      have hfz54_4 := blk_frozen BK1024.out 4
                      have hfz54_5 := blk_frozen BK1024.out 5
                      have hfz54_6 := blk_frozen BK1024.out 6
                      have hfz54_7 := blk_frozen BK1024.out 7
                      have hfz54_8 := blk_frozen BK1024.out 8
                      have hfz54_9 := blk_frozen BK1024.out 9
                      go_wp2
                      go_meet
                      case rel => exact ⟨_, ((((rd_T86 t1019 x94_6).f0.f2) != (t1002.length : Int))), (by first | rfl | (simp; done) | (simp [*]; done)), H', ⟨by have := HJ2.out; have := HJ7.out; have := HJ13.out; have := HK4.out; have := HJ33.out; have := HK6.out; first | omega | exact Nat.le_refl _⟩, ⟨by (try simp only [hl10_4]); (with_reducible repeat (first | apply Kd.R_alloc | apply Kd.R_drewN | apply Kd.R_drew)); exact Kd.R_mono (Kd.R_far (p := ⟨gb1024, 9, none⟩) (Kd.R_far (p := ⟨gb1024, 8, none⟩) (Kd.R_far (p := ⟨gb1024, 7, none⟩) (Kd.R_far (p := ⟨gb1024, 6, none⟩) (Kd.R_far (p := ⟨gb1024, 5, none⟩) (Kd.R_far (p := ⟨gb1024, 4, none⟩) (Kd.R_far (p := ⟨gb1024, 3, none⟩) (Kd.R_far (p := ⟨gb1024, 2, none⟩) (Kd.R_far (p := ⟨gb1024, 1, none⟩) (Kd.R_far (p := ⟨gb1024, 0, none⟩) (Kd.R_types HO_6.out BK1024.out (by decide)) (fun _ hk => hk.2) (.int .i64 ((rd_T86 t1019 x94_6).f0.f0))) (fun _ hk => hk.2) (.int .i64 ((rd_T86 t1019 x94_6).f0.f1))) (fun _ hk => hk.2) (.int .i64 ((rd_T86 t1019 x94_6).f0.f2))) (fun _ hk => hk.2) (.int .i64 ((rd_T86 t1019 x94_6).f0.f3))) (fun _ hk => hk.2) (.int .i64 ((rd_T86 t1019 x94_6).f0.f4))) (fun _ hk => hk.2) (.int .i64 ((rd_T86 t1019 x94_6).f1.f0))) (fun _ hk => hk.2) (.int .i64 ((rd_T86 t1019 x94_6).f1.f1))) (fun _ hk => hk.2) (.int .i64 ((rd_T86 t1019 x94_6).f1.f2))) (fun _ hk => hk.2) (.int .i64 ((rd_T86 t1019 x94_6).f2))) (fun _ hk => hk.2) (.int .i64 ((rd_T86 t1019 x94_6).f3))) (fun _ hk => trivial)⟩, ⟨by (try simp only [hl10_4]); (with_reducible repeat (first | apply Kd.R_alloc | apply Kd.R_drewN | apply Kd.R_drew)); exact Kd.R_mono (Kd.R_far (p := ⟨gb1024, 9, none⟩) (Kd.R_far (p := ⟨gb1024, 8, none⟩) (Kd.R_far (p := ⟨gb1024, 7, none⟩) (Kd.R_far (p := ⟨gb1024, 6, none⟩) (Kd.R_far (p := ⟨gb1024, 5, none⟩) (Kd.R_far (p := ⟨gb1024, 4, none⟩) (Kd.R_far (p := ⟨gb1024, 3, none⟩) (Kd.R_far (p := ⟨gb1024, 2, none⟩) (Kd.R_far (p := ⟨gb1024, 1, none⟩) (Kd.R_far (p := ⟨gb1024, 0, none⟩) (Kd.R_mono HO_92.out (fun k_ hk => (⟨hk, hk.2⟩ : _ ∧ k_ ≠ gb1024))) (fun _ hk => hk.2) (.int .i64 ((rd_T86 t1019 x94_6).f0.f0))) (fun _ hk => hk.2) (.int .i64 ((rd_T86 t1019 x94_6).f0.f1))) (fun _ hk => hk.2) (.int .i64 ((rd_T86 t1019 x94_6).f0.f2))) (fun _ hk => hk.2) (.int .i64 ((rd_T86 t1019 x94_6).f0.f3))) (fun _ hk => hk.2) (.int .i64 ((rd_T86 t1019 x94_6).f0.f4))) (fun _ hk => hk.2) (.int .i64 ((rd_T86 t1019 x94_6).f1.f0))) (fun _ hk => hk.2) (.int .i64 ((rd_T86 t1019 x94_6).f1.f1))) (fun _ hk => hk.2) (.int .i64 ((rd_T86 t1019 x94_6).f1.f2))) (fun _ hk => hk.2) (.int .i64 ((rd_T86 t1019 x94_6).f2))) (fun _ hk => hk.2) (.int .i64 ((rd_T86 t1019 x94_6).f3))) (fun _ hk => hk.1.2)⟩, ⟨by (try simp only [hl10_4]); exact qB BK1009⟩, ⟨by (try simp only [hl10_4]); (with_reducible repeat (first | refine blk_drewN ?_ _ | refine blk_drew ?_ | refine blk_alloc ?_ _)); refine blk_put (cs := #[.int .i64 ((rd_T86 t1019 x94_6).f0.f0), .int .i64 ((rd_T86 t1019 x94_6).f0.f1), .int .i64 ((rd_T86 t1019 x94_6).f0.f2), .int .i64 ((rd_T86 t1019 x94_6).f0.f3), .int .i64 ((rd_T86 t1019 x94_6).f0.f4), .int .i64 ((rd_T86 t1019 x94_6).f1.f0), .int .i64 ((rd_T86 t1019 x94_6).f1.f1), .int .i64 ((rd_T86 t1019 x94_6).f1.f2), .int .i64 ((rd_T86 t1019 x94_6).f2), .int .i64 0]) ?_ 9 _ rfl; (with_reducible repeat (first | refine blk_drewN ?_ _ | refine blk_drew ?_ | refine blk_alloc ?_ _)); refine blk_put (cs := #[.int .i64 ((rd_T86 t1019 x94_6).f0.f0), .int .i64 ((rd_T86 t1019 x94_6).f0.f1), .int .i64 ((rd_T86 t1019 x94_6).f0.f2), .int .i64 ((rd_T86 t1019 x94_6).f0.f3), .int .i64 ((rd_T86 t1019 x94_6).f0.f4), .int .i64 ((rd_T86 t1019 x94_6).f1.f0), .int .i64 ((rd_T86 t1019 x94_6).f1.f1), .int .i64 ((rd_T86 t1019 x94_6).f1.f2), .int .i64 0, .int .i64 0]) ?_ 8 _ rfl; (with_reducible repeat (first | refine blk_drewN ?_ _ | refine blk_drew ?_ | refine blk_alloc ?_ _)); refine blk_put (cs := #[.int .i64 ((rd_T86 t1019 x94_6).f0.f0), .int .i64 ((rd_T86 t1019 x94_6).f0.f1), .int .i64 ((rd_T86 t1019 x94_6).f0.f2), .int .i64 ((rd_T86 t1019 x94_6).f0.f3), .int .i64 ((rd_T86 t1019 x94_6).f0.f4), .int .i64 ((rd_T86 t1019 x94_6).f1.f0), .int .i64 ((rd_T86 t1019 x94_6).f1.f1), .int .i64 0, .int .i64 0, .int .i64 0]) ?_ 7 _ rfl; (with_reducible repeat (first | refine blk_drewN ?_ _ | refine blk_drew ?_ | refine blk_alloc ?_ _)); refine blk_put (cs := #[.int .i64 ((rd_T86 t1019 x94_6).f0.f0), .int .i64 ((rd_T86 t1019 x94_6).f0.f1), .int .i64 ((rd_T86 t1019 x94_6).f0.f2), .int .i64 ((rd_T86 t1019 x94_6).f0.f3), .int .i64 ((rd_T86 t1019 x94_6).f0.f4), .int .i64 ((rd_T86 t1019 x94_6).f1.f0), .int .i64 0, .int .i64 0, .int .i64 0, .int .i64 0]) ?_ 6 _ rfl; (with_reducible repeat (first | refine blk_drewN ?_ _ | refine blk_drew ?_ | refine blk_alloc ?_ _)); refine blk_put (cs := #[.int .i64 ((rd_T86 t1019 x94_6).f0.f0), .int .i64 ((rd_T86 t1019 x94_6).f0.f1), .int .i64 ((rd_T86 t1019 x94_6).f0.f2), .int .i64 ((rd_T86 t1019 x94_6).f0.f3), .int .i64 ((rd_T86 t1019 x94_6).f0.f4), .int .i64 0, .int .i64 0, .int .i64 0, .int .i64 0, .int .i64 0]) ?_ 5 _ rfl; (with_reducible repeat (first | refine blk_drewN ?_ _ | refine blk_drew ?_ | refine blk_alloc ?_ _)); refine blk_put (cs := #[.int .i64 ((rd_T86 t1019 x94_6).f0.f0), .int .i64 ((rd_T86 t1019 x94_6).f0.f1), .int .i64 ((rd_T86 t1019 x94_6).f0.f2), .int .i64 ((rd_T86 t1019 x94_6).f0.f3), .int .i64 0, .int .i64 0, .int .i64 0, .int .i64 0, .int .i64 0, .int .i64 0]) ?_ 4 _ rfl; (with_reducible repeat (first | refine blk_drewN ?_ _ | refine blk_drew ?_ | refine blk_alloc ?_ _)); refine blk_put (cs := #[.int .i64 ((rd_T86 t1019 x94_6).f0.f0), .int .i64 ((rd_T86 t1019 x94_6).f0.f1), .int .i64 ((rd_T86 t1019 x94_6).f0.f2), .int .i64 0, .int .i64 0, .int .i64 0, .int .i64 0, .int .i64 0, .int .i64 0, .int .i64 0]) ?_ 3 _ rfl; (with_reducible repeat (first | refine blk_drewN ?_ _ | refine blk_drew ?_ | refine blk_alloc ?_ _)); refine blk_put (cs := #[.int .i64 ((rd_T86 t1019 x94_6).f0.f0), .int .i64 ((rd_T86 t1019 x94_6).f0.f1), .int .i64 0, .int .i64 0, .int .i64 0, .int .i64 0, .int .i64 0, .int .i64 0, .int .i64 0, .int .i64 0]) ?_ 2 _ rfl; (with_reducible repeat (first | refine blk_drewN ?_ _ | refine blk_drew ?_ | refine blk_alloc ?_ _)); refine blk_put (cs := #[.int .i64 ((rd_T86 t1019 x94_6).f0.f0), .int .i64 0, .int .i64 0, .int .i64 0, .int .i64 0, .int .i64 0, .int .i64 0, .int .i64 0, .int .i64 0, .int .i64 0]) ?_ 1 _ rfl; (with_reducible repeat (first | refine blk_drewN ?_ _ | refine blk_drew ?_ | refine blk_alloc ?_ _)); refine blk_put (cs := #[.int .i64 0, .int .i64 0, .int .i64 0, .int .i64 0, .int .i64 0, .int .i64 0, .int .i64 0, .int .i64 0, .int .i64 0, .int .i64 0]) ?_ 0 _ rfl; (with_reducible repeat (first | refine blk_drewN ?_ _ | refine blk_drew ?_ | refine blk_alloc ?_ _)); exact BK1024.out⟩, ⟨(qs HB)⟩⟩
                     rw [if_neg c52] at H
                     have c52b0 : decide ((wrap64 (x13_33 + (wrap64 (2 * (wrap64 (1 + (Int.tmod t1010 6))))))) ≤ (wrap64 (x94_6 + 1))) = false := decide_eq_false c52
                     clear c52
                     have H' := Aside0.mk H
                     clear H
                     have hnb55 := NB1024_1009.out
                     have hnc55 := NB1009_1024.out
                     have hcz56_0 := b0 BK1024
                     have hcz56_1 := b1 BK1024
                     have hcz56_2 := b2 BK1024
                     have hcz56_3 := b3 BK1024
                     have hcz56_4 := b4 BK1024
                     have hcz56_5 := b5 BK1024
                     have hcz56_6 := b6 BK1024
                     have hcz56_7 := b7 BK1024
                     have hcz56_8 := b8 BK1024
                     have hcz56_9 := b9 BK1024
                     have hfz56_0 := blk_frozen BK1024.out 0
                     have hfz56_1 := blk_frozen BK1024.out 1
                     have hfz56_2 := blk_frozen BK1024.out 2
                     have hfz56_3 := blk_frozen BK1024.out 3
                     have hfz56_4 := blk_frozen BK1024.out 4
                     have hfz56_5 := blk_frozen BK1024.out 5
                     have hfz56_6 := blk_frozen BK1024.out 6
                     have hfz56_7 := blk_frozen BK1024.out 7
                     have hfz56_8 := blk_frozen BK1024.out 8
                     have hfz56_9 := blk_frozen BK1024.out 9
                     go_wp2
                     go_meet
                     case rel => exact ⟨_, (false), (by first | rfl | (simp; done) | (simp [*]; done)), H', ⟨by have := HJ2.out; have := HJ7.out; have := HJ13.out; have := HK4.out; have := HJ33.out; have := HK6.out; first | omega | exact Nat.le_refl _⟩, ⟨by (try simp only [hl10_4]); (with_reducible repeat (first | apply Kd.R_alloc | apply Kd.R_drewN | apply Kd.R_drew)); exact Kd.R_mono (Kd.R_far (p := ⟨gb1024, 9, none⟩) (Kd.R_far (p := ⟨gb1024, 8, none⟩) (Kd.R_far (p := ⟨gb1024, 7, none⟩) (Kd.R_far (p := ⟨gb1024, 6, none⟩) (Kd.R_far (p := ⟨gb1024, 5, none⟩) (Kd.R_far (p := ⟨gb1024, 4, none⟩) (Kd.R_far (p := ⟨gb1024, 3, none⟩) (Kd.R_far (p := ⟨gb1024, 2, none⟩) (Kd.R_far (p := ⟨gb1024, 1, none⟩) (Kd.R_far (p := ⟨gb1024, 0, none⟩) (Kd.R_types HO_6.out BK1024.out (by decide)) (fun _ hk => hk.2) (.int .i64 ((rd_T86 t1019 x94_6).f0.f0))) (fun _ hk => hk.2) (.int .i64 ((rd_T86 t1019 x94_6).f0.f1))) (fun _ hk => hk.2) (.int .i64 ((rd_T86 t1019 x94_6).f0.f2))) (fun _ hk => hk.2) (.int .i64 ((rd_T86 t1019 x94_6).f0.f3))) (fun _ hk => hk.2) (.int .i64 ((rd_T86 t1019 x94_6).f0.f4))) (fun _ hk => hk.2) (.int .i64 ((rd_T86 t1019 x94_6).f1.f0))) (fun _ hk => hk.2) (.int .i64 ((rd_T86 t1019 x94_6).f1.f1))) (fun _ hk => hk.2) (.int .i64 ((rd_T86 t1019 x94_6).f1.f2))) (fun _ hk => hk.2) (.int .i64 ((rd_T86 t1019 x94_6).f2))) (fun _ hk => hk.2) (.int .i64 ((rd_T86 t1019 x94_6).f3))) (fun _ hk => trivial)⟩, ⟨by (try simp only [hl10_4]); (with_reducible repeat (first | apply Kd.R_alloc | apply Kd.R_drewN | apply Kd.R_drew)); exact Kd.R_mono (Kd.R_far (p := ⟨gb1024, 9, none⟩) (Kd.R_far (p := ⟨gb1024, 8, none⟩) (Kd.R_far (p := ⟨gb1024, 7, none⟩) (Kd.R_far (p := ⟨gb1024, 6, none⟩) (Kd.R_far (p := ⟨gb1024, 5, none⟩) (Kd.R_far (p := ⟨gb1024, 4, none⟩) (Kd.R_far (p := ⟨gb1024, 3, none⟩) (Kd.R_far (p := ⟨gb1024, 2, none⟩) (Kd.R_far (p := ⟨gb1024, 1, none⟩) (Kd.R_far (p := ⟨gb1024, 0, none⟩) (Kd.R_mono HO_92.out (fun k_ hk => (⟨hk, hk.2⟩ : _ ∧ k_ ≠ gb1024))) (fun _ hk => hk.2) (.int .i64 ((rd_T86 t1019 x94_6).f0.f0))) (fun _ hk => hk.2) (.int .i64 ((rd_T86 t1019 x94_6).f0.f1))) (fun _ hk => hk.2) (.int .i64 ((rd_T86 t1019 x94_6).f0.f2))) (fun _ hk => hk.2) (.int .i64 ((rd_T86 t1019 x94_6).f0.f3))) (fun _ hk => hk.2) (.int .i64 ((rd_T86 t1019 x94_6).f0.f4))) (fun _ hk => hk.2) (.int .i64 ((rd_T86 t1019 x94_6).f1.f0))) (fun _ hk => hk.2) (.int .i64 ((rd_T86 t1019 x94_6).f1.f1))) (fun _ hk => hk.2) (.int .i64 ((rd_T86 t1019 x94_6).f1.f2))) (fun _ hk => hk.2) (.int .i64 ((rd_T86 t1019 x94_6).f2))) (fun _ hk => hk.2) (.int .i64 ((rd_T86 t1019 x94_6).f3))) (fun _ hk => hk.1.2)⟩, ⟨by (try simp only [hl10_4]); exact qB BK1009⟩, ⟨by (try simp only [hl10_4]); (with_reducible repeat (first | refine blk_drewN ?_ _ | refine blk_drew ?_ | refine blk_alloc ?_ _)); refine blk_put (cs := #[.int .i64 ((rd_T86 t1019 x94_6).f0.f0), .int .i64 ((rd_T86 t1019 x94_6).f0.f1), .int .i64 ((rd_T86 t1019 x94_6).f0.f2), .int .i64 ((rd_T86 t1019 x94_6).f0.f3), .int .i64 ((rd_T86 t1019 x94_6).f0.f4), .int .i64 ((rd_T86 t1019 x94_6).f1.f0), .int .i64 ((rd_T86 t1019 x94_6).f1.f1), .int .i64 ((rd_T86 t1019 x94_6).f1.f2), .int .i64 ((rd_T86 t1019 x94_6).f2), .int .i64 0]) ?_ 9 _ rfl; (with_reducible repeat (first | refine blk_drewN ?_ _ | refine blk_drew ?_ | refine blk_alloc ?_ _)); refine blk_put (cs := #[.int .i64 ((rd_T86 t1019 x94_6).f0.f0), .int .i64 ((rd_T86 t1019 x94_6).f0.f1), .int .i64 ((rd_T86 t1019 x94_6).f0.f2), .int .i64 ((rd_T86 t1019 x94_6).f0.f3), .int .i64 ((rd_T86 t1019 x94_6).f0.f4), .int .i64 ((rd_T86 t1019 x94_6).f1.f0), .int .i64 ((rd_T86 t1019 x94_6).f1.f1), .int .i64 ((rd_T86 t1019 x94_6).f1.f2), .int .i64 0, .int .i64 0]) ?_ 8 _ rfl; (with_reducible repeat (first | refine blk_drewN ?_ _ | refine blk_drew ?_ | refine blk_alloc ?_ _)); refine blk_put (cs := #[.int .i64 ((rd_T86 t1019 x94_6).f0.f0), .int .i64 ((rd_T86 t1019 x94_6).f0.f1), .int .i64 ((rd_T86 t1019 x94_6).f0.f2), .int .i64 ((rd_T86 t1019 x94_6).f0.f3), .int .i64 ((rd_T86 t1019 x94_6).f0.f4), .int .i64 ((rd_T86 t1019 x94_6).f1.f0), .int .i64 ((rd_T86 t1019 x94_6).f1.f1), .int .i64 0, .int .i64 0, .int .i64 0]) ?_ 7 _ rfl; (with_reducible repeat (first | refine blk_drewN ?_ _ | refine blk_drew ?_ | refine blk_alloc ?_ _)); refine blk_put (cs := #[.int .i64 ((rd_T86 t1019 x94_6).f0.f0), .int .i64 ((rd_T86 t1019 x94_6).f0.f1), .int .i64 ((rd_T86 t1019 x94_6).f0.f2), .int .i64 ((rd_T86 t1019 x94_6).f0.f3), .int .i64 ((rd_T86 t1019 x94_6).f0.f4), .int .i64 ((rd_T86 t1019 x94_6).f1.f0), .int .i64 0, .int .i64 0, .int .i64 0, .int .i64 0]) ?_ 6 _ rfl; (with_reducible repeat (first | refine blk_drewN ?_ _ | refine blk_drew ?_ | refine blk_alloc ?_ _)); refine blk_put (cs := #[.int .i64 ((rd_T86 t1019 x94_6).f0.f0), .int .i64 ((rd_T86 t1019 x94_6).f0.f1), .int .i64 ((rd_T86 t1019 x94_6).f0.f2), .int .i64 ((rd_T86 t1019 x94_6).f0.f3), .int .i64 ((rd_T86 t1019 x94_6).f0.f4), .int .i64 0, .int .i64 0, .int .i64 0, .int .i64 0, .int .i64 0]) ?_ 5 _ rfl; (with_reducible repeat (first | refine blk_drewN ?_ _ | refine blk_drew ?_ | refine blk_alloc ?_ _)); refine blk_put (cs := #[.int .i64 ((rd_T86 t1019 x94_6).f0.f0), .int .i64 ((rd_T86 t1019 x94_6).f0.f1), .int .i64 ((rd_T86 t1019 x94_6).f0.f2), .int .i64 ((rd_T86 t1019 x94_6).f0.f3), .int .i64 0, .int .i64 0, .int .i64 0, .int .i64 0, .int .i64 0, .int .i64 0]) ?_ 4 _ rfl; (with_reducible repeat (first | refine blk_drewN ?_ _ | refine blk_drew ?_ | refine blk_alloc ?_ _)); refine blk_put (cs := #[.int .i64 ((rd_T86 t1019 x94_6).f0.f0), .int .i64 ((rd_T86 t1019 x94_6).f0.f1), .int .i64 ((rd_T86 t1019 x94_6).f0.f2), .int .i64 0, .int .i64 0, .int .i64 0, .int .i64 0, .int .i64 0, .int .i64 0, .int .i64 0]) ?_ 3 _ rfl; (with_reducible repeat (first | refine blk_drewN ?_ _ | refine blk_drew ?_ | refine blk_alloc ?_ _)); refine blk_put (cs := #[.int .i64 ((rd_T86 t1019 x94_6).f0.f0), .int .i64 ((rd_T86 t1019 x94_6).f0.f1), .int .i64 0, .int .i64 0, .int .i64 0, .int .i64 0, .int .i64 0, .int .i64 0, .int .i64 0, .int .i64 0]) ?_ 2 _ rfl; (with_reducible repeat (first | refine blk_drewN ?_ _ | refine blk_drew ?_ | refine blk_alloc ?_ _)); refine blk_put (cs := #[.int .i64 ((rd_T86 t1019 x94_6).f0.f0), .int .i64 0, .int .i64 0, .int .i64 0, .int .i64 0, .int .i64 0, .int .i64 0, .int .i64 0, .int .i64 0, .int .i64 0]) ?_ 1 _ rfl; (with_reducible repeat (first | refine blk_drewN ?_ _ | refine blk_drew ?_ | refine blk_alloc ?_ _)); refine blk_put (cs := #[.int .i64 0, .int .i64 0, .int .i64 0, .int .i64 0, .int .i64 0, .int .i64 0, .int .i64 0, .int .i64 0, .int .i64 0, .int .i64 0]) ?_ 0 _ rfl; (with_reducible repeat (first | refine blk_drewN ?_ _ | refine blk_drew ?_ | refine blk_alloc ?_ _)); exact BK1024.out⟩, ⟨(qs HB)⟩⟩
                    rw [if_neg c51] at H
                    have c51b0 : (((rd_T86 t1019 x94_6).f1.f0) == (t1002.length : Int)) = false := beq_eq_false_iff_ne.mpr c51
                    have c51b1 : (((rd_T86 t1019 x94_6).f1.f0) != (t1002.length : Int)) = true := bne_iff_ne.mpr c51
                    have H' := Aside0.mk H
                    clear H
                    have hnb57 := NB1024_1009.out
                    have hnc57 := NB1009_1024.out
                    have hcz58_0 := b0 BK1024
                    have hcz58_1 := b1 BK1024
                    have hcz58_2 := b2 BK1024
                    have hcz58_3 := b3 BK1024
                    have hcz58_4 := b4 BK1024
                    have hcz58_5 := b5 BK1024
                    have hcz58_6 := b6 BK1024
                    have hcz58_7 := b7 BK1024
                    have hcz58_8 := b8 BK1024
                    have hcz58_9 := b9 BK1024
                    have hfz58_0 := blk_frozen BK1024.out 0
                    have hfz58_1 := blk_frozen BK1024.out 1
                    have hfz58_2 := blk_frozen BK1024.out 2
                    have hfz58_3 := blk_frozen BK1024.out 3
                    have hfz58_4 := blk_frozen BK1024.out 4
                    have hfz58_5 := blk_frozen BK1024.out 5
                    have hfz58_6 := blk_frozen BK1024.out 6
                    have hfz58_7 := blk_frozen BK1024.out 7
                    have hfz58_8 := blk_frozen BK1024.out 8
                    have hfz58_9 := blk_frozen BK1024.out 9
                    go_wp2
                    go_meet
                    case rel => exact ⟨_, (true), (by first | rfl | (simp; done) | (simp [*]; done)), H', ⟨by have := HJ2.out; have := HJ7.out; have := HJ13.out; have := HK4.out; have := HJ33.out; have := HK6.out; first | omega | exact Nat.le_refl _⟩, ⟨by (try simp only [hl10_4]); (with_reducible repeat (first | apply Kd.R_alloc | apply Kd.R_drewN | apply Kd.R_drew)); exact Kd.R_mono (Kd.R_far (p := ⟨gb1024, 9, none⟩) (Kd.R_far (p := ⟨gb1024, 8, none⟩) (Kd.R_far (p := ⟨gb1024, 7, none⟩) (Kd.R_far (p := ⟨gb1024, 6, none⟩) (Kd.R_far (p := ⟨gb1024, 5, none⟩) (Kd.R_far (p := ⟨gb1024, 4, none⟩) (Kd.R_far (p := ⟨gb1024, 3, none⟩) (Kd.R_far (p := ⟨gb1024, 2, none⟩) (Kd.R_far (p := ⟨gb1024, 1, none⟩) (Kd.R_far (p := ⟨gb1024, 0, none⟩) (Kd.R_types HO_6.out BK1024.out (by decide)) (fun _ hk => hk.2) (.int .i64 ((rd_T86 t1019 x94_6).f0.f0))) (fun _ hk => hk.2) (.int .i64 ((rd_T86 t1019 x94_6).f0.f1))) (fun _ hk => hk.2) (.int .i64 ((rd_T86 t1019 x94_6).f0.f2))) (fun _ hk => hk.2) (.int .i64 ((rd_T86 t1019 x94_6).f0.f3))) (fun _ hk => hk.2) (.int .i64 ((rd_T86 t1019 x94_6).f0.f4))) (fun _ hk => hk.2) (.int .i64 ((rd_T86 t1019 x94_6).f1.f0))) (fun _ hk => hk.2) (.int .i64 ((rd_T86 t1019 x94_6).f1.f1))) (fun _ hk => hk.2) (.int .i64 ((rd_T86 t1019 x94_6).f1.f2))) (fun _ hk => hk.2) (.int .i64 ((rd_T86 t1019 x94_6).f2))) (fun _ hk => hk.2) (.int .i64 ((rd_T86 t1019 x94_6).f3))) (fun _ hk => trivial)⟩, ⟨by (try simp only [hl10_4]); (with_reducible repeat (first | apply Kd.R_alloc | apply Kd.R_drewN | apply Kd.R_drew)); exact Kd.R_mono (Kd.R_far (p := ⟨gb1024, 9, none⟩) (Kd.R_far (p := ⟨gb1024, 8, none⟩) (Kd.R_far (p := ⟨gb1024, 7, none⟩) (Kd.R_far (p := ⟨gb1024, 6, none⟩) (Kd.R_far (p := ⟨gb1024, 5, none⟩) (Kd.R_far (p := ⟨gb1024, 4, none⟩) (Kd.R_far (p := ⟨gb1024, 3, none⟩) (Kd.R_far (p := ⟨gb1024, 2, none⟩) (Kd.R_far (p := ⟨gb1024, 1, none⟩) (Kd.R_far (p := ⟨gb1024, 0, none⟩) (Kd.R_mono HO_92.out (fun k_ hk => (⟨hk, hk.2⟩ : _ ∧ k_ ≠ gb1024))) (fun _ hk => hk.2) (.int .i64 ((rd_T86 t1019 x94_6).f0.f0))) (fun _ hk => hk.2) (.int .i64 ((rd_T86 t1019 x94_6).f0.f1))) (fun _ hk => hk.2) (.int .i64 ((rd_T86 t1019 x94_6).f0.f2))) (fun _ hk => hk.2) (.int .i64 ((rd_T86 t1019 x94_6).f0.f3))) (fun _ hk => hk.2) (.int .i64 ((rd_T86 t1019 x94_6).f0.f4))) (fun _ hk => hk.2) (.int .i64 ((rd_T86 t1019 x94_6).f1.f0))) (fun _ hk => hk.2) (.int .i64 ((rd_T86 t1019 x94_6).f1.f1))) (fun _ hk => hk.2) (.int .i64 ((rd_T86 t1019 x94_6).f1.f2))) (fun _ hk => hk.2) (.int .i64 ((rd_T86 t1019 x94_6).f2))) (fun _ hk => hk.2) (.int .i64 ((rd_T86 t1019 x94_6).f3))) (fun _ hk => hk.1.2)⟩, ⟨by (try simp only [hl10_4]); exact qB BK1009⟩, ⟨by (try simp only [hl10_4]); (with_reducible repeat (first | refine blk_drewN ?_ _ | refine blk_drew ?_ | refine blk_alloc ?_ _)); refine blk_put (cs := #[.int .i64 ((rd_T86 t1019 x94_6).f0.f0), .int .i64 ((rd_T86 t1019 x94_6).f0.f1), .int .i64 ((rd_T86 t1019 x94_6).f0.f2), .int .i64 ((rd_T86 t1019 x94_6).f0.f3), .int .i64 ((rd_T86 t1019 x94_6).f0.f4), .int .i64 ((rd_T86 t1019 x94_6).f1.f0), .int .i64 ((rd_T86 t1019 x94_6).f1.f1), .int .i64 ((rd_T86 t1019 x94_6).f1.f2), .int .i64 ((rd_T86 t1019 x94_6).f2), .int .i64 0]) ?_ 9 _ rfl; (with_reducible repeat (first | refine blk_drewN ?_ _ | refine blk_drew ?_ | refine blk_alloc ?_ _)); refine blk_put (cs := #[.int .i64 ((rd_T86 t1019 x94_6).f0.f0), .int .i64 ((rd_T86 t1019 x94_6).f0.f1), .int .i64 ((rd_T86 t1019 x94_6).f0.f2), .int .i64 ((rd_T86 t1019 x94_6).f0.f3), .int .i64 ((rd_T86 t1019 x94_6).f0.f4), .int .i64 ((rd_T86 t1019 x94_6).f1.f0), .int .i64 ((rd_T86 t1019 x94_6).f1.f1), .int .i64 ((rd_T86 t1019 x94_6).f1.f2), .int .i64 0, .int .i64 0]) ?_ 8 _ rfl; (with_reducible repeat (first | refine blk_drewN ?_ _ | refine blk_drew ?_ | refine blk_alloc ?_ _)); refine blk_put (cs := #[.int .i64 ((rd_T86 t1019 x94_6).f0.f0), .int .i64 ((rd_T86 t1019 x94_6).f0.f1), .int .i64 ((rd_T86 t1019 x94_6).f0.f2), .int .i64 ((rd_T86 t1019 x94_6).f0.f3), .int .i64 ((rd_T86 t1019 x94_6).f0.f4), .int .i64 ((rd_T86 t1019 x94_6).f1.f0), .int .i64 ((rd_T86 t1019 x94_6).f1.f1), .int .i64 0, .int .i64 0, .int .i64 0]) ?_ 7 _ rfl; (with_reducible repeat (first | refine blk_drewN ?_ _ | refine blk_drew ?_ | refine blk_alloc ?_ _)); refine blk_put (cs := #[.int .i64 ((rd_T86 t1019 x94_6).f0.f0), .int .i64 ((rd_T86 t1019 x94_6).f0.f1), .int .i64 ((rd_T86 t1019 x94_6).f0.f2), .int .i64 ((rd_T86 t1019 x94_6).f0.f3), .int .i64 ((rd_T86 t1019 x94_6).f0.f4), .int .i64 ((rd_T86 t1019 x94_6).f1.f0), .int .i64 0, .int .i64 0, .int .i64 0, .int .i64 0]) ?_ 6 _ rfl; (with_reducible repeat (first | refine blk_drewN ?_ _ | refine blk_drew ?_ | refine blk_alloc ?_ _)); refine blk_put (cs := #[.int .i64 ((rd_T86 t1019 x94_6).f0.f0), .int .i64 ((rd_T86 t1019 x94_6).f0.f1), .int .i64 ((rd_T86 t1019 x94_6).f0.f2), .int .i64 ((rd_T86 t1019 x94_6).f0.f3), .int .i64 ((rd_T86 t1019 x94_6).f0.f4), .int .i64 0, .int .i64 0, .int .i64 0, .int .i64 0, .int .i64 0]) ?_ 5 _ rfl; (with_reducible repeat (first | refine blk_drewN ?_ _ | refine blk_drew ?_ | refine blk_alloc ?_ _)); refine blk_put (cs := #[.int .i64 ((rd_T86 t1019 x94_6).f0.f0), .int .i64 ((rd_T86 t1019 x94_6).f0.f1), .int .i64 ((rd_T86 t1019 x94_6).f0.f2), .int .i64 ((rd_T86 t1019 x94_6).f0.f3), .int .i64 0, .int .i64 0, .int .i64 0, .int .i64 0, .int .i64 0, .int .i64 0]) ?_ 4 _ rfl; (with_reducible repeat (first | refine blk_drewN ?_ _ | refine blk_drew ?_ | refine blk_alloc ?_ _)); refine blk_put (cs := #[.int .i64 ((rd_T86 t1019 x94_6).f0.f0), .int .i64 ((rd_T86 t1019 x94_6).f0.f1), .int .i64 ((rd_T86 t1019 x94_6).f0.f2), .int .i64 0, .int .i64 0, .int .i64 0, .int .i64 0, .int .i64 0, .int .i64 0, .int .i64 0]) ?_ 3 _ rfl; (with_reducible repeat (first | refine blk_drewN ?_ _ | refine blk_drew ?_ | refine blk_alloc ?_ _)); refine blk_put (cs := #[.int .i64 ((rd_T86 t1019 x94_6).f0.f0), .int .i64 ((rd_T86 t1019 x94_6).f0.f1), .int .i64 0, .int .i64 0, .int .i64 0, .int .i64 0, .int .i64 0, .int .i64 0, .int .i64 0, .int .i64 0]) ?_ 2 _ rfl; (with_reducible repeat (first | refine blk_drewN ?_ _ | refine blk_drew ?_ | refine blk_alloc ?_ _)); refine blk_put (cs := #[.int .i64 ((rd_T86 t1019 x94_6).f0.f0), .int .i64 0, .int .i64 0, .int .i64 0, .int .i64 0, .int .i64 0, .int .i64 0, .int .i64 0, .int .i64 0, .int .i64 0]) ?_ 1 _ rfl; (with_reducible repeat (first | refine blk_drewN ?_ _ | refine blk_drew ?_ | refine blk_alloc ?_ _)); refine blk_put (cs := #[.int .i64 0, .int .i64 0, .int .i64 0, .int .i64 0, .int .i64 0, .int .i64 0, .int .i64 0, .int .i64 0, .int .i64 0, .int .i64 0]) ?_ 0 _ rfl; (with_reducible repeat (first | refine blk_drewN ?_ _ | refine blk_drew ?_ | refine blk_alloc ?_ _)); exact BK1024.out⟩, ⟨(qs HB)⟩⟩
                   rw [if_neg c50] at H
                   have c50b0 : decide ((wrap64 (x13_33 + (wrap64 (1 + (Int.tmod t1010 6))))) ≤ (wrap64 (x94_6 + 1))) = false := decide_eq_false c50
                   clear c50
                   (first | rw [c50b0] | (simp only [i64_w, i32_w]; rw [c50b0]) | skip)
                   by_cases c59 : (wrap64 (x94_6 + 1)) ≥ (wrap64 (x13_33 + (wrap64 (2 * (wrap64 (1 + (Int.tmod t1010 6)))))))
                   ·rw [if_pos c59] at H
                    have c59b0 : decide ((wrap64 (x13_33 + (wrap64 (2 * (wrap64 (1 + (Int.tmod t1010 6))))))) ≤ (wrap64 (x94_6 + 1))) = true := decide_eq_true c59
                    clear c59
                    have H' := Aside0.mk H
                    clear H
                    have hnb60 := NB1024_1009.out
                    have hnc60 := NB1009_1024.out
                    have hcz61_0 := b0 BK1024
                    have hcz61_1 := b1 BK1024
                    have hcz61_2 := b2 BK1024
                    have hcz61_3 := b3 BK1024
                    have hcz61_4 := b4 BK1024
                    have hcz61_5 := b5 BK1024
                    have hcz61_6 := b6 BK1024
                    have hcz61_7 := b7 BK1024
                    have hcz61_8 := b8 BK1024
                    have hcz61_9 := b9 BK1024
                    have hfz61_0 := blk_frozen BK1024.out 0
                    have hfz61_1 := blk_frozen BK1024.out 1
                    have hfz61_2 := blk_frozen BK1024.out 2
                    have hfz61_3 := blk_frozen BK1024.out 3
                    have hfz61_4 := blk_frozen BK1024.out 4
                    have hfz61_5 := blk_frozen BK1024.out 5
                    have hfz61_6 := blk_frozen BK1024.out 6
                    have hfz61_7 := blk_frozen BK1024.out 7
                    have hfz61_8 := blk_frozen BK1024.out 8
                    have hfz61_9 := blk_frozen BK1024.out 9
                    go_wp2
                    go_meet
                    case rel => exact ⟨_, ((((rd_T86 t1019 x94_6).f0.f2) != (t1002.length : Int))), (by first | rfl | (simp; done) | (simp [*]; done)), H', ⟨by have := HJ2.out; have := HJ7.out; have := HJ13.out; have := HK4.out; have := HJ33.out; have := HK6.out; first | omega | exact Nat.le_refl _⟩, ⟨by (try simp only [hl10_4]); (with_reducible repeat (first | apply Kd.R_alloc | apply Kd.R_drewN | apply Kd.R_drew)); exact Kd.R_mono (Kd.R_far (p := ⟨gb1024, 9, none⟩) (Kd.R_far (p := ⟨gb1024, 8, none⟩) (Kd.R_far (p := ⟨gb1024, 7, none⟩) (Kd.R_far (p := ⟨gb1024, 6, none⟩) (Kd.R_far (p := ⟨gb1024, 5, none⟩) (Kd.R_far (p := ⟨gb1024, 4, none⟩) (Kd.R_far (p := ⟨gb1024, 3, none⟩) (Kd.R_far (p := ⟨gb1024, 2, none⟩) (Kd.R_far (p := ⟨gb1024, 1, none⟩) (Kd.R_far (p := ⟨gb1024, 0, none⟩) (Kd.R_types HO_6.out BK1024.out (by decide)) (fun _ hk => hk.2) (.int .i64 ((rd_T86 t1019 x94_6).f0.f0))) (fun _ hk => hk.2) (.int .i64 ((rd_T86 t1019 x94_6).f0.f1))) (fun _ hk => hk.2) (.int .i64 ((rd_T86 t1019 x94_6).f0.f2))) (fun _ hk => hk.2) (.int .i64 ((rd_T86 t1019 x94_6).f0.f3))) (fun _ hk => hk.2) (.int .i64 ((rd_T86 t1019 x94_6).f0.f4))) (fun _ hk => hk.2) (.int .i64 ((rd_T86 t1019 x94_6).f1.f0))) (fun _ hk => hk.2) (.int .i64 ((rd_T86 t1019 x94_6).f1.f1))) (fun _ hk => hk.2) (.int .i64 ((rd_T86 t1019 x94_6).f1.f2))) (fun _ hk => hk.2) (.int .i64 ((rd_T86 t1019 x94_6).f2))) (fun _ hk => hk.2) (.int .i64 ((rd_T86 t1019 x94_6).f3))) (fun _ hk => trivial)⟩, ⟨by (try simp only [hl10_4]); (with_reducible repeat (first | apply Kd.R_alloc | apply Kd.R_drewN | apply Kd.R_drew)); exact Kd.R_mono (Kd.R_far (p := ⟨gb1024, 9, none⟩) (Kd.R_far (p := ⟨gb1024, 8, none⟩) (Kd.R_far (p := ⟨gb1024, 7, none⟩) (Kd.R_far (p := ⟨gb1024, 6, none⟩) (Kd.R_far (p := ⟨gb1024, 5, none⟩) (Kd.R_far (p := ⟨gb1024, 4, none⟩) (Kd.R_far (p := ⟨gb1024, 3, none⟩) (Kd.R_far (p := ⟨gb1024, 2, none⟩) (Kd.R_far (p := ⟨gb1024, 1, none⟩) (Kd.R_far (p := ⟨gb1024, 0, none⟩) (Kd.R_mono HO_92.out (fun k_ hk => (⟨hk, hk.2⟩ : _ ∧ k_ ≠ gb1024))) (fun _ hk => hk.2) (.int .i64 ((rd_T86 t1019 x94_6).f0.f0))) (fun _ hk => hk.2) (.int .i64 ((rd_T86 t1019 x94_6).f0.f1))) (fun _ hk => hk.2) (.int .i64 ((rd_T86 t1019 x94_6).f0.f2))) (fun _ hk => hk.2) (.int .i64 ((rd_T86 t1019 x94_6).f0.f3))) (fun _ hk => hk.2) (.int .i64 ((rd_T86 t1019 x94_6).f0.f4))) (fun _ hk => hk.2) (.int .i64 ((rd_T86 t1019 x94_6).f1.f0))) (fun _ hk => hk.2) (.int .i64 ((rd_T86 t1019 x94_6).f1.f1))) (fun _ hk => hk.2) (.int .i64 ((rd_T86 t1019 x94_6).f1.f2))) (fun _ hk => hk.2) (.int .i64 ((rd_T86 t1019 x94_6).f2))) (fun _ hk => hk.2) (.int .i64 ((rd_T86 t1019 x94_6).f3))) (fun _ hk => hk.1.2)⟩, ⟨by (try simp only [hl10_4]); exact qB BK1009⟩, ⟨by (try simp only [hl10_4]); (with_reducible repeat (first | refine blk_drewN ?_ _ | refine blk_drew ?_ | refine blk_alloc ?_ _)); refine blk_put (cs := #[.int .i64 ((rd_T86 t1019 x94_6).f0.f0), .int .i64 ((rd_T86 t1019 x94_6).f0.f1), .int .i64 ((rd_T86 t1019 x94_6).f0.f2), .int .i64 ((rd_T86 t1019 x94_6).f0.f3), .int .i64 ((rd_T86 t1019 x94_6).f0.f4), .int .i64 ((rd_T86 t1019 x94_6).f1.f0), .int .i64 ((rd_T86 t1019 x94_6).f1.f1), .int .i64 ((rd_T86 t1019 x94_6).f1.f2), .int .i64 ((rd_T86 t1019 x94_6).f2), .int .i64 0]) ?_ 9 _ rfl; (with_reducible repeat (first | refine blk_drewN ?_ _ | refine blk_drew ?_ | refine blk_alloc ?_ _)); refine blk_put (cs := #[.int .i64 ((rd_T86 t1019 x94_6).f0.f0), .int .i64 ((rd_T86 t1019 x94_6).f0.f1), .int .i64 ((rd_T86 t1019 x94_6).f0.f2), .int .i64 ((rd_T86 t1019 x94_6).f0.f3), .int .i64 ((rd_T86 t1019 x94_6).f0.f4), .int .i64 ((rd_T86 t1019 x94_6).f1.f0), .int .i64 ((rd_T86 t1019 x94_6).f1.f1), .int .i64 ((rd_T86 t1019 x94_6).f1.f2), .int .i64 0, .int .i64 0]) ?_ 8 _ rfl; (with_reducible repeat (first | refine blk_drewN ?_ _ | refine blk_drew ?_ | refine blk_alloc ?_ _)); refine blk_put (cs := #[.int .i64 ((rd_T86 t1019 x94_6).f0.f0), .int .i64 ((rd_T86 t1019 x94_6).f0.f1), .int .i64 ((rd_T86 t1019 x94_6).f0.f2), .int .i64 ((rd_T86 t1019 x94_6).f0.f3), .int .i64 ((rd_T86 t1019 x94_6).f0.f4), .int .i64 ((rd_T86 t1019 x94_6).f1.f0), .int .i64 ((rd_T86 t1019 x94_6).f1.f1), .int .i64 0, .int .i64 0, .int .i64 0]) ?_ 7 _ rfl; (with_reducible repeat (first | refine blk_drewN ?_ _ | refine blk_drew ?_ | refine blk_alloc ?_ _)); refine blk_put (cs := #[.int .i64 ((rd_T86 t1019 x94_6).f0.f0), .int .i64 ((rd_T86 t1019 x94_6).f0.f1), .int .i64 ((rd_T86 t1019 x94_6).f0.f2), .int .i64 ((rd_T86 t1019 x94_6).f0.f3), .int .i64 ((rd_T86 t1019 x94_6).f0.f4), .int .i64 ((rd_T86 t1019 x94_6).f1.f0), .int .i64 0, .int .i64 0, .int .i64 0, .int .i64 0]) ?_ 6 _ rfl; (with_reducible repeat (first | refine blk_drewN ?_ _ | refine blk_drew ?_ | refine blk_alloc ?_ _)); refine blk_put (cs := #[.int .i64 ((rd_T86 t1019 x94_6).f0.f0), .int .i64 ((rd_T86 t1019 x94_6).f0.f1), .int .i64 ((rd_T86 t1019 x94_6).f0.f2), .int .i64 ((rd_T86 t1019 x94_6).f0.f3), .int .i64 ((rd_T86 t1019 x94_6).f0.f4), .int .i64 0, .int .i64 0, .int .i64 0, .int .i64 0, .int .i64 0]) ?_ 5 _ rfl; (with_reducible repeat (first | refine blk_drewN ?_ _ | refine blk_drew ?_ | refine blk_alloc ?_ _)); refine blk_put (cs := #[.int .i64 ((rd_T86 t1019 x94_6).f0.f0), .int .i64 ((rd_T86 t1019 x94_6).f0.f1), .int .i64 ((rd_T86 t1019 x94_6).f0.f2), .int .i64 ((rd_T86 t1019 x94_6).f0.f3), .int .i64 0, .int .i64 0, .int .i64 0, .int .i64 0, .int .i64 0, .int .i64 0]) ?_ 4 _ rfl; (with_reducible repeat (first | refine blk_drewN ?_ _ | refine blk_drew ?_ | refine blk_alloc ?_ _)); refine blk_put (cs := #[.int .i64 ((rd_T86 t1019 x94_6).f0.f0), .int .i64 ((rd_T86 t1019 x94_6).f0.f1), .int .i64 ((rd_T86 t1019 x94_6).f0.f2), .int .i64 0, .int .i64 0, .int .i64 0, .int .i64 0, .int .i64 0, .int .i64 0, .int .i64 0]) ?_ 3 _ rfl; (with_reducible repeat (first | refine blk_drewN ?_ _ | refine blk_drew ?_ | refine blk_alloc ?_ _)); refine blk_put (cs := #[.int .i64 ((rd_T86 t1019 x94_6).f0.f0), .int .i64 ((rd_T86 t1019 x94_6).f0.f1), .int .i64 0, .int .i64 0, .int .i64 0, .int .i64 0, .int .i64 0, .int .i64 0, .int .i64 0, .int .i64 0]) ?_ 2 _ rfl; (with_reducible repeat (first | refine blk_drewN ?_ _ | refine blk_drew ?_ | refine blk_alloc ?_ _)); refine blk_put (cs := #[.int .i64 ((rd_T86 t1019 x94_6).f0.f0), .int .i64 0, .int .i64 0, .int .i64 0, .int .i64 0, .int .i64 0, .int .i64 0, .int .i64 0, .int .i64 0, .int .i64 0]) ?_ 1 _ rfl; (with_reducible repeat (first | refine blk_drewN ?_ _ | refine blk_drew ?_ | refine blk_alloc ?_ _)); refine blk_put (cs := #[.int .i64 0, .int .i64 0, .int .i64 0, .int .i64 0, .int .i64 0, .int .i64 0, .int .i64 0, .int .i64 0, .int .i64 0, .int .i64 0]) ?_ 0 _ rfl; (with_reducible repeat (first | refine blk_drewN ?_ _ | refine blk_drew ?_ | refine blk_alloc ?_ _)); exact BK1024.out⟩, ⟨(qs HB)⟩⟩
                   rw [if_neg c59] at H
                   have c59b0 : decide ((wrap64 (x13_33 + (wrap64 (2 * (wrap64 (1 + (Int.tmod t1010 6))))))) ≤ (wrap64 (x94_6 + 1))) = false := decide_eq_false c59
                   clear c59
                   have H' := Aside0.mk H
                   clear H
                   go_wp2
                   go_meet
                   case rel => exact ⟨_, (false), (by first | rfl | (simp; done) | (simp [*]; done)), H', ⟨by have := HJ2.out; have := HJ7.out; have := HJ13.out; have := HK4.out; have := HJ33.out; have := HK6.out; first | omega | exact Nat.le_refl _⟩, ⟨by (try simp only [hl10_4]); (with_reducible repeat (first | apply Kd.R_alloc | apply Kd.R_drewN | apply Kd.R_drew)); exact Kd.R_mono (Kd.R_far (p := ⟨gb1024, 9, none⟩) (Kd.R_far (p := ⟨gb1024, 8, none⟩) (Kd.R_far (p := ⟨gb1024, 7, none⟩) (Kd.R_far (p := ⟨gb1024, 6, none⟩) (Kd.R_far (p := ⟨gb1024, 5, none⟩) (Kd.R_far (p := ⟨gb1024, 4, none⟩) (Kd.R_far (p := ⟨gb1024, 3, none⟩) (Kd.R_far (p := ⟨gb1024, 2, none⟩) (Kd.R_far (p := ⟨gb1024, 1, none⟩) (Kd.R_far (p := ⟨gb1024, 0, none⟩) (Kd.R_types HO_6.out BK1024.out (by decide)) (fun _ hk => hk.2) (.int .i64 ((rd_T86 t1019 x94_6).f0.f0))) (fun _ hk => hk.2) (.int .i64 ((rd_T86 t1019 x94_6).f0.f1))) (fun _ hk => hk.2) (.int .i64 ((rd_T86 t1019 x94_6).f0.f2))) (fun _ hk => hk.2) (.int .i64 ((rd_T86 t1019 x94_6).f0.f3))) (fun _ hk => hk.2) (.int .i64 ((rd_T86 t1019 x94_6).f0.f4))) (fun _ hk => hk.2) (.int .i64 ((rd_T86 t1019 x94_6).f1.f0))) (fun _ hk => hk.2) (.int .i64 ((rd_T86 t1019 x94_6).f1.f1))) (fun _ hk => hk.2) (.int .i64 ((rd_T86 t1019 x94_6).f1.f2))) (fun _ hk => hk.2) (.int .i64 ((rd_T86 t1019 x94_6).f2))) (fun _ hk => hk.2) (.int .i64 ((rd_T86 t1019 x94_6).f3))) (fun _ hk => trivial)⟩, ⟨by (try simp only [hl10_4]); (with_reducible repeat (first | apply Kd.R_alloc | apply Kd.R_drewN | apply Kd.R_drew)); exact Kd.R_mono (Kd.R_far (p := ⟨gb1024, 9, none⟩) (Kd.R_far (p := ⟨gb1024, 8, none⟩) (Kd.R_far (p := ⟨gb1024, 7, none⟩) (Kd.R_far (p := ⟨gb1024, 6, none⟩) (Kd.R_far (p := ⟨gb1024, 5, none⟩) (Kd.R_far (p := ⟨gb1024, 4, none⟩) (Kd.R_far (p := ⟨gb1024, 3, none⟩) (Kd.R_far (p := ⟨gb1024, 2, none⟩) (Kd.R_far (p := ⟨gb1024, 1, none⟩) (Kd.R_far (p := ⟨gb1024, 0, none⟩) (Kd.R_mono HO_92.out (fun k_ hk => (⟨hk, hk.2⟩ : _ ∧ k_ ≠ gb1024))) (fun _ hk => hk.2) (.int .i64 ((rd_T86 t1019 x94_6).f0.f0))) (fun _ hk => hk.2) (.int .i64 ((rd_T86 t1019 x94_6).f0.f1))) (fun _ hk => hk.2) (.int .i64 ((rd_T86 t1019 x94_6).f0.f2))) (fun _ hk => hk.2) (.int .i64 ((rd_T86 t1019 x94_6).f0.f3))) (fun _ hk => hk.2) (.int .i64 ((rd_T86 t1019 x94_6).f0.f4))) (fun _ hk => hk.2) (.int .i64 ((rd_T86 t1019 x94_6).f1.f0))) (fun _ hk => hk.2) (.int .i64 ((rd_T86 t1019 x94_6).f1.f1))) (fun _ hk => hk.2) (.int .i64 ((rd_T86 t1019 x94_6).f1.f2))) (fun _ hk => hk.2) (.int .i64 ((rd_T86 t1019 x94_6).f2))) (fun _ hk => hk.2) (.int .i64 ((rd_T86 t1019 x94_6).f3))) (fun _ hk => hk.1.2)⟩, ⟨by (try simp only [hl10_4]); exact qB BK1009⟩, ⟨by (try simp only [hl10_4]); (with_reducible repeat (first | refine blk_drewN ?_ _ | refine blk_drew ?_ | refine blk_alloc ?_ _)); refine blk_put (cs := #[.int .i64 ((rd_T86 t1019 x94_6).f0.f0), .int .i64 ((rd_T86 t1019 x94_6).f0.f1), .int .i64 ((rd_T86 t1019 x94_6).f0.f2), .int .i64 ((rd_T86 t1019 x94_6).f0.f3), .int .i64 ((rd_T86 t1019 x94_6).f0.f4), .int .i64 ((rd_T86 t1019 x94_6).f1.f0), .int .i64 ((rd_T86 t1019 x94_6).f1.f1), .int .i64 ((rd_T86 t1019 x94_6).f1.f2), .int .i64 ((rd_T86 t1019 x94_6).f2), .int .i64 0]) ?_ 9 _ rfl; (with_reducible repeat (first | refine blk_drewN ?_ _ | refine blk_drew ?_ | refine blk_alloc ?_ _)); refine blk_put (cs := #[.int .i64 ((rd_T86 t1019 x94_6).f0.f0), .int .i64 ((rd_T86 t1019 x94_6).f0.f1), .int .i64 ((rd_T86 t1019 x94_6).f0.f2), .int .i64 ((rd_T86 t1019 x94_6).f0.f3), .int .i64 ((rd_T86 t1019 x94_6).f0.f4), .int .i64 ((rd_T86 t1019 x94_6).f1.f0), .int .i64 ((rd_T86 t1019 x94_6).f1.f1), .int .i64 ((rd_T86 t1019 x94_6).f1.f2), .int .i64 0, .int .i64 0]) ?_ 8 _ rfl; (with_reducible repeat (first | refine blk_drewN ?_ _ | refine blk_drew ?_ | refine blk_alloc ?_ _)); refine blk_put (cs := #[.int .i64 ((rd_T86 t1019 x94_6).f0.f0), .int .i64 ((rd_T86 t1019 x94_6).f0.f1), .int .i64 ((rd_T86 t1019 x94_6).f0.f2), .int .i64 ((rd_T86 t1019 x94_6).f0.f3), .int .i64 ((rd_T86 t1019 x94_6).f0.f4), .int .i64 ((rd_T86 t1019 x94_6).f1.f0), .int .i64 ((rd_T86 t1019 x94_6).f1.f1), .int .i64 0, .int .i64 0, .int .i64 0]) ?_ 7 _ rfl; (with_reducible repeat (first | refine blk_drewN ?_ _ | refine blk_drew ?_ | refine blk_alloc ?_ _)); refine blk_put (cs := #[.int .i64 ((rd_T86 t1019 x94_6).f0.f0), .int .i64 ((rd_T86 t1019 x94_6).f0.f1), .int .i64 ((rd_T86 t1019 x94_6).f0.f2), .int .i64 ((rd_T86 t1019 x94_6).f0.f3), .int .i64 ((rd_T86 t1019 x94_6).f0.f4), .int .i64 ((rd_T86 t1019 x94_6).f1.f0), .int .i64 0, .int .i64 0, .int .i64 0, .int .i64 0]) ?_ 6 _ rfl; (with_reducible repeat (first | refine blk_drewN ?_ _ | refine blk_drew ?_ | refine blk_alloc ?_ _)); refine blk_put (cs := #[.int .i64 ((rd_T86 t1019 x94_6).f0.f0), .int .i64 ((rd_T86 t1019 x94_6).f0.f1), .int .i64 ((rd_T86 t1019 x94_6).f0.f2), .int .i64 ((rd_T86 t1019 x94_6).f0.f3), .int .i64 ((rd_T86 t1019 x94_6).f0.f4), .int .i64 0, .int .i64 0, .int .i64 0, .int .i64 0, .int .i64 0]) ?_ 5 _ rfl; (with_reducible repeat (first | refine blk_drewN ?_ _ | refine blk_drew ?_ | refine blk_alloc ?_ _)); refine blk_put (cs := #[.int .i64 ((rd_T86 t1019 x94_6).f0.f0), .int .i64 ((rd_T86 t1019 x94_6).f0.f1), .int .i64 ((rd_T86 t1019 x94_6).f0.f2), .int .i64 ((rd_T86 t1019 x94_6).f0.f3), .int .i64 0, .int .i64 0, .int .i64 0, .int .i64 0, .int .i64 0, .int .i64 0]) ?_ 4 _ rfl; (with_reducible repeat (first | refine blk_drewN ?_ _ | refine blk_drew ?_ | refine blk_alloc ?_ _)); refine blk_put (cs := #[.int .i64 ((rd_T86 t1019 x94_6).f0.f0), .int .i64 ((rd_T86 t1019 x94_6).f0.f1), .int .i64 ((rd_T86 t1019 x94_6).f0.f2), .int .i64 0, .int .i64 0, .int .i64 0, .int .i64 0, .int .i64 0, .int .i64 0, .int .i64 0]) ?_ 3 _ rfl; (with_reducible repeat (first | refine blk_drewN ?_ _ | refine blk_drew ?_ | refine blk_alloc ?_ _)); refine blk_put (cs := #[.int .i64 ((rd_T86 t1019 x94_6).f0.f0), .int .i64 ((rd_T86 t1019 x94_6).f0.f1), .int .i64 0, .int .i64 0, .int .i64 0, .int .i64 0, .int .i64 0, .int .i64 0, .int .i64 0, .int .i64 0]) ?_ 2 _ rfl; (with_reducible repeat (first | refine blk_drewN ?_ _ | refine blk_drew ?_ | refine blk_alloc ?_ _)); refine blk_put (cs := #[.int .i64 ((rd_T86 t1019 x94_6).f0.f0), .int .i64 0, .int .i64 0, .int .i64 0, .int .i64 0, .int .i64 0, .int .i64 0, .int .i64 0, .int .i64 0, .int .i64 0]) ?_ 1 _ rfl; (with_reducible repeat (first | refine blk_drewN ?_ _ | refine blk_drew ?_ | refine blk_alloc ?_ _)); refine blk_put (cs := #[.int .i64 0, .int .i64 0, .int .i64 0, .int .i64 0, .int .i64 0, .int .i64 0, .int .i64 0, .int .i64 0, .int .i64 0, .int .i64 0]) ?_ 0 _ rfl; (with_reducible repeat (first | refine blk_drewN ?_ _ | refine blk_drew ?_ | refine blk_alloc ?_ _)); exact BK1024.out⟩, ⟨(qs HB)⟩⟩
                  case rest =>
                   clear HC46
                   try clear c1; try clear p1; try clear q1; try clear hx1; try clear c2; try clear p2; try clear q2; try clear hx2; try clear hf2; try clear c3; try clear hx3; try clear hf3; try clear c4; try clear c4b0; try clear c4b1; try clear c5; try clear c6; try clear p6; try clear c7; try clear p10; try clear q10; try clear hx10; try clear c12; try clear c12b0; try clear c16; try clear c16b0; try clear c18; try clear c18b0; try clear c18b1; try clear c22; try clear c22b0; try clear c24; try clear c24b0; try clear c24b1; try clear c25; try clear c25b0; try clear c26; try clear c26b0; try clear c27; try clear p27; try clear q27; try clear hx27; try clear hf27; try clear c30; try clear hx30; try clear hf30; try clear c33; try clear c33b0; try clear c33b1; try clear c38; try clear c39; try clear c39b0; try clear c39b1; try clear c41; try clear c41b0; try clear c42; try clear c42b0; try clear c43; try clear c43b0; try clear c44; try clear c44b0; try clear c45; try clear c45b0; try clear c47; try clear c48; try clear c50; try clear c50b0; try clear c51; try clear c51b0; try clear c51b1; try clear c52; try clear c52b0; try clear c53; try clear c55; try clear c57; try clear c59; try clear c59b0; try clear c60; try clear hcz11_0; try clear hcz11_1; try clear hcz11_2; try clear hcz13_0; try clear hcz13_1; try clear hcz13_2; try clear hcz15_0; try clear hcz15_1; try clear hcz15_2; try clear hcz17_0; try clear hcz17_1; try clear hcz17_2; try clear hcz35_0; try clear hcz35_1; try clear hcz35_2; try clear hcz49_0; try clear hcz49_1; try clear hcz49_2; try clear hcz49_3; try clear hcz49_4; try clear hcz49_5; try clear hcz49_6; try clear hcz49_7; try clear hcz49_8; try clear hcz49_9; try clear hcz54_0; try clear hcz54_1; try clear hcz54_2; try clear hcz54_3; try clear hcz54_4; try clear hcz54_5; try clear hcz54_6; try clear hcz54_7; try clear hcz54_8; try clear hcz54_9; try clear hcz56_0; try clear hcz56_1; try clear hcz56_2; try clear hcz56_3; try clear hcz56_4; try clear hcz56_5; try clear hcz56_6; try clear hcz56_7; try clear hcz56_8; try clear hcz56_9; try clear hcz58_0; try clear hcz58_1; try clear hcz58_2; try clear hcz58_3; try clear hcz58_4; try clear hcz58_5; try clear hcz58_6; try clear hcz58_7; try clear hcz58_8; try clear hcz58_9; try clear hcz61_0; try clear hcz61_1; try clear hcz61_2; try clear hcz61_3; try clear hcz61_4; try clear hcz61_5; try clear hcz61_6; try clear hcz61_7; try clear hcz61_8; try clear hcz61_9; try clear hfz11_0; try clear hfz11_1; try clear hfz11_2; try clear hfz13_0; try clear hfz13_1; try clear hfz13_2; try clear hfz15_0; try clear hfz15_1; try clear hfz15_2; try clear hfz17_0; try clear hfz17_1; try clear hfz17_2; try clear hfz35_0; try clear hfz35_1; try clear hfz35_2; try clear hfz49_0; try clear hfz49_1; try clear hfz49_2; try clear hfz49_3; try clear hfz49_4; try clear hfz49_5; try clear hfz49_6; try clear hfz49_7; try clear hfz49_8; try clear hfz49_9; try clear hfz54_0; try clear hfz54_1; try clear hfz54_2; try clear hfz54_3; try clear hfz54_4; try clear hfz54_5; try clear hfz54_6; try clear hfz54_7; try clear hfz54_8; try clear hfz54_9; try clear hfz56_0; try clear hfz56_1; try clear hfz56_2; try clear hfz56_3; try clear hfz56_4; try clear hfz56_5; try clear hfz56_6; try clear hfz56_7; try clear hfz56_8; try clear hfz56_9; try clear hfz58_0; try clear hfz58_1; try clear hfz58_2; try clear hfz58_3; try clear hfz58_4; try clear hfz58_5; try clear hfz58_6; try clear hfz58_7; try clear hfz58_8; try clear hfz58_9; try clear hfz61_0; try clear hfz61_1; try clear hfz61_2; try clear hfz61_3; try clear hfz61_4; try clear hfz61_5; try clear hfz61_6; try clear hfz61_7; try clear hfz61_8; try clear hfz61_9; try clear hx1022_0; try clear hx1022_1; try clear hx1023_0; try clear hx1023_1; try clear hx1023_2; try clear hx1023_3; try clear hx1023_4; try clear hx1023_5; try clear hx1023_6; try clear hx1023_7; try clear hx1023_8; try clear hx1023_9; try clear hx27_0; try clear hx30_0; try clear p1; try clear p10; try clear p1022; try clear p1023; try clear p2; try clear p27; try clear p6; try clear q1; try clear q10; try clear q1022; try clear q1023; try clear q2; try clear q27
                   obtain ⟨kq, x129_45, rfl, HA, HJ45, HO_6, HO_92, BK1009, BK1024, HB⟩ := hcut
                   cases kq with
                   | zero => exact absurd HA.out (by simp [laws_FnComes.j6])
                   | succ kj45 =>
                    have H := HA.out
                    clear HA
                    simp only [laws_FnComes.j6] at H
                    by_cases c62 : x129_45 = true
                    ·subst c62
                     have H1 : (some false) = some true := by rw [if_pos rfl] at H; exact H
                     clear H; have H := H1; clear H1
                     exact absurd H (by simp)
                    replace c62 := Bool.eq_false_iff.mpr c62
                    subst c62
                    have H1 : (if (wrap64 (x94_6 + 1)) > (wrap64 (t999 + (wrap64 (2 * (wrap64 (1 + (Int.tmod t1010 6))))))) then ((impl_TrainSilent.f t999 x1010001_13 x1010002_7 (wrap64 (x94_6 + 1)) ((rd_T86 t1019 x94_6).f1.f0) ((rd_T86 t1019 x94_6).f1.f1) ((rd_T86 t1019 x94_6).f1.f2)).bind fun t1025 => (if t1025 = true then (some false) else ((impl_BoxSilent.f t999 x1010001_13 x1010002_7 (wrap64 (x94_6 + 1)) ((rd_T86 t1019 x94_6).f0.f0) ((rd_T86 t1019 x94_6).f0.f1) ((rd_T86 t1019 x94_6).f0.f2) ((rd_T86 t1019 x94_6).f0.f3) ((rd_T86 t1019 x94_6).f0.f4)).bind fun t1026 => (if t1026 = true then (some false) else (laws_FnComes.l1 kj45 t1002 (wrap64 (1 + (Int.tmod t1010 6))) x13_33 t1019 (t1019.length : Int) (wrap64 (x94_6 + 1)) t999 x1010001_13 x1010002_7))))) else (laws_FnComes.l1 kj45 t1002 (wrap64 (1 + (Int.tmod t1010 6))) x13_33 t1019 (t1019.length : Int) (wrap64 (x94_6 + 1)) t999 x1010001_13 x1010002_7)) = some true := by rw [if_neg (show ¬ (false = true) by decide)] at H; exact H
                    clear H; have H := H1; clear H1
                    by_cases c63 : (wrap64 (x94_6 + 1)) > (wrap64 (t999 + (wrap64 (2 * (wrap64 (1 + (Int.tmod t1010 6)))))))
                    ·rw [if_pos c63] at H
                     have c63b0 : decide ((wrap64 (t999 + (wrap64 (2 * (wrap64 (1 + (Int.tmod t1010 6))))))) < (wrap64 (x94_6 + 1))) = true := decide_eq_true c63
                     clear c63
                     replace H := Option.bind_eq_some_iff.mp H
                     obtain ⟨t1025, A640, H⟩ := H
                     replace H : (if t1025 = true then (some false) else ((impl_BoxSilent.f t999 x1010001_13 x1010002_7 (wrap64 (x94_6 + 1)) ((rd_T86 t1019 x94_6).f0.f0) ((rd_T86 t1019 x94_6).f0.f1) ((rd_T86 t1019 x94_6).f0.f2) ((rd_T86 t1019 x94_6).f0.f3) ((rd_T86 t1019 x94_6).f0.f4)).bind fun t1026 => (if t1026 = true then (some false) else (laws_FnComes.l1 kj45 t1002 (wrap64 (1 + (Int.tmod t1010 6))) x13_33 t1019 (t1019.length : Int) (wrap64 (x94_6 + 1)) t999 x1010001_13 x1010002_7)))) = some true := H
                     have A64 := Aside0.mk A640
                     clear A640
                     by_cases c65 : t1025 = true
                     ·subst c65
                      have H1 : (some false) = some true := by rw [if_pos rfl] at H; exact H
                      clear H; have H := H1; clear H1
                      exact absurd H (by simp)
                     replace c65 := Bool.eq_false_iff.mpr c65
                     subst c65
                     have H1 : ((impl_BoxSilent.f t999 x1010001_13 x1010002_7 (wrap64 (x94_6 + 1)) ((rd_T86 t1019 x94_6).f0.f0) ((rd_T86 t1019 x94_6).f0.f1) ((rd_T86 t1019 x94_6).f0.f2) ((rd_T86 t1019 x94_6).f0.f3) ((rd_T86 t1019 x94_6).f0.f4)).bind fun t1026 => (if t1026 = true then (some false) else (laws_FnComes.l1 kj45 t1002 (wrap64 (1 + (Int.tmod t1010 6))) x13_33 t1019 (t1019.length : Int) (wrap64 (x94_6 + 1)) t999 x1010001_13 x1010002_7))) = some true := by rw [if_neg (show ¬ (false = true) by decide)] at H; exact H
                     clear H; have H := H1; clear H1
                     replace H := Option.bind_eq_some_iff.mp H
                     obtain ⟨t1026, A660, H⟩ := H
                     replace H : (if t1026 = true then (some false) else (laws_FnComes.l1 kj45 t1002 (wrap64 (1 + (Int.tmod t1010 6))) x13_33 t1019 (t1019.length : Int) (wrap64 (x94_6 + 1)) t999 x1010001_13 x1010002_7)) = some true := H
                     have A66 := Aside0.mk A660
                     clear A660
                     by_cases c67 : t1026 = true
                     ·subst c67
                      have H1 : (some false) = some true := by rw [if_pos rfl] at H; exact H
                      clear H; have H := H1; clear H1
                      exact absurd H (by simp)
                     replace c67 := Bool.eq_false_iff.mpr c67
                     subst c67
                     have H1 : (laws_FnComes.l1 kj45 t1002 (wrap64 (1 + (Int.tmod t1010 6))) x13_33 t1019 (t1019.length : Int) (wrap64 (x94_6 + 1)) t999 x1010001_13 x1010002_7) = some true := by rw [if_neg (show ¬ (false = true) by decide)] at H; exact H
                     clear H; have H := H1; clear H1
                     have H' := Aside0.mk H
                     clear H
                     have hnb68 := NB1009_1024.out
                     have hnc68 := NB1024_1009.out
                     have hcz69_0 := b0 BK1009
                     have hcz69_1 := b1 BK1009
                     have hcz69_2 := b2 BK1009
                     have hfz69_0 := blk_frozen BK1009.out 0
                     have hfz69_1 := blk_frozen BK1009.out 1
                     have hfz69_2 := blk_frozen BK1009.out 2
                     have hcz70_0 := b0 BK1024
                     have hcz70_1 := b1 BK1024
                     have hcz70_2 := b2 BK1024
                     have hcz70_3 := b3 BK1024
                     have hcz70_4 := b4 BK1024
                     have hcz70_5 := b5 BK1024
                     have hcz70_6 := b6 BK1024
                     have hcz70_7 := b7 BK1024
                     have hcz70_8 := b8 BK1024
                     have hcz70_9 := b9 BK1024
                     have hfz70_0 := blk_frozen BK1024.out 0
                     have hfz70_1 := blk_frozen BK1024.out 1
                     have hfz70_2 := blk_frozen BK1024.out 2
                     have hfz70_3 := blk_frozen BK1024.out 3
                     have hfz70_4 := blk_frozen BK1024.out 4
                     have hfz70_5 := blk_frozen BK1024.out 5
                     have hfz70_6 := blk_frozen BK1024.out 6
                     have hfz70_7 := blk_frozen BK1024.out 7
                     have hfz70_8 := blk_frozen BK1024.out 8
                     have hfz70_9 := blk_frozen BK1024.out 9
                     go_wp2_with (first | (go_at_call 48; (with_reducible refine (impl_TrainSilent.calls t999 x1010001_13 x1010002_7 (wrap64 (x94_6 + 1)) ((rd_T86 t1019 x94_6).f1.f0) ((rd_T86 t1019 x94_6).f1.f1) ((rd_T86 t1019 x94_6).f1.f2) false _ A64.out).mono ?_); rintro e w71 ⟨rfl, hb⟩; replace HO_6 := rbl HO_6 hb; replace HO_92 := rbl HO_92 hb; replace BK1009 := bkb BK1009 hb; replace BK1024 := bkb BK1024 hb; replace HB := bst HB hb; clear hb; have hcz72_0 := b0 BK1009; have hcz72_1 := b1 BK1009; have hcz72_2 := b2 BK1009; have hfz72_0 := blk_frozen BK1009.out 0; have hfz72_1 := blk_frozen BK1009.out 1; have hfz72_2 := blk_frozen BK1009.out 2; have hcz73_0 := b0 BK1024; have hcz73_1 := b1 BK1024; have hcz73_2 := b2 BK1024; have hcz73_3 := b3 BK1024; have hcz73_4 := b4 BK1024; have hcz73_5 := b5 BK1024; have hcz73_6 := b6 BK1024; have hcz73_7 := b7 BK1024; have hcz73_8 := b8 BK1024; have hcz73_9 := b9 BK1024; have hfz73_0 := blk_frozen BK1024.out 0; have hfz73_1 := blk_frozen BK1024.out 1; have hfz73_2 := blk_frozen BK1024.out 2; have hfz73_3 := blk_frozen BK1024.out 3; have hfz73_4 := blk_frozen BK1024.out 4; have hfz73_5 := blk_frozen BK1024.out 5; have hfz73_6 := blk_frozen BK1024.out 6; have hfz73_7 := blk_frozen BK1024.out 7; have hfz73_8 := blk_frozen BK1024.out 8; have hfz73_9 := blk_frozen BK1024.out 9) | (go_at_call 49; (with_reducible refine (impl_BoxSilent.calls t999 x1010001_13 x1010002_7 (wrap64 (x94_6 + 1)) ((rd_T86 t1019 x94_6).f0.f0) ((rd_T86 t1019 x94_6).f0.f1) ((rd_T86 t1019 x94_6).f0.f2) ((rd_T86 t1019 x94_6).f0.f3) ((rd_T86 t1019 x94_6).f0.f4) false _ A66.out).mono ?_); rintro e w74 ⟨rfl, hb⟩; replace HO_6 := rbl HO_6 hb; replace HO_92 := rbl HO_92 hb; replace BK1009 := bkb BK1009 hb; replace BK1024 := bkb BK1024 hb; replace HB := bst HB hb; clear hb))
                     go_roundg kj45
                     case measure => have := HJ2.out; have := HJ7.out; have := HJ13.out; have := HK4.out; have := HJ33.out; have := HK6.out; have := HJ45.out; omega
                     case rel => exact ⟨(wrap64 (x94_6 + 1)), (by first | rfl | (simp; done) | (simp [*]; done)), H', ⟨by have := HJ2.out; have := HJ7.out; have := HJ13.out; have := HK4.out; have := HJ33.out; have := HK6.out; have := HJ45.out; omega⟩, ⟨by (try simp only [hl10_4]); (with_reducible repeat (first | apply Kd.R_alloc | apply Kd.R_drewN | apply Kd.R_drew)); exact HO_6.out⟩, ⟨by (try simp only [hl10_4]); (with_reducible repeat (first | apply Kd.R_alloc | apply Kd.R_drewN | apply Kd.R_drew)); exact Kd.R_mono HO_92.out (fun _ hk => trivial)⟩, ⟨by (try simp only [hl10_4]); (with_reducible repeat (first | refine blk_drewN ?_ _ | refine blk_drew ?_ | refine blk_alloc ?_ _)); exact BK1009.out⟩, ⟨(qs HB)⟩⟩
                    rw [if_neg c63] at H
                    have c63b0 : decide ((wrap64 (t999 + (wrap64 (2 * (wrap64 (1 + (Int.tmod t1010 6))))))) < (wrap64 (x94_6 + 1))) = false := decide_eq_false c63
                    clear c63
                    have H' := Aside0.mk H
                    clear H
                    have hnb75 := NB1009_1024.out
                    have hnc75 := NB1024_1009.out
                    have hcz76_0 := b0 BK1009
                    have hcz76_1 := b1 BK1009
                    have hcz76_2 := b2 BK1009
                    have hfz76_0 := blk_frozen BK1009.out 0
                    have hfz76_1 := blk_frozen BK1009.out 1
                    have hfz76_2 := blk_frozen BK1009.out 2
                    go_wp2
                    go_roundg kj45
                    case measure => have := HJ2.out; have := HJ7.out; have := HJ13.out; have := HK4.out; have := HJ33.out; have := HK6.out; have := HJ45.out; omega
                    case rel => exact ⟨(wrap64 (x94_6 + 1)), (by first | rfl | (simp; done) | (simp [*]; done)), H', ⟨by have := HJ2.out; have := HJ7.out; have := HJ13.out; have := HK4.out; have := HJ33.out; have := HK6.out; have := HJ45.out; omega⟩, ⟨by (try simp only [hl10_4]); (with_reducible repeat (first | apply Kd.R_alloc | apply Kd.R_drewN | apply Kd.R_drew)); exact HO_6.out⟩, ⟨by (try simp only [hl10_4]); (with_reducible repeat (first | apply Kd.R_alloc | apply Kd.R_drewN | apply Kd.R_drew)); exact Kd.R_mono HO_92.out (fun _ hk => trivial)⟩, ⟨by (try simp only [hl10_4]); (with_reducible repeat (first | refine blk_drewN ?_ _ | refine blk_drew ?_ | refine blk_alloc ?_ _)); exact BK1009.out⟩, ⟨(qs HB)⟩⟩
                 rw [if_neg c45] at H
                 exact absurd H (by simp)
                rw [if_neg c44] at H
                exact absurd H (by simp)
               rw [if_neg c43] at H
               have c43b0 : decide (x94_6 < (t1019.length : Int)) = false := decide_eq_false c43
               clear c43
               go_wp2
               go_ret
               exact ⟨by first | rfl | (simp [errW_none, errW_some] <;> rfl) | (simp [*, errW_none, errW_some] <;> rfl), (qs HB)⟩
          rw [if_neg c33] at H
          have c33b0 : ((t1019.length : Int) == t1008) = false := beq_eq_false_iff_ne.mpr c33
          have c33b1 : ((t1019.length : Int) != t1008) = true := bne_iff_ne.mpr c33
          exact absurd H (by simp)
       rw [if_neg c18] at H
       exact absurd H (by simp)
end Go.Proofs.Ytndffnacbfdnoaa.PAll
