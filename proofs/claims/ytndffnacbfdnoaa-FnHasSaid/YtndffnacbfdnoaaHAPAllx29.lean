-- Lines of PAllx29 that this claim uses.
import Derived.Test.YtndffnacbfdnoaaHASqd
import Derived.Test.YtndffnacbfdnoaaHASq
import Derived.Test.YtndffnacbfdnoaaHAPAllx0
import Derived.Test.YtndffnacbfdnoaaHAPAllx22
import Derived.Test.YtndffnacbfdnoaaHAPAllx26
import Derived.Test.YtndffnacbfdnoaaHAPAllx28
import Derived.Test.YtndffnacbfdnoaaHARun
namespace Go.Proofs.Ytndffnacbfdnoaa.PAll
open Go.RowKit Go.Proofs.YtndffnacbfdnoaaW.PrintWords Go.Proofs.YtndffnacbfdnoaaW.PrintLast Go.Proofs.YtndffnacbfdnoaaW.PrintMore
attribute [local go_sem] max2_int min2_int max_two min_two max_three min_three max_four min_four   -- for this text's walks alone
set_option linter.unusedVariables false
set_option linter.unusedSimpArgs false
mutual
def laws_FnHas.l0 : Nat → List (S86) → Int → Int → Int → Int → Int → Option (Bool)
 | 0, _, _, _, _, _, _ => none
 | k + 1, x30, x31, x32, x1043000, x1043001, x1043002 => if x32 < x31 then (if 0 ≤ x32 then (if x32 < (x30.length : Int) then ((impl_MayHave.f x1043000 x1043001 x1043002 ((rd_T86 x30 x32).f0.f0) ((rd_T86 x30 x32).f0.f1) ((rd_T86 x30 x32).f0.f2) ((rd_T86 x30 x32).f0.f3) ((rd_T86 x30 x32).f0.f4)).bind fun bt1048 => (if ((rd_T86 x30 x32).f1.f0) < bt1048.1 then (laws_FnHas.j1 k x32 x30 x31 x32 true x1043000 x1043001 x1043002 ((rd_T86 x30 x32).f0.f0) ((rd_T86 x30 x32).f0.f1) ((rd_T86 x30 x32).f0.f2) ((rd_T86 x30 x32).f0.f3) ((rd_T86 x30 x32).f0.f4) ((rd_T86 x30 x32).f1.f0) ((rd_T86 x30 x32).f1.f1) ((rd_T86 x30 x32).f1.f2) ((rd_T86 x30 x32).f2) ((rd_T86 x30 x32).f3) bt1048.1 bt1048.2.1 bt1048.2.2) else (if ((rd_T86 x30 x32).f1.f0) > bt1048.2.1 then (laws_FnHas.j1 k x32 x30 x31 x32 true x1043000 x1043001 x1043002 ((rd_T86 x30 x32).f0.f0) ((rd_T86 x30 x32).f0.f1) ((rd_T86 x30 x32).f0.f2) ((rd_T86 x30 x32).f0.f3) ((rd_T86 x30 x32).f0.f4) ((rd_T86 x30 x32).f1.f0) ((rd_T86 x30 x32).f1.f1) ((rd_T86 x30 x32).f1.f2) ((rd_T86 x30 x32).f2) ((rd_T86 x30 x32).f3) bt1048.1 bt1048.2.1 bt1048.2.2) else (laws_FnHas.j1 k x32 x30 x31 x32 (bt1048.2.2 != (wrap64 (((rd_T86 x30 x32).f0.f3) + x1043001))) x1043000 x1043001 x1043002 ((rd_T86 x30 x32).f0.f0) ((rd_T86 x30 x32).f0.f1) ((rd_T86 x30 x32).f0.f2) ((rd_T86 x30 x32).f0.f3) ((rd_T86 x30 x32).f0.f4) ((rd_T86 x30 x32).f1.f0) ((rd_T86 x30 x32).f1.f1) ((rd_T86 x30 x32).f1.f2) ((rd_T86 x30 x32).f2) ((rd_T86 x30 x32).f3) bt1048.1 bt1048.2.1 bt1048.2.2)))) else (none)) else (none)) else (some true)
def laws_FnHas.j1 : Nat → Int → List (S86) → Int → Int → Bool → Int → Int → Int → Int → Int → Int → Int → Int → Int → Int → Int → Int → Int → Int → Int → Int → Option (Bool)
 | 0, _, _, _, _, _, _, _, _, _, _, _, _, _, _, _, _, _, _, _, _, _ => none
 | k + 1, x8, x30, x31, x32, x65, x1043000, x1043001, x1043002, x1048000, x1048001, x1048002, x1048003, x1048004, x1048005, x1048006, x1048007, x1048008, x1048009, x1052000, x1052001, x1052002 => if x65 = true then (some false) else (if (wrap64 (x8 + 1)) > x1052002 then ((impl_TrainSilent.f x1043000 x1043001 x1043002 (wrap64 (x8 + 1)) x1048005 x1048006 x1048007).bind fun t1052 => (if t1052 = true then ((impl_TrainSilent.f x1043000 x1043001 x1043002 (wrap64 (x8 + 1)) x1048005 x1048006 x1048007).bind fun t1053 => (if (t1053 != (decide ((wrap64 ((wrap64 (x8 + 1)) - x1048007)) > x1043001))) = true then (some false) else ((impl_BoxSilent.f x1043000 x1043001 x1043002 (wrap64 (x8 + 1)) x1048000 x1048001 x1048002 x1048003 x1048004).bind fun t1054 => (if (t1054 != (decide ((wrap64 ((wrap64 (x8 + 1)) - x1048004)) > x1043001))) = true then (some false) else (laws_FnHas.l0 k x30 x31 (wrap64 (x32 + 1)) x1043000 x1043001 x1043002))))) else (some false))) else ((impl_TrainSilent.f x1043000 x1043001 x1043002 (wrap64 (x8 + 1)) x1048005 x1048006 x1048007).bind fun t1055 => (if (t1055 != (decide ((wrap64 ((wrap64 (x8 + 1)) - x1048007)) > x1043001))) = true then (some false) else ((impl_BoxSilent.f x1043000 x1043001 x1043002 (wrap64 (x8 + 1)) x1048000 x1048001 x1048002 x1048003 x1048004).bind fun t1056 => (if (t1056 != (decide ((wrap64 ((wrap64 (x8 + 1)) - x1048004)) > x1043001))) = true then (some false) else (laws_FnHas.l0 k x30 x31 (wrap64 (x32 + 1)) x1043000 x1043001 x1043002))))))
end
def laws_FnHas.f (k : Nat) (l0 : List Int) : Option (Bool) := if (l0.length : Int) > 1048576 then (some true) else ((spec_Drawn.f k l0).bind fun bt1032 => ((impl_Run.f bt1032.1 bt1032.2.1 bt1032.2.2.1 bt1032.2.2.2.1 bt1032.2.2.2.2.1 bt1032.2.2.2.2.2).bind fun t1043 => (if (t1043.length : Int) = bt1032.2.2.2.2.2 then (laws_FnHas.l0 k t1043 (t1043.length : Int) 0 bt1032.1 bt1032.2.1 bt1032.2.2.1) else (some false))))
def laws_FnHas.T13 : Bool × List (List Nat × List Nat) := (true, [([], []), ([0], [0]), ([], []), ([2], [2]), ([1, 3], [1, 3]), ([4], [4]), ([5], [5]), ([5], [5]), ([7, 5], [5, 7]), ([5], [5]), ([9, 5], [5, 9]), ([6, 8, 10, 5, 5], [5, 6, 8, 10]), ([11, 5], [5, 11]), ([5, 12], [5, 12]), ([13, 11], [13]), ([14], [14]), ([14], [14]), ([16, 14], [14, 16]), ([14], [14]), ([18, 14], [14, 18]), ([15, 17, 19, 14, 14], [14, 15, 17, 19]), ([14], [14]), ([21, 14], [14, 21]), ([14], [14]), ([23, 14], [14, 23]), ([24, 14], [14, 24]), ([22, 25, 14], [14, 22, 25]), ([14], [14]), ([27, 14], [14, 27]), ([26, 28, 14], [14, 26, 28]), ([20, 29, 14], [14, 20, 29]), ([14, 30], [14, 30]), ([31, 20], [31]), ([32], [32]), ([32], [32]), ([34, 32], [32, 34]), ([32], [32]), ([36, 32], [32, 36]), ([33, 35, 37, 32, 32], [32, 33, 35, 37]), ([32], [32]), ([39, 32], [32, 39]), ([32], [32]), ([41, 32], [32, 41]), ([42, 32], [32, 42]), ([40, 43, 32], [32, 40, 43]), ([32], [32]), ([45, 32], [32, 45]), ([44, 46, 32], [32, 44, 46]), ([38, 47, 32], [32, 38, 47]), ([32, 48], [32, 48])])
def laws_FnHas.B13 : List Nat := [0, 1, 0, 4, 15, 31, 63, 63, 191, 63, 575, 2047, 4095, 8191, 16383, 32767, 32767, 98303, 32767, 294911, 1048575, 32767, 2129919, 32767, 8421375, 25198591, 65044479, 32767, 134250495, 534806527, 1073741823, 2147483647, 4294967295, 8589934591, 8589934591, 25769803775, 8589934591, 77309411327, 274877906943, 8589934591, 558345748479, 8589934591, 2207613190143, 6605659701247, 17051020165119, 8589934591, 35192962023423, 140196322476031, 281474976710655, 562949953421311]
theorem laws_FnHas.tab13 : rtab .any (opsOf Try.f8 13) = laws_FnHas.T13 := by kernel_rfl
theorem laws_FnHas.bits13 : waitsOk laws_FnHas.T13.2 laws_FnHas.B13 = true := by kernel_rfl
set_option maxHeartbeats 8000000 in
set_option maxRecDepth 100000 in
theorem laws_FnHas.calls (k : Nat) (A0 : Option Addr) (c0 : Nat) (l0 : List Int) (w : World) (hr0 : Kd.C (Kd.int .u8) w A0 l0.length l0) (hc0 : l0.length ≤ c0) (h : laws_FnHas.f k l0 = some true) :
  Calls Try.prog 8 #[.slice A0 l0.length c0] w fun e w' => e = .returned (.bool true) ∧ Below w.heap.size w w' := by
 have hu34 := Try.underlying34
 have hu86 := Try.underlying86
 have hu29 := Try.underlying29
 have hu91 := Try.underlying91
 have hu48 := Try.underlying48
 have HR0 := Aside0.mk hr0
 have HC0 := Aside0.mk hc0
 clear hr0 hc0
 have HB := Aside0.mk (Below.refl w.heap.size w)
 have H : (if (l0.length : Int) > 1048576 then (some true) else ((spec_Drawn.f k l0).bind fun bt1032 => ((impl_Run.f bt1032.1 bt1032.2.1 bt1032.2.2.1 bt1032.2.2.2.1 bt1032.2.2.2.2.1 bt1032.2.2.2.2.2).bind fun t1043 => (if (t1043.length : Int) = bt1032.2.2.2.2.2 then (laws_FnHas.l0 k t1043 (t1043.length : Int) 0 bt1032.1 bt1032.2.1 bt1032.2.2.1) else (some false))))) = some true := h
 clear h
 by_cases c2 : (l0.length : Int) > 1048576
 ·rw [if_pos c2] at H
  have c2b0 : decide (1048576 < (l0.length : Int)) = true := decide_eq_true c2
  have c2b1 : decide (1048576 < l0.length) = true := decide_eq_true (by omega)
  clear c2
  go_enter Try.func8, Try.ntmps8
  go_wp2
  go_ret
  exact ⟨by first | rfl | (simp [errW_none, errW_some] <;> rfl) | (simp [*, errW_none, errW_some] <;> rfl), (qs HB)⟩
 rw [if_neg c2] at H
 have c2b0 : decide (1048576 < (l0.length : Int)) = false := decide_eq_false c2
 have c2b1 : decide (1048576 < l0.length) = false := decide_eq_false (by omega)
 clear c2
 replace H := Option.bind_eq_some_iff.mp H
 obtain ⟨⟨t1032, t1033, t1034, t1035, t1038, t1041⟩, A30, H⟩ := H
 replace H : ((impl_Run.f t1032 t1033 t1034 t1035 t1038 t1041).bind fun t1043 => (if (t1043.length : Int) = t1041 then (laws_FnHas.l0 k t1043 (t1043.length : Int) 0 t1032 t1033 t1034) else (some false))) = some true := H
 have A3 := Aside0.mk A30
 clear A30
 replace H := Option.bind_eq_some_iff.mp H
 obtain ⟨t1043, A40, H⟩ := H
 replace H : (if (t1043.length : Int) = t1041 then (laws_FnHas.l0 k t1043 (t1043.length : Int) 0 t1032 t1033 t1034) else (some false)) = some true := H
 have A4 := Aside0.mk A40
 clear A40
 by_cases c5 : (t1043.length : Int) = t1041
 ·rw [if_pos c5] at H
  have c5b0 : ((t1043.length : Int) == t1041) = true := beq_iff_eq.mpr c5
  have c5b1 : ((t1043.length : Int) != t1041) = false := bne_eq_false_iff_eq.mpr c5
  clear c5
  have H' := Aside0.mk H
  clear H
  go_enter Try.func8, Try.ntmps8
  go_wp2_with (first | ((with_reducible refine gate_callee (f := 46) rfl ?_); refine goesLA (some 16) rfl Try.func46 #[.slice A0 l0.length c0] ?_; (with_reducible refine (spec_Drawn.calls k _ _ l0 t1032 t1033 t1034 t1035 t1038 t1041 _ ?side1 ?side2 A3.out).mono ?_); (case side1 => repeat (first | exact HR0.out | (with_reducible refine Kd.C_alloc ?_ _) | (with_reducible refine Kd.C_drewN ?_ _) | (with_reducible refine Kd.C_drew ?_))); (case side2 => exact HC0.out); rintro e w6 ⟨v1036, v1039, rfl, ho0, ho1, hb⟩; refine ⟨_, rfl, ?_⟩; have HO1037 := Aside0.mk (Kd.R_lower ho0 (below_size (qs HB))); have HO1040 := Aside0.mk (Kd.S_lower ho1 (below_size (qs HB))); replace HB := bst HB hb; clear hb; (try clear ho0); (try clear ho1)) | ((with_reducible refine gate_dst (N := 3) rfl ?_); refine boxA #[.int .i64 0, .int .i64 0, .int .i64 0] 34 ?_; intro gb1042 hg w7 hbox hb; replace HO1037 := rbl HO1037 hb; replace HO1040 := Aside0.mk (Kd.S_below (by (with_reducible repeat (first | apply Kd.S_alloc | apply Kd.S_drewN | apply Kd.S_drew)); exact HO1040.out) hb); have BK1042 := Aside0.mk (hbox); have GW1042 := nge HB hg; have GE1042 := nge HB hg; replace HB := bst HB hb; clear hb hbox hg; have hcz8_0 := b0 BK1042; have hcz8_1 := b1 BK1042; have hcz8_2 := b2 BK1042; have hfz8_0 := blk_frozen BK1042.out 0; have hfz8_1 := blk_frozen BK1042.out 1; have hfz8_2 := blk_frozen BK1042.out 2; obtain ⟨Ao9, co9, eo9⟩ := Kd.R_slice HO1037.out; subst eo9; obtain ⟨Ao10, co10, eo10⟩ := Kd.S_slice HO1040.out; subst eo10) | ((with_reducible refine gate_callee (f := 38) rfl ?_); refine goesLA (some 25) rfl Try.func38 #[.agg #[.int .i64 t1032, .int .i64 t1033, .int .i64 t1034], .slice Ao9 t1035.length co9, .slice Ao10 t1038.length co10, .int .i64 t1041] ?_; (with_reducible refine (impl_Run.calls t1032 t1033 t1034 _ _ t1035 _ _ t1038 t1041 t1043 _ ?side1 ?side2 ?side3 ?side4 A4.out).mono ?_); (case side1 => refine (Kd.R_reads' (e := 84) (base := w.heap.size) (ok := fun k_ => True) (n := t1035.length) (c := co9) ?_).2.2; exact (by (with_reducible repeat (first | apply Kd.R_alloc | apply Kd.R_drewN | apply Kd.R_drew)); exact (Kd.R_mono (Kd.R_far (p := ⟨gb1042, 2, none⟩) (Kd.R_far (p := ⟨gb1042, 1, none⟩) (Kd.R_far (p := ⟨gb1042, 0, none⟩) (Kd.R_types HO1037.out BK1042.out (by decide)) (fun _ hk => hk.2) (.int .i64 t1032)) (fun _ hk => hk.2) (.int .i64 t1033)) (fun _ hk => hk.2) (.int .i64 t1034)) (fun _ h_ => h_.1)))); (case side2 => exact (Kd.R_reads' HO1037.out).2.1); (case side3 => refine (Kd.S_reads' (e := 82) (base := w.heap.size) (ok := fun k_ => True) (n := t1038.length) (c := co10) ?_).2.2; exact (by (with_reducible repeat (first | apply Kd.S_alloc | apply Kd.S_drewN | apply Kd.S_drew)); exact (Kd.S_mono (Kd.S_far (p := ⟨gb1042, 2, none⟩) (Kd.S_far (p := ⟨gb1042, 1, none⟩) (Kd.S_far (p := ⟨gb1042, 0, none⟩) (Kd.S_types HO1040.out BK1042.out (by decide)) (fun _ hk => hk.2) (.int .i64 t1032)) (fun _ hk => hk.2) (.int .i64 t1033)) (fun _ hk => hk.2) (.int .i64 t1034)) (fun _ h_ => h_.1)))); (case side4 => exact (Kd.S_reads' HO1040.out).2.1); rintro e w11 ⟨v1044, rfl, ho0, hb⟩; refine ⟨_, rfl, ?_⟩; replace HO1037 := Aside0.mk (Kd.R_below (by (with_reducible repeat (first | apply Kd.R_alloc | apply Kd.R_drewN | apply Kd.R_drew)); exact (Kd.R_mono (Kd.R_far (p := ⟨gb1042, 2, none⟩) (Kd.R_far (p := ⟨gb1042, 1, none⟩) (Kd.R_far (p := ⟨gb1042, 0, none⟩) (Kd.R_types HO1037.out BK1042.out (by decide)) (fun _ hk => hk.2) (.int .i64 t1032)) (fun _ hk => hk.2) (.int .i64 t1033)) (fun _ hk => hk.2) (.int .i64 t1034)) (fun _ h_ => h_.1))) hb); replace HO1040 := Aside0.mk (Kd.S_below (by (with_reducible repeat (first | apply Kd.S_alloc | apply Kd.S_drewN | apply Kd.S_drew)); exact (Kd.S_mono (Kd.S_far (p := ⟨gb1042, 2, none⟩) (Kd.S_far (p := ⟨gb1042, 1, none⟩) (Kd.S_far (p := ⟨gb1042, 0, none⟩) (Kd.S_types HO1040.out BK1042.out (by decide)) (fun _ hk => hk.2) (.int .i64 t1032)) (fun _ hk => hk.2) (.int .i64 t1033)) (fun _ hk => hk.2) (.int .i64 t1034)) (fun _ h_ => h_.1))) hb); have HO1045 := Aside0.mk (Kd.R_lower ho0 (below_size (qs HB))); replace BK1042 := Aside0.mk (blk_below (g := gb1042) (o := .cells #[.int .i64 t1032, .int .i64 t1033, .int .i64 t1034] 34 (0, 0)) (by (with_reducible repeat (first | refine blk_drewN ?_ _ | refine blk_drew ?_ | refine blk_alloc ?_ _)); refine blk_put (cs := #[.int .i64 t1032, .int .i64 t1033, .int .i64 0]) ?_ 2 _ rfl; (with_reducible repeat (first | refine blk_drewN ?_ _ | refine blk_drew ?_ | refine blk_alloc ?_ _)); refine blk_put (cs := #[.int .i64 t1032, .int .i64 0, .int .i64 0]) ?_ 1 _ rfl; (with_reducible repeat (first | refine blk_drewN ?_ _ | refine blk_drew ?_ | refine blk_alloc ?_ _)); refine blk_put (cs := #[.int .i64 0, .int .i64 0, .int .i64 0]) ?_ 0 _ rfl; (with_reducible repeat (first | refine blk_drewN ?_ _ | refine blk_drew ?_ | refine blk_alloc ?_ _)); exact BK1042.out) hb); replace HB := bst HB hb; clear hb; (try clear ho0); obtain ⟨Ao12, co12, eo12⟩ := Kd.R_slice HO1045.out; subst eo12))
  go_loopg [32] k (fun kq v32 w' => ∃ (x32_1 : Int), v32 = .int .i64 x32_1 ∧ Aside0 (laws_FnHas.l0 kq t1043 (t1043.length : Int) x32_1 t1032 t1033 t1034 = some true) ∧ Aside0 (kq ≤ k) ∧ Aside0 (Kd.R k86 86 w' w.heap.size (fun _ => True) (.slice Ao12 t1043.length co12) t1043) ∧ Aside0 (w'.heap[gb1042]? = some (.cells #[.int .i64 t1032, .int .i64 t1033, .int .i64 t1034] 34 (0, 0))) ∧ Aside0 (Below w.heap.size w w'))
  case atStart => exact ⟨(0), (by first | rfl | (simp; done) | (simp [*]; done)), H', ⟨Nat.le_refl _⟩, ⟨by (with_reducible repeat (first | apply Kd.R_alloc | apply Kd.R_drewN | apply Kd.R_drew)); exact HO1045.out⟩, ⟨qb BK1042⟩, ⟨(qs HB)⟩⟩
  case round =>
   clear H'
   try clear c2; try clear c2b0; try clear c2b1; try clear p2; try clear c3; try clear c4; try clear c5; try clear c5b0; try clear c5b1; try clear c8; try clear hcz8_0; try clear hcz8_1; try clear hcz8_2; try clear hfz8_0; try clear hfz8_1; try clear hfz8_2
   obtain ⟨x32_1, rfl, HA, HK1, HO_30, BK1042, HB⟩ := hrel
   cases gk with
   | zero => exact absurd HA.out (by simp [laws_FnHas.l0])
   | succ k1 =>
    have H := HA.out
    clear HA
    simp only [laws_FnHas.l0] at H
    by_cases c13 : x32_1 < (t1043.length : Int)
    ·rw [if_pos c13] at H
     have c13b0 : decide (x32_1 < (t1043.length : Int)) = true := decide_eq_true c13
     clear c13
     by_cases c14 : 0 ≤ x32_1
     ·rw [if_pos c14] at H
      have c14b0 : decide (0 ≤ x32_1) = true := decide_eq_true c14
      clear c14
      by_cases c15 : x32_1 < (t1043.length : Int)
      ·rw [if_pos c15] at H
       have c15b0 : decide (x32_1 < (t1043.length : Int)) = true := decide_eq_true c15
       clear c15
       replace H := Option.bind_eq_some_iff.mp H
       obtain ⟨⟨t1048, t1049, t1050⟩, A160, H⟩ := H
       replace H : (if ((rd_T86 t1043 x32_1).f1.f0) < t1048 then (laws_FnHas.j1 k1 x32_1 t1043 (t1043.length : Int) x32_1 true t1032 t1033 t1034 ((rd_T86 t1043 x32_1).f0.f0) ((rd_T86 t1043 x32_1).f0.f1) ((rd_T86 t1043 x32_1).f0.f2) ((rd_T86 t1043 x32_1).f0.f3) ((rd_T86 t1043 x32_1).f0.f4) ((rd_T86 t1043 x32_1).f1.f0) ((rd_T86 t1043 x32_1).f1.f1) ((rd_T86 t1043 x32_1).f1.f2) ((rd_T86 t1043 x32_1).f2) ((rd_T86 t1043 x32_1).f3) t1048 t1049 t1050) else (if ((rd_T86 t1043 x32_1).f1.f0) > t1049 then (laws_FnHas.j1 k1 x32_1 t1043 (t1043.length : Int) x32_1 true t1032 t1033 t1034 ((rd_T86 t1043 x32_1).f0.f0) ((rd_T86 t1043 x32_1).f0.f1) ((rd_T86 t1043 x32_1).f0.f2) ((rd_T86 t1043 x32_1).f0.f3) ((rd_T86 t1043 x32_1).f0.f4) ((rd_T86 t1043 x32_1).f1.f0) ((rd_T86 t1043 x32_1).f1.f1) ((rd_T86 t1043 x32_1).f1.f2) ((rd_T86 t1043 x32_1).f2) ((rd_T86 t1043 x32_1).f3) t1048 t1049 t1050) else (laws_FnHas.j1 k1 x32_1 t1043 (t1043.length : Int) x32_1 (t1050 != (wrap64 (((rd_T86 t1043 x32_1).f0.f3) + t1033))) t1032 t1033 t1034 ((rd_T86 t1043 x32_1).f0.f0) ((rd_T86 t1043 x32_1).f0.f1) ((rd_T86 t1043 x32_1).f0.f2) ((rd_T86 t1043 x32_1).f0.f3) ((rd_T86 t1043 x32_1).f0.f4) ((rd_T86 t1043 x32_1).f1.f0) ((rd_T86 t1043 x32_1).f1.f1) ((rd_T86 t1043 x32_1).f1.f2) ((rd_T86 t1043 x32_1).f2) ((rd_T86 t1043 x32_1).f3) t1048 t1049 t1050))) = some true := H
       have A16 := Aside0.mk A160
       clear A160
       have HC17 := Aside0.mk H
       clear H
       have p1046 : 0 ≤ (x32_1 : Int) := of_decide_eq_true (by first | (with_reducible assumption) | assumption)
       have q1046 : x32_1 < (t1043.length : Int) := of_decide_eq_true (by first | (with_reducible assumption) | assumption)
       obtain ⟨ad1046, e1046, hx1046_0, hx1046_1, hx1046_2, hx1046_3, hx1046_4, hx1046_5, hx1046_6, hx1046_7, hx1046_8, hx1046_9⟩ := at_T86 (Kd.R_reads' HO_30.out).2.2 x32_1 p1046 q1046
       cases e1046
       replace p1046 := eq_true p1046
       replace q1046 := eq_true q1046
       go_upto_region 11 with (first | ((with_reducible refine gate_dst (N := 9) rfl ?_); refine boxA #[.int .i64 0, .int .i64 0, .int .i64 0, .int .i64 0, .int .i64 0, .int .i64 0, .int .i64 0, .int .i64 0, .int .i64 0, .int .i64 0] 86 ?_; intro gb1047 hg w18 hbox hb; replace HO_30 := Aside0.mk (Kd.R_below (Kd.R_elderB (qr HO_30) gb1047 (Nat.le_of_eq hg.symm)) hb); have BK1047 := Aside0.mk (hbox); have GW1047 := nge HB hg; have GE1047 := nge HB hg; replace HB := bst HB hb; have NB1042_1047 := nlt BK1042 hg; have NB1047_1042 := ngt BK1042 hg; replace BK1042 := bkb BK1042 hb; clear hb hbox hg; have hnb19 := NB1047_1042.out; have hnc19 := NB1042_1047.out; have hcz20_0 := b0 BK1047; have hcz20_1 := b1 BK1047; have hcz20_2 := b2 BK1047; have hcz20_3 := b3 BK1047; have hcz20_4 := b4 BK1047; have hcz20_5 := b5 BK1047; have hcz20_6 := b6 BK1047; have hcz20_7 := b7 BK1047; have hcz20_8 := b8 BK1047; have hcz20_9 := b9 BK1047; have hfz20_0 := blk_frozen BK1047.out 0; have hfz20_1 := blk_frozen BK1047.out 1; have hfz20_2 := blk_frozen BK1047.out 2; have hfz20_3 := blk_frozen BK1047.out 3; have hfz20_4 := blk_frozen BK1047.out 4; have hfz20_5 := blk_frozen BK1047.out 5; have hfz20_6 := blk_frozen BK1047.out 6; have hfz20_7 := blk_frozen BK1047.out 7; have hfz20_8 := blk_frozen BK1047.out 8; have hfz20_9 := blk_frozen BK1047.out 9; have hcz21_0 := b0 BK1042; have hcz21_1 := b1 BK1042; have hcz21_2 := b2 BK1042; have hfz21_0 := blk_frozen BK1042.out 0; have hfz21_1 := blk_frozen BK1042.out 1; have hfz21_2 := blk_frozen BK1042.out 2) | ((with_reducible refine gate_callee (f := 50) rfl ?_); refine goesLA (some 40) rfl Try.func50 #[.agg #[.int .i64 t1032, .int .i64 t1033, .int .i64 t1034], .agg #[.int .i64 ((rd_T86 t1043 x32_1).f0.f0), .int .i64 ((rd_T86 t1043 x32_1).f0.f1), .int .i64 ((rd_T86 t1043 x32_1).f0.f2), .int .i64 ((rd_T86 t1043 x32_1).f0.f3), .int .i64 ((rd_T86 t1043 x32_1).f0.f4)]] ?_; (with_reducible refine (impl_MayHave.calls t1032 t1033 t1034 ((rd_T86 t1043 x32_1).f0.f0) ((rd_T86 t1043 x32_1).f0.f1) ((rd_T86 t1043 x32_1).f0.f2) ((rd_T86 t1043 x32_1).f0.f3) ((rd_T86 t1043 x32_1).f0.f4) t1048 t1049 t1050 _ A16.out).mono ?_); rintro e w22 ⟨rfl, hb⟩; refine ⟨_, rfl, ?_⟩; replace HO_30 := Aside0.mk (Kd.R_below (by (with_reducible repeat (first | apply Kd.R_alloc | apply Kd.R_drewN | apply Kd.R_drew)); exact (Kd.R_mono (Kd.R_far (p := ⟨gb1047, 9, none⟩) (Kd.R_far (p := ⟨gb1047, 8, none⟩) (Kd.R_far (p := ⟨gb1047, 7, none⟩) (Kd.R_far (p := ⟨gb1047, 6, none⟩) (Kd.R_far (p := ⟨gb1047, 5, none⟩) (Kd.R_far (p := ⟨gb1047, 4, none⟩) (Kd.R_far (p := ⟨gb1047, 3, none⟩) (Kd.R_far (p := ⟨gb1047, 2, none⟩) (Kd.R_far (p := ⟨gb1047, 1, none⟩) (Kd.R_far (p := ⟨gb1047, 0, none⟩) (Kd.R_mono HO_30.out (fun k_ hk => (⟨hk, hk.2⟩ : _ ∧ k_ ≠ gb1047))) (fun _ hk => hk.2) (.int .i64 ((rd_T86 t1043 x32_1).f0.f0))) (fun _ hk => hk.2) (.int .i64 ((rd_T86 t1043 x32_1).f0.f1))) (fun _ hk => hk.2) (.int .i64 ((rd_T86 t1043 x32_1).f0.f2))) (fun _ hk => hk.2) (.int .i64 ((rd_T86 t1043 x32_1).f0.f3))) (fun _ hk => hk.2) (.int .i64 ((rd_T86 t1043 x32_1).f0.f4))) (fun _ hk => hk.2) (.int .i64 ((rd_T86 t1043 x32_1).f1.f0))) (fun _ hk => hk.2) (.int .i64 ((rd_T86 t1043 x32_1).f1.f1))) (fun _ hk => hk.2) (.int .i64 ((rd_T86 t1043 x32_1).f1.f2))) (fun _ hk => hk.2) (.int .i64 ((rd_T86 t1043 x32_1).f2))) (fun _ hk => hk.2) (.int .i64 ((rd_T86 t1043 x32_1).f3))) (fun _ h_ => h_.1))) hb); replace BK1042 := Aside0.mk (blk_below (g := gb1042) (o := .cells #[.int .i64 t1032, .int .i64 t1033, .int .i64 t1034] 34 (0, 0)) (qB BK1042) hb); replace BK1047 := Aside0.mk (blk_below (g := gb1047) (o := .cells #[.int .i64 ((rd_T86 t1043 x32_1).f0.f0), .int .i64 ((rd_T86 t1043 x32_1).f0.f1), .int .i64 ((rd_T86 t1043 x32_1).f0.f2), .int .i64 ((rd_T86 t1043 x32_1).f0.f3), .int .i64 ((rd_T86 t1043 x32_1).f0.f4), .int .i64 ((rd_T86 t1043 x32_1).f1.f0), .int .i64 ((rd_T86 t1043 x32_1).f1.f1), .int .i64 ((rd_T86 t1043 x32_1).f1.f2), .int .i64 ((rd_T86 t1043 x32_1).f2), .int .i64 ((rd_T86 t1043 x32_1).f3)] 86 (0, 0)) (by (with_reducible repeat (first | refine blk_drewN ?_ _ | refine blk_drew ?_ | refine blk_alloc ?_ _)); refine blk_put (cs := #[.int .i64 ((rd_T86 t1043 x32_1).f0.f0), .int .i64 ((rd_T86 t1043 x32_1).f0.f1), .int .i64 ((rd_T86 t1043 x32_1).f0.f2), .int .i64 ((rd_T86 t1043 x32_1).f0.f3), .int .i64 ((rd_T86 t1043 x32_1).f0.f4), .int .i64 ((rd_T86 t1043 x32_1).f1.f0), .int .i64 ((rd_T86 t1043 x32_1).f1.f1), .int .i64 ((rd_T86 t1043 x32_1).f1.f2), .int .i64 ((rd_T86 t1043 x32_1).f2), .int .i64 0]) ?_ 9 _ rfl; (with_reducible repeat (first | refine blk_drewN ?_ _ | refine blk_drew ?_ | refine blk_alloc ?_ _)); refine blk_put (cs := #[.int .i64 ((rd_T86 t1043 x32_1).f0.f0), .int .i64 ((rd_T86 t1043 x32_1).f0.f1), .int .i64 ((rd_T86 t1043 x32_1).f0.f2), .int .i64 ((rd_T86 t1043 x32_1).f0.f3), .int .i64 ((rd_T86 t1043 x32_1).f0.f4), .int .i64 ((rd_T86 t1043 x32_1).f1.f0), .int .i64 ((rd_T86 t1043 x32_1).f1.f1), .int .i64 ((rd_T86 t1043 x32_1).f1.f2), .int .i64 0, .int .i64 0]) ?_ 8 _ rfl; (with_reducible repeat (first | refine blk_drewN ?_ _ | refine blk_drew ?_ | refine blk_alloc ?_ _)); refine blk_put (cs := #[.int .i64 ((rd_T86 t1043 x32_1).f0.f0), .int .i64 ((rd_T86 t1043 x32_1).f0.f1), .int .i64 ((rd_T86 t1043 x32_1).f0.f2), .int .i64 ((rd_T86 t1043 x32_1).f0.f3), .int .i64 ((rd_T86 t1043 x32_1).f0.f4), .int .i64 ((rd_T86 t1043 x32_1).f1.f0), .int .i64 ((rd_T86 t1043 x32_1).f1.f1), .int .i64 0, .int .i64 0, .int .i64 0]) ?_ 7 _ rfl; (with_reducible repeat (first | refine blk_drewN ?_ _ | refine blk_drew ?_ | refine blk_alloc ?_ _)); refine blk_put (cs := #[.int .i64 ((rd_T86 t1043 x32_1).f0.f0), .int .i64 ((rd_T86 t1043 x32_1).f0.f1), .int .i64 ((rd_T86 t1043 x32_1).f0.f2), .int .i64 ((rd_T86 t1043 x32_1).f0.f3), .int .i64 ((rd_T86 t1043 x32_1).f0.f4), .int .i64 ((rd_T86 t1043 x32_1).f1.f0), .int .i64 0, .int .i64 0, .int .i64 0, .int .i64 0]) ?_ 6 _ rfl; (with_reducible repeat (first | refine blk_drewN ?_ _ | refine blk_drew ?_ | refine blk_alloc ?_ _)); refine blk_put (cs := #[.int .i64 ((rd_T86 t1043 x32_1).f0.f0), .int .i64 ((rd_T86 t1043 x32_1).f0.f1), .int .i64 ((rd_T86 t1043 x32_1).f0.f2), .int .i64 ((rd_T86 t1043 x32_1).f0.f3), .int .i64 ((rd_T86 t1043 x32_1).f0.f4), .int .i64 0, .int .i64 0, .int .i64 0, .int .i64 0, .int .i64 0]) ?_ 5 _ rfl; (with_reducible repeat (first | refine blk_drewN ?_ _ | refine blk_drew ?_ | refine blk_alloc ?_ _)); refine blk_put (cs := #[.int .i64 ((rd_T86 t1043 x32_1).f0.f0), .int .i64 ((rd_T86 t1043 x32_1).f0.f1), .int .i64 ((rd_T86 t1043 x32_1).f0.f2), .int .i64 ((rd_T86 t1043 x32_1).f0.f3), .int .i64 0, .int .i64 0, .int .i64 0, .int .i64 0, .int .i64 0, .int .i64 0]) ?_ 4 _ rfl; (with_reducible repeat (first | refine blk_drewN ?_ _ | refine blk_drew ?_ | refine blk_alloc ?_ _)); refine blk_put (cs := #[.int .i64 ((rd_T86 t1043 x32_1).f0.f0), .int .i64 ((rd_T86 t1043 x32_1).f0.f1), .int .i64 ((rd_T86 t1043 x32_1).f0.f2), .int .i64 0, .int .i64 0, .int .i64 0, .int .i64 0, .int .i64 0, .int .i64 0, .int .i64 0]) ?_ 3 _ rfl; (with_reducible repeat (first | refine blk_drewN ?_ _ | refine blk_drew ?_ | refine blk_alloc ?_ _)); refine blk_put (cs := #[.int .i64 ((rd_T86 t1043 x32_1).f0.f0), .int .i64 ((rd_T86 t1043 x32_1).f0.f1), .int .i64 0, .int .i64 0, .int .i64 0, .int .i64 0, .int .i64 0, .int .i64 0, .int .i64 0, .int .i64 0]) ?_ 2 _ rfl; (with_reducible repeat (first | refine blk_drewN ?_ _ | refine blk_drew ?_ | refine blk_alloc ?_ _)); refine blk_put (cs := #[.int .i64 ((rd_T86 t1043 x32_1).f0.f0), .int .i64 0, .int .i64 0, .int .i64 0, .int .i64 0, .int .i64 0, .int .i64 0, .int .i64 0, .int .i64 0, .int .i64 0]) ?_ 1 _ rfl; (with_reducible repeat (first | refine blk_drewN ?_ _ | refine blk_drew ?_ | refine blk_alloc ?_ _)); refine blk_put (cs := #[.int .i64 0, .int .i64 0, .int .i64 0, .int .i64 0, .int .i64 0, .int .i64 0, .int .i64 0, .int .i64 0, .int .i64 0, .int .i64 0]) ?_ 0 _ rfl; (with_reducible repeat (first | refine blk_drewN ?_ _ | refine blk_drew ?_ | refine blk_alloc ?_ _)); exact BK1047.out) hb); replace HB := bst HB hb; clear hb) | ((with_reducible refine gate_dst (N := 10) rfl ?_); refine boxA #[.int .i64 0, .int .i64 0, .int .i64 0] 91 ?_; intro gb1051 hg w23 hbox hb; replace HO_30 := rbl HO_30 hb; have BK1051 := Aside0.mk (hbox); have GW1051 := nge HB hg; have GE1051 := nge HB hg; replace HB := bst HB hb; have NB1042_1051 := nlt BK1042 hg; have NB1051_1042 := ngt BK1042 hg; replace BK1042 := bkb BK1042 hb; have NB1047_1051 := nlt BK1047 hg; have NB1051_1047 := ngt BK1047 hg; replace BK1047 := bkb BK1047 hb; clear hb hbox hg; have hnb24 := NB1051_1042.out; have hnc24 := NB1042_1051.out; have hnb25 := NB1051_1047.out; have hnc25 := NB1047_1051.out; have hcz26_0 := b0 BK1051; have hcz26_1 := b1 BK1051; have hcz26_2 := b2 BK1051; have hfz26_0 := blk_frozen BK1051.out 0; have hfz26_1 := blk_frozen BK1051.out 1; have hfz26_2 := blk_frozen BK1051.out 2))
       (try simp only [Act.put, List.setIfInBounds_toArray, List.set_cons_zero, List.set_cons_succ])
       go_cut [65] (fun v65 wc => ∃ (kq : Nat) (x65_16 : Bool), v65 = .bool x65_16 ∧ Aside0 (laws_FnHas.j1 kq x32_1 t1043 (t1043.length : Int) x32_1 x65_16 t1032 t1033 t1034 ((rd_T86 t1043 x32_1).f0.f0) ((rd_T86 t1043 x32_1).f0.f1) ((rd_T86 t1043 x32_1).f0.f2) ((rd_T86 t1043 x32_1).f0.f3) ((rd_T86 t1043 x32_1).f0.f4) ((rd_T86 t1043 x32_1).f1.f0) ((rd_T86 t1043 x32_1).f1.f1) ((rd_T86 t1043 x32_1).f1.f2) ((rd_T86 t1043 x32_1).f2) ((rd_T86 t1043 x32_1).f3) t1048 t1049 t1050 = some true) ∧ Aside0 (kq ≤ k1) ∧ Aside0 (Kd.R k86 86 wc w.heap.size (fun k_ => k_ ≠ gb1047) (.slice (some ad1046) t1043.length co12) t1043) ∧ Aside0 (wc.heap[gb1042]? = some (.cells #[.int .i64 t1032, .int .i64 t1033, .int .i64 t1034] 34 (0, 0))) ∧ Aside0 (wc.heap[gb1047]? = some (.cells #[.int .i64 ((rd_T86 t1043 x32_1).f0.f0), .int .i64 ((rd_T86 t1043 x32_1).f0.f1), .int .i64 ((rd_T86 t1043 x32_1).f0.f2), .int .i64 ((rd_T86 t1043 x32_1).f0.f3), .int .i64 ((rd_T86 t1043 x32_1).f0.f4), .int .i64 ((rd_T86 t1043 x32_1).f1.f0), .int .i64 ((rd_T86 t1043 x32_1).f1.f1), .int .i64 ((rd_T86 t1043 x32_1).f1.f2), .int .i64 ((rd_T86 t1043 x32_1).f2), .int .i64 ((rd_T86 t1043 x32_1).f3)] 86 (0, 0))) ∧ Aside0 (wc.heap[gb1051]? = some (.cells #[.int .i64 t1048, .int .i64 t1049, .int .i64 t1050] 91 (0, 0))) ∧ Aside0 (Below w.heap.size w wc))
       case first =>
        have H := HC17.out
        clear HC17
        by_cases c27 : ((rd_T86 t1043 x32_1).f1.f0) < t1048
        ·rw [if_pos c27] at H
         have c27b0 : decide (((rd_T86 t1043 x32_1).f1.f0) < t1048) = true := decide_eq_true c27
         clear c27
         (first | rw [c27b0] | (simp only [i64_w, i32_w]; rw [c27b0]) | skip)
         have H' := Aside0.mk H
         clear H
         have hnb28 := NB1047_1042.out
         have hnc28 := NB1042_1047.out
         have hnb29 := NB1047_1051.out
         have hnc29 := NB1051_1047.out
         have hcz30_0 := b0 BK1047
         have hcz30_1 := b1 BK1047
         have hcz30_2 := b2 BK1047
         have hcz30_3 := b3 BK1047
         have hcz30_4 := b4 BK1047
         have hcz30_5 := b5 BK1047
         have hcz30_6 := b6 BK1047
         have hcz30_7 := b7 BK1047
         have hcz30_8 := b8 BK1047
         have hcz30_9 := b9 BK1047
         have hfz30_0 := blk_frozen BK1047.out 0
         have hfz30_1 := blk_frozen BK1047.out 1
         have hfz30_2 := blk_frozen BK1047.out 2
         have hfz30_3 := blk_frozen BK1047.out 3
         have hfz30_4 := blk_frozen BK1047.out 4
         have hfz30_5 := blk_frozen BK1047.out 5
         have hfz30_6 := blk_frozen BK1047.out 6
         have hfz30_7 := blk_frozen BK1047.out 7
         have hfz30_8 := blk_frozen BK1047.out 8
         have hfz30_9 := blk_frozen BK1047.out 9
         have hnb31 := NB1051_1042.out
         have hnc31 := NB1042_1051.out
         have hcz32_0 := b0 BK1051
         have hcz32_1 := b1 BK1051
         have hcz32_2 := b2 BK1051
         have hfz32_0 := blk_frozen BK1051.out 0
         have hfz32_1 := blk_frozen BK1051.out 1
         have hfz32_2 := blk_frozen BK1051.out 2
         go_wp2
         go_meet
         case rel => exact ⟨_, (true), (by first | rfl | (simp; done) | (simp [*]; done)), H', ⟨by have := HK1.out; first | omega | exact Nat.le_refl _⟩, ⟨by (with_reducible repeat (first | apply Kd.R_alloc | apply Kd.R_drewN | apply Kd.R_drew)); exact Kd.R_mono (Kd.R_far (p := ⟨gb1051, 2, none⟩) (Kd.R_far (p := ⟨gb1051, 1, none⟩) (Kd.R_far (p := ⟨gb1051, 0, none⟩) (Kd.R_types HO_30.out BK1051.out (by decide)) (fun _ hk => hk.2) (.int .i64 t1048)) (fun _ hk => hk.2) (.int .i64 t1049)) (fun _ hk => hk.2) (.int .i64 t1050)) (fun _ hk => hk.1.2)⟩, ⟨qB BK1042⟩, ⟨qB BK1047⟩, ⟨by (with_reducible repeat (first | refine blk_drewN ?_ _ | refine blk_drew ?_ | refine blk_alloc ?_ _)); refine blk_put (cs := #[.int .i64 t1048, .int .i64 t1049, .int .i64 0]) ?_ 2 _ rfl; (with_reducible repeat (first | refine blk_drewN ?_ _ | refine blk_drew ?_ | refine blk_alloc ?_ _)); refine blk_put (cs := #[.int .i64 t1048, .int .i64 0, .int .i64 0]) ?_ 1 _ rfl; (with_reducible repeat (first | refine blk_drewN ?_ _ | refine blk_drew ?_ | refine blk_alloc ?_ _)); refine blk_put (cs := #[.int .i64 0, .int .i64 0, .int .i64 0]) ?_ 0 _ rfl; (with_reducible repeat (first | refine blk_drewN ?_ _ | refine blk_drew ?_ | refine blk_alloc ?_ _)); exact BK1051.out⟩, ⟨(qs HB)⟩⟩
        rw [if_neg c27] at H
        have c27b0 : decide (((rd_T86 t1043 x32_1).f1.f0) < t1048) = false := decide_eq_false c27
        clear c27
        (first | rw [c27b0] | (simp only [i64_w, i32_w]; rw [c27b0]) | skip)
        by_cases c33 : ((rd_T86 t1043 x32_1).f1.f0) > t1049
        ·rw [if_pos c33] at H
         have c33b0 : decide (t1049 < ((rd_T86 t1043 x32_1).f1.f0)) = true := decide_eq_true c33
         clear c33
         have H' := Aside0.mk H
         clear H
         have hnb34 := NB1047_1042.out
         have hnc34 := NB1042_1047.out
         have hnb35 := NB1047_1051.out
         have hnc35 := NB1051_1047.out
         have hcz36_0 := b0 BK1047
         have hcz36_1 := b1 BK1047
         have hcz36_2 := b2 BK1047
         have hcz36_3 := b3 BK1047
         have hcz36_4 := b4 BK1047
         have hcz36_5 := b5 BK1047
         have hcz36_6 := b6 BK1047
         have hcz36_7 := b7 BK1047
         have hcz36_8 := b8 BK1047
         have hcz36_9 := b9 BK1047
         have hfz36_0 := blk_frozen BK1047.out 0
         have hfz36_1 := blk_frozen BK1047.out 1
         have hfz36_2 := blk_frozen BK1047.out 2
         have hfz36_3 := blk_frozen BK1047.out 3
         have hfz36_4 := blk_frozen BK1047.out 4
         have hfz36_5 := blk_frozen BK1047.out 5
         have hfz36_6 := blk_frozen BK1047.out 6
         have hfz36_7 := blk_frozen BK1047.out 7
         have hfz36_8 := blk_frozen BK1047.out 8
         have hfz36_9 := blk_frozen BK1047.out 9
         have hnb37 := NB1051_1042.out
         have hnc37 := NB1042_1051.out
         have hcz38_0 := b0 BK1051
         have hcz38_1 := b1 BK1051
         have hcz38_2 := b2 BK1051
         have hfz38_0 := blk_frozen BK1051.out 0
         have hfz38_1 := blk_frozen BK1051.out 1
         have hfz38_2 := blk_frozen BK1051.out 2
         go_wp2
         go_meet
         case rel => exact ⟨_, (true), (by first | rfl | (simp; done) | (simp [*]; done)), H', ⟨by have := HK1.out; first | omega | exact Nat.le_refl _⟩, ⟨by (with_reducible repeat (first | apply Kd.R_alloc | apply Kd.R_drewN | apply Kd.R_drew)); exact Kd.R_mono (Kd.R_far (p := ⟨gb1051, 2, none⟩) (Kd.R_far (p := ⟨gb1051, 1, none⟩) (Kd.R_far (p := ⟨gb1051, 0, none⟩) (Kd.R_types HO_30.out BK1051.out (by decide)) (fun _ hk => hk.2) (.int .i64 t1048)) (fun _ hk => hk.2) (.int .i64 t1049)) (fun _ hk => hk.2) (.int .i64 t1050)) (fun _ hk => hk.1.2)⟩, ⟨qB BK1042⟩, ⟨qB BK1047⟩, ⟨by (with_reducible repeat (first | refine blk_drewN ?_ _ | refine blk_drew ?_ | refine blk_alloc ?_ _)); refine blk_put (cs := #[.int .i64 t1048, .int .i64 t1049, .int .i64 0]) ?_ 2 _ rfl; (with_reducible repeat (first | refine blk_drewN ?_ _ | refine blk_drew ?_ | refine blk_alloc ?_ _)); refine blk_put (cs := #[.int .i64 t1048, .int .i64 0, .int .i64 0]) ?_ 1 _ rfl; (with_reducible repeat (first | refine blk_drewN ?_ _ | refine blk_drew ?_ | refine blk_alloc ?_ _)); refine blk_put (cs := #[.int .i64 0, .int .i64 0, .int .i64 0]) ?_ 0 _ rfl; (with_reducible repeat (first | refine blk_drewN ?_ _ | refine blk_drew ?_ | refine blk_alloc ?_ _)); exact BK1051.out⟩, ⟨(qs HB)⟩⟩
        rw [if_neg c33] at H
        have c33b0 : decide (t1049 < ((rd_T86 t1043 x32_1).f1.f0)) = false := decide_eq_false c33
        clear c33
        have H' := Aside0.mk H
        clear H
        have hnb39 := NB1047_1042.out
        have hnc39 := NB1042_1047.out
        have hnb40 := NB1047_1051.out
        have hnc40 := NB1051_1047.out
        have hcz41_0 := b0 BK1047
        have hcz41_1 := b1 BK1047
        have hcz41_2 := b2 BK1047
        have hcz41_3 := b3 BK1047
        have hcz41_4 := b4 BK1047
        have hcz41_5 := b5 BK1047
        have hcz41_6 := b6 BK1047
        have hcz41_7 := b7 BK1047
        have hcz41_8 := b8 BK1047
        have hcz41_9 := b9 BK1047
        have hfz41_0 := blk_frozen BK1047.out 0
        have hfz41_1 := blk_frozen BK1047.out 1
        have hfz41_2 := blk_frozen BK1047.out 2
        have hfz41_3 := blk_frozen BK1047.out 3
        have hfz41_4 := blk_frozen BK1047.out 4
        have hfz41_5 := blk_frozen BK1047.out 5
        have hfz41_6 := blk_frozen BK1047.out 6
        have hfz41_7 := blk_frozen BK1047.out 7
        have hfz41_8 := blk_frozen BK1047.out 8
        have hfz41_9 := blk_frozen BK1047.out 9
        have hnb42 := NB1051_1042.out
        have hnc42 := NB1042_1051.out
        have hcz43_0 := b0 BK1051
        have hcz43_1 := b1 BK1051
        have hcz43_2 := b2 BK1051
        have hfz43_0 := blk_frozen BK1051.out 0
        have hfz43_1 := blk_frozen BK1051.out 1
        have hfz43_2 := blk_frozen BK1051.out 2
        have hcz44_0 := b0 BK1042
        have hcz44_1 := b1 BK1042
        have hcz44_2 := b2 BK1042
        have hfz44_0 := blk_frozen BK1042.out 0
        have hfz44_1 := blk_frozen BK1042.out 1
        have hfz44_2 := blk_frozen BK1042.out 2
        go_wp2
        go_meet
        case rel => exact ⟨_, ((t1050 != (wrap64 (((rd_T86 t1043 x32_1).f0.f3) + t1033)))), (by first | rfl | (simp; done) | (simp [*]; done)), H', ⟨by have := HK1.out; first | omega | exact Nat.le_refl _⟩, ⟨by (with_reducible repeat (first | apply Kd.R_alloc | apply Kd.R_drewN | apply Kd.R_drew)); exact Kd.R_mono (Kd.R_far (p := ⟨gb1051, 2, none⟩) (Kd.R_far (p := ⟨gb1051, 1, none⟩) (Kd.R_far (p := ⟨gb1051, 0, none⟩) (Kd.R_types HO_30.out BK1051.out (by decide)) (fun _ hk => hk.2) (.int .i64 t1048)) (fun _ hk => hk.2) (.int .i64 t1049)) (fun _ hk => hk.2) (.int .i64 t1050)) (fun _ hk => hk.1.2)⟩, ⟨qB BK1042⟩, ⟨qB BK1047⟩, ⟨by (with_reducible repeat (first | refine blk_drewN ?_ _ | refine blk_drew ?_ | refine blk_alloc ?_ _)); refine blk_put (cs := #[.int .i64 t1048, .int .i64 t1049, .int .i64 0]) ?_ 2 _ rfl; (with_reducible repeat (first | refine blk_drewN ?_ _ | refine blk_drew ?_ | refine blk_alloc ?_ _)); refine blk_put (cs := #[.int .i64 t1048, .int .i64 0, .int .i64 0]) ?_ 1 _ rfl; (with_reducible repeat (first | refine blk_drewN ?_ _ | refine blk_drew ?_ | refine blk_alloc ?_ _)); refine blk_put (cs := #[.int .i64 0, .int .i64 0, .int .i64 0]) ?_ 0 _ rfl; (with_reducible repeat (first | refine blk_drewN ?_ _ | refine blk_drew ?_ | refine blk_alloc ?_ _)); exact BK1051.out⟩, ⟨(qs HB)⟩⟩
       case rest =>
        clear HC17
        try clear c1; try clear p1; try clear q1; try clear hx1; try clear c2; try clear c2b0; try clear c2b1; try clear p2; try clear c3; try clear c4; try clear c5; try clear c5b0; try clear c5b1; try clear p6; try clear c8; try clear p10; try clear q10; try clear hx10; try clear c13; try clear c13b0; try clear c14; try clear c14b0; try clear c15; try clear c15b0; try clear c19; try clear c24; try clear c25; try clear c27; try clear c27b0; try clear c28; try clear c29; try clear c31; try clear c33; try clear c33b0; try clear c34; try clear c35; try clear c37; try clear c38; try clear c39; try clear c40; try clear c42; try clear hcz20_0; try clear hcz20_1; try clear hcz20_2; try clear hcz20_3; try clear hcz20_4; try clear hcz20_5; try clear hcz20_6; try clear hcz20_7; try clear hcz20_8; try clear hcz20_9; try clear hcz21_0; try clear hcz21_1; try clear hcz21_2; try clear hcz26_0; try clear hcz26_1; try clear hcz26_2; try clear hcz30_0; try clear hcz30_1; try clear hcz30_2; try clear hcz30_3; try clear hcz30_4; try clear hcz30_5; try clear hcz30_6; try clear hcz30_7; try clear hcz30_8; try clear hcz30_9; try clear hcz32_0; try clear hcz32_1; try clear hcz32_2; try clear hcz36_0; try clear hcz36_1; try clear hcz36_2; try clear hcz36_3; try clear hcz36_4; try clear hcz36_5; try clear hcz36_6; try clear hcz36_7; try clear hcz36_8; try clear hcz36_9; try clear hcz38_0; try clear hcz38_1; try clear hcz38_2; try clear hcz41_0; try clear hcz41_1; try clear hcz41_2; try clear hcz41_3; try clear hcz41_4; try clear hcz41_5; try clear hcz41_6; try clear hcz41_7; try clear hcz41_8; try clear hcz41_9; try clear hcz43_0; try clear hcz43_1; try clear hcz43_2; try clear hcz44_0; try clear hcz44_1; try clear hcz44_2; try clear hcz8_0; try clear hcz8_1; try clear hcz8_2; try clear hfz20_0; try clear hfz20_1; try clear hfz20_2; try clear hfz20_3; try clear hfz20_4; try clear hfz20_5; try clear hfz20_6; try clear hfz20_7; try clear hfz20_8; try clear hfz20_9; try clear hfz21_0; try clear hfz21_1; try clear hfz21_2; try clear hfz26_0; try clear hfz26_1; try clear hfz26_2; try clear hfz30_0; try clear hfz30_1; try clear hfz30_2; try clear hfz30_3; try clear hfz30_4; try clear hfz30_5; try clear hfz30_6; try clear hfz30_7; try clear hfz30_8; try clear hfz30_9; try clear hfz32_0; try clear hfz32_1; try clear hfz32_2; try clear hfz36_0; try clear hfz36_1; try clear hfz36_2; try clear hfz36_3; try clear hfz36_4; try clear hfz36_5; try clear hfz36_6; try clear hfz36_7; try clear hfz36_8; try clear hfz36_9; try clear hfz38_0; try clear hfz38_1; try clear hfz38_2; try clear hfz41_0; try clear hfz41_1; try clear hfz41_2; try clear hfz41_3; try clear hfz41_4; try clear hfz41_5; try clear hfz41_6; try clear hfz41_7; try clear hfz41_8; try clear hfz41_9; try clear hfz43_0; try clear hfz43_1; try clear hfz43_2; try clear hfz44_0; try clear hfz44_1; try clear hfz44_2; try clear hfz8_0; try clear hfz8_1; try clear hfz8_2; try clear hx1046_0; try clear hx1046_1; try clear hx1046_2; try clear hx1046_3; try clear hx1046_4; try clear hx1046_5; try clear hx1046_6; try clear hx1046_7; try clear hx1046_8; try clear hx1046_9; try clear p1046; try clear p2; try clear q1046
        obtain ⟨kq, x65_16, rfl, HA, HJ16, HO_30, BK1042, BK1047, BK1051, HB⟩ := hcut
        cases kq with
        | zero => exact absurd HA.out (by simp [laws_FnHas.j1])
        | succ kj16 =>
         have H := HA.out
         clear HA
         simp only [laws_FnHas.j1] at H
         by_cases c45 : x65_16 = true
         ·subst c45
          have H1 : (some false) = some true := by rw [if_pos rfl] at H; exact H
          clear H; have H := H1; clear H1
          exact absurd H (by simp)
         replace c45 := Bool.eq_false_iff.mpr c45
         subst c45
         have H1 : (if (wrap64 (x32_1 + 1)) > t1050 then ((impl_TrainSilent.f t1032 t1033 t1034 (wrap64 (x32_1 + 1)) ((rd_T86 t1043 x32_1).f1.f0) ((rd_T86 t1043 x32_1).f1.f1) ((rd_T86 t1043 x32_1).f1.f2)).bind fun t1052 => (if t1052 = true then ((impl_TrainSilent.f t1032 t1033 t1034 (wrap64 (x32_1 + 1)) ((rd_T86 t1043 x32_1).f1.f0) ((rd_T86 t1043 x32_1).f1.f1) ((rd_T86 t1043 x32_1).f1.f2)).bind fun t1053 => (if (t1053 != (decide ((wrap64 ((wrap64 (x32_1 + 1)) - ((rd_T86 t1043 x32_1).f1.f2))) > t1033))) = true then (some false) else ((impl_BoxSilent.f t1032 t1033 t1034 (wrap64 (x32_1 + 1)) ((rd_T86 t1043 x32_1).f0.f0) ((rd_T86 t1043 x32_1).f0.f1) ((rd_T86 t1043 x32_1).f0.f2) ((rd_T86 t1043 x32_1).f0.f3) ((rd_T86 t1043 x32_1).f0.f4)).bind fun t1054 => (if (t1054 != (decide ((wrap64 ((wrap64 (x32_1 + 1)) - ((rd_T86 t1043 x32_1).f0.f4))) > t1033))) = true then (some false) else (laws_FnHas.l0 kj16 t1043 (t1043.length : Int) (wrap64 (x32_1 + 1)) t1032 t1033 t1034))))) else (some false))) else ((impl_TrainSilent.f t1032 t1033 t1034 (wrap64 (x32_1 + 1)) ((rd_T86 t1043 x32_1).f1.f0) ((rd_T86 t1043 x32_1).f1.f1) ((rd_T86 t1043 x32_1).f1.f2)).bind fun t1055 => (if (t1055 != (decide ((wrap64 ((wrap64 (x32_1 + 1)) - ((rd_T86 t1043 x32_1).f1.f2))) > t1033))) = true then (some false) else ((impl_BoxSilent.f t1032 t1033 t1034 (wrap64 (x32_1 + 1)) ((rd_T86 t1043 x32_1).f0.f0) ((rd_T86 t1043 x32_1).f0.f1) ((rd_T86 t1043 x32_1).f0.f2) ((rd_T86 t1043 x32_1).f0.f3) ((rd_T86 t1043 x32_1).f0.f4)).bind fun t1056 => (if (t1056 != (decide ((wrap64 ((wrap64 (x32_1 + 1)) - ((rd_T86 t1043 x32_1).f0.f4))) > t1033))) = true then (some false) else (laws_FnHas.l0 kj16 t1043 (t1043.length : Int) (wrap64 (x32_1 + 1)) t1032 t1033 t1034)))))) = some true := by rw [if_neg (show ¬ (false = true) by decide)] at H; exact H
         clear H; have H := H1; clear H1
         by_cases c46 : (wrap64 (x32_1 + 1)) > t1050
         ·rw [if_pos c46] at H
          have c46b0 : decide (t1050 < (wrap64 (x32_1 + 1))) = true := decide_eq_true c46
          clear c46
          replace H := Option.bind_eq_some_iff.mp H
          obtain ⟨t1052, A470, H⟩ := H
          replace H : (if t1052 = true then ((impl_TrainSilent.f t1032 t1033 t1034 (wrap64 (x32_1 + 1)) ((rd_T86 t1043 x32_1).f1.f0) ((rd_T86 t1043 x32_1).f1.f1) ((rd_T86 t1043 x32_1).f1.f2)).bind fun t1053 => (if (t1053 != (decide ((wrap64 ((wrap64 (x32_1 + 1)) - ((rd_T86 t1043 x32_1).f1.f2))) > t1033))) = true then (some false) else ((impl_BoxSilent.f t1032 t1033 t1034 (wrap64 (x32_1 + 1)) ((rd_T86 t1043 x32_1).f0.f0) ((rd_T86 t1043 x32_1).f0.f1) ((rd_T86 t1043 x32_1).f0.f2) ((rd_T86 t1043 x32_1).f0.f3) ((rd_T86 t1043 x32_1).f0.f4)).bind fun t1054 => (if (t1054 != (decide ((wrap64 ((wrap64 (x32_1 + 1)) - ((rd_T86 t1043 x32_1).f0.f4))) > t1033))) = true then (some false) else (laws_FnHas.l0 kj16 t1043 (t1043.length : Int) (wrap64 (x32_1 + 1)) t1032 t1033 t1034))))) else (some false)) = some true := H
          have A47 := Aside0.mk A470
          clear A470
          by_cases c48 : t1052 = true
          ·subst c48
           have H1 : ((impl_TrainSilent.f t1032 t1033 t1034 (wrap64 (x32_1 + 1)) ((rd_T86 t1043 x32_1).f1.f0) ((rd_T86 t1043 x32_1).f1.f1) ((rd_T86 t1043 x32_1).f1.f2)).bind fun t1053 => (if (t1053 != (decide ((wrap64 ((wrap64 (x32_1 + 1)) - ((rd_T86 t1043 x32_1).f1.f2))) > t1033))) = true then (some false) else ((impl_BoxSilent.f t1032 t1033 t1034 (wrap64 (x32_1 + 1)) ((rd_T86 t1043 x32_1).f0.f0) ((rd_T86 t1043 x32_1).f0.f1) ((rd_T86 t1043 x32_1).f0.f2) ((rd_T86 t1043 x32_1).f0.f3) ((rd_T86 t1043 x32_1).f0.f4)).bind fun t1054 => (if (t1054 != (decide ((wrap64 ((wrap64 (x32_1 + 1)) - ((rd_T86 t1043 x32_1).f0.f4))) > t1033))) = true then (some false) else (laws_FnHas.l0 kj16 t1043 (t1043.length : Int) (wrap64 (x32_1 + 1)) t1032 t1033 t1034))))) = some true := by rw [if_pos rfl] at H; exact H
           clear H; have H := H1; clear H1
           replace H := Option.bind_eq_some_iff.mp H
           obtain ⟨t1053, A490, H⟩ := H
           replace H : (if (t1053 != (decide ((wrap64 ((wrap64 (x32_1 + 1)) - ((rd_T86 t1043 x32_1).f1.f2))) > t1033))) = true then (some false) else ((impl_BoxSilent.f t1032 t1033 t1034 (wrap64 (x32_1 + 1)) ((rd_T86 t1043 x32_1).f0.f0) ((rd_T86 t1043 x32_1).f0.f1) ((rd_T86 t1043 x32_1).f0.f2) ((rd_T86 t1043 x32_1).f0.f3) ((rd_T86 t1043 x32_1).f0.f4)).bind fun t1054 => (if (t1054 != (decide ((wrap64 ((wrap64 (x32_1 + 1)) - ((rd_T86 t1043 x32_1).f0.f4))) > t1033))) = true then (some false) else (laws_FnHas.l0 kj16 t1043 (t1043.length : Int) (wrap64 (x32_1 + 1)) t1032 t1033 t1034)))) = some true := H
           have A49 := Aside0.mk A490
           clear A490
           by_cases c50 : (t1053 != (decide ((wrap64 ((wrap64 (x32_1 + 1)) - ((rd_T86 t1043 x32_1).f1.f2))) > t1033))) = true
           ·rw [if_pos c50] at H
            have c50b0 : (t1053 != (decide ((wrap64 ((wrap64 (x32_1 + 1)) - ((rd_T86 t1043 x32_1).f1.f2))) > t1033))) = true := c50
            (try (have c50b1 : decide (t1053 = (decide ((wrap64 ((wrap64 (x32_1 + 1)) - ((rd_T86 t1043 x32_1).f1.f2))) > t1033))) = false := by simpa using c50))
            (try (have c50b2 : (t1053 == (decide ((wrap64 ((wrap64 (x32_1 + 1)) - ((rd_T86 t1043 x32_1).f1.f2))) > t1033))) = false := by simpa using c50))
            (try (have c50b3 : ¬ (t1053 = (decide ((wrap64 ((wrap64 (x32_1 + 1)) - ((rd_T86 t1043 x32_1).f1.f2))) > t1033))) := by simpa using c50))
            clear c50
            exact absurd H (by simp)
           rw [if_neg c50] at H
           have c50b0 : (t1053 != (decide ((wrap64 ((wrap64 (x32_1 + 1)) - ((rd_T86 t1043 x32_1).f1.f2))) > t1033))) = false := by simpa using c50
           (try (have c50b1 : decide (t1053 = (decide ((wrap64 ((wrap64 (x32_1 + 1)) - ((rd_T86 t1043 x32_1).f1.f2))) > t1033))) = true := by simpa using c50))
           (try (have c50b2 : (t1053 == (decide ((wrap64 ((wrap64 (x32_1 + 1)) - ((rd_T86 t1043 x32_1).f1.f2))) > t1033))) = true := by simpa using c50))
           clear c50
           replace H := Option.bind_eq_some_iff.mp H
           obtain ⟨t1054, A510, H⟩ := H
           replace H : (if (t1054 != (decide ((wrap64 ((wrap64 (x32_1 + 1)) - ((rd_T86 t1043 x32_1).f0.f4))) > t1033))) = true then (some false) else (laws_FnHas.l0 kj16 t1043 (t1043.length : Int) (wrap64 (x32_1 + 1)) t1032 t1033 t1034)) = some true := H
           have A51 := Aside0.mk A510
           clear A510
           by_cases c52 : (t1054 != (decide ((wrap64 ((wrap64 (x32_1 + 1)) - ((rd_T86 t1043 x32_1).f0.f4))) > t1033))) = true
           ·rw [if_pos c52] at H
            have c52b0 : (t1054 != (decide ((wrap64 ((wrap64 (x32_1 + 1)) - ((rd_T86 t1043 x32_1).f0.f4))) > t1033))) = true := c52
            (try (have c52b1 : decide (t1054 = (decide ((wrap64 ((wrap64 (x32_1 + 1)) - ((rd_T86 t1043 x32_1).f0.f4))) > t1033))) = false := by simpa using c52))
            (try (have c52b2 : (t1054 == (decide ((wrap64 ((wrap64 (x32_1 + 1)) - ((rd_T86 t1043 x32_1).f0.f4))) > t1033))) = false := by simpa using c52))
            (try (have c52b3 : ¬ (t1054 = (decide ((wrap64 ((wrap64 (x32_1 + 1)) - ((rd_T86 t1043 x32_1).f0.f4))) > t1033))) := by simpa using c52))
            clear c52
            exact absurd H (by simp)
           rw [if_neg c52] at H
           have c52b0 : (t1054 != (decide ((wrap64 ((wrap64 (x32_1 + 1)) - ((rd_T86 t1043 x32_1).f0.f4))) > t1033))) = false := by simpa using c52
           (try (have c52b1 : decide (t1054 = (decide ((wrap64 ((wrap64 (x32_1 + 1)) - ((rd_T86 t1043 x32_1).f0.f4))) > t1033))) = true := by simpa using c52))
           (try (have c52b2 : (t1054 == (decide ((wrap64 ((wrap64 (x32_1 + 1)) - ((rd_T86 t1043 x32_1).f0.f4))) > t1033))) = true := by simpa using c52))
           clear c52
           have H' := Aside0.mk H
           clear H
           try go_wp2
           replace HO_30 := Aside0.mk (Kd.R_drew HO_30.out); replace BK1042 := Aside0.mk (blk_drew BK1042.out); replace BK1047 := Aside0.mk (blk_drew BK1047.out); replace BK1051 := Aside0.mk (blk_drew BK1051.out); replace HB := Aside0.mk (below_drew1 HB.out)
           refine start_ (n := 50) (S := fun w' => w'.cell? ⟨gb1051, 0, none⟩ = some (.int .i64 t1048) ∧ w'.cell? ⟨gb1051, 1, none⟩ = some (.int .i64 t1049) ∧ w'.cell? ⟨gb1051, 2, none⟩ = some (.int .i64 t1050) ∧ w'.cell? ⟨gb1042, 0, none⟩ = some (.int .i64 t1032) ∧ w'.cell? ⟨gb1042, 1, none⟩ = some (.int .i64 t1033) ∧ w'.cell? ⟨gb1042, 2, none⟩ = some (.int .i64 t1034) ∧ w'.cell? ⟨gb1047, 0, none⟩ = some (.int .i64 ((rd_T86 t1043 x32_1).f0.f0)) ∧ w'.cell? ⟨gb1047, 1, none⟩ = some (.int .i64 ((rd_T86 t1043 x32_1).f0.f1)) ∧ w'.cell? ⟨gb1047, 2, none⟩ = some (.int .i64 ((rd_T86 t1043 x32_1).f0.f2)) ∧ w'.cell? ⟨gb1047, 3, none⟩ = some (.int .i64 ((rd_T86 t1043 x32_1).f0.f3)) ∧ w'.cell? ⟨gb1047, 4, none⟩ = some (.int .i64 ((rd_T86 t1043 x32_1).f0.f4)) ∧ w'.cell? ⟨gb1047, 5, none⟩ = some (.int .i64 ((rd_T86 t1043 x32_1).f1.f0)) ∧ w'.cell? ⟨gb1047, 6, none⟩ = some (.int .i64 ((rd_T86 t1043 x32_1).f1.f1)) ∧ w'.cell? ⟨gb1047, 7, none⟩ = some (.int .i64 ((rd_T86 t1043 x32_1).f1.f2)) ∧ w'.cell? ⟨gb1047, 8, none⟩ = some (.int .i64 ((rd_T86 t1043 x32_1).f2)) ∧ w'.cell? ⟨gb1047, 9, none⟩ = some (.int .i64 ((rd_T86 t1043 x32_1).f3))) (ds := []) #[false, false, false, false, false, false, false, false, false, false, false, false, false, false, false, false, false, false, false, false, false, false, false, false, false, false, false, false, false, false, false, false, false, false, false, false, false, false, false, false, false, false, false, false, false, false, false, false, false, false] (by kernel_rfl) rfl rfl ⟨bc BK1051 0, bc BK1051 1, bc BK1051 2, bc BK1042 0, bc BK1042 1, bc BK1042 2, bc BK1047 0, bc BK1047 1, bc BK1047 2, bc BK1047 3, bc BK1047 4, bc BK1047 5, bc BK1047 6, bc BK1047 7, bc BK1047 8, bc BK1047 9⟩ (fun hHeld => ?_); refine with_tabW laws_FnHas.tab13 laws_FnHas.bits13 (fun HT_ HW_ => ?_)
           generalize wc.drew = w53 at HO_30 BK1042 BK1047 BK1051 HB hHeld ⊢
           refine pureA 0 66 #[true, false, false, false, false, false, false, false, false, false, false, false, false, false, false, false, false, false, false, false, false, false, false, false, false, false, false, false, false, false, false, false, false, false, false, false, false, false, false, false, false, false, false, false, false, false, false, false, false, false] (any_of HT_.out (by kernel_rfl)) ?_
           refine pureA 1 67 #[true, true, false, false, false, false, false, false, false, false, false, false, false, false, false, false, false, false, false, false, false, false, false, false, false, false, false, false, false, false, false, false, false, false, false, false, false, false, false, false, false, false, false, false, false, false, false, false, false, false] (any_of HT_.out (by kernel_rfl)) ?_
           refine pureA 2 68 #[true, true, true, false, false, false, false, false, false, false, false, false, false, false, false, false, false, false, false, false, false, false, false, false, false, false, false, false, false, false, false, false, false, false, false, false, false, false, false, false, false, false, false, false, false, false, false, false, false, false] (any_of HT_.out (by kernel_rfl)) ?_
           refine takeA 3 69 #[true, true, true, true, false, false, false, false, false, false, false, false, false, false, false, false, false, false, false, false, false, false, false, false, false, false, false, false, false, false, false, false, false, false, false, false, false, false, false, false, false, false, false, false, false, false, false, false, false, false] (take_ofW HT_.out HW_.out (by kernel_rfl)) hHeld ?_
           refine pureA 4 70 #[true, true, true, true, true, false, false, false, false, false, false, false, false, false, false, false, false, false, false, false, false, false, false, false, false, false, false, false, false, false, false, false, false, false, false, false, false, false, false, false, false, false, false, false, false, false, false, false, false, false] (any_of HT_.out (by kernel_rfl)) ?_
           refine pureA 5 71 #[true, true, true, true, true, true, false, false, false, false, false, false, false, false, false, false, false, false, false, false, false, false, false, false, false, false, false, false, false, false, false, false, false, false, false, false, false, false, false, false, false, false, false, false, false, false, false, false, false, false] (any_of HT_.out (by kernel_rfl)) ?_
           refine pureA 7 73 #[true, true, true, true, true, true, false, true, false, false, false, false, false, false, false, false, false, false, false, false, false, false, false, false, false, false, false, false, false, false, false, false, false, false, false, false, false, false, false, false, false, false, false, false, false, false, false, false, false, false] (any_of HT_.out (by kernel_rfl)) ?_
           refine pureA 8 74 #[true, true, true, true, true, true, false, true, true, false, false, false, false, false, false, false, false, false, false, false, false, false, false, false, false, false, false, false, false, false, false, false, false, false, false, false, false, false, false, false, false, false, false, false, false, false, false, false, false, false] (any_of HT_.out (by kernel_rfl)) ?_
           refine pureA 9 75 #[true, true, true, true, true, true, false, true, true, true, false, false, false, false, false, false, false, false, false, false, false, false, false, false, false, false, false, false, false, false, false, false, false, false, false, false, false, false, false, false, false, false, false, false, false, false, false, false, false, false] (any_of HT_.out (by kernel_rfl)) ?_
           refine takeA 6 72 #[true, true, true, true, true, true, true, true, true, true, false, false, false, false, false, false, false, false, false, false, false, false, false, false, false, false, false, false, false, false, false, false, false, false, false, false, false, false, false, false, false, false, false, false, false, false, false, false, false, false] (take_ofW HT_.out HW_.out (by kernel_rfl)) hHeld ?_
           refine takeA 10 76 #[true, true, true, true, true, true, true, true, true, true, true, false, false, false, false, false, false, false, false, false, false, false, false, false, false, false, false, false, false, false, false, false, false, false, false, false, false, false, false, false, false, false, false, false, false, false, false, false, false, false] (take_ofW HT_.out HW_.out (by kernel_rfl)) hHeld ?_
           refine one_ (i := 11) (N := some 77) #[true, true, true, true, true, true, true, true, true, true, true, true, false, false, false, false, false, false, false, false, false, false, false, false, false, false, false, false, false, false, false, false, false, false, false, false, false, false, false, false, false, false, false, false, false, false, false, false, false, false] rfl rfl (one_of HT_.out (by kernel_rfl)) (by decide) (fun K hK => ?_)
           refine goesA Try.func48 #[.agg #[.int .i64 t1032, .int .i64 t1033, .int .i64 t1034], .int .i64 (wrap64 (x32_1 + 1)), .agg #[.int .i64 ((rd_T86 t1043 x32_1).f1.f0), .int .i64 ((rd_T86 t1043 x32_1).f1.f1), .int .i64 ((rd_T86 t1043 x32_1).f1.f2)]] ?_
           with_reducible refine (impl_TrainSilent.calls t1032 t1033 t1034 (wrap64 (x32_1 + 1)) ((rd_T86 t1043 x32_1).f1.f0) ((rd_T86 t1043 x32_1).f1.f1) ((rd_T86 t1043 x32_1).f1.f2) true _ A47.out).mono ?_
           rintro e w54 ⟨rfl, hb⟩
           refine ⟨_, rfl, ?_⟩
           replace HO_30 := rbl HO_30 hb; replace BK1042 := bkb BK1042 hb; replace BK1047 := bkb BK1047 hb; replace BK1051 := bkb BK1051 hb; replace HB := bst HB hb; clear hb
           refine hK.out _ _ ⟨bc BK1051 0, bc BK1051 1, bc BK1051 2, bc BK1042 0, bc BK1042 1, bc BK1042 2, bc BK1047 0, bc BK1047 1, bc BK1047 2, bc BK1047 3, bc BK1047 4, bc BK1047 5, bc BK1047 6, bc BK1047 7, bc BK1047 8, bc BK1047 9⟩ (fun hHeld => ?_)
           clear hK K
           refine normP ?_
           refine pureA 12 78 #[true, true, true, true, true, true, true, true, true, true, true, true, true, false, false, false, false, false, false, false, false, false, false, false, false, false, false, false, false, false, false, false, false, false, false, false, false, false, false, false, false, false, false, false, false, false, false, false, false, false] (any_of HT_.out (by kernel_rfl)) ?_
           refine pureA 13 79 #[true, true, true, true, true, true, true, true, true, true, true, true, true, true, false, false, false, false, false, false, false, false, false, false, false, false, false, false, false, false, false, false, false, false, false, false, false, false, false, false, false, false, false, false, false, false, false, false, false, false] (any_of HT_.out (by kernel_rfl)) ?_
           refine pureA 14 80 #[true, true, true, true, true, true, true, true, true, true, true, true, true, true, true, false, false, false, false, false, false, false, false, false, false, false, false, false, false, false, false, false, false, false, false, false, false, false, false, false, false, false, false, false, false, false, false, false, false, false] (any_of HT_.out (by kernel_rfl)) ?_
           refine pureA 16 82 #[true, true, true, true, true, true, true, true, true, true, true, true, true, true, true, false, true, false, false, false, false, false, false, false, false, false, false, false, false, false, false, false, false, false, false, false, false, false, false, false, false, false, false, false, false, false, false, false, false, false] (any_of HT_.out (by kernel_rfl)) ?_
           refine pureA 17 83 #[true, true, true, true, true, true, true, true, true, true, true, true, true, true, true, false, true, true, false, false, false, false, false, false, false, false, false, false, false, false, false, false, false, false, false, false, false, false, false, false, false, false, false, false, false, false, false, false, false, false] (any_of HT_.out (by kernel_rfl)) ?_
           refine pureA 18 84 #[true, true, true, true, true, true, true, true, true, true, true, true, true, true, true, false, true, true, true, false, false, false, false, false, false, false, false, false, false, false, false, false, false, false, false, false, false, false, false, false, false, false, false, false, false, false, false, false, false, false] (any_of HT_.out (by kernel_rfl)) ?_
           refine pureA 21 87 #[true, true, true, true, true, true, true, true, true, true, true, true, true, true, true, false, true, true, true, false, false, true, false, false, false, false, false, false, false, false, false, false, false, false, false, false, false, false, false, false, false, false, false, false, false, false, false, false, false, false] (any_of HT_.out (by kernel_rfl)) ?_
           refine pureA 22 88 #[true, true, true, true, true, true, true, true, true, true, true, true, true, true, true, false, true, true, true, false, false, true, true, false, false, false, false, false, false, false, false, false, false, false, false, false, false, false, false, false, false, false, false, false, false, false, false, false, false, false] (any_of HT_.out (by kernel_rfl)) ?_
           refine pureA 23 89 #[true, true, true, true, true, true, true, true, true, true, true, true, true, true, true, false, true, true, true, false, false, true, true, true, false, false, false, false, false, false, false, false, false, false, false, false, false, false, false, false, false, false, false, false, false, false, false, false, false, false] (any_of HT_.out (by kernel_rfl)) ?_
           refine pureA 24 90 #[true, true, true, true, true, true, true, true, true, true, true, true, true, true, true, false, true, true, true, false, false, true, true, true, true, false, false, false, false, false, false, false, false, false, false, false, false, false, false, false, false, false, false, false, false, false, false, false, false, false] (any_of HT_.out (by kernel_rfl)) ?_
           refine pureA 27 93 #[true, true, true, true, true, true, true, true, true, true, true, true, true, true, true, false, true, true, true, false, false, true, true, true, true, false, false, true, false, false, false, false, false, false, false, false, false, false, false, false, false, false, false, false, false, false, false, false, false, false] (any_of HT_.out (by kernel_rfl)) ?_
           refine takeA 15 81 #[true, true, true, true, true, true, true, true, true, true, true, true, true, true, true, true, true, true, true, false, false, true, true, true, true, false, false, true, false, false, false, false, false, false, false, false, false, false, false, false, false, false, false, false, false, false, false, false, false, false] (take_ofW HT_.out HW_.out (by kernel_rfl)) hHeld ?_
           refine takeA 19 85 #[true, true, true, true, true, true, true, true, true, true, true, true, true, true, true, true, true, true, true, true, false, true, true, true, true, false, false, true, false, false, false, false, false, false, false, false, false, false, false, false, false, false, false, false, false, false, false, false, false, false] (take_ofW HT_.out HW_.out (by kernel_rfl)) hHeld ?_
           refine takeA 25 91 #[true, true, true, true, true, true, true, true, true, true, true, true, true, true, true, true, true, true, true, true, false, true, true, true, true, true, false, true, false, false, false, false, false, false, false, false, false, false, false, false, false, false, false, false, false, false, false, false, false, false] (take_ofW HT_.out HW_.out (by kernel_rfl)) hHeld ?_
           refine pureA 26 92 #[true, true, true, true, true, true, true, true, true, true, true, true, true, true, true, true, true, true, true, true, false, true, true, true, true, true, true, true, false, false, false, false, false, false, false, false, false, false, false, false, false, false, false, false, false, false, false, false, false, false] (any_of HT_.out (by kernel_rfl)) ?_
           refine takeA 28 94 #[true, true, true, true, true, true, true, true, true, true, true, true, true, true, true, true, true, true, true, true, false, true, true, true, true, true, true, true, true, false, false, false, false, false, false, false, false, false, false, false, false, false, false, false, false, false, false, false, false, false] (take_ofW HT_.out HW_.out (by kernel_rfl)) hHeld ?_
           refine pureA 29 95 #[true, true, true, true, true, true, true, true, true, true, true, true, true, true, true, true, true, true, true, true, false, true, true, true, true, true, true, true, true, true, false, false, false, false, false, false, false, false, false, false, false, false, false, false, false, false, false, false, false, false] (any_of HT_.out (by kernel_rfl)) ?_
           refine one_ (i := 20) (N := some 86) #[true, true, true, true, true, true, true, true, true, true, true, true, true, true, true, true, true, true, true, true, true, true, true, true, true, true, true, true, true, true, false, false, false, false, false, false, false, false, false, false, false, false, false, false, false, false, false, false, false, false] rfl rfl (one_of HT_.out (by kernel_rfl)) (by decide) (fun K hK => ?_)
           refine goesA Try.func48 #[.agg #[.int .i64 t1032, .int .i64 t1033, .int .i64 t1034], .int .i64 (wrap64 (x32_1 + 1)), .agg #[.int .i64 ((rd_T86 t1043 x32_1).f1.f0), .int .i64 ((rd_T86 t1043 x32_1).f1.f1), .int .i64 ((rd_T86 t1043 x32_1).f1.f2)]] ?_
           with_reducible refine (impl_TrainSilent.calls t1032 t1033 t1034 (wrap64 (x32_1 + 1)) ((rd_T86 t1043 x32_1).f1.f0) ((rd_T86 t1043 x32_1).f1.f1) ((rd_T86 t1043 x32_1).f1.f2) t1053 _ A49.out).mono ?_
           rintro e w55 ⟨rfl, hb⟩
           refine ⟨_, rfl, ?_⟩
           replace HO_30 := rbl HO_30 hb; replace BK1042 := bkb BK1042 hb; replace BK1047 := bkb BK1047 hb; replace BK1051 := bkb BK1051 hb; replace HB := bst HB hb; clear hb
           refine hK.out _ _ ⟨bc BK1051 0, bc BK1051 1, bc BK1051 2, bc BK1042 0, bc BK1042 1, bc BK1042 2, bc BK1047 0, bc BK1047 1, bc BK1047 2, bc BK1047 3, bc BK1047 4, bc BK1047 5, bc BK1047 6, bc BK1047 7, bc BK1047 8, bc BK1047 9⟩ (fun hHeld => ?_)
           clear hK K
           refine normP ?_
           refine pureA 30 96 #[true, true, true, true, true, true, true, true, true, true, true, true, true, true, true, true, true, true, true, true, true, true, true, true, true, true, true, true, true, true, true, false, false, false, false, false, false, false, false, false, false, false, false, false, false, false, false, false, false, false] (any_of HT_.out (by kernel_rfl)) ?_
           refine pureA 31 97 #[true, true, true, true, true, true, true, true, true, true, true, true, true, true, true, true, true, true, true, true, true, true, true, true, true, true, true, true, true, true, true, true, false, false, false, false, false, false, false, false, false, false, false, false, false, false, false, false, false, false] (any_of HT_.out (by kernel_rfl)) ?_
           refine pureA 32 98 #[true, true, true, true, true, true, true, true, true, true, true, true, true, true, true, true, true, true, true, true, true, true, true, true, true, true, true, true, true, true, true, true, true, false, false, false, false, false, false, false, false, false, false, false, false, false, false, false, false, false] (any_of HT_.out (by kernel_rfl)) ?_
           refine pureA 34 100 #[true, true, true, true, true, true, true, true, true, true, true, true, true, true, true, true, true, true, true, true, true, true, true, true, true, true, true, true, true, true, true, true, true, false, true, false, false, false, false, false, false, false, false, false, false, false, false, false, false, false] (any_of HT_.out (by kernel_rfl)) ?_
           refine pureA 35 101 #[true, true, true, true, true, true, true, true, true, true, true, true, true, true, true, true, true, true, true, true, true, true, true, true, true, true, true, true, true, true, true, true, true, false, true, true, false, false, false, false, false, false, false, false, false, false, false, false, false, false] (any_of HT_.out (by kernel_rfl)) ?_
           refine pureA 36 102 #[true, true, true, true, true, true, true, true, true, true, true, true, true, true, true, true, true, true, true, true, true, true, true, true, true, true, true, true, true, true, true, true, true, false, true, true, true, false, false, false, false, false, false, false, false, false, false, false, false, false] (any_of HT_.out (by kernel_rfl)) ?_
           refine pureA 39 105 #[true, true, true, true, true, true, true, true, true, true, true, true, true, true, true, true, true, true, true, true, true, true, true, true, true, true, true, true, true, true, true, true, true, false, true, true, true, false, false, true, false, false, false, false, false, false, false, false, false, false] (any_of HT_.out (by kernel_rfl)) ?_
           refine pureA 40 106 #[true, true, true, true, true, true, true, true, true, true, true, true, true, true, true, true, true, true, true, true, true, true, true, true, true, true, true, true, true, true, true, true, true, false, true, true, true, false, false, true, true, false, false, false, false, false, false, false, false, false] (any_of HT_.out (by kernel_rfl)) ?_
           refine pureA 41 107 #[true, true, true, true, true, true, true, true, true, true, true, true, true, true, true, true, true, true, true, true, true, true, true, true, true, true, true, true, true, true, true, true, true, false, true, true, true, false, false, true, true, true, false, false, false, false, false, false, false, false] (any_of HT_.out (by kernel_rfl)) ?_
           refine pureA 42 108 #[true, true, true, true, true, true, true, true, true, true, true, true, true, true, true, true, true, true, true, true, true, true, true, true, true, true, true, true, true, true, true, true, true, false, true, true, true, false, false, true, true, true, true, false, false, false, false, false, false, false] (any_of HT_.out (by kernel_rfl)) ?_
           refine pureA 45 111 #[true, true, true, true, true, true, true, true, true, true, true, true, true, true, true, true, true, true, true, true, true, true, true, true, true, true, true, true, true, true, true, true, true, false, true, true, true, false, false, true, true, true, true, false, false, true, false, false, false, false] (any_of HT_.out (by kernel_rfl)) ?_
           refine takeA 33 99 #[true, true, true, true, true, true, true, true, true, true, true, true, true, true, true, true, true, true, true, true, true, true, true, true, true, true, true, true, true, true, true, true, true, true, true, true, true, false, false, true, true, true, true, false, false, true, false, false, false, false] (take_ofW HT_.out HW_.out (by kernel_rfl)) hHeld ?_
           refine takeA 37 103 #[true, true, true, true, true, true, true, true, true, true, true, true, true, true, true, true, true, true, true, true, true, true, true, true, true, true, true, true, true, true, true, true, true, true, true, true, true, true, false, true, true, true, true, false, false, true, false, false, false, false] (take_ofW HT_.out HW_.out (by kernel_rfl)) hHeld ?_
           refine takeA 43 109 #[true, true, true, true, true, true, true, true, true, true, true, true, true, true, true, true, true, true, true, true, true, true, true, true, true, true, true, true, true, true, true, true, true, true, true, true, true, true, false, true, true, true, true, true, false, true, false, false, false, false] (take_ofW HT_.out HW_.out (by kernel_rfl)) hHeld ?_
           refine pureA 44 110 #[true, true, true, true, true, true, true, true, true, true, true, true, true, true, true, true, true, true, true, true, true, true, true, true, true, true, true, true, true, true, true, true, true, true, true, true, true, true, false, true, true, true, true, true, true, true, false, false, false, false] (any_of HT_.out (by kernel_rfl)) ?_
           refine takeA 46 112 #[true, true, true, true, true, true, true, true, true, true, true, true, true, true, true, true, true, true, true, true, true, true, true, true, true, true, true, true, true, true, true, true, true, true, true, true, true, true, false, true, true, true, true, true, true, true, true, false, false, false] (take_ofW HT_.out HW_.out (by kernel_rfl)) hHeld ?_
           refine pureA 47 113 #[true, true, true, true, true, true, true, true, true, true, true, true, true, true, true, true, true, true, true, true, true, true, true, true, true, true, true, true, true, true, true, true, true, true, true, true, true, true, false, true, true, true, true, true, true, true, true, true, false, false] (any_of HT_.out (by kernel_rfl)) ?_
           refine one_ (i := 38) (N := some 104) #[true, true, true, true, true, true, true, true, true, true, true, true, true, true, true, true, true, true, true, true, true, true, true, true, true, true, true, true, true, true, true, true, true, true, true, true, true, true, true, true, true, true, true, true, true, true, true, true, false, false] rfl rfl (one_of HT_.out (by kernel_rfl)) (by decide) (fun K hK => ?_)
           refine goesA Try.func49 #[.agg #[.int .i64 t1032, .int .i64 t1033, .int .i64 t1034], .int .i64 (wrap64 (x32_1 + 1)), .agg #[.int .i64 ((rd_T86 t1043 x32_1).f0.f0), .int .i64 ((rd_T86 t1043 x32_1).f0.f1), .int .i64 ((rd_T86 t1043 x32_1).f0.f2), .int .i64 ((rd_T86 t1043 x32_1).f0.f3), .int .i64 ((rd_T86 t1043 x32_1).f0.f4)]] ?_
           with_reducible refine (impl_BoxSilent.calls t1032 t1033 t1034 (wrap64 (x32_1 + 1)) ((rd_T86 t1043 x32_1).f0.f0) ((rd_T86 t1043 x32_1).f0.f1) ((rd_T86 t1043 x32_1).f0.f2) ((rd_T86 t1043 x32_1).f0.f3) ((rd_T86 t1043 x32_1).f0.f4) t1054 _ A51.out).mono ?_
           rintro e w56 ⟨rfl, hb⟩
           refine ⟨_, rfl, ?_⟩
           replace HO_30 := rbl HO_30 hb; replace BK1042 := bkb BK1042 hb; replace BK1047 := bkb BK1047 hb; replace BK1051 := bkb BK1051 hb; replace HB := bst HB hb; clear hb
           refine hK.out _ _ ⟨bc BK1051 0, bc BK1051 1, bc BK1051 2, bc BK1042 0, bc BK1042 1, bc BK1042 2, bc BK1047 0, bc BK1047 1, bc BK1047 2, bc BK1047 3, bc BK1047 4, bc BK1047 5, bc BK1047 6, bc BK1047 7, bc BK1047 8, bc BK1047 9⟩ (fun hHeld => ?_)
           clear hK K
           refine normP ?_
           refine pureA 48 114 #[true, true, true, true, true, true, true, true, true, true, true, true, true, true, true, true, true, true, true, true, true, true, true, true, true, true, true, true, true, true, true, true, true, true, true, true, true, true, true, true, true, true, true, true, true, true, true, true, true, false] (any_of HT_.out (by kernel_rfl)) ?_
           refine pureA 49 115 #[true, true, true, true, true, true, true, true, true, true, true, true, true, true, true, true, true, true, true, true, true, true, true, true, true, true, true, true, true, true, true, true, true, true, true, true, true, true, true, true, true, true, true, true, true, true, true, true, true, true] (any_of HT_.out (by kernel_rfl)) ?_
           refine done_ (done_of HT_.out (by kernel_rfl)) ?_
           try go_wp2
           go_roundg kj16
           case measure => have := HK1.out; have := HJ16.out; omega
           case rel => exact ⟨(wrap64 (x32_1 + 1)), (by first | rfl | (simp; done) | (simp [*]; done)), H', ⟨by have := HK1.out; have := HJ16.out; omega⟩, ⟨by (with_reducible repeat (first | apply Kd.R_alloc | apply Kd.R_drewN | apply Kd.R_drew)); exact Kd.R_mono HO_30.out (fun _ hk => trivial)⟩, ⟨qb BK1042⟩, ⟨(qs HB)⟩⟩
          replace c48 := Bool.eq_false_iff.mpr c48
          subst c48
          have H1 : (some false) = some true := by rw [if_neg (show ¬ (false = true) by decide)] at H; exact H
          clear H; have H := H1; clear H1
          exact absurd H (by simp)
         rw [if_neg c46] at H
         have c46b0 : decide (t1050 < (wrap64 (x32_1 + 1))) = false := decide_eq_false c46
         clear c46
         replace H := Option.bind_eq_some_iff.mp H
         obtain ⟨t1055, A570, H⟩ := H
         replace H : (if (t1055 != (decide ((wrap64 ((wrap64 (x32_1 + 1)) - ((rd_T86 t1043 x32_1).f1.f2))) > t1033))) = true then (some false) else ((impl_BoxSilent.f t1032 t1033 t1034 (wrap64 (x32_1 + 1)) ((rd_T86 t1043 x32_1).f0.f0) ((rd_T86 t1043 x32_1).f0.f1) ((rd_T86 t1043 x32_1).f0.f2) ((rd_T86 t1043 x32_1).f0.f3) ((rd_T86 t1043 x32_1).f0.f4)).bind fun t1056 => (if (t1056 != (decide ((wrap64 ((wrap64 (x32_1 + 1)) - ((rd_T86 t1043 x32_1).f0.f4))) > t1033))) = true then (some false) else (laws_FnHas.l0 kj16 t1043 (t1043.length : Int) (wrap64 (x32_1 + 1)) t1032 t1033 t1034)))) = some true := H
         have A57 := Aside0.mk A570
         clear A570
         by_cases c58 : (t1055 != (decide ((wrap64 ((wrap64 (x32_1 + 1)) - ((rd_T86 t1043 x32_1).f1.f2))) > t1033))) = true
         ·rw [if_pos c58] at H
          have c58b0 : (t1055 != (decide ((wrap64 ((wrap64 (x32_1 + 1)) - ((rd_T86 t1043 x32_1).f1.f2))) > t1033))) = true := c58
          (try (have c58b1 : decide (t1055 = (decide ((wrap64 ((wrap64 (x32_1 + 1)) - ((rd_T86 t1043 x32_1).f1.f2))) > t1033))) = false := by simpa using c58))
          (try (have c58b2 : (t1055 == (decide ((wrap64 ((wrap64 (x32_1 + 1)) - ((rd_T86 t1043 x32_1).f1.f2))) > t1033))) = false := by simpa using c58))
          (try (have c58b3 : ¬ (t1055 = (decide ((wrap64 ((wrap64 (x32_1 + 1)) - ((rd_T86 t1043 x32_1).f1.f2))) > t1033))) := by simpa using c58))
          clear c58
          exact absurd H (by simp)
         rw [if_neg c58] at H
         have c58b0 : (t1055 != (decide ((wrap64 ((wrap64 (x32_1 + 1)) - ((rd_T86 t1043 x32_1).f1.f2))) > t1033))) = false := by simpa using c58
         (try (have c58b1 : decide (t1055 = (decide ((wrap64 ((wrap64 (x32_1 + 1)) - ((rd_T86 t1043 x32_1).f1.f2))) > t1033))) = true := by simpa using c58))
         (try (have c58b2 : (t1055 == (decide ((wrap64 ((wrap64 (x32_1 + 1)) - ((rd_T86 t1043 x32_1).f1.f2))) > t1033))) = true := by simpa using c58))
         clear c58
         replace H := Option.bind_eq_some_iff.mp H
         obtain ⟨t1056, A590, H⟩ := H
         replace H : (if (t1056 != (decide ((wrap64 ((wrap64 (x32_1 + 1)) - ((rd_T86 t1043 x32_1).f0.f4))) > t1033))) = true then (some false) else (laws_FnHas.l0 kj16 t1043 (t1043.length : Int) (wrap64 (x32_1 + 1)) t1032 t1033 t1034)) = some true := H
         have A59 := Aside0.mk A590
         clear A590
         by_cases c60 : (t1056 != (decide ((wrap64 ((wrap64 (x32_1 + 1)) - ((rd_T86 t1043 x32_1).f0.f4))) > t1033))) = true
         ·rw [if_pos c60] at H
          have c60b0 : (t1056 != (decide ((wrap64 ((wrap64 (x32_1 + 1)) - ((rd_T86 t1043 x32_1).f0.f4))) > t1033))) = true := c60
          (try (have c60b1 : decide (t1056 = (decide ((wrap64 ((wrap64 (x32_1 + 1)) - ((rd_T86 t1043 x32_1).f0.f4))) > t1033))) = false := by simpa using c60))
          (try (have c60b2 : (t1056 == (decide ((wrap64 ((wrap64 (x32_1 + 1)) - ((rd_T86 t1043 x32_1).f0.f4))) > t1033))) = false := by simpa using c60))
          (try (have c60b3 : ¬ (t1056 = (decide ((wrap64 ((wrap64 (x32_1 + 1)) - ((rd_T86 t1043 x32_1).f0.f4))) > t1033))) := by simpa using c60))
          clear c60
          exact absurd H (by simp)
         rw [if_neg c60] at H
         have c60b0 : (t1056 != (decide ((wrap64 ((wrap64 (x32_1 + 1)) - ((rd_T86 t1043 x32_1).f0.f4))) > t1033))) = false := by simpa using c60
         (try (have c60b1 : decide (t1056 = (decide ((wrap64 ((wrap64 (x32_1 + 1)) - ((rd_T86 t1043 x32_1).f0.f4))) > t1033))) = true := by simpa using c60))
         (try (have c60b2 : (t1056 == (decide ((wrap64 ((wrap64 (x32_1 + 1)) - ((rd_T86 t1043 x32_1).f0.f4))) > t1033))) = true := by simpa using c60))
         clear c60
         have H' := Aside0.mk H
         clear H
         try go_wp2
         replace HO_30 := Aside0.mk (Kd.R_drew HO_30.out); replace BK1042 := Aside0.mk (blk_drew BK1042.out); replace BK1047 := Aside0.mk (blk_drew BK1047.out); replace BK1051 := Aside0.mk (blk_drew BK1051.out); replace HB := Aside0.mk (below_drew1 HB.out)
         refine start_ (n := 50) (S := fun w' => w'.cell? ⟨gb1051, 0, none⟩ = some (.int .i64 t1048) ∧ w'.cell? ⟨gb1051, 1, none⟩ = some (.int .i64 t1049) ∧ w'.cell? ⟨gb1051, 2, none⟩ = some (.int .i64 t1050) ∧ w'.cell? ⟨gb1042, 0, none⟩ = some (.int .i64 t1032) ∧ w'.cell? ⟨gb1042, 1, none⟩ = some (.int .i64 t1033) ∧ w'.cell? ⟨gb1042, 2, none⟩ = some (.int .i64 t1034) ∧ w'.cell? ⟨gb1047, 0, none⟩ = some (.int .i64 ((rd_T86 t1043 x32_1).f0.f0)) ∧ w'.cell? ⟨gb1047, 1, none⟩ = some (.int .i64 ((rd_T86 t1043 x32_1).f0.f1)) ∧ w'.cell? ⟨gb1047, 2, none⟩ = some (.int .i64 ((rd_T86 t1043 x32_1).f0.f2)) ∧ w'.cell? ⟨gb1047, 3, none⟩ = some (.int .i64 ((rd_T86 t1043 x32_1).f0.f3)) ∧ w'.cell? ⟨gb1047, 4, none⟩ = some (.int .i64 ((rd_T86 t1043 x32_1).f0.f4)) ∧ w'.cell? ⟨gb1047, 5, none⟩ = some (.int .i64 ((rd_T86 t1043 x32_1).f1.f0)) ∧ w'.cell? ⟨gb1047, 6, none⟩ = some (.int .i64 ((rd_T86 t1043 x32_1).f1.f1)) ∧ w'.cell? ⟨gb1047, 7, none⟩ = some (.int .i64 ((rd_T86 t1043 x32_1).f1.f2)) ∧ w'.cell? ⟨gb1047, 8, none⟩ = some (.int .i64 ((rd_T86 t1043 x32_1).f2)) ∧ w'.cell? ⟨gb1047, 9, none⟩ = some (.int .i64 ((rd_T86 t1043 x32_1).f3))) (ds := []) #[false, false, false, false, false, false, false, false, false, false, false, false, false, false, false, false, false, false, false, false, false, false, false, false, false, false, false, false, false, false, false, false, false, false, false, false, false, false, false, false, false, false, false, false, false, false, false, false, false, false] (by kernel_rfl) rfl rfl ⟨bc BK1051 0, bc BK1051 1, bc BK1051 2, bc BK1042 0, bc BK1042 1, bc BK1042 2, bc BK1047 0, bc BK1047 1, bc BK1047 2, bc BK1047 3, bc BK1047 4, bc BK1047 5, bc BK1047 6, bc BK1047 7, bc BK1047 8, bc BK1047 9⟩ (fun hHeld => ?_); refine with_tabW laws_FnHas.tab13 laws_FnHas.bits13 (fun HT_ HW_ => ?_)
         generalize wc.drew = w61 at HO_30 BK1042 BK1047 BK1051 HB hHeld ⊢
         refine pureA 0 66 #[true, false, false, false, false, false, false, false, false, false, false, false, false, false, false, false, false, false, false, false, false, false, false, false, false, false, false, false, false, false, false, false, false, false, false, false, false, false, false, false, false, false, false, false, false, false, false, false, false, false] (any_of HT_.out (by kernel_rfl)) ?_
         refine pureA 1 67 #[true, true, false, false, false, false, false, false, false, false, false, false, false, false, false, false, false, false, false, false, false, false, false, false, false, false, false, false, false, false, false, false, false, false, false, false, false, false, false, false, false, false, false, false, false, false, false, false, false, false] (any_of HT_.out (by kernel_rfl)) ?_
         refine pureA 2 68 #[true, true, true, false, false, false, false, false, false, false, false, false, false, false, false, false, false, false, false, false, false, false, false, false, false, false, false, false, false, false, false, false, false, false, false, false, false, false, false, false, false, false, false, false, false, false, false, false, false, false] (any_of HT_.out (by kernel_rfl)) ?_
         refine takeA 3 69 #[true, true, true, true, false, false, false, false, false, false, false, false, false, false, false, false, false, false, false, false, false, false, false, false, false, false, false, false, false, false, false, false, false, false, false, false, false, false, false, false, false, false, false, false, false, false, false, false, false, false] (take_ofW HT_.out HW_.out (by kernel_rfl)) hHeld ?_
         refine pureA 4 70 #[true, true, true, true, true, false, false, false, false, false, false, false, false, false, false, false, false, false, false, false, false, false, false, false, false, false, false, false, false, false, false, false, false, false, false, false, false, false, false, false, false, false, false, false, false, false, false, false, false, false] (any_of HT_.out (by kernel_rfl)) ?_
         refine pureA 5 71 #[true, true, true, true, true, true, false, false, false, false, false, false, false, false, false, false, false, false, false, false, false, false, false, false, false, false, false, false, false, false, false, false, false, false, false, false, false, false, false, false, false, false, false, false, false, false, false, false, false, false] (any_of HT_.out (by kernel_rfl)) ?_
         refine pure_ (i := 6) (N := some 72) (v := undef) (a' := ?_) #[true, true, true, true, true, true, true, false, false, false, false, false, false, false, false, false, false, false, false, false, false, false, false, false, false, false, false, false, false, false, false, false, false, false, false, false, false, false, false, false, false, false, false, false, false, false, false, false, false, false] rfl rfl (any_of HT_.out (by kernel_rfl)) (fun _ _ _ h => h) (Or.inr ⟨by rfl, rfl⟩) ?_ ?_
         rotate_left
         ·simp only [Act.put, List.setIfInBounds_toArray, List.set_cons_zero, List.set_cons_succ, i64_w, i32_w]
          rfl
         refine pure_ (i := 7) (N := some 73) (v := undef) (a' := ?_) #[true, true, true, true, true, true, true, true, false, false, false, false, false, false, false, false, false, false, false, false, false, false, false, false, false, false, false, false, false, false, false, false, false, false, false, false, false, false, false, false, false, false, false, false, false, false, false, false, false, false] rfl rfl (any_of HT_.out (by kernel_rfl)) (fun _ _ _ h => h) (Or.inr ⟨by rfl, rfl⟩) ?_ ?_
         rotate_left
         ·simp only [Act.put, List.setIfInBounds_toArray, List.set_cons_zero, List.set_cons_succ, i64_w, i32_w]
          rfl
         refine pure_ (i := 8) (N := some 74) (v := undef) (a' := ?_) #[true, true, true, true, true, true, true, true, true, false, false, false, false, false, false, false, false, false, false, false, false, false, false, false, false, false, false, false, false, false, false, false, false, false, false, false, false, false, false, false, false, false, false, false, false, false, false, false, false, false] rfl rfl (any_of HT_.out (by kernel_rfl)) (fun _ _ _ h => h) (Or.inr ⟨by rfl, rfl⟩) ?_ ?_
         rotate_left
         ·simp only [Act.put, List.setIfInBounds_toArray, List.set_cons_zero, List.set_cons_succ, i64_w, i32_w]
          rfl
         refine pure_ (i := 9) (N := some 75) (v := undef) (a' := ?_) #[true, true, true, true, true, true, true, true, true, true, false, false, false, false, false, false, false, false, false, false, false, false, false, false, false, false, false, false, false, false, false, false, false, false, false, false, false, false, false, false, false, false, false, false, false, false, false, false, false, false] rfl rfl (any_of HT_.out (by kernel_rfl)) (fun _ _ _ h => h) (Or.inr ⟨by rfl, rfl⟩) ?_ ?_
         rotate_left
         ·simp only [Act.put, List.setIfInBounds_toArray, List.set_cons_zero, List.set_cons_succ, i64_w, i32_w]
          rfl
         refine pure_ (i := 10) (N := some 76) (v := undef) (a' := ?_) #[true, true, true, true, true, true, true, true, true, true, true, false, false, false, false, false, false, false, false, false, false, false, false, false, false, false, false, false, false, false, false, false, false, false, false, false, false, false, false, false, false, false, false, false, false, false, false, false, false, false] rfl rfl (any_of HT_.out (by kernel_rfl)) (fun _ _ _ h => h) (Or.inr ⟨by rfl, rfl⟩) ?_ ?_
         rotate_left
         ·simp only [Act.put, List.setIfInBounds_toArray, List.set_cons_zero, List.set_cons_succ, i64_w, i32_w]
          rfl
         refine pure_ (i := 11) (N := some 77) (v := undef) (a' := ?_) #[true, true, true, true, true, true, true, true, true, true, true, true, false, false, false, false, false, false, false, false, false, false, false, false, false, false, false, false, false, false, false, false, false, false, false, false, false, false, false, false, false, false, false, false, false, false, false, false, false, false] rfl rfl (any_of HT_.out (by kernel_rfl)) (fun _ _ _ h => h) (Or.inr ⟨by rfl, rfl⟩) ?_ ?_
         rotate_left
         ·simp only [Act.put, List.setIfInBounds_toArray, List.set_cons_zero, List.set_cons_succ, i64_w, i32_w]
          rfl
         refine pure_ (i := 12) (N := some 78) (v := undef) (a' := ?_) #[true, true, true, true, true, true, true, true, true, true, true, true, true, false, false, false, false, false, false, false, false, false, false, false, false, false, false, false, false, false, false, false, false, false, false, false, false, false, false, false, false, false, false, false, false, false, false, false, false, false] rfl rfl (any_of HT_.out (by kernel_rfl)) (fun _ _ _ h => h) (Or.inr ⟨by rfl, rfl⟩) ?_ ?_
         rotate_left
         ·simp only [Act.put, List.setIfInBounds_toArray, List.set_cons_zero, List.set_cons_succ, i64_w, i32_w]
          rfl
         refine pureA 13 79 #[true, true, true, true, true, true, true, true, true, true, true, true, true, true, false, false, false, false, false, false, false, false, false, false, false, false, false, false, false, false, false, false, false, false, false, false, false, false, false, false, false, false, false, false, false, false, false, false, false, false] (any_of HT_.out (by kernel_rfl)) ?_
         refine pureA 14 80 #[true, true, true, true, true, true, true, true, true, true, true, true, true, true, true, false, false, false, false, false, false, false, false, false, false, false, false, false, false, false, false, false, false, false, false, false, false, false, false, false, false, false, false, false, false, false, false, false, false, false] (any_of HT_.out (by kernel_rfl)) ?_
         refine pureA 16 82 #[true, true, true, true, true, true, true, true, true, true, true, true, true, true, true, false, true, false, false, false, false, false, false, false, false, false, false, false, false, false, false, false, false, false, false, false, false, false, false, false, false, false, false, false, false, false, false, false, false, false] (any_of HT_.out (by kernel_rfl)) ?_
         refine pureA 17 83 #[true, true, true, true, true, true, true, true, true, true, true, true, true, true, true, false, true, true, false, false, false, false, false, false, false, false, false, false, false, false, false, false, false, false, false, false, false, false, false, false, false, false, false, false, false, false, false, false, false, false] (any_of HT_.out (by kernel_rfl)) ?_
         refine pureA 18 84 #[true, true, true, true, true, true, true, true, true, true, true, true, true, true, true, false, true, true, true, false, false, false, false, false, false, false, false, false, false, false, false, false, false, false, false, false, false, false, false, false, false, false, false, false, false, false, false, false, false, false] (any_of HT_.out (by kernel_rfl)) ?_
         refine pureA 21 87 #[true, true, true, true, true, true, true, true, true, true, true, true, true, true, true, false, true, true, true, false, false, true, false, false, false, false, false, false, false, false, false, false, false, false, false, false, false, false, false, false, false, false, false, false, false, false, false, false, false, false] (any_of HT_.out (by kernel_rfl)) ?_
         refine pureA 22 88 #[true, true, true, true, true, true, true, true, true, true, true, true, true, true, true, false, true, true, true, false, false, true, true, false, false, false, false, false, false, false, false, false, false, false, false, false, false, false, false, false, false, false, false, false, false, false, false, false, false, false] (any_of HT_.out (by kernel_rfl)) ?_
         refine pureA 23 89 #[true, true, true, true, true, true, true, true, true, true, true, true, true, true, true, false, true, true, true, false, false, true, true, true, false, false, false, false, false, false, false, false, false, false, false, false, false, false, false, false, false, false, false, false, false, false, false, false, false, false] (any_of HT_.out (by kernel_rfl)) ?_
         refine pureA 24 90 #[true, true, true, true, true, true, true, true, true, true, true, true, true, true, true, false, true, true, true, false, false, true, true, true, true, false, false, false, false, false, false, false, false, false, false, false, false, false, false, false, false, false, false, false, false, false, false, false, false, false] (any_of HT_.out (by kernel_rfl)) ?_
         refine pureA 27 93 #[true, true, true, true, true, true, true, true, true, true, true, true, true, true, true, false, true, true, true, false, false, true, true, true, true, false, false, true, false, false, false, false, false, false, false, false, false, false, false, false, false, false, false, false, false, false, false, false, false, false] (any_of HT_.out (by kernel_rfl)) ?_
         refine takeA 15 81 #[true, true, true, true, true, true, true, true, true, true, true, true, true, true, true, true, true, true, true, false, false, true, true, true, true, false, false, true, false, false, false, false, false, false, false, false, false, false, false, false, false, false, false, false, false, false, false, false, false, false] (take_ofW HT_.out HW_.out (by kernel_rfl)) hHeld ?_
         refine takeA 19 85 #[true, true, true, true, true, true, true, true, true, true, true, true, true, true, true, true, true, true, true, true, false, true, true, true, true, false, false, true, false, false, false, false, false, false, false, false, false, false, false, false, false, false, false, false, false, false, false, false, false, false] (take_ofW HT_.out HW_.out (by kernel_rfl)) hHeld ?_
         refine takeA 25 91 #[true, true, true, true, true, true, true, true, true, true, true, true, true, true, true, true, true, true, true, true, false, true, true, true, true, true, false, true, false, false, false, false, false, false, false, false, false, false, false, false, false, false, false, false, false, false, false, false, false, false] (take_ofW HT_.out HW_.out (by kernel_rfl)) hHeld ?_
         refine pureA 26 92 #[true, true, true, true, true, true, true, true, true, true, true, true, true, true, true, true, true, true, true, true, false, true, true, true, true, true, true, true, false, false, false, false, false, false, false, false, false, false, false, false, false, false, false, false, false, false, false, false, false, false] (any_of HT_.out (by kernel_rfl)) ?_
         refine takeA 28 94 #[true, true, true, true, true, true, true, true, true, true, true, true, true, true, true, true, true, true, true, true, false, true, true, true, true, true, true, true, true, false, false, false, false, false, false, false, false, false, false, false, false, false, false, false, false, false, false, false, false, false] (take_ofW HT_.out HW_.out (by kernel_rfl)) hHeld ?_
         refine pureA 29 95 #[true, true, true, true, true, true, true, true, true, true, true, true, true, true, true, true, true, true, true, true, false, true, true, true, true, true, true, true, true, true, false, false, false, false, false, false, false, false, false, false, false, false, false, false, false, false, false, false, false, false] (any_of HT_.out (by kernel_rfl)) ?_
         refine one_ (i := 20) (N := some 86) #[true, true, true, true, true, true, true, true, true, true, true, true, true, true, true, true, true, true, true, true, true, true, true, true, true, true, true, true, true, true, false, false, false, false, false, false, false, false, false, false, false, false, false, false, false, false, false, false, false, false] rfl rfl (one_of HT_.out (by kernel_rfl)) (by decide) (fun K hK => ?_)
         refine goesA Try.func48 #[.agg #[.int .i64 t1032, .int .i64 t1033, .int .i64 t1034], .int .i64 (wrap64 (x32_1 + 1)), .agg #[.int .i64 ((rd_T86 t1043 x32_1).f1.f0), .int .i64 ((rd_T86 t1043 x32_1).f1.f1), .int .i64 ((rd_T86 t1043 x32_1).f1.f2)]] ?_
         with_reducible refine (impl_TrainSilent.calls t1032 t1033 t1034 (wrap64 (x32_1 + 1)) ((rd_T86 t1043 x32_1).f1.f0) ((rd_T86 t1043 x32_1).f1.f1) ((rd_T86 t1043 x32_1).f1.f2) t1055 _ A57.out).mono ?_
         rintro e w62 ⟨rfl, hb⟩
         refine ⟨_, rfl, ?_⟩
         replace HO_30 := rbl HO_30 hb; replace BK1042 := bkb BK1042 hb; replace BK1047 := bkb BK1047 hb; replace BK1051 := bkb BK1051 hb; replace HB := bst HB hb; clear hb
         refine hK.out _ _ ⟨bc BK1051 0, bc BK1051 1, bc BK1051 2, bc BK1042 0, bc BK1042 1, bc BK1042 2, bc BK1047 0, bc BK1047 1, bc BK1047 2, bc BK1047 3, bc BK1047 4, bc BK1047 5, bc BK1047 6, bc BK1047 7, bc BK1047 8, bc BK1047 9⟩ (fun hHeld => ?_)
         clear hK K
         refine normP ?_
         refine pureA 30 96 #[true, true, true, true, true, true, true, true, true, true, true, true, true, true, true, true, true, true, true, true, true, true, true, true, true, true, true, true, true, true, true, false, false, false, false, false, false, false, false, false, false, false, false, false, false, false, false, false, false, false] (any_of HT_.out (by kernel_rfl)) ?_
         refine pureA 31 97 #[true, true, true, true, true, true, true, true, true, true, true, true, true, true, true, true, true, true, true, true, true, true, true, true, true, true, true, true, true, true, true, true, false, false, false, false, false, false, false, false, false, false, false, false, false, false, false, false, false, false] (any_of HT_.out (by kernel_rfl)) ?_
         refine pureA 32 98 #[true, true, true, true, true, true, true, true, true, true, true, true, true, true, true, true, true, true, true, true, true, true, true, true, true, true, true, true, true, true, true, true, true, false, false, false, false, false, false, false, false, false, false, false, false, false, false, false, false, false] (any_of HT_.out (by kernel_rfl)) ?_
         refine pureA 34 100 #[true, true, true, true, true, true, true, true, true, true, true, true, true, true, true, true, true, true, true, true, true, true, true, true, true, true, true, true, true, true, true, true, true, false, true, false, false, false, false, false, false, false, false, false, false, false, false, false, false, false] (any_of HT_.out (by kernel_rfl)) ?_
         refine pureA 35 101 #[true, true, true, true, true, true, true, true, true, true, true, true, true, true, true, true, true, true, true, true, true, true, true, true, true, true, true, true, true, true, true, true, true, false, true, true, false, false, false, false, false, false, false, false, false, false, false, false, false, false] (any_of HT_.out (by kernel_rfl)) ?_
         refine pureA 36 102 #[true, true, true, true, true, true, true, true, true, true, true, true, true, true, true, true, true, true, true, true, true, true, true, true, true, true, true, true, true, true, true, true, true, false, true, true, true, false, false, false, false, false, false, false, false, false, false, false, false, false] (any_of HT_.out (by kernel_rfl)) ?_
         refine pureA 39 105 #[true, true, true, true, true, true, true, true, true, true, true, true, true, true, true, true, true, true, true, true, true, true, true, true, true, true, true, true, true, true, true, true, true, false, true, true, true, false, false, true, false, false, false, false, false, false, false, false, false, false] (any_of HT_.out (by kernel_rfl)) ?_
         refine pureA 40 106 #[true, true, true, true, true, true, true, true, true, true, true, true, true, true, true, true, true, true, true, true, true, true, true, true, true, true, true, true, true, true, true, true, true, false, true, true, true, false, false, true, true, false, false, false, false, false, false, false, false, false] (any_of HT_.out (by kernel_rfl)) ?_
         refine pureA 41 107 #[true, true, true, true, true, true, true, true, true, true, true, true, true, true, true, true, true, true, true, true, true, true, true, true, true, true, true, true, true, true, true, true, true, false, true, true, true, false, false, true, true, true, false, false, false, false, false, false, false, false] (any_of HT_.out (by kernel_rfl)) ?_
         refine pureA 42 108 #[true, true, true, true, true, true, true, true, true, true, true, true, true, true, true, true, true, true, true, true, true, true, true, true, true, true, true, true, true, true, true, true, true, false, true, true, true, false, false, true, true, true, true, false, false, false, false, false, false, false] (any_of HT_.out (by kernel_rfl)) ?_
         refine pureA 45 111 #[true, true, true, true, true, true, true, true, true, true, true, true, true, true, true, true, true, true, true, true, true, true, true, true, true, true, true, true, true, true, true, true, true, false, true, true, true, false, false, true, true, true, true, false, false, true, false, false, false, false] (any_of HT_.out (by kernel_rfl)) ?_
         refine takeA 33 99 #[true, true, true, true, true, true, true, true, true, true, true, true, true, true, true, true, true, true, true, true, true, true, true, true, true, true, true, true, true, true, true, true, true, true, true, true, true, false, false, true, true, true, true, false, false, true, false, false, false, false] (take_ofW HT_.out HW_.out (by kernel_rfl)) hHeld ?_
         refine takeA 37 103 #[true, true, true, true, true, true, true, true, true, true, true, true, true, true, true, true, true, true, true, true, true, true, true, true, true, true, true, true, true, true, true, true, true, true, true, true, true, true, false, true, true, true, true, false, false, true, false, false, false, false] (take_ofW HT_.out HW_.out (by kernel_rfl)) hHeld ?_
         refine takeA 43 109 #[true, true, true, true, true, true, true, true, true, true, true, true, true, true, true, true, true, true, true, true, true, true, true, true, true, true, true, true, true, true, true, true, true, true, true, true, true, true, false, true, true, true, true, true, false, true, false, false, false, false] (take_ofW HT_.out HW_.out (by kernel_rfl)) hHeld ?_
         refine pureA 44 110 #[true, true, true, true, true, true, true, true, true, true, true, true, true, true, true, true, true, true, true, true, true, true, true, true, true, true, true, true, true, true, true, true, true, true, true, true, true, true, false, true, true, true, true, true, true, true, false, false, false, false] (any_of HT_.out (by kernel_rfl)) ?_
         refine takeA 46 112 #[true, true, true, true, true, true, true, true, true, true, true, true, true, true, true, true, true, true, true, true, true, true, true, true, true, true, true, true, true, true, true, true, true, true, true, true, true, true, false, true, true, true, true, true, true, true, true, false, false, false] (take_ofW HT_.out HW_.out (by kernel_rfl)) hHeld ?_
         refine pureA 47 113 #[true, true, true, true, true, true, true, true, true, true, true, true, true, true, true, true, true, true, true, true, true, true, true, true, true, true, true, true, true, true, true, true, true, true, true, true, true, true, false, true, true, true, true, true, true, true, true, true, false, false] (any_of HT_.out (by kernel_rfl)) ?_
         refine one_ (i := 38) (N := some 104) #[true, true, true, true, true, true, true, true, true, true, true, true, true, true, true, true, true, true, true, true, true, true, true, true, true, true, true, true, true, true, true, true, true, true, true, true, true, true, true, true, true, true, true, true, true, true, true, true, false, false] rfl rfl (one_of HT_.out (by kernel_rfl)) (by decide) (fun K hK => ?_)
         refine goesA Try.func49 #[.agg #[.int .i64 t1032, .int .i64 t1033, .int .i64 t1034], .int .i64 (wrap64 (x32_1 + 1)), .agg #[.int .i64 ((rd_T86 t1043 x32_1).f0.f0), .int .i64 ((rd_T86 t1043 x32_1).f0.f1), .int .i64 ((rd_T86 t1043 x32_1).f0.f2), .int .i64 ((rd_T86 t1043 x32_1).f0.f3), .int .i64 ((rd_T86 t1043 x32_1).f0.f4)]] ?_
         with_reducible refine (impl_BoxSilent.calls t1032 t1033 t1034 (wrap64 (x32_1 + 1)) ((rd_T86 t1043 x32_1).f0.f0) ((rd_T86 t1043 x32_1).f0.f1) ((rd_T86 t1043 x32_1).f0.f2) ((rd_T86 t1043 x32_1).f0.f3) ((rd_T86 t1043 x32_1).f0.f4) t1056 _ A59.out).mono ?_
         rintro e w63 ⟨rfl, hb⟩
         refine ⟨_, rfl, ?_⟩
         replace HO_30 := rbl HO_30 hb; replace BK1042 := bkb BK1042 hb; replace BK1047 := bkb BK1047 hb; replace BK1051 := bkb BK1051 hb; replace HB := bst HB hb; clear hb
         refine hK.out _ _ ⟨bc BK1051 0, bc BK1051 1, bc BK1051 2, bc BK1042 0, bc BK1042 1, bc BK1042 2, bc BK1047 0, bc BK1047 1, bc BK1047 2, bc BK1047 3, bc BK1047 4, bc BK1047 5, bc BK1047 6, bc BK1047 7, bc BK1047 8, bc BK1047 9⟩ (fun hHeld => ?_)
         clear hK K
         refine normP ?_
         refine pureA 48 114 #[true, true, true, true, true, true, true, true, true, true, true, true, true, true, true, true, true, true, true, true, true, true, true, true, true, true, true, true, true, true, true, true, true, true, true, true, true, true, true, true, true, true, true, true, true, true, true, true, true, false] (any_of HT_.out (by kernel_rfl)) ?_
         refine pureA 49 115 #[true, true, true, true, true, true, true, true, true, true, true, true, true, true, true, true, true, true, true, true, true, true, true, true, true, true, true, true, true, true, true, true, true, true, true, true, true, true, true, true, true, true, true, true, true, true, true, true, true, true] (any_of HT_.out (by kernel_rfl)) ?_
         refine done_ (done_of HT_.out (by kernel_rfl)) ?_
         try go_wp2
         go_roundg kj16
         case measure => have := HK1.out; have := HJ16.out; omega
         case rel => exact ⟨(wrap64 (x32_1 + 1)), (by first | rfl | (simp; done) | (simp [*]; done)), H', ⟨by have := HK1.out; have := HJ16.out; omega⟩, ⟨by (with_reducible repeat (first | apply Kd.R_alloc | apply Kd.R_drewN | apply Kd.R_drew)); exact Kd.R_mono HO_30.out (fun _ hk => trivial)⟩, ⟨qb BK1042⟩, ⟨(qs HB)⟩⟩
      rw [if_neg c15] at H
      exact absurd H (by simp)
     rw [if_neg c14] at H
     exact absurd H (by simp)
    rw [if_neg c13] at H
    have c13b0 : decide (x32_1 < (t1043.length : Int)) = false := decide_eq_false c13
    clear c13
    go_wp2
    go_ret
    exact ⟨by first | rfl | (simp [errW_none, errW_some] <;> rfl) | (simp [*, errW_none, errW_some] <;> rfl), (qs HB)⟩
 rw [if_neg c5] at H
 have c5b0 : ((t1043.length : Int) == t1041) = false := beq_eq_false_iff_ne.mpr c5
 have c5b1 : ((t1043.length : Int) != t1041) = true := bne_iff_ne.mpr c5
 exact absurd H (by simp)
end Go.Proofs.Ytndffnacbfdnoaa.PAll
