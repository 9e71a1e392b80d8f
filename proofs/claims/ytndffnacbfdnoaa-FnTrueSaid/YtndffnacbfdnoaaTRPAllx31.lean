-- Lines of PAllx31 that this claim uses.
import Derived.Test.YtndffnacbfdnoaaTRSqd
import Derived.Test.YtndffnacbfdnoaaTRSq
import Derived.Test.YtndffnacbfdnoaaTRPAllx0
import Derived.Test.YtndffnacbfdnoaaTRPAllx2
import Derived.Test.YtndffnacbfdnoaaTRPAllx22
import Derived.Test.YtndffnacbfdnoaaTRPAllx26
import Derived.Test.YtndffnacbfdnoaaTRPAllx30
import Derived.Test.YtndffnacbfdnoaaTRRun
namespace Go.Proofs.Ytndffnacbfdnoaa.PAll
open Go.RowKit Go.Proofs.YtndffnacbfdnoaaW.PrintWords Go.Proofs.YtndffnacbfdnoaaW.PrintLast Go.Proofs.YtndffnacbfdnoaaW.PrintMore
attribute [local go_sem] max2_int min2_int max_two min_two max_three min_three max_four min_four   -- for this text's walks alone
set_option linter.unusedVariables false
set_option linter.unusedSimpArgs false
attribute [local go_sem high] eqA48
mutual
def laws_FnTrue.l0 : Nat → List (S84) → List (S86) → Int → Int → Int → Int → Int → Int → Int → Int → Int → Int → Int → Int → Int → Int → Int → Option (Bool)
 | 0, _, _, _, _, _, _, _, _, _, _, _, _, _, _, _, _, _ => none
 | k + 1, x4, x31, x32, x33, x1071000, x1071001, x1071002, x1075000, x1075001, x1075002, x1075003, x1075004, x1075005, x1075006, x1075007, x1075008, x1075009 => if x33 < x32 then (if 0 ≤ x33 then (if x33 < (x31.length : Int) then (if ((rd_T86 x31 x33).f1.f0) > ((rd_T86 x31 x33).f0.f0) then (laws_FnTrue.j1 k x4 (wrap64 (x33 + 1)) x31 x32 x33 true x1071000 x1071001 x1071002 x1075000 x1075001 x1075002 x1075003 x1075004 x1075005 x1075006 x1075007 x1075008 x1075009 ((rd_T86 x31 x33).f0.f0) ((rd_T86 x31 x33).f0.f1) ((rd_T86 x31 x33).f0.f2) ((rd_T86 x31 x33).f0.f3) ((rd_T86 x31 x33).f0.f4) ((rd_T86 x31 x33).f1.f0) ((rd_T86 x31 x33).f1.f1) ((rd_T86 x31 x33).f1.f2) ((rd_T86 x31 x33).f2) ((rd_T86 x31 x33).f3)) else (if ((rd_T86 x31 x33).f0.f2) > ((rd_T86 x31 x33).f1.f0) then (laws_FnTrue.j1 k x4 (wrap64 (x33 + 1)) x31 x32 x33 true x1071000 x1071001 x1071002 x1075000 x1075001 x1075002 x1075003 x1075004 x1075005 x1075006 x1075007 x1075008 x1075009 ((rd_T86 x31 x33).f0.f0) ((rd_T86 x31 x33).f0.f1) ((rd_T86 x31 x33).f0.f2) ((rd_T86 x31 x33).f0.f3) ((rd_T86 x31 x33).f0.f4) ((rd_T86 x31 x33).f1.f0) ((rd_T86 x31 x33).f1.f1) ((rd_T86 x31 x33).f1.f2) ((rd_T86 x31 x33).f2) ((rd_T86 x31 x33).f3)) else (if ((rd_T86 x31 x33).f1.f0) < x1075005 then (laws_FnTrue.j1 k x4 (wrap64 (x33 + 1)) x31 x32 x33 true x1071000 x1071001 x1071002 x1075000 x1075001 x1075002 x1075003 x1075004 x1075005 x1075006 x1075007 x1075008 x1075009 ((rd_T86 x31 x33).f0.f0) ((rd_T86 x31 x33).f0.f1) ((rd_T86 x31 x33).f0.f2) ((rd_T86 x31 x33).f0.f3) ((rd_T86 x31 x33).f0.f4) ((rd_T86 x31 x33).f1.f0) ((rd_T86 x31 x33).f1.f1) ((rd_T86 x31 x33).f1.f2) ((rd_T86 x31 x33).f2) ((rd_T86 x31 x33).f3)) else (if ((rd_T86 x31 x33).f0.f0) < x1075000 then (laws_FnTrue.j1 k x4 (wrap64 (x33 + 1)) x31 x32 x33 true x1071000 x1071001 x1071002 x1075000 x1075001 x1075002 x1075003 x1075004 x1075005 x1075006 x1075007 x1075008 x1075009 ((rd_T86 x31 x33).f0.f0) ((rd_T86 x31 x33).f0.f1) ((rd_T86 x31 x33).f0.f2) ((rd_T86 x31 x33).f0.f3) ((rd_T86 x31 x33).f0.f4) ((rd_T86 x31 x33).f1.f0) ((rd_T86 x31 x33).f1.f1) ((rd_T86 x31 x33).f1.f2) ((rd_T86 x31 x33).f2) ((rd_T86 x31 x33).f3)) else (laws_FnTrue.j1 k x4 (wrap64 (x33 + 1)) x31 x32 x33 (decide (((rd_T86 x31 x33).f0.f2) < x1075002)) x1071000 x1071001 x1071002 x1075000 x1075001 x1075002 x1075003 x1075004 x1075005 x1075006 x1075007 x1075008 x1075009 ((rd_T86 x31 x33).f0.f0) ((rd_T86 x31 x33).f0.f1) ((rd_T86 x31 x33).f0.f2) ((rd_T86 x31 x33).f0.f3) ((rd_T86 x31 x33).f0.f4) ((rd_T86 x31 x33).f1.f0) ((rd_T86 x31 x33).f1.f1) ((rd_T86 x31 x33).f1.f2) ((rd_T86 x31 x33).f2) ((rd_T86 x31 x33).f3)))))) else (none)) else (none)) else (some true)
def laws_FnTrue.j1 : Nat → List (S84) → Int → List (S86) → Int → Int → Bool → Int → Int → Int → Int → Int → Int → Int → Int → Int → Int → Int → Int → Int → Int → Int → Int → Int → Int → Int → Int → Int → Int → Int → Option (Bool)
 | 0, _, _, _, _, _, _, _, _, _, _, _, _, _, _, _, _, _, _, _, _, _, _, _, _, _, _, _, _, _ => none
 | k + 1, x4, x11, x31, x32, x33, x82, x1071000, x1071001, x1071002, x1075000, x1075001, x1075002, x1075003, x1075004, x1075005, x1075006, x1075007, x1075008, x1075009, x1077000, x1077001, x1077002, x1077003, x1077004, x1077005, x1077006, x1077007, x1077008, x1077009 => if x82 = true then (some false) else ((impl_Stood.f x4 x1077005).bind fun t1077 => (if x1077006 = t1077 then ((impl_Stood.f x4 x1077000).bind fun t1078 => (if x1077001 = t1078 then ((impl_Stood.f x4 x1077005).bind fun t1079 => ((spec_Stood.f x4 x1077005).bind fun t1080 => (laws_FnTrue.j2 k x4 x11 x31 x32 x33 (t1079 != t1080) x1071000 x1071001 x1071002 x1075000 x1075001 x1075002 x1075003 x1075004 x1075005 x1075006 x1075007 x1075008 x1075009 x1077000 x1077001 x1077002 x1077003 x1077004 x1077005 x1077006 x1077007 x1077008 x1077009))) else (laws_FnTrue.j2 k x4 x11 x31 x32 x33 true x1071000 x1071001 x1071002 x1075000 x1075001 x1075002 x1075003 x1075004 x1075005 x1075006 x1075007 x1075008 x1075009 x1077000 x1077001 x1077002 x1077003 x1077004 x1077005 x1077006 x1077007 x1077008 x1077009))) else (laws_FnTrue.j2 k x4 x11 x31 x32 x33 true x1071000 x1071001 x1071002 x1075000 x1075001 x1075002 x1075003 x1075004 x1075005 x1075006 x1075007 x1075008 x1075009 x1077000 x1077001 x1077002 x1077003 x1077004 x1077005 x1077006 x1077007 x1077008 x1077009)))
def laws_FnTrue.j2 : Nat → List (S84) → Int → List (S86) → Int → Int → Bool → Int → Int → Int → Int → Int → Int → Int → Int → Int → Int → Int → Int → Int → Int → Int → Int → Int → Int → Int → Int → Int → Int → Int → Option (Bool)
 | 0, _, _, _, _, _, _, _, _, _, _, _, _, _, _, _, _, _, _, _, _, _, _, _, _, _, _, _, _, _ => none
 | k + 1, x4, x11, x31, x32, x33, x115, x1071000, x1071001, x1071002, x1075000, x1075001, x1075002, x1075003, x1075004, x1075005, x1075006, x1075007, x1075008, x1075009, x1077000, x1077001, x1077002, x1077003, x1077004, x1077005, x1077006, x1077007, x1077008, x1077009 => if x115 = true then (some false) else (if x1077009 > 0 then (if (wrap64 (x11 - x1077007)) > x1071002 then (some false) else (if x1077007 ≤ x1075007 then (some false) else (if x1077009 = 0 then (if (!(x1077005 == x1075005) || (!(x1077006 == x1075006) || (!(x1077007 == x1075007)))) = true then (some false) else (laws_FnTrue.l0 k x4 x31 x32 (wrap64 (x33 + 1)) x1071000 x1071001 x1071002 x1077000 x1077001 x1077002 x1077003 x1077004 x1077005 x1077006 x1077007 x1077008 x1077009)) else (laws_FnTrue.l0 k x4 x31 x32 (wrap64 (x33 + 1)) x1071000 x1071001 x1071002 x1077000 x1077001 x1077002 x1077003 x1077004 x1077005 x1077006 x1077007 x1077008 x1077009)))) else (if x1077009 = 0 then (if (!(x1077005 == x1075005) || (!(x1077006 == x1075006) || (!(x1077007 == x1075007)))) = true then (some false) else (laws_FnTrue.l0 k x4 x31 x32 (wrap64 (x33 + 1)) x1071000 x1071001 x1071002 x1077000 x1077001 x1077002 x1077003 x1077004 x1077005 x1077006 x1077007 x1077008 x1077009)) else (laws_FnTrue.l0 k x4 x31 x32 (wrap64 (x33 + 1)) x1071000 x1071001 x1071002 x1077000 x1077001 x1077002 x1077003 x1077004 x1077005 x1077006 x1077007 x1077008 x1077009)))
end
def laws_FnTrue.f (k : Nat) (l0 : List Int) : Option (Bool) := if (l0.length : Int) > 1048576 then (some true) else ((spec_Drawn.f k l0).bind fun bt1060 => ((impl_Run.f bt1060.1 bt1060.2.1 bt1060.2.2.1 bt1060.2.2.2.1 bt1060.2.2.2.2.1 bt1060.2.2.2.2.2).bind fun t1071 => (if (t1071.length : Int) = bt1060.2.2.2.2.2 then (laws_FnTrue.l0 k bt1060.2.2.2.1 t1071 (t1071.length : Int) 0 bt1060.1 bt1060.2.1 bt1060.2.2.1 0 0 0 0 0 0 0 0 0 0) else (some false))))
def laws_FnTrue.T14 : Bool × List (List Nat × List Nat) := (true, [([], []), ([0], [0]), ([1], [1]), ([], []), ([], []), ([4], [4]), ([5], [5]), ([3, 6], [3, 6]), ([2, 7], [2, 7]), ([8, 7], [8]), ([9], [9]), ([10, 9], [9, 10]), ([11, 9], [9, 11]), ([9], [9]), ([9], [9]), ([14, 9], [9, 14]), ([15, 9], [9, 15]), ([13, 16, 9, 9], [9, 13, 16]), ([12, 17, 9], [9, 12, 17]), ([9, 18], [9, 18]), ([19, 17], [19]), ([20], [20]), ([20], [20]), ([22, 20], [20, 22]), ([23, 20], [20, 23]), ([21, 24, 20, 20], [20, 21, 24]), ([20], [20]), ([20], [20]), ([27, 20], [20, 27]), ([28, 20], [20, 28]), ([26, 29, 25, 20], [20, 26, 29]), ([25, 30, 20], [20, 25, 30]), ([20, 31], [20, 31])])
def laws_FnTrue.B14 : List Nat := [0, 1, 3, 0, 0, 16, 48, 120, 255, 511, 1023, 2047, 4095, 1023, 1023, 17407, 50175, 123903, 262143, 524287, 1048575, 2097151, 2097151, 6291455, 14680063, 33554431, 2097151, 2097151, 136314879, 404750335, 1073741823, 2147483647, 4294967295]
theorem laws_FnTrue.tab14 : rtab .any (opsOf Try.f9 14) = laws_FnTrue.T14 := by kernel_rfl
theorem laws_FnTrue.bits14 : waitsOk laws_FnTrue.T14.2 laws_FnTrue.B14 = true := by kernel_rfl
set_option maxHeartbeats 8000000 in
set_option maxRecDepth 100000 in
theorem laws_FnTrue.calls (k : Nat) (A0 : Option Addr) (c0 : Nat) (l0 : List Int) (w : World) (hr0 : Kd.C (Kd.int .u8) w A0 l0.length l0) (hc0 : l0.length ≤ c0) (h : laws_FnTrue.f k l0 = some true) :
  Calls Try.prog 9 #[.slice A0 l0.length c0] w fun e w' => e = .returned (.bool true) ∧ Below w.heap.size w w' := by
 have hu34 := Try.underlying34
 have hu86 := Try.underlying86
 have hu48 := Try.underlying48
 have HR0 := Aside0.mk hr0
 have HC0 := Aside0.mk hc0
 clear hr0 hc0
 have HB := Aside0.mk (Below.refl w.heap.size w)
 have H : (if (l0.length : Int) > 1048576 then (some true) else ((spec_Drawn.f k l0).bind fun bt1060 => ((impl_Run.f bt1060.1 bt1060.2.1 bt1060.2.2.1 bt1060.2.2.2.1 bt1060.2.2.2.2.1 bt1060.2.2.2.2.2).bind fun t1071 => (if (t1071.length : Int) = bt1060.2.2.2.2.2 then (laws_FnTrue.l0 k bt1060.2.2.2.1 t1071 (t1071.length : Int) 0 bt1060.1 bt1060.2.1 bt1060.2.2.1 0 0 0 0 0 0 0 0 0 0) else (some false))))) = some true := h
 clear h
 by_cases c2 : (l0.length : Int) > 1048576
 ·rw [if_pos c2] at H
  have c2b0 : decide (1048576 < (l0.length : Int)) = true := decide_eq_true c2
  have c2b1 : decide (1048576 < l0.length) = true := decide_eq_true (by omega)
  clear c2
  go_enter Try.func9, Try.ntmps9
  go_wp2
  go_ret
  exact ⟨by first | rfl | (simp [errW_none, errW_some] <;> rfl) | (simp [*, errW_none, errW_some] <;> rfl), (qs HB)⟩
 rw [if_neg c2] at H
 have c2b0 : decide (1048576 < (l0.length : Int)) = false := decide_eq_false c2
 have c2b1 : decide (1048576 < l0.length) = false := decide_eq_false (by omega)
 clear c2
 replace H := Option.bind_eq_some_iff.mp H
 obtain ⟨⟨t1060, t1061, t1062, t1063, t1066, t1069⟩, A30, H⟩ := H
 replace H : ((impl_Run.f t1060 t1061 t1062 t1063 t1066 t1069).bind fun t1071 => (if (t1071.length : Int) = t1069 then (laws_FnTrue.l0 k t1063 t1071 (t1071.length : Int) 0 t1060 t1061 t1062 0 0 0 0 0 0 0 0 0 0) else (some false))) = some true := H
 have A3 := Aside0.mk A30
 clear A30
 replace H := Option.bind_eq_some_iff.mp H
 obtain ⟨t1071, A40, H⟩ := H
 replace H : (if (t1071.length : Int) = t1069 then (laws_FnTrue.l0 k t1063 t1071 (t1071.length : Int) 0 t1060 t1061 t1062 0 0 0 0 0 0 0 0 0 0) else (some false)) = some true := H
 have A4 := Aside0.mk A40
 clear A40
 by_cases c5 : (t1071.length : Int) = t1069
 ·rw [if_pos c5] at H
  have c5b0 : ((t1071.length : Int) == t1069) = true := beq_iff_eq.mpr c5
  have c5b1 : ((t1071.length : Int) != t1069) = false := bne_eq_false_iff_eq.mpr c5
  clear c5
  have H' := Aside0.mk H
  clear H
  go_enter Try.func9, Try.ntmps9
  go_wp2_with (first | ((with_reducible refine gate_callee (f := 46) rfl ?_); refine goesLA (some 17) rfl Try.func46 #[.slice A0 l0.length c0] ?_; (with_reducible refine (spec_Drawn.calls k _ _ l0 t1060 t1061 t1062 t1063 t1066 t1069 _ ?side1 ?side2 A3.out).mono ?_); (case side1 => repeat (first | exact HR0.out | (with_reducible refine Kd.C_alloc ?_ _) | (with_reducible refine Kd.C_drewN ?_ _) | (with_reducible refine Kd.C_drew ?_))); (case side2 => exact HC0.out); rintro e w6 ⟨v1064, v1067, rfl, ho0, ho1, hb⟩; refine ⟨_, rfl, ?_⟩; have HO1065 := Aside0.mk (Kd.R_lower ho0 (below_size (qs HB))); have HO1068 := Aside0.mk (Kd.S_lower ho1 (below_size (qs HB))); replace HB := bst HB hb; clear hb; (try clear ho0); (try clear ho1)) | ((with_reducible refine gate_dst (N := 3) rfl ?_); refine boxA #[.int .i64 0, .int .i64 0, .int .i64 0] 34 ?_; intro gb1070 hg w7 hbox hb; replace HO1065 := rbl HO1065 hb; replace HO1068 := Aside0.mk (Kd.S_below (by (with_reducible repeat (first | apply Kd.S_alloc | apply Kd.S_drewN | apply Kd.S_drew)); exact HO1068.out) hb); have BK1070 := Aside0.mk (hbox); have GW1070 := nge HB hg; have GE1070 := nge HB hg; replace HB := bst HB hb; clear hb hbox hg; have hcz8_0 := b0 BK1070; have hcz8_1 := b1 BK1070; have hcz8_2 := b2 BK1070; have hfz8_0 := blk_frozen BK1070.out 0; have hfz8_1 := blk_frozen BK1070.out 1; have hfz8_2 := blk_frozen BK1070.out 2; obtain ⟨Ao9, co9, eo9⟩ := Kd.R_slice HO1065.out; subst eo9; obtain ⟨Ao10, co10, eo10⟩ := Kd.S_slice HO1068.out; subst eo10) | ((with_reducible refine gate_callee (f := 38) rfl ?_); refine goesLA (some 26) rfl Try.func38 #[.agg #[.int .i64 t1060, .int .i64 t1061, .int .i64 t1062], .slice Ao9 t1063.length co9, .slice Ao10 t1066.length co10, .int .i64 t1069] ?_; (with_reducible refine (impl_Run.calls t1060 t1061 t1062 _ _ t1063 _ _ t1066 t1069 t1071 _ ?side1 ?side2 ?side3 ?side4 A4.out).mono ?_); (case side1 => refine (Kd.R_reads' (e := 84) (base := w.heap.size) (ok := fun k_ => True) (n := t1063.length) (c := co9) ?_).2.2; exact (by (with_reducible repeat (first | apply Kd.R_alloc | apply Kd.R_drewN | apply Kd.R_drew)); exact (Kd.R_mono (Kd.R_far (p := ⟨gb1070, 2, none⟩) (Kd.R_far (p := ⟨gb1070, 1, none⟩) (Kd.R_far (p := ⟨gb1070, 0, none⟩) (Kd.R_types HO1065.out BK1070.out (by decide)) (fun _ hk => hk.2) (.int .i64 t1060)) (fun _ hk => hk.2) (.int .i64 t1061)) (fun _ hk => hk.2) (.int .i64 t1062)) (fun _ h_ => h_.1)))); (case side2 => exact (Kd.R_reads' HO1065.out).2.1); (case side3 => refine (Kd.S_reads' (e := 82) (base := w.heap.size) (ok := fun k_ => True) (n := t1066.length) (c := co10) ?_).2.2; exact (by (with_reducible repeat (first | apply Kd.S_alloc | apply Kd.S_drewN | apply Kd.S_drew)); exact (Kd.S_mono (Kd.S_far (p := ⟨gb1070, 2, none⟩) (Kd.S_far (p := ⟨gb1070, 1, none⟩) (Kd.S_far (p := ⟨gb1070, 0, none⟩) (Kd.S_types HO1068.out BK1070.out (by decide)) (fun _ hk => hk.2) (.int .i64 t1060)) (fun _ hk => hk.2) (.int .i64 t1061)) (fun _ hk => hk.2) (.int .i64 t1062)) (fun _ h_ => h_.1)))); (case side4 => exact (Kd.S_reads' HO1068.out).2.1); rintro e w11 ⟨v1072, rfl, ho0, hb⟩; refine ⟨_, rfl, ?_⟩; replace HO1065 := Aside0.mk (Kd.R_below (by (with_reducible repeat (first | apply Kd.R_alloc | apply Kd.R_drewN | apply Kd.R_drew)); exact (Kd.R_mono (Kd.R_far (p := ⟨gb1070, 2, none⟩) (Kd.R_far (p := ⟨gb1070, 1, none⟩) (Kd.R_far (p := ⟨gb1070, 0, none⟩) (Kd.R_types HO1065.out BK1070.out (by decide)) (fun _ hk => hk.2) (.int .i64 t1060)) (fun _ hk => hk.2) (.int .i64 t1061)) (fun _ hk => hk.2) (.int .i64 t1062)) (fun _ h_ => h_.1))) hb); replace HO1068 := Aside0.mk (Kd.S_below (by (with_reducible repeat (first | apply Kd.S_alloc | apply Kd.S_drewN | apply Kd.S_drew)); exact (Kd.S_mono (Kd.S_far (p := ⟨gb1070, 2, none⟩) (Kd.S_far (p := ⟨gb1070, 1, none⟩) (Kd.S_far (p := ⟨gb1070, 0, none⟩) (Kd.S_types HO1068.out BK1070.out (by decide)) (fun _ hk => hk.2) (.int .i64 t1060)) (fun _ hk => hk.2) (.int .i64 t1061)) (fun _ hk => hk.2) (.int .i64 t1062)) (fun _ h_ => h_.1))) hb); have HO1073 := Aside0.mk (Kd.R_lower ho0 (below_size (qs HB))); replace BK1070 := Aside0.mk (blk_below (g := gb1070) (o := .cells #[.int .i64 t1060, .int .i64 t1061, .int .i64 t1062] 34 (0, 0)) (by (with_reducible repeat (first | refine blk_drewN ?_ _ | refine blk_drew ?_ | refine blk_alloc ?_ _)); refine blk_put (cs := #[.int .i64 t1060, .int .i64 t1061, .int .i64 0]) ?_ 2 _ rfl; (with_reducible repeat (first | refine blk_drewN ?_ _ | refine blk_drew ?_ | refine blk_alloc ?_ _)); refine blk_put (cs := #[.int .i64 t1060, .int .i64 0, .int .i64 0]) ?_ 1 _ rfl; (with_reducible repeat (first | refine blk_drewN ?_ _ | refine blk_drew ?_ | refine blk_alloc ?_ _)); refine blk_put (cs := #[.int .i64 0, .int .i64 0, .int .i64 0]) ?_ 0 _ rfl; (with_reducible repeat (first | refine blk_drewN ?_ _ | refine blk_drew ?_ | refine blk_alloc ?_ _)); exact BK1070.out) hb); replace HB := bst HB hb; clear hb; (try clear ho0); obtain ⟨Ao12, co12, eo12⟩ := Kd.R_slice HO1073.out; subst eo12) | ((with_reducible refine gate_dst (N := 8) rfl ?_); refine boxA #[.int .i64 0, .int .i64 0, .int .i64 0, .int .i64 0, .int .i64 0, .int .i64 0, .int .i64 0, .int .i64 0, .int .i64 0, .int .i64 0] 86 ?_; intro gb1074 hg w13 hbox hb; replace HO1065 := rbl HO1065 hb; replace HO1068 := Aside0.mk (Kd.S_below (by (with_reducible repeat (first | apply Kd.S_alloc | apply Kd.S_drewN | apply Kd.S_drew)); exact HO1068.out) hb); replace HO1073 := Aside0.mk (Kd.R_below (Kd.R_elderB (qr HO1073) gb1074 (Nat.le_of_eq hg.symm)) hb); have BK1074 := Aside0.mk (hbox); have GW1074 := nge HB hg; have GE1074 := nge HB hg; replace HB := bst HB hb; have NB1070_1074 := nlt BK1070 hg; have NB1074_1070 := ngt BK1070 hg; replace BK1070 := bkb BK1070 hb; clear hb hbox hg))
  go_loopg [33] k (fun kq v33 w' => ∃ (x33_1 : Int) (x1075000_1 : Int) (x1075001_1 : Int) (x1075002_1 : Int) (x1075003_1 : Int) (x1075004_1 : Int) (x1075005_1 : Int) (x1075006_1 : Int) (x1075007_1 : Int) (x1075008_1 : Int) (x1075009_1 : Int), v33 = .int .i64 x33_1 ∧ Aside0 (laws_FnTrue.l0 kq t1063 t1071 (t1071.length : Int) x33_1 t1060 t1061 t1062 x1075000_1 x1075001_1 x1075002_1 x1075003_1 x1075004_1 x1075005_1 x1075006_1 x1075007_1 x1075008_1 x1075009_1 = some true) ∧ Aside0 (kq ≤ k) ∧ Aside0 (Kd.R k84 84 w' w.heap.size (fun _ => True) (.slice Ao9 t1063.length co9) t1063) ∧ Aside0 (Kd.R k86 86 w' w.heap.size (fun k_ => k_ ≠ gb1074) (.slice Ao12 t1071.length co12) t1071) ∧ Aside0 (w'.heap[gb1070]? = some (.cells #[.int .i64 t1060, .int .i64 t1061, .int .i64 t1062] 34 (0, 0))) ∧ Aside0 (w'.heap[gb1074]? = some (.cells #[.int .i64 x1075000_1, .int .i64 x1075001_1, .int .i64 x1075002_1, .int .i64 x1075003_1, .int .i64 x1075004_1, .int .i64 x1075005_1, .int .i64 x1075006_1, .int .i64 x1075007_1, .int .i64 x1075008_1, .int .i64 x1075009_1] 86 (0, 0))) ∧ Aside0 (Below w.heap.size w w'))
  case atStart => exact ⟨(0), (0), (0), (0), (0), (0), (0), (0), (0), (0), (0), (by first | rfl | (simp; done) | (simp [*]; done)), H', ⟨Nat.le_refl _⟩, ⟨by (with_reducible repeat (first | apply Kd.R_alloc | apply Kd.R_drewN | apply Kd.R_drew)); exact HO1065.out⟩, ⟨by (with_reducible repeat (first | apply Kd.R_alloc | apply Kd.R_drewN | apply Kd.R_drew)); exact Kd.R_mono HO1073.out (fun _ hk => hk.2)⟩, ⟨qb BK1070⟩, ⟨qb BK1074⟩, ⟨(qs HB)⟩⟩
  case round =>
   clear H'
   try clear c2; try clear c2b0; try clear c2b1; try clear p2; try clear c3; try clear c4; try clear c5; try clear c5b0; try clear c5b1; try clear c9; try clear hcz8_0; try clear hcz8_1; try clear hcz8_2; try clear hfz8_0; try clear hfz8_1; try clear hfz8_2
   obtain ⟨x33_1, x1075000_1, x1075001_1, x1075002_1, x1075003_1, x1075004_1, x1075005_1, x1075006_1, x1075007_1, x1075008_1, x1075009_1, rfl, HA, HK1, HO_4, HO_31, BK1070, BK1074, HB⟩ := hrel
   cases gk with
   | zero => exact absurd HA.out (by simp [laws_FnTrue.l0])
   | succ k1 =>
    have H := HA.out
    clear HA
    simp only [laws_FnTrue.l0] at H
    by_cases c14 : x33_1 < (t1071.length : Int)
    ·rw [if_pos c14] at H
     have c14b0 : decide (x33_1 < (t1071.length : Int)) = true := decide_eq_true c14
     clear c14
     by_cases c15 : 0 ≤ x33_1
     ·rw [if_pos c15] at H
      have c15b0 : decide (0 ≤ x33_1) = true := decide_eq_true c15
      clear c15
      by_cases c16 : x33_1 < (t1071.length : Int)
      ·rw [if_pos c16] at H
       have c16b0 : decide (x33_1 < (t1071.length : Int)) = true := decide_eq_true c16
       clear c16
       have HC17 := Aside0.mk H
       clear H
       have p1075 : 0 ≤ (x33_1 : Int) := of_decide_eq_true (by first | (with_reducible assumption) | assumption)
       have q1075 : x33_1 < (t1071.length : Int) := of_decide_eq_true (by first | (with_reducible assumption) | assumption)
       obtain ⟨ad1075, e1075, hx1075_0, hx1075_1, hx1075_2, hx1075_3, hx1075_4, hx1075_5, hx1075_6, hx1075_7, hx1075_8, hx1075_9⟩ := at_T86 (Kd.R_reads' HO_31.out).2.2 x33_1 p1075 q1075
       cases e1075
       replace p1075 := eq_true p1075
       replace q1075 := eq_true q1075
       go_upto_region 12 with (first | ((with_reducible refine gate_dst (N := 10) rfl ?_); refine boxA #[.int .i64 0, .int .i64 0, .int .i64 0, .int .i64 0, .int .i64 0, .int .i64 0, .int .i64 0, .int .i64 0, .int .i64 0, .int .i64 0] 86 ?_; intro gb1076 hg w18 hbox hb; replace HO_4 := rbl HO_4 hb; replace HO_31 := Aside0.mk (Kd.R_below (Kd.R_elderB (qr HO_31) gb1076 (Nat.le_of_eq hg.symm)) hb); have BK1076 := Aside0.mk (hbox); have GW1076 := nge HB hg; have GE1076 := nge HB hg; replace HB := bst HB hb; have NB1070_1076 := nlt BK1070 hg; have NB1076_1070 := ngt BK1070 hg; replace BK1070 := bkb BK1070 hb; have NB1074_1076 := nlt BK1074 hg; have NB1076_1074 := ngt BK1074 hg; replace BK1074 := bkb BK1074 hb; clear hb hbox hg; have hnb19 := NB1076_1070.out; have hnc19 := NB1070_1076.out; have hnb20 := NB1076_1074.out; have hnc20 := NB1074_1076.out; have hcz21_0 := b0 BK1076; have hcz21_1 := b1 BK1076; have hcz21_2 := b2 BK1076; have hcz21_3 := b3 BK1076; have hcz21_4 := b4 BK1076; have hcz21_5 := b5 BK1076; have hcz21_6 := b6 BK1076; have hcz21_7 := b7 BK1076; have hcz21_8 := b8 BK1076; have hcz21_9 := b9 BK1076; have hfz21_0 := blk_frozen BK1076.out 0; have hfz21_1 := blk_frozen BK1076.out 1; have hfz21_2 := blk_frozen BK1076.out 2; have hfz21_3 := blk_frozen BK1076.out 3; have hfz21_4 := blk_frozen BK1076.out 4; have hfz21_5 := blk_frozen BK1076.out 5; have hfz21_6 := blk_frozen BK1076.out 6; have hfz21_7 := blk_frozen BK1076.out 7; have hfz21_8 := blk_frozen BK1076.out 8; have hfz21_9 := blk_frozen BK1076.out 9))
       (try simp only [Act.put, List.setIfInBounds_toArray, List.set_cons_zero, List.set_cons_succ])
       go_cut [82] (fun v82 wc => ∃ (kq : Nat) (x82_16 : Bool), v82 = .bool x82_16 ∧ Aside0 (laws_FnTrue.j1 kq t1063 (wrap64 (x33_1 + 1)) t1071 (t1071.length : Int) x33_1 x82_16 t1060 t1061 t1062 x1075000_1 x1075001_1 x1075002_1 x1075003_1 x1075004_1 x1075005_1 x1075006_1 x1075007_1 x1075008_1 x1075009_1 ((rd_T86 t1071 x33_1).f0.f0) ((rd_T86 t1071 x33_1).f0.f1) ((rd_T86 t1071 x33_1).f0.f2) ((rd_T86 t1071 x33_1).f0.f3) ((rd_T86 t1071 x33_1).f0.f4) ((rd_T86 t1071 x33_1).f1.f0) ((rd_T86 t1071 x33_1).f1.f1) ((rd_T86 t1071 x33_1).f1.f2) ((rd_T86 t1071 x33_1).f2) ((rd_T86 t1071 x33_1).f3) = some true) ∧ Aside0 (kq ≤ k1) ∧ Aside0 (Kd.R k84 84 wc w.heap.size (fun _ => True) (.slice Ao9 t1063.length co9) t1063) ∧ Aside0 (Kd.R k86 86 wc w.heap.size (fun k_ => k_ ≠ gb1074 ∧ k_ ≠ gb1076) (.slice (some ad1075) t1071.length co12) t1071) ∧ Aside0 (wc.heap[gb1070]? = some (.cells #[.int .i64 t1060, .int .i64 t1061, .int .i64 t1062] 34 (0, 0))) ∧ Aside0 (wc.heap[gb1074]? = some (.cells #[.int .i64 x1075000_1, .int .i64 x1075001_1, .int .i64 x1075002_1, .int .i64 x1075003_1, .int .i64 x1075004_1, .int .i64 x1075005_1, .int .i64 x1075006_1, .int .i64 x1075007_1, .int .i64 x1075008_1, .int .i64 x1075009_1] 86 (0, 0))) ∧ Aside0 (wc.heap[gb1076]? = some (.cells #[.int .i64 ((rd_T86 t1071 x33_1).f0.f0), .int .i64 ((rd_T86 t1071 x33_1).f0.f1), .int .i64 ((rd_T86 t1071 x33_1).f0.f2), .int .i64 ((rd_T86 t1071 x33_1).f0.f3), .int .i64 ((rd_T86 t1071 x33_1).f0.f4), .int .i64 ((rd_T86 t1071 x33_1).f1.f0), .int .i64 ((rd_T86 t1071 x33_1).f1.f1), .int .i64 ((rd_T86 t1071 x33_1).f1.f2), .int .i64 ((rd_T86 t1071 x33_1).f2), .int .i64 ((rd_T86 t1071 x33_1).f3)] 86 (0, 0))) ∧ Aside0 (Below w.heap.size w wc))
       case first =>
        have H := HC17.out
        clear HC17
        by_cases c22 : ((rd_T86 t1071 x33_1).f1.f0) > ((rd_T86 t1071 x33_1).f0.f0)
        ·rw [if_pos c22] at H
         have c22b0 : decide (((rd_T86 t1071 x33_1).f0.f0) < ((rd_T86 t1071 x33_1).f1.f0)) = true := decide_eq_true c22
         clear c22
         (first | rw [c22b0] | (simp only [i64_w, i32_w]; rw [c22b0]) | skip)
         have H' := Aside0.mk H
         clear H
         have hnb23 := NB1076_1070.out
         have hnc23 := NB1070_1076.out
         have hnb24 := NB1076_1074.out
         have hnc24 := NB1074_1076.out
         have hcz25_0 := b0 BK1076
         have hcz25_1 := b1 BK1076
         have hcz25_2 := b2 BK1076
         have hcz25_3 := b3 BK1076
         have hcz25_4 := b4 BK1076
         have hcz25_5 := b5 BK1076
         have hcz25_6 := b6 BK1076
         have hcz25_7 := b7 BK1076
         have hcz25_8 := b8 BK1076
         have hcz25_9 := b9 BK1076
         have hfz25_0 := blk_frozen BK1076.out 0
         have hfz25_1 := blk_frozen BK1076.out 1
         have hfz25_2 := blk_frozen BK1076.out 2
         have hfz25_3 := blk_frozen BK1076.out 3
         have hfz25_4 := blk_frozen BK1076.out 4
         have hfz25_5 := blk_frozen BK1076.out 5
         have hfz25_6 := blk_frozen BK1076.out 6
         have hfz25_7 := blk_frozen BK1076.out 7
         have hfz25_8 := blk_frozen BK1076.out 8
         have hfz25_9 := blk_frozen BK1076.out 9
         go_wp2
         go_meet
         case rel => exact ⟨_, (true), (by first | rfl | (simp; done) | (simp [*]; done)), H', ⟨by have := HK1.out; first | omega | exact Nat.le_refl _⟩, ⟨by (with_reducible repeat (first | apply Kd.R_alloc | apply Kd.R_drewN | apply Kd.R_drew)); exact Kd.R_mono (Kd.R_far (p := ⟨gb1076, 9, none⟩) (Kd.R_far (p := ⟨gb1076, 8, none⟩) (Kd.R_far (p := ⟨gb1076, 7, none⟩) (Kd.R_far (p := ⟨gb1076, 6, none⟩) (Kd.R_far (p := ⟨gb1076, 5, none⟩) (Kd.R_far (p := ⟨gb1076, 4, none⟩) (Kd.R_far (p := ⟨gb1076, 3, none⟩) (Kd.R_far (p := ⟨gb1076, 2, none⟩) (Kd.R_far (p := ⟨gb1076, 1, none⟩) (Kd.R_far (p := ⟨gb1076, 0, none⟩) (Kd.R_types HO_4.out BK1076.out (by decide)) (fun _ hk => hk.2) (.int .i64 ((rd_T86 t1071 x33_1).f0.f0))) (fun _ hk => hk.2) (.int .i64 ((rd_T86 t1071 x33_1).f0.f1))) (fun _ hk => hk.2) (.int .i64 ((rd_T86 t1071 x33_1).f0.f2))) (fun _ hk => hk.2) (.int .i64 ((rd_T86 t1071 x33_1).f0.f3))) (fun _ hk => hk.2) (.int .i64 ((rd_T86 t1071 x33_1).f0.f4))) (fun _ hk => hk.2) (.int .i64 ((rd_T86 t1071 x33_1).f1.f0))) (fun _ hk => hk.2) (.int .i64 ((rd_T86 t1071 x33_1).f1.f1))) (fun _ hk => hk.2) (.int .i64 ((rd_T86 t1071 x33_1).f1.f2))) (fun _ hk => hk.2) (.int .i64 ((rd_T86 t1071 x33_1).f2))) (fun _ hk => hk.2) (.int .i64 ((rd_T86 t1071 x33_1).f3))) (fun _ hk => trivial)⟩, ⟨by (with_reducible repeat (first | apply Kd.R_alloc | apply Kd.R_drewN | apply Kd.R_drew)); exact Kd.R_mono (Kd.R_far (p := ⟨gb1076, 9, none⟩) (Kd.R_far (p := ⟨gb1076, 8, none⟩) (Kd.R_far (p := ⟨gb1076, 7, none⟩) (Kd.R_far (p := ⟨gb1076, 6, none⟩) (Kd.R_far (p := ⟨gb1076, 5, none⟩) (Kd.R_far (p := ⟨gb1076, 4, none⟩) (Kd.R_far (p := ⟨gb1076, 3, none⟩) (Kd.R_far (p := ⟨gb1076, 2, none⟩) (Kd.R_far (p := ⟨gb1076, 1, none⟩) (Kd.R_far (p := ⟨gb1076, 0, none⟩) (Kd.R_mono HO_31.out (fun k_ hk => (⟨hk, hk.2⟩ : _ ∧ k_ ≠ gb1076))) (fun _ hk => hk.2) (.int .i64 ((rd_T86 t1071 x33_1).f0.f0))) (fun _ hk => hk.2) (.int .i64 ((rd_T86 t1071 x33_1).f0.f1))) (fun _ hk => hk.2) (.int .i64 ((rd_T86 t1071 x33_1).f0.f2))) (fun _ hk => hk.2) (.int .i64 ((rd_T86 t1071 x33_1).f0.f3))) (fun _ hk => hk.2) (.int .i64 ((rd_T86 t1071 x33_1).f0.f4))) (fun _ hk => hk.2) (.int .i64 ((rd_T86 t1071 x33_1).f1.f0))) (fun _ hk => hk.2) (.int .i64 ((rd_T86 t1071 x33_1).f1.f1))) (fun _ hk => hk.2) (.int .i64 ((rd_T86 t1071 x33_1).f1.f2))) (fun _ hk => hk.2) (.int .i64 ((rd_T86 t1071 x33_1).f2))) (fun _ hk => hk.2) (.int .i64 ((rd_T86 t1071 x33_1).f3))) (fun _ hk => ⟨hk.1.1, hk.1.2⟩)⟩, ⟨qB BK1070⟩, ⟨qB BK1074⟩, ⟨by (with_reducible repeat (first | refine blk_drewN ?_ _ | refine blk_drew ?_ | refine blk_alloc ?_ _)); refine blk_put (cs := #[.int .i64 ((rd_T86 t1071 x33_1).f0.f0), .int .i64 ((rd_T86 t1071 x33_1).f0.f1), .int .i64 ((rd_T86 t1071 x33_1).f0.f2), .int .i64 ((rd_T86 t1071 x33_1).f0.f3), .int .i64 ((rd_T86 t1071 x33_1).f0.f4), .int .i64 ((rd_T86 t1071 x33_1).f1.f0), .int .i64 ((rd_T86 t1071 x33_1).f1.f1), .int .i64 ((rd_T86 t1071 x33_1).f1.f2), .int .i64 ((rd_T86 t1071 x33_1).f2), .int .i64 0]) ?_ 9 _ rfl; (with_reducible repeat (first | refine blk_drewN ?_ _ | refine blk_drew ?_ | refine blk_alloc ?_ _)); refine blk_put (cs := #[.int .i64 ((rd_T86 t1071 x33_1).f0.f0), .int .i64 ((rd_T86 t1071 x33_1).f0.f1), .int .i64 ((rd_T86 t1071 x33_1).f0.f2), .int .i64 ((rd_T86 t1071 x33_1).f0.f3), .int .i64 ((rd_T86 t1071 x33_1).f0.f4), .int .i64 ((rd_T86 t1071 x33_1).f1.f0), .int .i64 ((rd_T86 t1071 x33_1).f1.f1), .int .i64 ((rd_T86 t1071 x33_1).f1.f2), .int .i64 0, .int .i64 0]) ?_ 8 _ rfl; (with_reducible repeat (first | refine blk_drewN ?_ _ | refine blk_drew ?_ | refine blk_alloc ?_ _)); refine blk_put (cs := #[.int .i64 ((rd_T86 t1071 x33_1).f0.f0), .int .i64 ((rd_T86 t1071 x33_1).f0.f1), .int .i64 ((rd_T86 t1071 x33_1).f0.f2), .int .i64 ((rd_T86 t1071 x33_1).f0.f3), .int .i64 ((rd_T86 t1071 x33_1).f0.f4), .int .i64 ((rd_T86 t1071 x33_1).f1.f0), .int .i64 ((rd_T86 t1071 x33_1).f1.f1), .int .i64 0, .int .i64 0, .int .i64 0]) ?_ 7 _ rfl; (with_reducible repeat (first | refine blk_drewN ?_ _ | refine blk_drew ?_ | refine blk_alloc ?_ _)); refine blk_put (cs := #[.int .i64 ((rd_T86 t1071 x33_1).f0.f0), .int .i64 ((rd_T86 t1071 x33_1).f0.f1), .int .i64 ((rd_T86 t1071 x33_1).f0.f2), .int .i64 ((rd_T86 t1071 x33_1).f0.f3), .int .i64 ((rd_T86 t1071 x33_1).f0.f4), .int .i64 ((rd_T86 t1071 x33_1).f1.f0), .int .i64 0, .int .i64 0, .int .i64 0, .int .i64 0]) ?_ 6 _ rfl; (with_reducible repeat (first | refine blk_drewN ?_ _ | refine blk_drew ?_ | refine blk_alloc ?_ _)); refine blk_put (cs := #[.int .i64 ((rd_T86 t1071 x33_1).f0.f0), .int .i64 ((rd_T86 t1071 x33_1).f0.f1), .int .i64 ((rd_T86 t1071 x33_1).f0.f2), .int .i64 ((rd_T86 t1071 x33_1).f0.f3), .int .i64 ((rd_T86 t1071 x33_1).f0.f4), .int .i64 0, .int .i64 0, .int .i64 0, .int .i64 0, .int .i64 0]) ?_ 5 _ rfl; (with_reducible repeat (first | refine blk_drewN ?_ _ | refine blk_drew ?_ | refine blk_alloc ?_ _)); refine blk_put (cs := #[.int .i64 ((rd_T86 t1071 x33_1).f0.f0), .int .i64 ((rd_T86 t1071 x33_1).f0.f1), .int .i64 ((rd_T86 t1071 x33_1).f0.f2), .int .i64 ((rd_T86 t1071 x33_1).f0.f3), .int .i64 0, .int .i64 0, .int .i64 0, .int .i64 0, .int .i64 0, .int .i64 0]) ?_ 4 _ rfl; (with_reducible repeat (first | refine blk_drewN ?_ _ | refine blk_drew ?_ | refine blk_alloc ?_ _)); refine blk_put (cs := #[.int .i64 ((rd_T86 t1071 x33_1).f0.f0), .int .i64 ((rd_T86 t1071 x33_1).f0.f1), .int .i64 ((rd_T86 t1071 x33_1).f0.f2), .int .i64 0, .int .i64 0, .int .i64 0, .int .i64 0, .int .i64 0, .int .i64 0, .int .i64 0]) ?_ 3 _ rfl; (with_reducible repeat (first | refine blk_drewN ?_ _ | refine blk_drew ?_ | refine blk_alloc ?_ _)); refine blk_put (cs := #[.int .i64 ((rd_T86 t1071 x33_1).f0.f0), .int .i64 ((rd_T86 t1071 x33_1).f0.f1), .int .i64 0, .int .i64 0, .int .i64 0, .int .i64 0, .int .i64 0, .int .i64 0, .int .i64 0, .int .i64 0]) ?_ 2 _ rfl; (with_reducible repeat (first | refine blk_drewN ?_ _ | refine blk_drew ?_ | refine blk_alloc ?_ _)); refine blk_put (cs := #[.int .i64 ((rd_T86 t1071 x33_1).f0.f0), .int .i64 0, .int .i64 0, .int .i64 0, .int .i64 0, .int .i64 0, .int .i64 0, .int .i64 0, .int .i64 0, .int .i64 0]) ?_ 1 _ rfl; (with_reducible repeat (first | refine blk_drewN ?_ _ | refine blk_drew ?_ | refine blk_alloc ?_ _)); refine blk_put (cs := #[.int .i64 0, .int .i64 0, .int .i64 0, .int .i64 0, .int .i64 0, .int .i64 0, .int .i64 0, .int .i64 0, .int .i64 0, .int .i64 0]) ?_ 0 _ rfl; (with_reducible repeat (first | refine blk_drewN ?_ _ | refine blk_drew ?_ | refine blk_alloc ?_ _)); exact BK1076.out⟩, ⟨(qs HB)⟩⟩
        rw [if_neg c22] at H
        have c22b0 : decide (((rd_T86 t1071 x33_1).f0.f0) < ((rd_T86 t1071 x33_1).f1.f0)) = false := decide_eq_false c22
        clear c22
        (first | rw [c22b0] | (simp only [i64_w, i32_w]; rw [c22b0]) | skip)
        by_cases c26 : ((rd_T86 t1071 x33_1).f0.f2) > ((rd_T86 t1071 x33_1).f1.f0)
        ·rw [if_pos c26] at H
         have c26b0 : decide (((rd_T86 t1071 x33_1).f1.f0) < ((rd_T86 t1071 x33_1).f0.f2)) = true := decide_eq_true c26
         clear c26
         have H' := Aside0.mk H
         clear H
         have hnb27 := NB1076_1070.out
         have hnc27 := NB1070_1076.out
         have hnb28 := NB1076_1074.out
         have hnc28 := NB1074_1076.out
         have hcz29_0 := b0 BK1076
         have hcz29_1 := b1 BK1076
         have hcz29_2 := b2 BK1076
         have hcz29_3 := b3 BK1076
         have hcz29_4 := b4 BK1076
         have hcz29_5 := b5 BK1076
         have hcz29_6 := b6 BK1076
         have hcz29_7 := b7 BK1076
         have hcz29_8 := b8 BK1076
         have hcz29_9 := b9 BK1076
         have hfz29_0 := blk_frozen BK1076.out 0
         have hfz29_1 := blk_frozen BK1076.out 1
         have hfz29_2 := blk_frozen BK1076.out 2
         have hfz29_3 := blk_frozen BK1076.out 3
         have hfz29_4 := blk_frozen BK1076.out 4
         have hfz29_5 := blk_frozen BK1076.out 5
         have hfz29_6 := blk_frozen BK1076.out 6
         have hfz29_7 := blk_frozen BK1076.out 7
         have hfz29_8 := blk_frozen BK1076.out 8
         have hfz29_9 := blk_frozen BK1076.out 9
         go_wp2
         go_meet
         case rel => exact ⟨_, (true), (by first | rfl | (simp; done) | (simp [*]; done)), H', ⟨by have := HK1.out; first | omega | exact Nat.le_refl _⟩, ⟨by (with_reducible repeat (first | apply Kd.R_alloc | apply Kd.R_drewN | apply Kd.R_drew)); exact Kd.R_mono (Kd.R_far (p := ⟨gb1076, 9, none⟩) (Kd.R_far (p := ⟨gb1076, 8, none⟩) (Kd.R_far (p := ⟨gb1076, 7, none⟩) (Kd.R_far (p := ⟨gb1076, 6, none⟩) (Kd.R_far (p := ⟨gb1076, 5, none⟩) (Kd.R_far (p := ⟨gb1076, 4, none⟩) (Kd.R_far (p := ⟨gb1076, 3, none⟩) (Kd.R_far (p := ⟨gb1076, 2, none⟩) (Kd.R_far (p := ⟨gb1076, 1, none⟩) (Kd.R_far (p := ⟨gb1076, 0, none⟩) (Kd.R_types HO_4.out BK1076.out (by decide)) (fun _ hk => hk.2) (.int .i64 ((rd_T86 t1071 x33_1).f0.f0))) (fun _ hk => hk.2) (.int .i64 ((rd_T86 t1071 x33_1).f0.f1))) (fun _ hk => hk.2) (.int .i64 ((rd_T86 t1071 x33_1).f0.f2))) (fun _ hk => hk.2) (.int .i64 ((rd_T86 t1071 x33_1).f0.f3))) (fun _ hk => hk.2) (.int .i64 ((rd_T86 t1071 x33_1).f0.f4))) (fun _ hk => hk.2) (.int .i64 ((rd_T86 t1071 x33_1).f1.f0))) (fun _ hk => hk.2) (.int .i64 ((rd_T86 t1071 x33_1).f1.f1))) (fun _ hk => hk.2) (.int .i64 ((rd_T86 t1071 x33_1).f1.f2))) (fun _ hk => hk.2) (.int .i64 ((rd_T86 t1071 x33_1).f2))) (fun _ hk => hk.2) (.int .i64 ((rd_T86 t1071 x33_1).f3))) (fun _ hk => trivial)⟩, ⟨by (with_reducible repeat (first | apply Kd.R_alloc | apply Kd.R_drewN | apply Kd.R_drew)); exact Kd.R_mono (Kd.R_far (p := ⟨gb1076, 9, none⟩) (Kd.R_far (p := ⟨gb1076, 8, none⟩) (Kd.R_far (p := ⟨gb1076, 7, none⟩) (Kd.R_far (p := ⟨gb1076, 6, none⟩) (Kd.R_far (p := ⟨gb1076, 5, none⟩) (Kd.R_far (p := ⟨gb1076, 4, none⟩) (Kd.R_far (p := ⟨gb1076, 3, none⟩) (Kd.R_far (p := ⟨gb1076, 2, none⟩) (Kd.R_far (p := ⟨gb1076, 1, none⟩) (Kd.R_far (p := ⟨gb1076, 0, none⟩) (Kd.R_mono HO_31.out (fun k_ hk => (⟨hk, hk.2⟩ : _ ∧ k_ ≠ gb1076))) (fun _ hk => hk.2) (.int .i64 ((rd_T86 t1071 x33_1).f0.f0))) (fun _ hk => hk.2) (.int .i64 ((rd_T86 t1071 x33_1).f0.f1))) (fun _ hk => hk.2) (.int .i64 ((rd_T86 t1071 x33_1).f0.f2))) (fun _ hk => hk.2) (.int .i64 ((rd_T86 t1071 x33_1).f0.f3))) (fun _ hk => hk.2) (.int .i64 ((rd_T86 t1071 x33_1).f0.f4))) (fun _ hk => hk.2) (.int .i64 ((rd_T86 t1071 x33_1).f1.f0))) (fun _ hk => hk.2) (.int .i64 ((rd_T86 t1071 x33_1).f1.f1))) (fun _ hk => hk.2) (.int .i64 ((rd_T86 t1071 x33_1).f1.f2))) (fun _ hk => hk.2) (.int .i64 ((rd_T86 t1071 x33_1).f2))) (fun _ hk => hk.2) (.int .i64 ((rd_T86 t1071 x33_1).f3))) (fun _ hk => ⟨hk.1.1, hk.1.2⟩)⟩, ⟨qB BK1070⟩, ⟨qB BK1074⟩, ⟨by (with_reducible repeat (first | refine blk_drewN ?_ _ | refine blk_drew ?_ | refine blk_alloc ?_ _)); refine blk_put (cs := #[.int .i64 ((rd_T86 t1071 x33_1).f0.f0), .int .i64 ((rd_T86 t1071 x33_1).f0.f1), .int .i64 ((rd_T86 t1071 x33_1).f0.f2), .int .i64 ((rd_T86 t1071 x33_1).f0.f3), .int .i64 ((rd_T86 t1071 x33_1).f0.f4), .int .i64 ((rd_T86 t1071 x33_1).f1.f0), .int .i64 ((rd_T86 t1071 x33_1).f1.f1), .int .i64 ((rd_T86 t1071 x33_1).f1.f2), .int .i64 ((rd_T86 t1071 x33_1).f2), .int .i64 0]) ?_ 9 _ rfl; (with_reducible repeat (first | refine blk_drewN ?_ _ | refine blk_drew ?_ | refine blk_alloc ?_ _)); refine blk_put (cs := #[.int .i64 ((rd_T86 t1071 x33_1).f0.f0), .int .i64 ((rd_T86 t1071 x33_1).f0.f1), .int .i64 ((rd_T86 t1071 x33_1).f0.f2), .int .i64 ((rd_T86 t1071 x33_1).f0.f3), .int .i64 ((rd_T86 t1071 x33_1).f0.f4), .int .i64 ((rd_T86 t1071 x33_1).f1.f0), .int .i64 ((rd_T86 t1071 x33_1).f1.f1), .int .i64 ((rd_T86 t1071 x33_1).f1.f2), .int .i64 0, .int .i64 0]) ?_ 8 _ rfl; (with_reducible repeat (first | refine blk_drewN ?_ _ | refine blk_drew ?_ | refine blk_alloc ?_ _)); refine blk_put (cs := #[.int .i64 ((rd_T86 t1071 x33_1).f0.f0), .int .i64 ((rd_T86 t1071 x33_1).f0.f1), .int .i64 ((rd_T86 t1071 x33_1).f0.f2), .int .i64 ((rd_T86 t1071 x33_1).f0.f3), .int .i64 ((rd_T86 t1071 x33_1).f0.f4), .int .i64 ((rd_T86 t1071 x33_1).f1.f0), .int .i64 ((rd_T86 t1071 x33_1).f1.f1), .int .i64 0, .int .i64 0, .int .i64 0]) ?_ 7 _ rfl; (with_reducible repeat (first | refine blk_drewN ?_ _ | refine blk_drew ?_ | refine blk_alloc ?_ _)); refine blk_put (cs := #[.int .i64 ((rd_T86 t1071 x33_1).f0.f0), .int .i64 ((rd_T86 t1071 x33_1).f0.f1), .int .i64 ((rd_T86 t1071 x33_1).f0.f2), .int .i64 ((rd_T86 t1071 x33_1).f0.f3), .int .i64 ((rd_T86 t1071 x33_1).f0.f4), .int .i64 ((rd_T86 t1071 x33_1).f1.f0), .int .i64 0, .int .i64 0, .int .i64 0, .int .i64 0]) ?_ 6 _ rfl; (with_reducible repeat (first | refine blk_drewN ?_ _ | refine blk_drew ?_ | refine blk_alloc ?_ _)); refine blk_put (cs := #[.int .i64 ((rd_T86 t1071 x33_1).f0.f0), .int .i64 ((rd_T86 t1071 x33_1).f0.f1), .int .i64 ((rd_T86 t1071 x33_1).f0.f2), .int .i64 ((rd_T86 t1071 x33_1).f0.f3), .int .i64 ((rd_T86 t1071 x33_1).f0.f4), .int .i64 0, .int .i64 0, .int .i64 0, .int .i64 0, .int .i64 0]) ?_ 5 _ rfl; (with_reducible repeat (first | refine blk_drewN ?_ _ | refine blk_drew ?_ | refine blk_alloc ?_ _)); refine blk_put (cs := #[.int .i64 ((rd_T86 t1071 x33_1).f0.f0), .int .i64 ((rd_T86 t1071 x33_1).f0.f1), .int .i64 ((rd_T86 t1071 x33_1).f0.f2), .int .i64 ((rd_T86 t1071 x33_1).f0.f3), .int .i64 0, .int .i64 0, .int .i64 0, .int .i64 0, .int .i64 0, .int .i64 0]) ?_ 4 _ rfl; (with_reducible repeat (first | refine blk_drewN ?_ _ | refine blk_drew ?_ | refine blk_alloc ?_ _)); refine blk_put (cs := #[.int .i64 ((rd_T86 t1071 x33_1).f0.f0), .int .i64 ((rd_T86 t1071 x33_1).f0.f1), .int .i64 ((rd_T86 t1071 x33_1).f0.f2), .int .i64 0, .int .i64 0, .int .i64 0, .int .i64 0, .int .i64 0, .int .i64 0, .int .i64 0]) ?_ 3 _ rfl; (with_reducible repeat (first | refine blk_drewN ?_ _ | refine blk_drew ?_ | refine blk_alloc ?_ _)); refine blk_put (cs := #[.int .i64 ((rd_T86 t1071 x33_1).f0.f0), .int .i64 ((rd_T86 t1071 x33_1).f0.f1), .int .i64 0, .int .i64 0, .int .i64 0, .int .i64 0, .int .i64 0, .int .i64 0, .int .i64 0, .int .i64 0]) ?_ 2 _ rfl; (with_reducible repeat (first | refine blk_drewN ?_ _ | refine blk_drew ?_ | refine blk_alloc ?_ _)); refine blk_put (cs := #[.int .i64 ((rd_T86 t1071 x33_1).f0.f0), .int .i64 0, .int .i64 0, .int .i64 0, .int .i64 0, .int .i64 0, .int .i64 0, .int .i64 0, .int .i64 0, .int .i64 0]) ?_ 1 _ rfl; (with_reducible repeat (first | refine blk_drewN ?_ _ | refine blk_drew ?_ | refine blk_alloc ?_ _)); refine blk_put (cs := #[.int .i64 0, .int .i64 0, .int .i64 0, .int .i64 0, .int .i64 0, .int .i64 0, .int .i64 0, .int .i64 0, .int .i64 0, .int .i64 0]) ?_ 0 _ rfl; (with_reducible repeat (first | refine blk_drewN ?_ _ | refine blk_drew ?_ | refine blk_alloc ?_ _)); exact BK1076.out⟩, ⟨(qs HB)⟩⟩
        rw [if_neg c26] at H
        have c26b0 : decide (((rd_T86 t1071 x33_1).f1.f0) < ((rd_T86 t1071 x33_1).f0.f2)) = false := decide_eq_false c26
        clear c26
        by_cases c30 : ((rd_T86 t1071 x33_1).f1.f0) < x1075005_1
        ·rw [if_pos c30] at H
         have c30b0 : decide (((rd_T86 t1071 x33_1).f1.f0) < x1075005_1) = true := decide_eq_true c30
         clear c30
         have H' := Aside0.mk H
         clear H
         have hnb31 := NB1076_1070.out
         have hnc31 := NB1070_1076.out
         have hnb32 := NB1076_1074.out
         have hnc32 := NB1074_1076.out
         have hcz33_0 := b0 BK1076
         have hcz33_1 := b1 BK1076
         have hcz33_2 := b2 BK1076
         have hcz33_3 := b3 BK1076
         have hcz33_4 := b4 BK1076
         have hcz33_5 := b5 BK1076
         have hcz33_6 := b6 BK1076
         have hcz33_7 := b7 BK1076
         have hcz33_8 := b8 BK1076
         have hcz33_9 := b9 BK1076
         have hfz33_0 := blk_frozen BK1076.out 0
         have hfz33_1 := blk_frozen BK1076.out 1
         have hfz33_2 := blk_frozen BK1076.out 2
         have hfz33_3 := blk_frozen BK1076.out 3
         have hfz33_4 := blk_frozen BK1076.out 4
         have hfz33_5 := blk_frozen BK1076.out 5
         have hfz33_6 := blk_frozen BK1076.out 6
         have hfz33_7 := blk_frozen BK1076.out 7
         have hfz33_8 := blk_frozen BK1076.out 8
         have hfz33_9 := blk_frozen BK1076.out 9
         have hnb34 := NB1074_1070.out
         have hnc34 := NB1070_1074.out
         have hcz35_0 := b0 BK1074
         have hcz35_1 := b1 BK1074
         have hcz35_2 := b2 BK1074
         have hcz35_3 := b3 BK1074
         have hcz35_4 := b4 BK1074
         have hcz35_5 := b5 BK1074
         have hcz35_6 := b6 BK1074
         have hcz35_7 := b7 BK1074
         have hcz35_8 := b8 BK1074
         have hcz35_9 := b9 BK1074
         have hfz35_0 := blk_frozen BK1074.out 0
         have hfz35_1 := blk_frozen BK1074.out 1
         have hfz35_2 := blk_frozen BK1074.out 2
         have hfz35_3 := blk_frozen BK1074.out 3
         have hfz35_4 := blk_frozen BK1074.out 4
         have hfz35_5 := blk_frozen BK1074.out 5
         have hfz35_6 := blk_frozen BK1074.out 6
         have hfz35_7 := blk_frozen BK1074.out 7
         have hfz35_8 := blk_frozen BK1074.out 8
         have hfz35_9 := blk_frozen BK1074.out 9
         go_wp2
         go_meet
         case rel => exact ⟨_, (true), (by first | rfl | (simp; done) | (simp [*]; done)), H', ⟨by have := HK1.out; first | omega | exact Nat.le_refl _⟩, ⟨by (with_reducible repeat (first | apply Kd.R_alloc | apply Kd.R_drewN | apply Kd.R_drew)); exact Kd.R_mono (Kd.R_far (p := ⟨gb1076, 9, none⟩) (Kd.R_far (p := ⟨gb1076, 8, none⟩) (Kd.R_far (p := ⟨gb1076, 7, none⟩) (Kd.R_far (p := ⟨gb1076, 6, none⟩) (Kd.R_far (p := ⟨gb1076, 5, none⟩) (Kd.R_far (p := ⟨gb1076, 4, none⟩) (Kd.R_far (p := ⟨gb1076, 3, none⟩) (Kd.R_far (p := ⟨gb1076, 2, none⟩) (Kd.R_far (p := ⟨gb1076, 1, none⟩) (Kd.R_far (p := ⟨gb1076, 0, none⟩) (Kd.R_types HO_4.out BK1076.out (by decide)) (fun _ hk => hk.2) (.int .i64 ((rd_T86 t1071 x33_1).f0.f0))) (fun _ hk => hk.2) (.int .i64 ((rd_T86 t1071 x33_1).f0.f1))) (fun _ hk => hk.2) (.int .i64 ((rd_T86 t1071 x33_1).f0.f2))) (fun _ hk => hk.2) (.int .i64 ((rd_T86 t1071 x33_1).f0.f3))) (fun _ hk => hk.2) (.int .i64 ((rd_T86 t1071 x33_1).f0.f4))) (fun _ hk => hk.2) (.int .i64 ((rd_T86 t1071 x33_1).f1.f0))) (fun _ hk => hk.2) (.int .i64 ((rd_T86 t1071 x33_1).f1.f1))) (fun _ hk => hk.2) (.int .i64 ((rd_T86 t1071 x33_1).f1.f2))) (fun _ hk => hk.2) (.int .i64 ((rd_T86 t1071 x33_1).f2))) (fun _ hk => hk.2) (.int .i64 ((rd_T86 t1071 x33_1).f3))) (fun _ hk => trivial)⟩, ⟨by (with_reducible repeat (first | apply Kd.R_alloc | apply Kd.R_drewN | apply Kd.R_drew)); exact Kd.R_mono (Kd.R_far (p := ⟨gb1076, 9, none⟩) (Kd.R_far (p := ⟨gb1076, 8, none⟩) (Kd.R_far (p := ⟨gb1076, 7, none⟩) (Kd.R_far (p := ⟨gb1076, 6, none⟩) (Kd.R_far (p := ⟨gb1076, 5, none⟩) (Kd.R_far (p := ⟨gb1076, 4, none⟩) (Kd.R_far (p := ⟨gb1076, 3, none⟩) (Kd.R_far (p := ⟨gb1076, 2, none⟩) (Kd.R_far (p := ⟨gb1076, 1, none⟩) (Kd.R_far (p := ⟨gb1076, 0, none⟩) (Kd.R_mono HO_31.out (fun k_ hk => (⟨hk, hk.2⟩ : _ ∧ k_ ≠ gb1076))) (fun _ hk => hk.2) (.int .i64 ((rd_T86 t1071 x33_1).f0.f0))) (fun _ hk => hk.2) (.int .i64 ((rd_T86 t1071 x33_1).f0.f1))) (fun _ hk => hk.2) (.int .i64 ((rd_T86 t1071 x33_1).f0.f2))) (fun _ hk => hk.2) (.int .i64 ((rd_T86 t1071 x33_1).f0.f3))) (fun _ hk => hk.2) (.int .i64 ((rd_T86 t1071 x33_1).f0.f4))) (fun _ hk => hk.2) (.int .i64 ((rd_T86 t1071 x33_1).f1.f0))) (fun _ hk => hk.2) (.int .i64 ((rd_T86 t1071 x33_1).f1.f1))) (fun _ hk => hk.2) (.int .i64 ((rd_T86 t1071 x33_1).f1.f2))) (fun _ hk => hk.2) (.int .i64 ((rd_T86 t1071 x33_1).f2))) (fun _ hk => hk.2) (.int .i64 ((rd_T86 t1071 x33_1).f3))) (fun _ hk => ⟨hk.1.1, hk.1.2⟩)⟩, ⟨qB BK1070⟩, ⟨qB BK1074⟩, ⟨by (with_reducible repeat (first | refine blk_drewN ?_ _ | refine blk_drew ?_ | refine blk_alloc ?_ _)); refine blk_put (cs := #[.int .i64 ((rd_T86 t1071 x33_1).f0.f0), .int .i64 ((rd_T86 t1071 x33_1).f0.f1), .int .i64 ((rd_T86 t1071 x33_1).f0.f2), .int .i64 ((rd_T86 t1071 x33_1).f0.f3), .int .i64 ((rd_T86 t1071 x33_1).f0.f4), .int .i64 ((rd_T86 t1071 x33_1).f1.f0), .int .i64 ((rd_T86 t1071 x33_1).f1.f1), .int .i64 ((rd_T86 t1071 x33_1).f1.f2), .int .i64 ((rd_T86 t1071 x33_1).f2), .int .i64 0]) ?_ 9 _ rfl; (with_reducible repeat (first | refine blk_drewN ?_ _ | refine blk_drew ?_ | refine blk_alloc ?_ _)); refine blk_put (cs := #[.int .i64 ((rd_T86 t1071 x33_1).f0.f0), .int .i64 ((rd_T86 t1071 x33_1).f0.f1), .int .i64 ((rd_T86 t1071 x33_1).f0.f2), .int .i64 ((rd_T86 t1071 x33_1).f0.f3), .int .i64 ((rd_T86 t1071 x33_1).f0.f4), .int .i64 ((rd_T86 t1071 x33_1).f1.f0), .int .i64 ((rd_T86 t1071 x33_1).f1.f1), .int .i64 ((rd_T86 t1071 x33_1).f1.f2), .int .i64 0, .int .i64 0]) ?_ 8 _ rfl; (with_reducible repeat (first | refine blk_drewN ?_ _ | refine blk_drew ?_ | refine blk_alloc ?_ _)); refine blk_put (cs := #[.int .i64 ((rd_T86 t1071 x33_1).f0.f0), .int .i64 ((rd_T86 t1071 x33_1).f0.f1), .int .i64 ((rd_T86 t1071 x33_1).f0.f2), .int .i64 ((rd_T86 t1071 x33_1).f0.f3), .int .i64 ((rd_T86 t1071 x33_1).f0.f4), .int .i64 ((rd_T86 t1071 x33_1).f1.f0), .int .i64 ((rd_T86 t1071 x33_1).f1.f1), .int .i64 0, .int .i64 0, .int .i64 0]) ?_ 7 _ rfl; (with_reducible repeat (first | refine blk_drewN ?_ _ | refine blk_drew ?_ | refine blk_alloc ?_ _)); refine blk_put (cs := #[.int .i64 ((rd_T86 t1071 x33_1).f0.f0), .int .i64 ((rd_T86 t1071 x33_1).f0.f1), .int .i64 ((rd_T86 t1071 x33_1).f0.f2), .int .i64 ((rd_T86 t1071 x33_1).f0.f3), .int .i64 ((rd_T86 t1071 x33_1).f0.f4), .int .i64 ((rd_T86 t1071 x33_1).f1.f0), .int .i64 0, .int .i64 0, .int .i64 0, .int .i64 0]) ?_ 6 _ rfl; (with_reducible repeat (first | refine blk_drewN ?_ _ | refine blk_drew ?_ | refine blk_alloc ?_ _)); refine blk_put (cs := #[.int .i64 ((rd_T86 t1071 x33_1).f0.f0), .int .i64 ((rd_T86 t1071 x33_1).f0.f1), .int .i64 ((rd_T86 t1071 x33_1).f0.f2), .int .i64 ((rd_T86 t1071 x33_1).f0.f3), .int .i64 ((rd_T86 t1071 x33_1).f0.f4), .int .i64 0, .int .i64 0, .int .i64 0, .int .i64 0, .int .i64 0]) ?_ 5 _ rfl; (with_reducible repeat (first | refine blk_drewN ?_ _ | refine blk_drew ?_ | refine blk_alloc ?_ _)); refine blk_put (cs := #[.int .i64 ((rd_T86 t1071 x33_1).f0.f0), .int .i64 ((rd_T86 t1071 x33_1).f0.f1), .int .i64 ((rd_T86 t1071 x33_1).f0.f2), .int .i64 ((rd_T86 t1071 x33_1).f0.f3), .int .i64 0, .int .i64 0, .int .i64 0, .int .i64 0, .int .i64 0, .int .i64 0]) ?_ 4 _ rfl; (with_reducible repeat (first | refine blk_drewN ?_ _ | refine blk_drew ?_ | refine blk_alloc ?_ _)); refine blk_put (cs := #[.int .i64 ((rd_T86 t1071 x33_1).f0.f0), .int .i64 ((rd_T86 t1071 x33_1).f0.f1), .int .i64 ((rd_T86 t1071 x33_1).f0.f2), .int .i64 0, .int .i64 0, .int .i64 0, .int .i64 0, .int .i64 0, .int .i64 0, .int .i64 0]) ?_ 3 _ rfl; (with_reducible repeat (first | refine blk_drewN ?_ _ | refine blk_drew ?_ | refine blk_alloc ?_ _)); refine blk_put (cs := #[.int .i64 ((rd_T86 t1071 x33_1).f0.f0), .int .i64 ((rd_T86 t1071 x33_1).f0.f1), .int .i64 0, .int .i64 0, .int .i64 0, .int .i64 0, .int .i64 0, .int .i64 0, .int .i64 0, .int .i64 0]) ?_ 2 _ rfl; (with_reducible repeat (first | refine blk_drewN ?_ _ | refine blk_drew ?_ | refine blk_alloc ?_ _)); refine blk_put (cs := #[.int .i64 ((rd_T86 t1071 x33_1).f0.f0), .int .i64 0, .int .i64 0, .int .i64 0, .int .i64 0, .int .i64 0, .int .i64 0, .int .i64 0, .int .i64 0, .int .i64 0]) ?_ 1 _ rfl; (with_reducible repeat (first | refine blk_drewN ?_ _ | refine blk_drew ?_ | refine blk_alloc ?_ _)); refine blk_put (cs := #[.int .i64 0, .int .i64 0, .int .i64 0, .int .i64 0, .int .i64 0, .int .i64 0, .int .i64 0, .int .i64 0, .int .i64 0, .int .i64 0]) ?_ 0 _ rfl; (with_reducible repeat (first | refine blk_drewN ?_ _ | refine blk_drew ?_ | refine blk_alloc ?_ _)); exact BK1076.out⟩, ⟨(qs HB)⟩⟩
        rw [if_neg c30] at H
        have c30b0 : decide (((rd_T86 t1071 x33_1).f1.f0) < x1075005_1) = false := decide_eq_false c30
        clear c30
        by_cases c36 : ((rd_T86 t1071 x33_1).f0.f0) < x1075000_1
        ·rw [if_pos c36] at H
         have c36b0 : decide (((rd_T86 t1071 x33_1).f0.f0) < x1075000_1) = true := decide_eq_true c36
         clear c36
         have H' := Aside0.mk H
         clear H
         have hnb37 := NB1076_1070.out
         have hnc37 := NB1070_1076.out
         have hnb38 := NB1076_1074.out
         have hnc38 := NB1074_1076.out
         have hcz39_0 := b0 BK1076
         have hcz39_1 := b1 BK1076
         have hcz39_2 := b2 BK1076
         have hcz39_3 := b3 BK1076
         have hcz39_4 := b4 BK1076
         have hcz39_5 := b5 BK1076
         have hcz39_6 := b6 BK1076
         have hcz39_7 := b7 BK1076
         have hcz39_8 := b8 BK1076
         have hcz39_9 := b9 BK1076
         have hfz39_0 := blk_frozen BK1076.out 0
         have hfz39_1 := blk_frozen BK1076.out 1
         have hfz39_2 := blk_frozen BK1076.out 2
         have hfz39_3 := blk_frozen BK1076.out 3
         have hfz39_4 := blk_frozen BK1076.out 4
         have hfz39_5 := blk_frozen BK1076.out 5
         have hfz39_6 := blk_frozen BK1076.out 6
         have hfz39_7 := blk_frozen BK1076.out 7
         have hfz39_8 := blk_frozen BK1076.out 8
         have hfz39_9 := blk_frozen BK1076.out 9
         have hnb40 := NB1074_1070.out
         have hnc40 := NB1070_1074.out
         have hcz41_0 := b0 BK1074
         have hcz41_1 := b1 BK1074
         have hcz41_2 := b2 BK1074
         have hcz41_3 := b3 BK1074
         have hcz41_4 := b4 BK1074
         have hcz41_5 := b5 BK1074
         have hcz41_6 := b6 BK1074
         have hcz41_7 := b7 BK1074
         have hcz41_8 := b8 BK1074
         have hcz41_9 := b9 BK1074
         have hfz41_0 := blk_frozen BK1074.out 0
         have hfz41_1 := blk_frozen BK1074.out 1
         have hfz41_2 := blk_frozen BK1074.out 2
         have hfz41_3 := blk_frozen BK1074.out 3
         have hfz41_4 := blk_frozen BK1074.out 4
         have hfz41_5 := blk_frozen BK1074.out 5
         have hfz41_6 := blk_frozen BK1074.out 6
         have hfz41_7 := blk_frozen BK1074.out 7
         have hfz41_8 := blk_frozen BK1074.out 8
         have hfz41_9 := blk_frozen BK1074.out 9
         go_wp2
         go_meet
         case rel => exact ⟨_, (true), (by first | rfl | (simp; done) | (simp [*]; done)), H', ⟨by have := HK1.out; first | omega | exact Nat.le_refl _⟩, ⟨by (with_reducible repeat (first | apply Kd.R_alloc | apply Kd.R_drewN | apply Kd.R_drew)); exact Kd.R_mono (Kd.R_far (p := ⟨gb1076, 9, none⟩) (Kd.R_far (p := ⟨gb1076, 8, none⟩) (Kd.R_far (p := ⟨gb1076, 7, none⟩) (Kd.R_far (p := ⟨gb1076, 6, none⟩) (Kd.R_far (p := ⟨gb1076, 5, none⟩) (Kd.R_far (p := ⟨gb1076, 4, none⟩) (Kd.R_far (p := ⟨gb1076, 3, none⟩) (Kd.R_far (p := ⟨gb1076, 2, none⟩) (Kd.R_far (p := ⟨gb1076, 1, none⟩) (Kd.R_far (p := ⟨gb1076, 0, none⟩) (Kd.R_types HO_4.out BK1076.out (by decide)) (fun _ hk => hk.2) (.int .i64 ((rd_T86 t1071 x33_1).f0.f0))) (fun _ hk => hk.2) (.int .i64 ((rd_T86 t1071 x33_1).f0.f1))) (fun _ hk => hk.2) (.int .i64 ((rd_T86 t1071 x33_1).f0.f2))) (fun _ hk => hk.2) (.int .i64 ((rd_T86 t1071 x33_1).f0.f3))) (fun _ hk => hk.2) (.int .i64 ((rd_T86 t1071 x33_1).f0.f4))) (fun _ hk => hk.2) (.int .i64 ((rd_T86 t1071 x33_1).f1.f0))) (fun _ hk => hk.2) (.int .i64 ((rd_T86 t1071 x33_1).f1.f1))) (fun _ hk => hk.2) (.int .i64 ((rd_T86 t1071 x33_1).f1.f2))) (fun _ hk => hk.2) (.int .i64 ((rd_T86 t1071 x33_1).f2))) (fun _ hk => hk.2) (.int .i64 ((rd_T86 t1071 x33_1).f3))) (fun _ hk => trivial)⟩, ⟨by (with_reducible repeat (first | apply Kd.R_alloc | apply Kd.R_drewN | apply Kd.R_drew)); exact Kd.R_mono (Kd.R_far (p := ⟨gb1076, 9, none⟩) (Kd.R_far (p := ⟨gb1076, 8, none⟩) (Kd.R_far (p := ⟨gb1076, 7, none⟩) (Kd.R_far (p := ⟨gb1076, 6, none⟩) (Kd.R_far (p := ⟨gb1076, 5, none⟩) (Kd.R_far (p := ⟨gb1076, 4, none⟩) (Kd.R_far (p := ⟨gb1076, 3, none⟩) (Kd.R_far (p := ⟨gb1076, 2, none⟩) (Kd.R_far (p := ⟨gb1076, 1, none⟩) (Kd.R_far (p := ⟨gb1076, 0, none⟩) (Kd.R_mono HO_31.out (fun k_ hk => (⟨hk, hk.2⟩ : _ ∧ k_ ≠ gb1076))) (fun _ hk => hk.2) (.int .i64 ((rd_T86 t1071 x33_1).f0.f0))) (fun _ hk => hk.2) (.int .i64 ((rd_T86 t1071 x33_1).f0.f1))) (fun _ hk => hk.2) (.int .i64 ((rd_T86 t1071 x33_1).f0.f2))) (fun _ hk => hk.2) (.int .i64 ((rd_T86 t1071 x33_1).f0.f3))) (fun _ hk => hk.2) (.int .i64 ((rd_T86 t1071 x33_1).f0.f4))) (fun _ hk => hk.2) (.int .i64 ((rd_T86 t1071 x33_1).f1.f0))) (fun _ hk => hk.2) (.int .i64 ((rd_T86 t1071 x33_1).f1.f1))) (fun _ hk => hk.2) (.int .i64 ((rd_T86 t1071 x33_1).f1.f2))) (fun _ hk => hk.2) (.int .i64 ((rd_T86 t1071 x33_1).f2))) (fun _ hk => hk.2) (.int .i64 ((rd_T86 t1071 x33_1).f3))) (fun _ hk => ⟨hk.1.1, hk.1.2⟩)⟩, ⟨qB BK1070⟩, ⟨qB BK1074⟩, ⟨by (with_reducible repeat (first | refine blk_drewN ?_ _ | refine blk_drew ?_ | refine blk_alloc ?_ _)); refine blk_put (cs := #[.int .i64 ((rd_T86 t1071 x33_1).f0.f0), .int .i64 ((rd_T86 t1071 x33_1).f0.f1), .int .i64 ((rd_T86 t1071 x33_1).f0.f2), .int .i64 ((rd_T86 t1071 x33_1).f0.f3), .int .i64 ((rd_T86 t1071 x33_1).f0.f4), .int .i64 ((rd_T86 t1071 x33_1).f1.f0), .int .i64 ((rd_T86 t1071 x33_1).f1.f1), .int .i64 ((rd_T86 t1071 x33_1).f1.f2), .int .i64 ((rd_T86 t1071 x33_1).f2), .int .i64 0]) ?_ 9 _ rfl; (with_reducible repeat (first | refine blk_drewN ?_ _ | refine blk_drew ?_ | refine blk_alloc ?_ _)); refine blk_put (cs := #[.int .i64 ((rd_T86 t1071 x33_1).f0.f0), .int .i64 ((rd_T86 t1071 x33_1).f0.f1), .int .i64 ((rd_T86 t1071 x33_1).f0.f2), .int .i64 ((rd_T86 t1071 x33_1).f0.f3), .int .i64 ((rd_T86 t1071 x33_1).f0.f4), .int .i64 ((rd_T86 t1071 x33_1).f1.f0), .int .i64 ((rd_T86 t1071 x33_1).f1.f1), .int .i64 ((rd_T86 t1071 x33_1).f1.f2), .int .i64 0, .int .i64 0]) ?_ 8 _ rfl; (with_reducible repeat (first | refine blk_drewN ?_ _ | refine blk_drew ?_ | refine blk_alloc ?_ _)); refine blk_put (cs := #[.int .i64 ((rd_T86 t1071 x33_1).f0.f0), .int .i64 ((rd_T86 t1071 x33_1).f0.f1), .int .i64 ((rd_T86 t1071 x33_1).f0.f2), .int .i64 ((rd_T86 t1071 x33_1).f0.f3), .int .i64 ((rd_T86 t1071 x33_1).f0.f4), .int .i64 ((rd_T86 t1071 x33_1).f1.f0), .int .i64 ((rd_T86 t1071 x33_1).f1.f1), .int .i64 0, .int .i64 0, .int .i64 0]) ?_ 7 _ rfl; (with_reducible repeat (first | refine blk_drewN ?_ _ | refine blk_drew ?_ | refine blk_alloc ?_ _)); refine blk_put (cs := #[.int .i64 ((rd_T86 t1071 x33_1).f0.f0), .int .i64 ((rd_T86 t1071 x33_1).f0.f1), .int .i64 ((rd_T86 t1071 x33_1).f0.f2), .int .i64 ((rd_T86 t1071 x33_1).f0.f3), .int .i64 ((rd_T86 t1071 x33_1).f0.f4), .int .i64 ((rd_T86 t1071 x33_1).f1.f0), .int .i64 0, .int .i64 0, .int .i64 0, .int .i64 0]) ?_ 6 _ rfl; (with_reducible repeat (first | refine blk_drewN ?_ _ | refine blk_drew ?_ | refine blk_alloc ?_ _)); refine blk_put (cs := #[.int .i64 ((rd_T86 t1071 x33_1).f0.f0), .int .i64 ((rd_T86 t1071 x33_1).f0.f1), .int .i64 ((rd_T86 t1071 x33_1).f0.f2), .int .i64 ((rd_T86 t1071 x33_1).f0.f3), .int .i64 ((rd_T86 t1071 x33_1).f0.f4), .int .i64 0, .int .i64 0, .int .i64 0, .int .i64 0, .int .i64 0]) ?_ 5 _ rfl; (with_reducible repeat (first | refine blk_drewN ?_ _ | refine blk_drew ?_ | refine blk_alloc ?_ _)); refine blk_put (cs := #[.int .i64 ((rd_T86 t1071 x33_1).f0.f0), .int .i64 ((rd_T86 t1071 x33_1).f0.f1), .int .i64 ((rd_T86 t1071 x33_1).f0.f2), .int .i64 ((rd_T86 t1071 x33_1).f0.f3), .int .i64 0, .int .i64 0, .int .i64 0, .int .i64 0, .int .i64 0, .int .i64 0]) ?_ 4 _ rfl; (with_reducible repeat (first | refine blk_drewN ?_ _ | refine blk_drew ?_ | refine blk_alloc ?_ _)); refine blk_put (cs := #[.int .i64 ((rd_T86 t1071 x33_1).f0.f0), .int .i64 ((rd_T86 t1071 x33_1).f0.f1), .int .i64 ((rd_T86 t1071 x33_1).f0.f2), .int .i64 0, .int .i64 0, .int .i64 0, .int .i64 0, .int .i64 0, .int .i64 0, .int .i64 0]) ?_ 3 _ rfl; (with_reducible repeat (first | refine blk_drewN ?_ _ | refine blk_drew ?_ | refine blk_alloc ?_ _)); refine blk_put (cs := #[.int .i64 ((rd_T86 t1071 x33_1).f0.f0), .int .i64 ((rd_T86 t1071 x33_1).f0.f1), .int .i64 0, .int .i64 0, .int .i64 0, .int .i64 0, .int .i64 0, .int .i64 0, .int .i64 0, .int .i64 0]) ?_ 2 _ rfl; (with_reducible repeat (first | refine blk_drewN ?_ _ | refine blk_drew ?_ | refine blk_alloc ?_ _)); refine blk_put (cs := #[.int .i64 ((rd_T86 t1071 x33_1).f0.f0), .int .i64 0, .int .i64 0, .int .i64 0, .int .i64 0, .int .i64 0, .int .i64 0, .int .i64 0, .int .i64 0, .int .i64 0]) ?_ 1 _ rfl; (with_reducible repeat (first | refine blk_drewN ?_ _ | refine blk_drew ?_ | refine blk_alloc ?_ _)); refine blk_put (cs := #[.int .i64 0, .int .i64 0, .int .i64 0, .int .i64 0, .int .i64 0, .int .i64 0, .int .i64 0, .int .i64 0, .int .i64 0, .int .i64 0]) ?_ 0 _ rfl; (with_reducible repeat (first | refine blk_drewN ?_ _ | refine blk_drew ?_ | refine blk_alloc ?_ _)); exact BK1076.out⟩, ⟨(qs HB)⟩⟩
        rw [if_neg c36] at H
        have c36b0 : decide (((rd_T86 t1071 x33_1).f0.f0) < x1075000_1) = false := decide_eq_false c36
        clear c36
        have H' := Aside0.mk H
        clear H
        have hnb42 := NB1076_1070.out
        have hnc42 := NB1070_1076.out
        have hnb43 := NB1076_1074.out
        have hnc43 := NB1074_1076.out
        have hcz44_0 := b0 BK1076
        have hcz44_1 := b1 BK1076
        have hcz44_2 := b2 BK1076
        have hcz44_3 := b3 BK1076
        have hcz44_4 := b4 BK1076
        have hcz44_5 := b5 BK1076
        have hcz44_6 := b6 BK1076
        have hcz44_7 := b7 BK1076
        have hcz44_8 := b8 BK1076
        have hcz44_9 := b9 BK1076
        have hfz44_0 := blk_frozen BK1076.out 0
        have hfz44_1 := blk_frozen BK1076.out 1
        have hfz44_2 := blk_frozen BK1076.out 2
        have hfz44_3 := blk_frozen BK1076.out 3
        have hfz44_4 := blk_frozen BK1076.out 4
        have hfz44_5 := blk_frozen BK1076.out 5
        have hfz44_6 := blk_frozen BK1076.out 6
        have hfz44_7 := blk_frozen BK1076.out 7
        have hfz44_8 := blk_frozen BK1076.out 8
        have hfz44_9 := blk_frozen BK1076.out 9
        have hnb45 := NB1074_1070.out
        have hnc45 := NB1070_1074.out
        have hcz46_0 := b0 BK1074
        have hcz46_1 := b1 BK1074
        have hcz46_2 := b2 BK1074
        have hcz46_3 := b3 BK1074
        have hcz46_4 := b4 BK1074
        have hcz46_5 := b5 BK1074
        have hcz46_6 := b6 BK1074
        have hcz46_7 := b7 BK1074
        have hcz46_8 := b8 BK1074
        have hcz46_9 := b9 BK1074
        have hfz46_0 := blk_frozen BK1074.out 0
        have hfz46_1 := blk_frozen BK1074.out 1
        have hfz46_2 := blk_frozen BK1074.out 2
        have hfz46_3 := blk_frozen BK1074.out 3
        have hfz46_4 := blk_frozen BK1074.out 4
        have hfz46_5 := blk_frozen BK1074.out 5
        have hfz46_6 := blk_frozen BK1074.out 6
        have hfz46_7 := blk_frozen BK1074.out 7
        have hfz46_8 := blk_frozen BK1074.out 8
        have hfz46_9 := blk_frozen BK1074.out 9
        go_wp2
        go_meet
        case rel => exact ⟨_, (decide (((rd_T86 t1071 x33_1).f0.f2) < x1075002_1)), (by first | rfl | (simp; done) | (simp [*]; done)), H', ⟨by have := HK1.out; first | omega | exact Nat.le_refl _⟩, ⟨by (with_reducible repeat (first | apply Kd.R_alloc | apply Kd.R_drewN | apply Kd.R_drew)); exact Kd.R_mono (Kd.R_far (p := ⟨gb1076, 9, none⟩) (Kd.R_far (p := ⟨gb1076, 8, none⟩) (Kd.R_far (p := ⟨gb1076, 7, none⟩) (Kd.R_far (p := ⟨gb1076, 6, none⟩) (Kd.R_far (p := ⟨gb1076, 5, none⟩) (Kd.R_far (p := ⟨gb1076, 4, none⟩) (Kd.R_far (p := ⟨gb1076, 3, none⟩) (Kd.R_far (p := ⟨gb1076, 2, none⟩) (Kd.R_far (p := ⟨gb1076, 1, none⟩) (Kd.R_far (p := ⟨gb1076, 0, none⟩) (Kd.R_types HO_4.out BK1076.out (by decide)) (fun _ hk => hk.2) (.int .i64 ((rd_T86 t1071 x33_1).f0.f0))) (fun _ hk => hk.2) (.int .i64 ((rd_T86 t1071 x33_1).f0.f1))) (fun _ hk => hk.2) (.int .i64 ((rd_T86 t1071 x33_1).f0.f2))) (fun _ hk => hk.2) (.int .i64 ((rd_T86 t1071 x33_1).f0.f3))) (fun _ hk => hk.2) (.int .i64 ((rd_T86 t1071 x33_1).f0.f4))) (fun _ hk => hk.2) (.int .i64 ((rd_T86 t1071 x33_1).f1.f0))) (fun _ hk => hk.2) (.int .i64 ((rd_T86 t1071 x33_1).f1.f1))) (fun _ hk => hk.2) (.int .i64 ((rd_T86 t1071 x33_1).f1.f2))) (fun _ hk => hk.2) (.int .i64 ((rd_T86 t1071 x33_1).f2))) (fun _ hk => hk.2) (.int .i64 ((rd_T86 t1071 x33_1).f3))) (fun _ hk => trivial)⟩, ⟨by (with_reducible repeat (first | apply Kd.R_alloc | apply Kd.R_drewN | apply Kd.R_drew)); exact Kd.R_mono (Kd.R_far (p := ⟨gb1076, 9, none⟩) (Kd.R_far (p := ⟨gb1076, 8, none⟩) (Kd.R_far (p := ⟨gb1076, 7, none⟩) (Kd.R_far (p := ⟨gb1076, 6, none⟩) (Kd.R_far (p := ⟨gb1076, 5, none⟩) (Kd.R_far (p := ⟨gb1076, 4, none⟩) (Kd.R_far (p := ⟨gb1076, 3, none⟩) (Kd.R_far (p := ⟨gb1076, 2, none⟩) (Kd.R_far (p := ⟨gb1076, 1, none⟩) (Kd.R_far (p := ⟨gb1076, 0, none⟩) (Kd.R_mono HO_31.out (fun k_ hk => (⟨hk, hk.2⟩ : _ ∧ k_ ≠ gb1076))) (fun _ hk => hk.2) (.int .i64 ((rd_T86 t1071 x33_1).f0.f0))) (fun _ hk => hk.2) (.int .i64 ((rd_T86 t1071 x33_1).f0.f1))) (fun _ hk => hk.2) (.int .i64 ((rd_T86 t1071 x33_1).f0.f2))) (fun _ hk => hk.2) (.int .i64 ((rd_T86 t1071 x33_1).f0.f3))) (fun _ hk => hk.2) (.int .i64 ((rd_T86 t1071 x33_1).f0.f4))) (fun _ hk => hk.2) (.int .i64 ((rd_T86 t1071 x33_1).f1.f0))) (fun _ hk => hk.2) (.int .i64 ((rd_T86 t1071 x33_1).f1.f1))) (fun _ hk => hk.2) (.int .i64 ((rd_T86 t1071 x33_1).f1.f2))) (fun _ hk => hk.2) (.int .i64 ((rd_T86 t1071 x33_1).f2))) (fun _ hk => hk.2) (.int .i64 ((rd_T86 t1071 x33_1).f3))) (fun _ hk => ⟨hk.1.1, hk.1.2⟩)⟩, ⟨qB BK1070⟩, ⟨qB BK1074⟩, ⟨by (with_reducible repeat (first | refine blk_drewN ?_ _ | refine blk_drew ?_ | refine blk_alloc ?_ _)); refine blk_put (cs := #[.int .i64 ((rd_T86 t1071 x33_1).f0.f0), .int .i64 ((rd_T86 t1071 x33_1).f0.f1), .int .i64 ((rd_T86 t1071 x33_1).f0.f2), .int .i64 ((rd_T86 t1071 x33_1).f0.f3), .int .i64 ((rd_T86 t1071 x33_1).f0.f4), .int .i64 ((rd_T86 t1071 x33_1).f1.f0), .int .i64 ((rd_T86 t1071 x33_1).f1.f1), .int .i64 ((rd_T86 t1071 x33_1).f1.f2), .int .i64 ((rd_T86 t1071 x33_1).f2), .int .i64 0]) ?_ 9 _ rfl; (with_reducible repeat (first | refine blk_drewN ?_ _ | refine blk_drew ?_ | refine blk_alloc ?_ _)); refine blk_put (cs := #[.int .i64 ((rd_T86 t1071 x33_1).f0.f0), .int .i64 ((rd_T86 t1071 x33_1).f0.f1), .int .i64 ((rd_T86 t1071 x33_1).f0.f2), .int .i64 ((rd_T86 t1071 x33_1).f0.f3), .int .i64 ((rd_T86 t1071 x33_1).f0.f4), .int .i64 ((rd_T86 t1071 x33_1).f1.f0), .int .i64 ((rd_T86 t1071 x33_1).f1.f1), .int .i64 ((rd_T86 t1071 x33_1).f1.f2), .int .i64 0, .int .i64 0]) ?_ 8 _ rfl; (with_reducible repeat (first | refine blk_drewN ?_ _ | refine blk_drew ?_ | refine blk_alloc ?_ _)); refine blk_put (cs := #[.int .i64 ((rd_T86 t1071 x33_1).f0.f0), .int .i64 ((rd_T86 t1071 x33_1).f0.f1), .int .i64 ((rd_T86 t1071 x33_1).f0.f2), .int .i64 ((rd_T86 t1071 x33_1).f0.f3), .int .i64 ((rd_T86 t1071 x33_1).f0.f4), .int .i64 ((rd_T86 t1071 x33_1).f1.f0), .int .i64 ((rd_T86 t1071 x33_1).f1.f1), .int .i64 0, .int .i64 0, .int .i64 0]) ?_ 7 _ rfl; (with_reducible repeat (first | refine blk_drewN ?_ _ | refine blk_drew ?_ | refine blk_alloc ?_ _)); refine blk_put (cs := #[.int .i64 ((rd_T86 t1071 x33_1).f0.f0), .int .i64 ((rd_T86 t1071 x33_1).f0.f1), .int .i64 ((rd_T86 t1071 x33_1).f0.f2), .int .i64 ((rd_T86 t1071 x33_1).f0.f3), .int .i64 ((rd_T86 t1071 x33_1).f0.f4), .int .i64 ((rd_T86 t1071 x33_1).f1.f0), .int .i64 0, .int .i64 0, .int .i64 0, .int .i64 0]) ?_ 6 _ rfl; (with_reducible repeat (first | refine blk_drewN ?_ _ | refine blk_drew ?_ | refine blk_alloc ?_ _)); refine blk_put (cs := #[.int .i64 ((rd_T86 t1071 x33_1).f0.f0), .int .i64 ((rd_T86 t1071 x33_1).f0.f1), .int .i64 ((rd_T86 t1071 x33_1).f0.f2), .int .i64 ((rd_T86 t1071 x33_1).f0.f3), .int .i64 ((rd_T86 t1071 x33_1).f0.f4), .int .i64 0, .int .i64 0, .int .i64 0, .int .i64 0, .int .i64 0]) ?_ 5 _ rfl; (with_reducible repeat (first | refine blk_drewN ?_ _ | refine blk_drew ?_ | refine blk_alloc ?_ _)); refine blk_put (cs := #[.int .i64 ((rd_T86 t1071 x33_1).f0.f0), .int .i64 ((rd_T86 t1071 x33_1).f0.f1), .int .i64 ((rd_T86 t1071 x33_1).f0.f2), .int .i64 ((rd_T86 t1071 x33_1).f0.f3), .int .i64 0, .int .i64 0, .int .i64 0, .int .i64 0, .int .i64 0, .int .i64 0]) ?_ 4 _ rfl; (with_reducible repeat (first | refine blk_drewN ?_ _ | refine blk_drew ?_ | refine blk_alloc ?_ _)); refine blk_put (cs := #[.int .i64 ((rd_T86 t1071 x33_1).f0.f0), .int .i64 ((rd_T86 t1071 x33_1).f0.f1), .int .i64 ((rd_T86 t1071 x33_1).f0.f2), .int .i64 0, .int .i64 0, .int .i64 0, .int .i64 0, .int .i64 0, .int .i64 0, .int .i64 0]) ?_ 3 _ rfl; (with_reducible repeat (first | refine blk_drewN ?_ _ | refine blk_drew ?_ | refine blk_alloc ?_ _)); refine blk_put (cs := #[.int .i64 ((rd_T86 t1071 x33_1).f0.f0), .int .i64 ((rd_T86 t1071 x33_1).f0.f1), .int .i64 0, .int .i64 0, .int .i64 0, .int .i64 0, .int .i64 0, .int .i64 0, .int .i64 0, .int .i64 0]) ?_ 2 _ rfl; (with_reducible repeat (first | refine blk_drewN ?_ _ | refine blk_drew ?_ | refine blk_alloc ?_ _)); refine blk_put (cs := #[.int .i64 ((rd_T86 t1071 x33_1).f0.f0), .int .i64 0, .int .i64 0, .int .i64 0, .int .i64 0, .int .i64 0, .int .i64 0, .int .i64 0, .int .i64 0, .int .i64 0]) ?_ 1 _ rfl; (with_reducible repeat (first | refine blk_drewN ?_ _ | refine blk_drew ?_ | refine blk_alloc ?_ _)); refine blk_put (cs := #[.int .i64 0, .int .i64 0, .int .i64 0, .int .i64 0, .int .i64 0, .int .i64 0, .int .i64 0, .int .i64 0, .int .i64 0, .int .i64 0]) ?_ 0 _ rfl; (with_reducible repeat (first | refine blk_drewN ?_ _ | refine blk_drew ?_ | refine blk_alloc ?_ _)); exact BK1076.out⟩, ⟨(qs HB)⟩⟩
       case rest =>
        clear HC17
        try clear c1; try clear p1; try clear q1; try clear hx1; try clear c2; try clear c2b0; try clear c2b1; try clear p2; try clear c3; try clear c4; try clear c5; try clear c5b0; try clear c5b1; try clear p6; try clear c9; try clear p10; try clear q10; try clear hx10; try clear c14; try clear c14b0; try clear c15; try clear c15b0; try clear c16; try clear c16b0; try clear c19; try clear c20; try clear c22; try clear c22b0; try clear c23; try clear c24; try clear c26; try clear c26b0; try clear c27; try clear c28; try clear c30; try clear c30b0; try clear c31; try clear c32; try clear c34; try clear c36; try clear c36b0; try clear c37; try clear c38; try clear c40; try clear c42; try clear c43; try clear c45; try clear c46; try clear hcz21_0; try clear hcz21_1; try clear hcz21_2; try clear hcz21_3; try clear hcz21_4; try clear hcz21_5; try clear hcz21_6; try clear hcz21_7; try clear hcz21_8; try clear hcz21_9; try clear hcz25_0; try clear hcz25_1; try clear hcz25_2; try clear hcz25_3; try clear hcz25_4; try clear hcz25_5; try clear hcz25_6; try clear hcz25_7; try clear hcz25_8; try clear hcz25_9; try clear hcz29_0; try clear hcz29_1; try clear hcz29_2; try clear hcz29_3; try clear hcz29_4; try clear hcz29_5; try clear hcz29_6; try clear hcz29_7; try clear hcz29_8; try clear hcz29_9; try clear hcz33_0; try clear hcz33_1; try clear hcz33_2; try clear hcz33_3; try clear hcz33_4; try clear hcz33_5; try clear hcz33_6; try clear hcz33_7; try clear hcz33_8; try clear hcz33_9; try clear hcz35_0; try clear hcz35_1; try clear hcz35_2; try clear hcz35_3; try clear hcz35_4; try clear hcz35_5; try clear hcz35_6; try clear hcz35_7; try clear hcz35_8; try clear hcz35_9; try clear hcz39_0; try clear hcz39_1; try clear hcz39_2; try clear hcz39_3; try clear hcz39_4; try clear hcz39_5; try clear hcz39_6; try clear hcz39_7; try clear hcz39_8; try clear hcz39_9; try clear hcz41_0; try clear hcz41_1; try clear hcz41_2; try clear hcz41_3; try clear hcz41_4; try clear hcz41_5; try clear hcz41_6; try clear hcz41_7; try clear hcz41_8; try clear hcz41_9; try clear hcz44_0; try clear hcz44_1; try clear hcz44_2; try clear hcz44_3; try clear hcz44_4; try clear hcz44_5; try clear hcz44_6; try clear hcz44_7; try clear hcz44_8; try clear hcz44_9; try clear hcz46_0; try clear hcz46_1; try clear hcz46_2; try clear hcz46_3; try clear hcz46_4; try clear hcz46_5; try clear hcz46_6; try clear hcz46_7; try clear hcz46_8; try clear hcz46_9; try clear hcz8_0; try clear hcz8_1; try clear hcz8_2; try clear hfz21_0; try clear hfz21_1; try clear hfz21_2; try clear hfz21_3; try clear hfz21_4; try clear hfz21_5; try clear hfz21_6; try clear hfz21_7; try clear hfz21_8; try clear hfz21_9; try clear hfz25_0; try clear hfz25_1; try clear hfz25_2; try clear hfz25_3; try clear hfz25_4; try clear hfz25_5; try clear hfz25_6; try clear hfz25_7; try clear hfz25_8; try clear hfz25_9; try clear hfz29_0; try clear hfz29_1; try clear hfz29_2; try clear hfz29_3; try clear hfz29_4; try clear hfz29_5; try clear hfz29_6; try clear hfz29_7; try clear hfz29_8; try clear hfz29_9; try clear hfz33_0; try clear hfz33_1; try clear hfz33_2; try clear hfz33_3; try clear hfz33_4; try clear hfz33_5; try clear hfz33_6; try clear hfz33_7; try clear hfz33_8; try clear hfz33_9; try clear hfz35_0; try clear hfz35_1; try clear hfz35_2; try clear hfz35_3; try clear hfz35_4; try clear hfz35_5; try clear hfz35_6; try clear hfz35_7; try clear hfz35_8; try clear hfz35_9; try clear hfz39_0; try clear hfz39_1; try clear hfz39_2; try clear hfz39_3; try clear hfz39_4; try clear hfz39_5; try clear hfz39_6; try clear hfz39_7; try clear hfz39_8; try clear hfz39_9; try clear hfz41_0; try clear hfz41_1; try clear hfz41_2; try clear hfz41_3; try clear hfz41_4; try clear hfz41_5; try clear hfz41_6; try clear hfz41_7; try clear hfz41_8; try clear hfz41_9; try clear hfz44_0; try clear hfz44_1; try clear hfz44_2; try clear hfz44_3; try clear hfz44_4; try clear hfz44_5; try clear hfz44_6; try clear hfz44_7; try clear hfz44_8; try clear hfz44_9; try clear hfz46_0; try clear hfz46_1; try clear hfz46_2; try clear hfz46_3; try clear hfz46_4; try clear hfz46_5; try clear hfz46_6; try clear hfz46_7; try clear hfz46_8; try clear hfz46_9; try clear hfz8_0; try clear hfz8_1; try clear hfz8_2; try clear hx1075_0; try clear hx1075_1; try clear hx1075_2; try clear hx1075_3; try clear hx1075_4; try clear hx1075_5; try clear hx1075_6; try clear hx1075_7; try clear hx1075_8; try clear hx1075_9; try clear p1075; try clear p2; try clear q1075
        obtain ⟨kq, x82_16, rfl, HA, HJ16, HO_4, HO_31, BK1070, BK1074, BK1076, HB⟩ := hcut
        cases kq with
        | zero => exact absurd HA.out (by simp [laws_FnTrue.j1])
        | succ kj16 =>
         have H := HA.out
         clear HA
         simp only [laws_FnTrue.j1] at H
         by_cases c47 : x82_16 = true
         ·subst c47
          have H1 : (some false) = some true := by rw [if_pos rfl] at H; exact H
          clear H; have H := H1; clear H1
          exact absurd H (by simp)
         replace c47 := Bool.eq_false_iff.mpr c47
         subst c47
         have H1 : ((impl_Stood.f t1063 ((rd_T86 t1071 x33_1).f1.f0)).bind fun t1077 => (if ((rd_T86 t1071 x33_1).f1.f1) = t1077 then ((impl_Stood.f t1063 ((rd_T86 t1071 x33_1).f0.f0)).bind fun t1078 => (if ((rd_T86 t1071 x33_1).f0.f1) = t1078 then ((impl_Stood.f t1063 ((rd_T86 t1071 x33_1).f1.f0)).bind fun t1079 => ((spec_Stood.f t1063 ((rd_T86 t1071 x33_1).f1.f0)).bind fun t1080 => (laws_FnTrue.j2 kj16 t1063 (wrap64 (x33_1 + 1)) t1071 (t1071.length : Int) x33_1 (t1079 != t1080) t1060 t1061 t1062 x1075000_1 x1075001_1 x1075002_1 x1075003_1 x1075004_1 x1075005_1 x1075006_1 x1075007_1 x1075008_1 x1075009_1 ((rd_T86 t1071 x33_1).f0.f0) ((rd_T86 t1071 x33_1).f0.f1) ((rd_T86 t1071 x33_1).f0.f2) ((rd_T86 t1071 x33_1).f0.f3) ((rd_T86 t1071 x33_1).f0.f4) ((rd_T86 t1071 x33_1).f1.f0) ((rd_T86 t1071 x33_1).f1.f1) ((rd_T86 t1071 x33_1).f1.f2) ((rd_T86 t1071 x33_1).f2) ((rd_T86 t1071 x33_1).f3)))) else (laws_FnTrue.j2 kj16 t1063 (wrap64 (x33_1 + 1)) t1071 (t1071.length : Int) x33_1 true t1060 t1061 t1062 x1075000_1 x1075001_1 x1075002_1 x1075003_1 x1075004_1 x1075005_1 x1075006_1 x1075007_1 x1075008_1 x1075009_1 ((rd_T86 t1071 x33_1).f0.f0) ((rd_T86 t1071 x33_1).f0.f1) ((rd_T86 t1071 x33_1).f0.f2) ((rd_T86 t1071 x33_1).f0.f3) ((rd_T86 t1071 x33_1).f0.f4) ((rd_T86 t1071 x33_1).f1.f0) ((rd_T86 t1071 x33_1).f1.f1) ((rd_T86 t1071 x33_1).f1.f2) ((rd_T86 t1071 x33_1).f2) ((rd_T86 t1071 x33_1).f3)))) else (laws_FnTrue.j2 kj16 t1063 (wrap64 (x33_1 + 1)) t1071 (t1071.length : Int) x33_1 true t1060 t1061 t1062 x1075000_1 x1075001_1 x1075002_1 x1075003_1 x1075004_1 x1075005_1 x1075006_1 x1075007_1 x1075008_1 x1075009_1 ((rd_T86 t1071 x33_1).f0.f0) ((rd_T86 t1071 x33_1).f0.f1) ((rd_T86 t1071 x33_1).f0.f2) ((rd_T86 t1071 x33_1).f0.f3) ((rd_T86 t1071 x33_1).f0.f4) ((rd_T86 t1071 x33_1).f1.f0) ((rd_T86 t1071 x33_1).f1.f1) ((rd_T86 t1071 x33_1).f1.f2) ((rd_T86 t1071 x33_1).f2) ((rd_T86 t1071 x33_1).f3)))) = some true := by rw [if_neg (show ¬ (false = true) by decide)] at H; exact H
         clear H; have H := H1; clear H1
         have HC48 := Aside0.mk H
         clear H
         go_upto_region 14 with (fail)
         go_cut [115] (fun v115 wc => ∃ (kq : Nat) (x115_47 : Bool), v115 = .bool x115_47 ∧ Aside0 (laws_FnTrue.j2 kq t1063 (wrap64 (x33_1 + 1)) t1071 (t1071.length : Int) x33_1 x115_47 t1060 t1061 t1062 x1075000_1 x1075001_1 x1075002_1 x1075003_1 x1075004_1 x1075005_1 x1075006_1 x1075007_1 x1075008_1 x1075009_1 ((rd_T86 t1071 x33_1).f0.f0) ((rd_T86 t1071 x33_1).f0.f1) ((rd_T86 t1071 x33_1).f0.f2) ((rd_T86 t1071 x33_1).f0.f3) ((rd_T86 t1071 x33_1).f0.f4) ((rd_T86 t1071 x33_1).f1.f0) ((rd_T86 t1071 x33_1).f1.f1) ((rd_T86 t1071 x33_1).f1.f2) ((rd_T86 t1071 x33_1).f2) ((rd_T86 t1071 x33_1).f3) = some true) ∧ Aside0 (kq ≤ kj16) ∧ Aside0 (Kd.R k84 84 wc w.heap.size (fun _ => True) (.slice Ao9 t1063.length co9) t1063) ∧ Aside0 (Kd.R k86 86 wc w.heap.size (fun k_ => k_ ≠ gb1074 ∧ k_ ≠ gb1076) (.slice (some ad1075) t1071.length co12) t1071) ∧ Aside0 (wc.heap[gb1070]? = some (.cells #[.int .i64 t1060, .int .i64 t1061, .int .i64 t1062] 34 (0, 0))) ∧ Aside0 (wc.heap[gb1074]? = some (.cells #[.int .i64 x1075000_1, .int .i64 x1075001_1, .int .i64 x1075002_1, .int .i64 x1075003_1, .int .i64 x1075004_1, .int .i64 x1075005_1, .int .i64 x1075006_1, .int .i64 x1075007_1, .int .i64 x1075008_1, .int .i64 x1075009_1] 86 (0, 0))) ∧ Aside0 (wc.heap[gb1076]? = some (.cells #[.int .i64 ((rd_T86 t1071 x33_1).f0.f0), .int .i64 ((rd_T86 t1071 x33_1).f0.f1), .int .i64 ((rd_T86 t1071 x33_1).f0.f2), .int .i64 ((rd_T86 t1071 x33_1).f0.f3), .int .i64 ((rd_T86 t1071 x33_1).f0.f4), .int .i64 ((rd_T86 t1071 x33_1).f1.f0), .int .i64 ((rd_T86 t1071 x33_1).f1.f1), .int .i64 ((rd_T86 t1071 x33_1).f1.f2), .int .i64 ((rd_T86 t1071 x33_1).f2), .int .i64 ((rd_T86 t1071 x33_1).f3)] 86 (0, 0))) ∧ Aside0 (Below w.heap.size w wc))
         case first =>
          have H := HC48.out
          clear HC48
          replace H := Option.bind_eq_some_iff.mp H
          obtain ⟨t1077, A490, H⟩ := H
          replace H : (if ((rd_T86 t1071 x33_1).f1.f1) = t1077 then ((impl_Stood.f t1063 ((rd_T86 t1071 x33_1).f0.f0)).bind fun t1078 => (if ((rd_T86 t1071 x33_1).f0.f1) = t1078 then ((impl_Stood.f t1063 ((rd_T86 t1071 x33_1).f1.f0)).bind fun t1079 => ((spec_Stood.f t1063 ((rd_T86 t1071 x33_1).f1.f0)).bind fun t1080 => (laws_FnTrue.j2 kj16 t1063 (wrap64 (x33_1 + 1)) t1071 (t1071.length : Int) x33_1 (t1079 != t1080) t1060 t1061 t1062 x1075000_1 x1075001_1 x1075002_1 x1075003_1 x1075004_1 x1075005_1 x1075006_1 x1075007_1 x1075008_1 x1075009_1 ((rd_T86 t1071 x33_1).f0.f0) ((rd_T86 t1071 x33_1).f0.f1) ((rd_T86 t1071 x33_1).f0.f2) ((rd_T86 t1071 x33_1).f0.f3) ((rd_T86 t1071 x33_1).f0.f4) ((rd_T86 t1071 x33_1).f1.f0) ((rd_T86 t1071 x33_1).f1.f1) ((rd_T86 t1071 x33_1).f1.f2) ((rd_T86 t1071 x33_1).f2) ((rd_T86 t1071 x33_1).f3)))) else (laws_FnTrue.j2 kj16 t1063 (wrap64 (x33_1 + 1)) t1071 (t1071.length : Int) x33_1 true t1060 t1061 t1062 x1075000_1 x1075001_1 x1075002_1 x1075003_1 x1075004_1 x1075005_1 x1075006_1 x1075007_1 x1075008_1 x1075009_1 ((rd_T86 t1071 x33_1).f0.f0) ((rd_T86 t1071 x33_1).f0.f1) ((rd_T86 t1071 x33_1).f0.f2) ((rd_T86 t1071 x33_1).f0.f3) ((rd_T86 t1071 x33_1).f0.f4) ((rd_T86 t1071 x33_1).f1.f0) ((rd_T86 t1071 x33_1).f1.f1) ((rd_T86 t1071 x33_1).f1.f2) ((rd_T86 t1071 x33_1).f2) ((rd_T86 t1071 x33_1).f3)))) else (laws_FnTrue.j2 kj16 t1063 (wrap64 (x33_1 + 1)) t1071 (t1071.length : Int) x33_1 true t1060 t1061 t1062 x1075000_1 x1075001_1 x1075002_1 x1075003_1 x1075004_1 x1075005_1 x1075006_1 x1075007_1 x1075008_1 x1075009_1 ((rd_T86 t1071 x33_1).f0.f0) ((rd_T86 t1071 x33_1).f0.f1) ((rd_T86 t1071 x33_1).f0.f2) ((rd_T86 t1071 x33_1).f0.f3) ((rd_T86 t1071 x33_1).f0.f4) ((rd_T86 t1071 x33_1).f1.f0) ((rd_T86 t1071 x33_1).f1.f1) ((rd_T86 t1071 x33_1).f1.f2) ((rd_T86 t1071 x33_1).f2) ((rd_T86 t1071 x33_1).f3))) = some true := H
          have A49 := Aside0.mk A490
          clear A490
          by_cases c50 : ((rd_T86 t1071 x33_1).f1.f1) = t1077
          ·rw [if_pos c50] at H
           have c50b0 : (((rd_T86 t1071 x33_1).f1.f1) == t1077) = true := beq_iff_eq.mpr c50
           have c50b1 : (((rd_T86 t1071 x33_1).f1.f1) != t1077) = false := bne_eq_false_iff_eq.mpr c50
           clear c50
           (first | rw [c50b0] | (simp only [i64_w, i32_w]; rw [c50b0]) | skip)
           replace H := Option.bind_eq_some_iff.mp H
           obtain ⟨t1078, A510, H⟩ := H
           replace H : (if ((rd_T86 t1071 x33_1).f0.f1) = t1078 then ((impl_Stood.f t1063 ((rd_T86 t1071 x33_1).f1.f0)).bind fun t1079 => ((spec_Stood.f t1063 ((rd_T86 t1071 x33_1).f1.f0)).bind fun t1080 => (laws_FnTrue.j2 kj16 t1063 (wrap64 (x33_1 + 1)) t1071 (t1071.length : Int) x33_1 (t1079 != t1080) t1060 t1061 t1062 x1075000_1 x1075001_1 x1075002_1 x1075003_1 x1075004_1 x1075005_1 x1075006_1 x1075007_1 x1075008_1 x1075009_1 ((rd_T86 t1071 x33_1).f0.f0) ((rd_T86 t1071 x33_1).f0.f1) ((rd_T86 t1071 x33_1).f0.f2) ((rd_T86 t1071 x33_1).f0.f3) ((rd_T86 t1071 x33_1).f0.f4) ((rd_T86 t1071 x33_1).f1.f0) ((rd_T86 t1071 x33_1).f1.f1) ((rd_T86 t1071 x33_1).f1.f2) ((rd_T86 t1071 x33_1).f2) ((rd_T86 t1071 x33_1).f3)))) else (laws_FnTrue.j2 kj16 t1063 (wrap64 (x33_1 + 1)) t1071 (t1071.length : Int) x33_1 true t1060 t1061 t1062 x1075000_1 x1075001_1 x1075002_1 x1075003_1 x1075004_1 x1075005_1 x1075006_1 x1075007_1 x1075008_1 x1075009_1 ((rd_T86 t1071 x33_1).f0.f0) ((rd_T86 t1071 x33_1).f0.f1) ((rd_T86 t1071 x33_1).f0.f2) ((rd_T86 t1071 x33_1).f0.f3) ((rd_T86 t1071 x33_1).f0.f4) ((rd_T86 t1071 x33_1).f1.f0) ((rd_T86 t1071 x33_1).f1.f1) ((rd_T86 t1071 x33_1).f1.f2) ((rd_T86 t1071 x33_1).f2) ((rd_T86 t1071 x33_1).f3))) = some true := H
           have A51 := Aside0.mk A510
           clear A510
           by_cases c52 : ((rd_T86 t1071 x33_1).f0.f1) = t1078
           ·rw [if_pos c52] at H
            have c52b0 : (((rd_T86 t1071 x33_1).f0.f1) == t1078) = true := beq_iff_eq.mpr c52
            have c52b1 : (((rd_T86 t1071 x33_1).f0.f1) != t1078) = false := bne_eq_false_iff_eq.mpr c52
            clear c52
            replace H := Option.bind_eq_some_iff.mp H
            obtain ⟨t1079, A530, H⟩ := H
            replace H : ((spec_Stood.f t1063 ((rd_T86 t1071 x33_1).f1.f0)).bind fun t1080 => (laws_FnTrue.j2 kj16 t1063 (wrap64 (x33_1 + 1)) t1071 (t1071.length : Int) x33_1 (t1079 != t1080) t1060 t1061 t1062 x1075000_1 x1075001_1 x1075002_1 x1075003_1 x1075004_1 x1075005_1 x1075006_1 x1075007_1 x1075008_1 x1075009_1 ((rd_T86 t1071 x33_1).f0.f0) ((rd_T86 t1071 x33_1).f0.f1) ((rd_T86 t1071 x33_1).f0.f2) ((rd_T86 t1071 x33_1).f0.f3) ((rd_T86 t1071 x33_1).f0.f4) ((rd_T86 t1071 x33_1).f1.f0) ((rd_T86 t1071 x33_1).f1.f1) ((rd_T86 t1071 x33_1).f1.f2) ((rd_T86 t1071 x33_1).f2) ((rd_T86 t1071 x33_1).f3))) = some true := H
            have A53 := Aside0.mk A530
            clear A530
            replace H := Option.bind_eq_some_iff.mp H
            obtain ⟨t1080, A540, H⟩ := H
            replace H : (laws_FnTrue.j2 kj16 t1063 (wrap64 (x33_1 + 1)) t1071 (t1071.length : Int) x33_1 (t1079 != t1080) t1060 t1061 t1062 x1075000_1 x1075001_1 x1075002_1 x1075003_1 x1075004_1 x1075005_1 x1075006_1 x1075007_1 x1075008_1 x1075009_1 ((rd_T86 t1071 x33_1).f0.f0) ((rd_T86 t1071 x33_1).f0.f1) ((rd_T86 t1071 x33_1).f0.f2) ((rd_T86 t1071 x33_1).f0.f3) ((rd_T86 t1071 x33_1).f0.f4) ((rd_T86 t1071 x33_1).f1.f0) ((rd_T86 t1071 x33_1).f1.f1) ((rd_T86 t1071 x33_1).f1.f2) ((rd_T86 t1071 x33_1).f2) ((rd_T86 t1071 x33_1).f3)) = some true := H
            have A54 := Aside0.mk A540
            clear A540
            have H' := Aside0.mk H
            clear H
            try go_wp2
            replace HO_4 := Aside0.mk (Kd.R_drew HO_4.out); replace HO_31 := Aside0.mk (Kd.R_drew HO_31.out); replace BK1070 := Aside0.mk (blk_drew BK1070.out); replace BK1074 := Aside0.mk (blk_drew BK1074.out); replace BK1076 := Aside0.mk (blk_drew BK1076.out); replace HB := Aside0.mk (below_drew1 HB.out)
            refine start_ (n := 33) (S := fun w' => w'.cell? ⟨gb1076, 0, none⟩ = some (.int .i64 ((rd_T86 t1071 x33_1).f0.f0)) ∧ w'.cell? ⟨gb1076, 1, none⟩ = some (.int .i64 ((rd_T86 t1071 x33_1).f0.f1)) ∧ w'.cell? ⟨gb1076, 2, none⟩ = some (.int .i64 ((rd_T86 t1071 x33_1).f0.f2)) ∧ w'.cell? ⟨gb1076, 3, none⟩ = some (.int .i64 ((rd_T86 t1071 x33_1).f0.f3)) ∧ w'.cell? ⟨gb1076, 4, none⟩ = some (.int .i64 ((rd_T86 t1071 x33_1).f0.f4)) ∧ w'.cell? ⟨gb1076, 5, none⟩ = some (.int .i64 ((rd_T86 t1071 x33_1).f1.f0)) ∧ w'.cell? ⟨gb1076, 6, none⟩ = some (.int .i64 ((rd_T86 t1071 x33_1).f1.f1)) ∧ w'.cell? ⟨gb1076, 7, none⟩ = some (.int .i64 ((rd_T86 t1071 x33_1).f1.f2)) ∧ w'.cell? ⟨gb1076, 8, none⟩ = some (.int .i64 ((rd_T86 t1071 x33_1).f2)) ∧ w'.cell? ⟨gb1076, 9, none⟩ = some (.int .i64 ((rd_T86 t1071 x33_1).f3))) (ds := []) #[false, false, false, false, false, false, false, false, false, false, false, false, false, false, false, false, false, false, false, false, false, false, false, false, false, false, false, false, false, false, false, false, false] (by kernel_rfl) rfl rfl ⟨bc BK1076 0, bc BK1076 1, bc BK1076 2, bc BK1076 3, bc BK1076 4, bc BK1076 5, bc BK1076 6, bc BK1076 7, bc BK1076 8, bc BK1076 9⟩ (fun hHeld => ?_); refine with_tabW laws_FnTrue.tab14 laws_FnTrue.bits14 (fun HT_ HW_ => ?_)
            generalize wc.drew = w55 at HO_4 HO_31 BK1070 BK1074 BK1076 HB hHeld ⊢
            refine pureA 0 83 #[true, false, false, false, false, false, false, false, false, false, false, false, false, false, false, false, false, false, false, false, false, false, false, false, false, false, false, false, false, false, false, false, false] (any_of HT_.out (by kernel_rfl)) ?_
            refine pureA 1 84 #[true, true, false, false, false, false, false, false, false, false, false, false, false, false, false, false, false, false, false, false, false, false, false, false, false, false, false, false, false, false, false, false, false] (any_of HT_.out (by kernel_rfl)) ?_
            refine pureA 3 86 #[true, true, false, true, false, false, false, false, false, false, false, false, false, false, false, false, false, false, false, false, false, false, false, false, false, false, false, false, false, false, false, false, false] (any_of HT_.out (by kernel_rfl)) ?_
            refine pureA 4 87 #[true, true, false, true, true, false, false, false, false, false, false, false, false, false, false, false, false, false, false, false, false, false, false, false, false, false, false, false, false, false, false, false, false] (any_of HT_.out (by kernel_rfl)) ?_
            refine pureA 5 88 #[true, true, false, true, true, true, false, false, false, false, false, false, false, false, false, false, false, false, false, false, false, false, false, false, false, false, false, false, false, false, false, false, false] (any_of HT_.out (by kernel_rfl)) ?_
            refine takeA 2 85 #[true, true, true, true, true, true, false, false, false, false, false, false, false, false, false, false, false, false, false, false, false, false, false, false, false, false, false, false, false, false, false, false, false] (take_ofW HT_.out HW_.out (by kernel_rfl)) hHeld ?_
            refine takeA 6 89 #[true, true, true, true, true, true, true, false, false, false, false, false, false, false, false, false, false, false, false, false, false, false, false, false, false, false, false, false, false, false, false, false, false] (take_ofW HT_.out HW_.out (by kernel_rfl)) hHeld ?_
            refine one_ (i := 7) (N := some 90) #[true, true, true, true, true, true, true, true, false, false, false, false, false, false, false, false, false, false, false, false, false, false, false, false, false, false, false, false, false, false, false, false, false] rfl rfl (one_of HT_.out (by kernel_rfl)) (by decide) (fun K hK => ?_)
            refine goesA Try.func51 #[.slice Ao9 t1063.length co9, .int .i64 ((rd_T86 t1071 x33_1).f1.f0)] ?_
            with_reducible refine (impl_Stood.calls _ _ t1063 ((rd_T86 t1071 x33_1).f1.f0) t1077 _ ?side1 ?side2 A49.out).mono ?_
            (case side1 => exact qc (Kd.R_reads' HO_4.out).2.2)
            (case side2 => exact (Kd.R_reads' HO_4.out).2.1)
            rintro e w' ⟨rfl, ⟨nd, rfl⟩⟩
            refine ⟨_, rfl, ?_⟩
            refine hK.out _ _ ⟨bc BK1076 0, bc BK1076 1, bc BK1076 2, bc BK1076 3, bc BK1076 4, bc BK1076 5, bc BK1076 6, bc BK1076 7, bc BK1076 8, bc BK1076 9⟩ (fun hHeld => ?_)
            clear hK K
            refine normP ?_
            refine pureA 8 91 #[true, true, true, true, true, true, true, true, true, false, false, false, false, false, false, false, false, false, false, false, false, false, false, false, false, false, false, false, false, false, false, false, false] (any_of HT_.out (by kernel_rfl)) ?_
            refine pureA 9 92 #[true, true, true, true, true, true, true, true, true, true, false, false, false, false, false, false, false, false, false, false, false, false, false, false, false, false, false, false, false, false, false, false, false] (any_of HT_.out (by kernel_rfl)) ?_
            refine pureA 10 93 #[true, true, true, true, true, true, true, true, true, true, true, false, false, false, false, false, false, false, false, false, false, false, false, false, false, false, false, false, false, false, false, false, false] (any_of HT_.out (by kernel_rfl)) ?_
            refine pureA 11 94 #[true, true, true, true, true, true, true, true, true, true, true, true, false, false, false, false, false, false, false, false, false, false, false, false, false, false, false, false, false, false, false, false, false] (any_of HT_.out (by kernel_rfl)) ?_
            refine pureA 13 96 #[true, true, true, true, true, true, true, true, true, true, true, true, false, true, false, false, false, false, false, false, false, false, false, false, false, false, false, false, false, false, false, false, false] (any_of HT_.out (by kernel_rfl)) ?_
            refine pureA 14 97 #[true, true, true, true, true, true, true, true, true, true, true, true, false, true, true, false, false, false, false, false, false, false, false, false, false, false, false, false, false, false, false, false, false] (any_of HT_.out (by kernel_rfl)) ?_
            refine pureA 15 98 #[true, true, true, true, true, true, true, true, true, true, true, true, false, true, true, true, false, false, false, false, false, false, false, false, false, false, false, false, false, false, false, false, false] (any_of HT_.out (by kernel_rfl)) ?_
            refine takeA 12 95 #[true, true, true, true, true, true, true, true, true, true, true, true, true, true, true, true, false, false, false, false, false, false, false, false, false, false, false, false, false, false, false, false, false] (take_ofW HT_.out HW_.out (by kernel_rfl)) hHeld ?_
            refine takeA 16 99 #[true, true, true, true, true, true, true, true, true, true, true, true, true, true, true, true, true, false, false, false, false, false, false, false, false, false, false, false, false, false, false, false, false] (take_ofW HT_.out HW_.out (by kernel_rfl)) hHeld ?_
            refine one_ (i := 17) (N := some 100) #[true, true, true, true, true, true, true, true, true, true, true, true, true, true, true, true, true, true, false, false, false, false, false, false, false, false, false, false, false, false, false, false, false] rfl rfl (one_of HT_.out (by kernel_rfl)) (by decide) (fun K hK => ?_)
            refine goesA Try.func51 #[.slice Ao9 t1063.length co9, .int .i64 ((rd_T86 t1071 x33_1).f0.f0)] ?_
            with_reducible refine (impl_Stood.calls _ _ t1063 ((rd_T86 t1071 x33_1).f0.f0) t1078 _ ?side1 ?side2 A51.out).mono ?_
            (case side1 => exact qc (Kd.R_reads' HO_4.out).2.2)
            (case side2 => exact (Kd.R_reads' HO_4.out).2.1)
            rintro e w' ⟨rfl, ⟨nd, rfl⟩⟩
            refine ⟨_, rfl, ?_⟩
            refine hK.out _ _ ⟨bc BK1076 0, bc BK1076 1, bc BK1076 2, bc BK1076 3, bc BK1076 4, bc BK1076 5, bc BK1076 6, bc BK1076 7, bc BK1076 8, bc BK1076 9⟩ (fun hHeld => ?_)
            clear hK K
            refine normP ?_
            refine pureA 18 101 #[true, true, true, true, true, true, true, true, true, true, true, true, true, true, true, true, true, true, true, false, false, false, false, false, false, false, false, false, false, false, false, false, false] (any_of HT_.out (by kernel_rfl)) ?_
            refine pureA 19 102 #[true, true, true, true, true, true, true, true, true, true, true, true, true, true, true, true, true, true, true, true, false, false, false, false, false, false, false, false, false, false, false, false, false] (any_of HT_.out (by kernel_rfl)) ?_
            refine pureA 20 103 #[true, true, true, true, true, true, true, true, true, true, true, true, true, true, true, true, true, true, true, true, true, false, false, false, false, false, false, false, false, false, false, false, false] (any_of HT_.out (by kernel_rfl)) ?_
            refine pureA 21 104 #[true, true, true, true, true, true, true, true, true, true, true, true, true, true, true, true, true, true, true, true, true, true, false, false, false, false, false, false, false, false, false, false, false] (any_of HT_.out (by kernel_rfl)) ?_
            refine pureA 22 105 #[true, true, true, true, true, true, true, true, true, true, true, true, true, true, true, true, true, true, true, true, true, true, true, false, false, false, false, false, false, false, false, false, false] (any_of HT_.out (by kernel_rfl)) ?_
            refine pureA 23 106 #[true, true, true, true, true, true, true, true, true, true, true, true, true, true, true, true, true, true, true, true, true, true, true, true, false, false, false, false, false, false, false, false, false] (any_of HT_.out (by kernel_rfl)) ?_
            refine pureA 26 109 #[true, true, true, true, true, true, true, true, true, true, true, true, true, true, true, true, true, true, true, true, true, true, true, true, false, false, true, false, false, false, false, false, false] (any_of HT_.out (by kernel_rfl)) ?_
            refine pureA 27 110 #[true, true, true, true, true, true, true, true, true, true, true, true, true, true, true, true, true, true, true, true, true, true, true, true, false, false, true, true, false, false, false, false, false] (any_of HT_.out (by kernel_rfl)) ?_
            refine pureA 28 111 #[true, true, true, true, true, true, true, true, true, true, true, true, true, true, true, true, true, true, true, true, true, true, true, true, false, false, true, true, true, false, false, false, false] (any_of HT_.out (by kernel_rfl)) ?_
            refine takeA 24 107 #[true, true, true, true, true, true, true, true, true, true, true, true, true, true, true, true, true, true, true, true, true, true, true, true, true, false, true, true, true, false, false, false, false] (take_ofW HT_.out HW_.out (by kernel_rfl)) hHeld ?_
            refine takeA 29 112 #[true, true, true, true, true, true, true, true, true, true, true, true, true, true, true, true, true, true, true, true, true, true, true, true, true, false, true, true, true, true, false, false, false] (take_ofW HT_.out HW_.out (by kernel_rfl)) hHeld ?_
            refine one_ (i := 25) (N := some 108) #[true, true, true, true, true, true, true, true, true, true, true, true, true, true, true, true, true, true, true, true, true, true, true, true, true, true, true, true, true, true, false, false, false] rfl rfl (one_of HT_.out (by kernel_rfl)) (by decide) (fun K hK => ?_)
            refine goesA Try.func51 #[.slice Ao9 t1063.length co9, .int .i64 ((rd_T86 t1071 x33_1).f1.f0)] ?_
            with_reducible refine (impl_Stood.calls _ _ t1063 ((rd_T86 t1071 x33_1).f1.f0) t1079 _ ?side1 ?side2 A53.out).mono ?_
            (case side1 => exact qc (Kd.R_reads' HO_4.out).2.2)
            (case side2 => exact (Kd.R_reads' HO_4.out).2.1)
            rintro e w' ⟨rfl, ⟨nd, rfl⟩⟩
            refine ⟨_, rfl, ?_⟩
            refine hK.out _ _ ⟨bc BK1076 0, bc BK1076 1, bc BK1076 2, bc BK1076 3, bc BK1076 4, bc BK1076 5, bc BK1076 6, bc BK1076 7, bc BK1076 8, bc BK1076 9⟩ (fun hHeld => ?_)
            clear hK K
            refine normP ?_
            refine one_ (i := 30) (N := some 113) #[true, true, true, true, true, true, true, true, true, true, true, true, true, true, true, true, true, true, true, true, true, true, true, true, true, true, true, true, true, true, true, false, false] rfl rfl (one_of HT_.out (by kernel_rfl)) (by decide) (fun K hK => ?_)
            refine goesA Try.func52 #[.slice Ao9 t1063.length co9, .int .i64 ((rd_T86 t1071 x33_1).f1.f0)] ?_
            with_reducible refine (spec_Stood.calls _ _ t1063 ((rd_T86 t1071 x33_1).f1.f0) t1080 _ ?side1 ?side2 A54.out).mono ?_
            (case side1 => exact qc (Kd.R_reads' HO_4.out).2.2)
            (case side2 => exact (Kd.R_reads' HO_4.out).2.1)
            rintro e w' ⟨rfl, ⟨nd, rfl⟩⟩
            refine ⟨_, rfl, ?_⟩
            refine hK.out _ _ ⟨bc BK1076 0, bc BK1076 1, bc BK1076 2, bc BK1076 3, bc BK1076 4, bc BK1076 5, bc BK1076 6, bc BK1076 7, bc BK1076 8, bc BK1076 9⟩ (fun hHeld => ?_)
            clear hK K
            refine normP ?_
            refine pureA 31 114 #[true, true, true, true, true, true, true, true, true, true, true, true, true, true, true, true, true, true, true, true, true, true, true, true, true, true, true, true, true, true, true, true, false] (any_of HT_.out (by kernel_rfl)) ?_
            refine pureA 32 115 #[true, true, true, true, true, true, true, true, true, true, true, true, true, true, true, true, true, true, true, true, true, true, true, true, true, true, true, true, true, true, true, true, true] (any_of HT_.out (by kernel_rfl)) ?_
            refine done_ (done_of HT_.out (by kernel_rfl)) ?_
            try go_wp2
            go_meet
            case rel => exact ⟨_, ((t1079 != t1080)), (by first | rfl | (simp; done) | (simp [*]; done)), H', ⟨by have := HK1.out; have := HJ16.out; first | omega | exact Nat.le_refl _⟩, ⟨by (with_reducible repeat (first | apply Kd.R_alloc | apply Kd.R_drewN | apply Kd.R_drew)); exact HO_4.out⟩, ⟨by (with_reducible repeat (first | apply Kd.R_alloc | apply Kd.R_drewN | apply Kd.R_drew)); exact HO_31.out⟩, ⟨qb BK1070⟩, ⟨qb BK1074⟩, ⟨qb BK1076⟩, ⟨(qs HB)⟩⟩
           rw [if_neg c52] at H
           have c52b0 : (((rd_T86 t1071 x33_1).f0.f1) == t1078) = false := beq_eq_false_iff_ne.mpr c52
           have c52b1 : (((rd_T86 t1071 x33_1).f0.f1) != t1078) = true := bne_iff_ne.mpr c52
           have H' := Aside0.mk H
           clear H
           try go_wp2
           replace HO_4 := Aside0.mk (Kd.R_drew HO_4.out); replace HO_31 := Aside0.mk (Kd.R_drew HO_31.out); replace BK1070 := Aside0.mk (blk_drew BK1070.out); replace BK1074 := Aside0.mk (blk_drew BK1074.out); replace BK1076 := Aside0.mk (blk_drew BK1076.out); replace HB := Aside0.mk (below_drew1 HB.out)
           refine start_ (n := 33) (S := fun w' => w'.cell? ⟨gb1076, 0, none⟩ = some (.int .i64 ((rd_T86 t1071 x33_1).f0.f0)) ∧ w'.cell? ⟨gb1076, 1, none⟩ = some (.int .i64 ((rd_T86 t1071 x33_1).f0.f1)) ∧ w'.cell? ⟨gb1076, 2, none⟩ = some (.int .i64 ((rd_T86 t1071 x33_1).f0.f2)) ∧ w'.cell? ⟨gb1076, 3, none⟩ = some (.int .i64 ((rd_T86 t1071 x33_1).f0.f3)) ∧ w'.cell? ⟨gb1076, 4, none⟩ = some (.int .i64 ((rd_T86 t1071 x33_1).f0.f4)) ∧ w'.cell? ⟨gb1076, 5, none⟩ = some (.int .i64 ((rd_T86 t1071 x33_1).f1.f0)) ∧ w'.cell? ⟨gb1076, 6, none⟩ = some (.int .i64 ((rd_T86 t1071 x33_1).f1.f1)) ∧ w'.cell? ⟨gb1076, 7, none⟩ = some (.int .i64 ((rd_T86 t1071 x33_1).f1.f2)) ∧ w'.cell? ⟨gb1076, 8, none⟩ = some (.int .i64 ((rd_T86 t1071 x33_1).f2)) ∧ w'.cell? ⟨gb1076, 9, none⟩ = some (.int .i64 ((rd_T86 t1071 x33_1).f3))) (ds := []) #[false, false, false, false, false, false, false, false, false, false, false, false, false, false, false, false, false, false, false, false, false, false, false, false, false, false, false, false, false, false, false, false, false] (by kernel_rfl) rfl rfl ⟨bc BK1076 0, bc BK1076 1, bc BK1076 2, bc BK1076 3, bc BK1076 4, bc BK1076 5, bc BK1076 6, bc BK1076 7, bc BK1076 8, bc BK1076 9⟩ (fun hHeld => ?_); refine with_tabW laws_FnTrue.tab14 laws_FnTrue.bits14 (fun HT_ HW_ => ?_)
           generalize wc.drew = w56 at HO_4 HO_31 BK1070 BK1074 BK1076 HB hHeld ⊢
           refine pureA 0 83 #[true, false, false, false, false, false, false, false, false, false, false, false, false, false, false, false, false, false, false, false, false, false, false, false, false, false, false, false, false, false, false, false, false] (any_of HT_.out (by kernel_rfl)) ?_
           refine pureA 1 84 #[true, true, false, false, false, false, false, false, false, false, false, false, false, false, false, false, false, false, false, false, false, false, false, false, false, false, false, false, false, false, false, false, false] (any_of HT_.out (by kernel_rfl)) ?_
           refine pureA 3 86 #[true, true, false, true, false, false, false, false, false, false, false, false, false, false, false, false, false, false, false, false, false, false, false, false, false, false, false, false, false, false, false, false, false] (any_of HT_.out (by kernel_rfl)) ?_
           refine pureA 4 87 #[true, true, false, true, true, false, false, false, false, false, false, false, false, false, false, false, false, false, false, false, false, false, false, false, false, false, false, false, false, false, false, false, false] (any_of HT_.out (by kernel_rfl)) ?_
           refine pureA 5 88 #[true, true, false, true, true, true, false, false, false, false, false, false, false, false, false, false, false, false, false, false, false, false, false, false, false, false, false, false, false, false, false, false, false] (any_of HT_.out (by kernel_rfl)) ?_
           refine takeA 2 85 #[true, true, true, true, true, true, false, false, false, false, false, false, false, false, false, false, false, false, false, false, false, false, false, false, false, false, false, false, false, false, false, false, false] (take_ofW HT_.out HW_.out (by kernel_rfl)) hHeld ?_
           refine takeA 6 89 #[true, true, true, true, true, true, true, false, false, false, false, false, false, false, false, false, false, false, false, false, false, false, false, false, false, false, false, false, false, false, false, false, false] (take_ofW HT_.out HW_.out (by kernel_rfl)) hHeld ?_
           refine one_ (i := 7) (N := some 90) #[true, true, true, true, true, true, true, true, false, false, false, false, false, false, false, false, false, false, false, false, false, false, false, false, false, false, false, false, false, false, false, false, false] rfl rfl (one_of HT_.out (by kernel_rfl)) (by decide) (fun K hK => ?_)
           refine goesA Try.func51 #[.slice Ao9 t1063.length co9, .int .i64 ((rd_T86 t1071 x33_1).f1.f0)] ?_
           with_reducible refine (impl_Stood.calls _ _ t1063 ((rd_T86 t1071 x33_1).f1.f0) t1077 _ ?side1 ?side2 A49.out).mono ?_
           (case side1 => exact qc (Kd.R_reads' HO_4.out).2.2)
           (case side2 => exact (Kd.R_reads' HO_4.out).2.1)
           rintro e w' ⟨rfl, ⟨nd, rfl⟩⟩
           refine ⟨_, rfl, ?_⟩
           refine hK.out _ _ ⟨bc BK1076 0, bc BK1076 1, bc BK1076 2, bc BK1076 3, bc BK1076 4, bc BK1076 5, bc BK1076 6, bc BK1076 7, bc BK1076 8, bc BK1076 9⟩ (fun hHeld => ?_)
           clear hK K
           refine normP ?_
           refine pureA 8 91 #[true, true, true, true, true, true, true, true, true, false, false, false, false, false, false, false, false, false, false, false, false, false, false, false, false, false, false, false, false, false, false, false, false] (any_of HT_.out (by kernel_rfl)) ?_
           refine pureA 9 92 #[true, true, true, true, true, true, true, true, true, true, false, false, false, false, false, false, false, false, false, false, false, false, false, false, false, false, false, false, false, false, false, false, false] (any_of HT_.out (by kernel_rfl)) ?_
           refine pureA 10 93 #[true, true, true, true, true, true, true, true, true, true, true, false, false, false, false, false, false, false, false, false, false, false, false, false, false, false, false, false, false, false, false, false, false] (any_of HT_.out (by kernel_rfl)) ?_
           refine pureA 11 94 #[true, true, true, true, true, true, true, true, true, true, true, true, false, false, false, false, false, false, false, false, false, false, false, false, false, false, false, false, false, false, false, false, false] (any_of HT_.out (by kernel_rfl)) ?_
           refine pureA 13 96 #[true, true, true, true, true, true, true, true, true, true, true, true, false, true, false, false, false, false, false, false, false, false, false, false, false, false, false, false, false, false, false, false, false] (any_of HT_.out (by kernel_rfl)) ?_
           refine pureA 14 97 #[true, true, true, true, true, true, true, true, true, true, true, true, false, true, true, false, false, false, false, false, false, false, false, false, false, false, false, false, false, false, false, false, false] (any_of HT_.out (by kernel_rfl)) ?_
           refine pureA 15 98 #[true, true, true, true, true, true, true, true, true, true, true, true, false, true, true, true, false, false, false, false, false, false, false, false, false, false, false, false, false, false, false, false, false] (any_of HT_.out (by kernel_rfl)) ?_
           refine takeA 12 95 #[true, true, true, true, true, true, true, true, true, true, true, true, true, true, true, true, false, false, false, false, false, false, false, false, false, false, false, false, false, false, false, false, false] (take_ofW HT_.out HW_.out (by kernel_rfl)) hHeld ?_
           refine takeA 16 99 #[true, true, true, true, true, true, true, true, true, true, true, true, true, true, true, true, true, false, false, false, false, false, false, false, false, false, false, false, false, false, false, false, false] (take_ofW HT_.out HW_.out (by kernel_rfl)) hHeld ?_
           refine one_ (i := 17) (N := some 100) #[true, true, true, true, true, true, true, true, true, true, true, true, true, true, true, true, true, true, false, false, false, false, false, false, false, false, false, false, false, false, false, false, false] rfl rfl (one_of HT_.out (by kernel_rfl)) (by decide) (fun K hK => ?_)
           refine goesA Try.func51 #[.slice Ao9 t1063.length co9, .int .i64 ((rd_T86 t1071 x33_1).f0.f0)] ?_
           with_reducible refine (impl_Stood.calls _ _ t1063 ((rd_T86 t1071 x33_1).f0.f0) t1078 _ ?side1 ?side2 A51.out).mono ?_
           (case side1 => exact qc (Kd.R_reads' HO_4.out).2.2)
           (case side2 => exact (Kd.R_reads' HO_4.out).2.1)
           rintro e w' ⟨rfl, ⟨nd, rfl⟩⟩
           refine ⟨_, rfl, ?_⟩
           refine hK.out _ _ ⟨bc BK1076 0, bc BK1076 1, bc BK1076 2, bc BK1076 3, bc BK1076 4, bc BK1076 5, bc BK1076 6, bc BK1076 7, bc BK1076 8, bc BK1076 9⟩ (fun hHeld => ?_)
           clear hK K
           refine normP ?_
           refine pureA 18 101 #[true, true, true, true, true, true, true, true, true, true, true, true, true, true, true, true, true, true, true, false, false, false, false, false, false, false, false, false, false, false, false, false, false] (any_of HT_.out (by kernel_rfl)) ?_
           refine pureA 19 102 #[true, true, true, true, true, true, true, true, true, true, true, true, true, true, true, true, true, true, true, true, false, false, false, false, false, false, false, false, false, false, false, false, false] (any_of HT_.out (by kernel_rfl)) ?_
           refine pureA 20 103 #[true, true, true, true, true, true, true, true, true, true, true, true, true, true, true, true, true, true, true, true, true, false, false, false, false, false, false, false, false, false, false, false, false] (any_of HT_.out (by kernel_rfl)) ?_
           refine pure_ (i := 21) (N := some 104) (v := undef) (a' := ?_) #[true, true, true, true, true, true, true, true, true, true, true, true, true, true, true, true, true, true, true, true, true, true, false, false, false, false, false, false, false, false, false, false, false] rfl rfl (any_of HT_.out (by kernel_rfl)) (fun _ _ _ h => h) (Or.inr ⟨by rfl, rfl⟩) ?_ ?_
           rotate_left
           ·simp only [Act.put, List.setIfInBounds_toArray, List.set_cons_zero, List.set_cons_succ, i64_w, i32_w]
            rfl
           refine pure_ (i := 22) (N := some 105) (v := undef) (a' := ?_) #[true, true, true, true, true, true, true, true, true, true, true, true, true, true, true, true, true, true, true, true, true, true, true, false, false, false, false, false, false, false, false, false, false] rfl rfl (any_of HT_.out (by kernel_rfl)) (fun _ _ _ h => h) (Or.inr ⟨by rfl, rfl⟩) ?_ ?_
           rotate_left
           ·simp only [Act.put, List.setIfInBounds_toArray, List.set_cons_zero, List.set_cons_succ, i64_w, i32_w]
            rfl
           refine pure_ (i := 23) (N := some 106) (v := undef) (a' := ?_) #[true, true, true, true, true, true, true, true, true, true, true, true, true, true, true, true, true, true, true, true, true, true, true, true, false, false, false, false, false, false, false, false, false] rfl rfl (any_of HT_.out (by kernel_rfl)) (fun _ _ _ h => h) (Or.inr ⟨by rfl, rfl⟩) ?_ ?_
           rotate_left
           ·simp only [Act.put, List.setIfInBounds_toArray, List.set_cons_zero, List.set_cons_succ, i64_w, i32_w]
            rfl
           refine pure_ (i := 24) (N := some 107) (v := undef) (a' := ?_) #[true, true, true, true, true, true, true, true, true, true, true, true, true, true, true, true, true, true, true, true, true, true, true, true, true, false, false, false, false, false, false, false, false] rfl rfl (any_of HT_.out (by kernel_rfl)) (fun _ _ _ h => h) (Or.inr ⟨by rfl, rfl⟩) ?_ ?_
           rotate_left
           ·simp only [Act.put, List.setIfInBounds_toArray, List.set_cons_zero, List.set_cons_succ, i64_w, i32_w]
            rfl
           refine pure_ (i := 25) (N := some 108) (v := undef) (a' := ?_) #[true, true, true, true, true, true, true, true, true, true, true, true, true, true, true, true, true, true, true, true, true, true, true, true, true, true, false, false, false, false, false, false, false] rfl rfl (any_of HT_.out (by kernel_rfl)) (fun _ _ _ h => h) (Or.inr ⟨by rfl, rfl⟩) ?_ ?_
           rotate_left
           ·simp only [Act.put, List.setIfInBounds_toArray, List.set_cons_zero, List.set_cons_succ, i64_w, i32_w]
            rfl
           refine pure_ (i := 26) (N := some 109) (v := undef) (a' := ?_) #[true, true, true, true, true, true, true, true, true, true, true, true, true, true, true, true, true, true, true, true, true, true, true, true, true, true, true, false, false, false, false, false, false] rfl rfl (any_of HT_.out (by kernel_rfl)) (fun _ _ _ h => h) (Or.inr ⟨by rfl, rfl⟩) ?_ ?_
           rotate_left
           ·simp only [Act.put, List.setIfInBounds_toArray, List.set_cons_zero, List.set_cons_succ, i64_w, i32_w]
            rfl
           refine pure_ (i := 27) (N := some 110) (v := undef) (a' := ?_) #[true, true, true, true, true, true, true, true, true, true, true, true, true, true, true, true, true, true, true, true, true, true, true, true, true, true, true, true, false, false, false, false, false] rfl rfl (any_of HT_.out (by kernel_rfl)) (fun _ _ _ h => h) (Or.inr ⟨by rfl, rfl⟩) ?_ ?_
           rotate_left
           ·simp only [Act.put, List.setIfInBounds_toArray, List.set_cons_zero, List.set_cons_succ, i64_w, i32_w]
            rfl
           refine pure_ (i := 28) (N := some 111) (v := undef) (a' := ?_) #[true, true, true, true, true, true, true, true, true, true, true, true, true, true, true, true, true, true, true, true, true, true, true, true, true, true, true, true, true, false, false, false, false] rfl rfl (any_of HT_.out (by kernel_rfl)) (fun _ _ _ h => h) (Or.inr ⟨by rfl, rfl⟩) ?_ ?_
           rotate_left
           ·simp only [Act.put, List.setIfInBounds_toArray, List.set_cons_zero, List.set_cons_succ, i64_w, i32_w]
            rfl
           refine pure_ (i := 29) (N := some 112) (v := undef) (a' := ?_) #[true, true, true, true, true, true, true, true, true, true, true, true, true, true, true, true, true, true, true, true, true, true, true, true, true, true, true, true, true, true, false, false, false] rfl rfl (any_of HT_.out (by kernel_rfl)) (fun _ _ _ h => h) (Or.inr ⟨by rfl, rfl⟩) ?_ ?_
           rotate_left
           ·simp only [Act.put, List.setIfInBounds_toArray, List.set_cons_zero, List.set_cons_succ, i64_w, i32_w]
            rfl
           refine pure_ (i := 30) (N := some 113) (v := undef) (a' := ?_) #[true, true, true, true, true, true, true, true, true, true, true, true, true, true, true, true, true, true, true, true, true, true, true, true, true, true, true, true, true, true, true, false, false] rfl rfl (any_of HT_.out (by kernel_rfl)) (fun _ _ _ h => h) (Or.inr ⟨by rfl, rfl⟩) ?_ ?_
           rotate_left
           ·simp only [Act.put, List.setIfInBounds_toArray, List.set_cons_zero, List.set_cons_succ, i64_w, i32_w]
            rfl
           refine pure_ (i := 31) (N := some 114) (v := undef) (a' := ?_) #[true, true, true, true, true, true, true, true, true, true, true, true, true, true, true, true, true, true, true, true, true, true, true, true, true, true, true, true, true, true, true, true, false] rfl rfl (any_of HT_.out (by kernel_rfl)) (fun _ _ _ h => h) (Or.inr ⟨by rfl, rfl⟩) ?_ ?_
           rotate_left
           ·simp only [Act.put, List.setIfInBounds_toArray, List.set_cons_zero, List.set_cons_succ, i64_w, i32_w]
            rfl
           refine pureA 32 115 #[true, true, true, true, true, true, true, true, true, true, true, true, true, true, true, true, true, true, true, true, true, true, true, true, true, true, true, true, true, true, true, true, true] (any_of HT_.out (by kernel_rfl)) ?_
           refine done_ (done_of HT_.out (by kernel_rfl)) ?_
           try go_wp2
           go_meet
           case rel => exact ⟨_, (true), (by first | rfl | (simp; done) | (simp [*]; done)), H', ⟨by have := HK1.out; have := HJ16.out; first | omega | exact Nat.le_refl _⟩, ⟨by (with_reducible repeat (first | apply Kd.R_alloc | apply Kd.R_drewN | apply Kd.R_drew)); exact HO_4.out⟩, ⟨by (with_reducible repeat (first | apply Kd.R_alloc | apply Kd.R_drewN | apply Kd.R_drew)); exact HO_31.out⟩, ⟨qb BK1070⟩, ⟨qb BK1074⟩, ⟨qb BK1076⟩, ⟨(qs HB)⟩⟩
          rw [if_neg c50] at H
          have c50b0 : (((rd_T86 t1071 x33_1).f1.f1) == t1077) = false := beq_eq_false_iff_ne.mpr c50
          have c50b1 : (((rd_T86 t1071 x33_1).f1.f1) != t1077) = true := bne_iff_ne.mpr c50
          (first | rw [c50b0] | (simp only [i64_w, i32_w]; rw [c50b0]) | skip)
          have H' := Aside0.mk H
          clear H
          try go_wp2
          replace HO_4 := Aside0.mk (Kd.R_drew HO_4.out); replace HO_31 := Aside0.mk (Kd.R_drew HO_31.out); replace BK1070 := Aside0.mk (blk_drew BK1070.out); replace BK1074 := Aside0.mk (blk_drew BK1074.out); replace BK1076 := Aside0.mk (blk_drew BK1076.out); replace HB := Aside0.mk (below_drew1 HB.out)
          refine start_ (n := 33) (S := fun w' => w'.cell? ⟨gb1076, 0, none⟩ = some (.int .i64 ((rd_T86 t1071 x33_1).f0.f0)) ∧ w'.cell? ⟨gb1076, 1, none⟩ = some (.int .i64 ((rd_T86 t1071 x33_1).f0.f1)) ∧ w'.cell? ⟨gb1076, 2, none⟩ = some (.int .i64 ((rd_T86 t1071 x33_1).f0.f2)) ∧ w'.cell? ⟨gb1076, 3, none⟩ = some (.int .i64 ((rd_T86 t1071 x33_1).f0.f3)) ∧ w'.cell? ⟨gb1076, 4, none⟩ = some (.int .i64 ((rd_T86 t1071 x33_1).f0.f4)) ∧ w'.cell? ⟨gb1076, 5, none⟩ = some (.int .i64 ((rd_T86 t1071 x33_1).f1.f0)) ∧ w'.cell? ⟨gb1076, 6, none⟩ = some (.int .i64 ((rd_T86 t1071 x33_1).f1.f1)) ∧ w'.cell? ⟨gb1076, 7, none⟩ = some (.int .i64 ((rd_T86 t1071 x33_1).f1.f2)) ∧ w'.cell? ⟨gb1076, 8, none⟩ = some (.int .i64 ((rd_T86 t1071 x33_1).f2)) ∧ w'.cell? ⟨gb1076, 9, none⟩ = some (.int .i64 ((rd_T86 t1071 x33_1).f3))) (ds := []) #[false, false, false, false, false, false, false, false, false, false, false, false, false, false, false, false, false, false, false, false, false, false, false, false, false, false, false, false, false, false, false, false, false] (by kernel_rfl) rfl rfl ⟨bc BK1076 0, bc BK1076 1, bc BK1076 2, bc BK1076 3, bc BK1076 4, bc BK1076 5, bc BK1076 6, bc BK1076 7, bc BK1076 8, bc BK1076 9⟩ (fun hHeld => ?_); refine with_tabW laws_FnTrue.tab14 laws_FnTrue.bits14 (fun HT_ HW_ => ?_)
          generalize wc.drew = w57 at HO_4 HO_31 BK1070 BK1074 BK1076 HB hHeld ⊢
          refine pureA 0 83 #[true, false, false, false, false, false, false, false, false, false, false, false, false, false, false, false, false, false, false, false, false, false, false, false, false, false, false, false, false, false, false, false, false] (any_of HT_.out (by kernel_rfl)) ?_
          refine pureA 1 84 #[true, true, false, false, false, false, false, false, false, false, false, false, false, false, false, false, false, false, false, false, false, false, false, false, false, false, false, false, false, false, false, false, false] (any_of HT_.out (by kernel_rfl)) ?_
          refine pureA 3 86 #[true, true, false, true, false, false, false, false, false, false, false, false, false, false, false, false, false, false, false, false, false, false, false, false, false, false, false, false, false, false, false, false, false] (any_of HT_.out (by kernel_rfl)) ?_
          refine pureA 4 87 #[true, true, false, true, true, false, false, false, false, false, false, false, false, false, false, false, false, false, false, false, false, false, false, false, false, false, false, false, false, false, false, false, false] (any_of HT_.out (by kernel_rfl)) ?_
          refine pureA 5 88 #[true, true, false, true, true, true, false, false, false, false, false, false, false, false, false, false, false, false, false, false, false, false, false, false, false, false, false, false, false, false, false, false, false] (any_of HT_.out (by kernel_rfl)) ?_
          refine takeA 2 85 #[true, true, true, true, true, true, false, false, false, false, false, false, false, false, false, false, false, false, false, false, false, false, false, false, false, false, false, false, false, false, false, false, false] (take_ofW HT_.out HW_.out (by kernel_rfl)) hHeld ?_
          refine takeA 6 89 #[true, true, true, true, true, true, true, false, false, false, false, false, false, false, false, false, false, false, false, false, false, false, false, false, false, false, false, false, false, false, false, false, false] (take_ofW HT_.out HW_.out (by kernel_rfl)) hHeld ?_
          refine one_ (i := 7) (N := some 90) #[true, true, true, true, true, true, true, true, false, false, false, false, false, false, false, false, false, false, false, false, false, false, false, false, false, false, false, false, false, false, false, false, false] rfl rfl (one_of HT_.out (by kernel_rfl)) (by decide) (fun K hK => ?_)
          refine goesA Try.func51 #[.slice Ao9 t1063.length co9, .int .i64 ((rd_T86 t1071 x33_1).f1.f0)] ?_
          with_reducible refine (impl_Stood.calls _ _ t1063 ((rd_T86 t1071 x33_1).f1.f0) t1077 _ ?side1 ?side2 A49.out).mono ?_
          (case side1 => exact qc (Kd.R_reads' HO_4.out).2.2)
          (case side2 => exact (Kd.R_reads' HO_4.out).2.1)
          rintro e w' ⟨rfl, ⟨nd, rfl⟩⟩
          refine ⟨_, rfl, ?_⟩
          refine hK.out _ _ ⟨bc BK1076 0, bc BK1076 1, bc BK1076 2, bc BK1076 3, bc BK1076 4, bc BK1076 5, bc BK1076 6, bc BK1076 7, bc BK1076 8, bc BK1076 9⟩ (fun hHeld => ?_)
          clear hK K
          refine normP ?_
          refine pureA 8 91 #[true, true, true, true, true, true, true, true, true, false, false, false, false, false, false, false, false, false, false, false, false, false, false, false, false, false, false, false, false, false, false, false, false] (any_of HT_.out (by kernel_rfl)) ?_
          refine pureA 9 92 #[true, true, true, true, true, true, true, true, true, true, false, false, false, false, false, false, false, false, false, false, false, false, false, false, false, false, false, false, false, false, false, false, false] (any_of HT_.out (by kernel_rfl)) ?_
          refine pure_ (i := 10) (N := some 93) (v := undef) (a' := ?_) #[true, true, true, true, true, true, true, true, true, true, true, false, false, false, false, false, false, false, false, false, false, false, false, false, false, false, false, false, false, false, false, false, false] rfl rfl (any_of HT_.out (by kernel_rfl)) (fun _ _ _ h => h) (Or.inr ⟨by rfl, rfl⟩) ?_ ?_
          rotate_left
          ·simp only [Act.put, List.setIfInBounds_toArray, List.set_cons_zero, List.set_cons_succ, i64_w, i32_w]
           rfl
          refine pure_ (i := 11) (N := some 94) (v := undef) (a' := ?_) #[true, true, true, true, true, true, true, true, true, true, true, true, false, false, false, false, false, false, false, false, false, false, false, false, false, false, false, false, false, false, false, false, false] rfl rfl (any_of HT_.out (by kernel_rfl)) (fun _ _ _ h => h) (Or.inr ⟨by rfl, rfl⟩) ?_ ?_
          rotate_left
          ·simp only [Act.put, List.setIfInBounds_toArray, List.set_cons_zero, List.set_cons_succ, i64_w, i32_w]
           rfl
          refine pure_ (i := 12) (N := some 95) (v := undef) (a' := ?_) #[true, true, true, true, true, true, true, true, true, true, true, true, true, false, false, false, false, false, false, false, false, false, false, false, false, false, false, false, false, false, false, false, false] rfl rfl (any_of HT_.out (by kernel_rfl)) (fun _ _ _ h => h) (Or.inr ⟨by rfl, rfl⟩) ?_ ?_
          rotate_left
          ·simp only [Act.put, List.setIfInBounds_toArray, List.set_cons_zero, List.set_cons_succ, i64_w, i32_w]
           rfl
          refine pure_ (i := 13) (N := some 96) (v := undef) (a' := ?_) #[true, true, true, true, true, true, true, true, true, true, true, true, true, true, false, false, false, false, false, false, false, false, false, false, false, false, false, false, false, false, false, false, false] rfl rfl (any_of HT_.out (by kernel_rfl)) (fun _ _ _ h => h) (Or.inr ⟨by rfl, rfl⟩) ?_ ?_
          rotate_left
          ·simp only [Act.put, List.setIfInBounds_toArray, List.set_cons_zero, List.set_cons_succ, i64_w, i32_w]
           rfl
          refine pure_ (i := 14) (N := some 97) (v := undef) (a' := ?_) #[true, true, true, true, true, true, true, true, true, true, true, true, true, true, true, false, false, false, false, false, false, false, false, false, false, false, false, false, false, false, false, false, false] rfl rfl (any_of HT_.out (by kernel_rfl)) (fun _ _ _ h => h) (Or.inr ⟨by rfl, rfl⟩) ?_ ?_
          rotate_left
          ·simp only [Act.put, List.setIfInBounds_toArray, List.set_cons_zero, List.set_cons_succ, i64_w, i32_w]
           rfl
          refine pure_ (i := 15) (N := some 98) (v := undef) (a' := ?_) #[true, true, true, true, true, true, true, true, true, true, true, true, true, true, true, true, false, false, false, false, false, false, false, false, false, false, false, false, false, false, false, false, false] rfl rfl (any_of HT_.out (by kernel_rfl)) (fun _ _ _ h => h) (Or.inr ⟨by rfl, rfl⟩) ?_ ?_
          rotate_left
          ·simp only [Act.put, List.setIfInBounds_toArray, List.set_cons_zero, List.set_cons_succ, i64_w, i32_w]
           rfl
          refine pure_ (i := 16) (N := some 99) (v := undef) (a' := ?_) #[true, true, true, true, true, true, true, true, true, true, true, true, true, true, true, true, true, false, false, false, false, false, false, false, false, false, false, false, false, false, false, false, false] rfl rfl (any_of HT_.out (by kernel_rfl)) (fun _ _ _ h => h) (Or.inr ⟨by rfl, rfl⟩) ?_ ?_
          rotate_left
          ·simp only [Act.put, List.setIfInBounds_toArray, List.set_cons_zero, List.set_cons_succ, i64_w, i32_w]
           rfl
          refine pure_ (i := 17) (N := some 100) (v := undef) (a' := ?_) #[true, true, true, true, true, true, true, true, true, true, true, true, true, true, true, true, true, true, false, false, false, false, false, false, false, false, false, false, false, false, false, false, false] rfl rfl (any_of HT_.out (by kernel_rfl)) (fun _ _ _ h => h) (Or.inr ⟨by rfl, rfl⟩) ?_ ?_
          rotate_left
          ·simp only [Act.put, List.setIfInBounds_toArray, List.set_cons_zero, List.set_cons_succ, i64_w, i32_w]
           rfl
          refine pure_ (i := 18) (N := some 101) (v := undef) (a' := ?_) #[true, true, true, true, true, true, true, true, true, true, true, true, true, true, true, true, true, true, true, false, false, false, false, false, false, false, false, false, false, false, false, false, false] rfl rfl (any_of HT_.out (by kernel_rfl)) (fun _ _ _ h => h) (Or.inr ⟨by rfl, rfl⟩) ?_ ?_
          rotate_left
          ·simp only [Act.put, List.setIfInBounds_toArray, List.set_cons_zero, List.set_cons_succ, i64_w, i32_w]
           rfl
          refine pureA 19 102 #[true, true, true, true, true, true, true, true, true, true, true, true, true, true, true, true, true, true, true, true, false, false, false, false, false, false, false, false, false, false, false, false, false] (any_of HT_.out (by kernel_rfl)) ?_
          refine pureA 20 103 #[true, true, true, true, true, true, true, true, true, true, true, true, true, true, true, true, true, true, true, true, true, false, false, false, false, false, false, false, false, false, false, false, false] (any_of HT_.out (by kernel_rfl)) ?_
          refine pure_ (i := 21) (N := some 104) (v := undef) (a' := ?_) #[true, true, true, true, true, true, true, true, true, true, true, true, true, true, true, true, true, true, true, true, true, true, false, false, false, false, false, false, false, false, false, false, false] rfl rfl (any_of HT_.out (by kernel_rfl)) (fun _ _ _ h => h) (Or.inr ⟨by rfl, rfl⟩) ?_ ?_
          rotate_left
          ·simp only [Act.put, List.setIfInBounds_toArray, List.set_cons_zero, List.set_cons_succ, i64_w, i32_w]
           rfl
          refine pure_ (i := 22) (N := some 105) (v := undef) (a' := ?_) #[true, true, true, true, true, true, true, true, true, true, true, true, true, true, true, true, true, true, true, true, true, true, true, false, false, false, false, false, false, false, false, false, false] rfl rfl (any_of HT_.out (by kernel_rfl)) (fun _ _ _ h => h) (Or.inr ⟨by rfl, rfl⟩) ?_ ?_
          rotate_left
          ·simp only [Act.put, List.setIfInBounds_toArray, List.set_cons_zero, List.set_cons_succ, i64_w, i32_w]
           rfl
          refine pure_ (i := 23) (N := some 106) (v := undef) (a' := ?_) #[true, true, true, true, true, true, true, true, true, true, true, true, true, true, true, true, true, true, true, true, true, true, true, true, false, false, false, false, false, false, false, false, false] rfl rfl (any_of HT_.out (by kernel_rfl)) (fun _ _ _ h => h) (Or.inr ⟨by rfl, rfl⟩) ?_ ?_
          rotate_left
          ·simp only [Act.put, List.setIfInBounds_toArray, List.set_cons_zero, List.set_cons_succ, i64_w, i32_w]
           rfl
          refine pure_ (i := 24) (N := some 107) (v := undef) (a' := ?_) #[true, true, true, true, true, true, true, true, true, true, true, true, true, true, true, true, true, true, true, true, true, true, true, true, true, false, false, false, false, false, false, false, false] rfl rfl (any_of HT_.out (by kernel_rfl)) (fun _ _ _ h => h) (Or.inr ⟨by rfl, rfl⟩) ?_ ?_
          rotate_left
          ·simp only [Act.put, List.setIfInBounds_toArray, List.set_cons_zero, List.set_cons_succ, i64_w, i32_w]
           rfl
          refine pure_ (i := 25) (N := some 108) (v := undef) (a' := ?_) #[true, true, true, true, true, true, true, true, true, true, true, true, true, true, true, true, true, true, true, true, true, true, true, true, true, true, false, false, false, false, false, false, false] rfl rfl (any_of HT_.out (by kernel_rfl)) (fun _ _ _ h => h) (Or.inr ⟨by rfl, rfl⟩) ?_ ?_
          rotate_left
          ·simp only [Act.put, List.setIfInBounds_toArray, List.set_cons_zero, List.set_cons_succ, i64_w, i32_w]
           rfl
          refine pure_ (i := 26) (N := some 109) (v := undef) (a' := ?_) #[true, true, true, true, true, true, true, true, true, true, true, true, true, true, true, true, true, true, true, true, true, true, true, true, true, true, true, false, false, false, false, false, false] rfl rfl (any_of HT_.out (by kernel_rfl)) (fun _ _ _ h => h) (Or.inr ⟨by rfl, rfl⟩) ?_ ?_
          rotate_left
          ·simp only [Act.put, List.setIfInBounds_toArray, List.set_cons_zero, List.set_cons_succ, i64_w, i32_w]
           rfl
          refine pure_ (i := 27) (N := some 110) (v := undef) (a' := ?_) #[true, true, true, true, true, true, true, true, true, true, true, true, true, true, true, true, true, true, true, true, true, true, true, true, true, true, true, true, false, false, false, false, false] rfl rfl (any_of HT_.out (by kernel_rfl)) (fun _ _ _ h => h) (Or.inr ⟨by rfl, rfl⟩) ?_ ?_
          rotate_left
          ·simp only [Act.put, List.setIfInBounds_toArray, List.set_cons_zero, List.set_cons_succ, i64_w, i32_w]
           rfl
          refine pure_ (i := 28) (N := some 111) (v := undef) (a' := ?_) #[true, true, true, true, true, true, true, true, true, true, true, true, true, true, true, true, true, true, true, true, true, true, true, true, true, true, true, true, true, false, false, false, false] rfl rfl (any_of HT_.out (by kernel_rfl)) (fun _ _ _ h => h) (Or.inr ⟨by rfl, rfl⟩) ?_ ?_
          rotate_left
          ·simp only [Act.put, List.setIfInBounds_toArray, List.set_cons_zero, List.set_cons_succ, i64_w, i32_w]
           rfl
          refine pure_ (i := 29) (N := some 112) (v := undef) (a' := ?_) #[true, true, true, true, true, true, true, true, true, true, true, true, true, true, true, true, true, true, true, true, true, true, true, true, true, true, true, true, true, true, false, false, false] rfl rfl (any_of HT_.out (by kernel_rfl)) (fun _ _ _ h => h) (Or.inr ⟨by rfl, rfl⟩) ?_ ?_
          rotate_left
          ·simp only [Act.put, List.setIfInBounds_toArray, List.set_cons_zero, List.set_cons_succ, i64_w, i32_w]
           rfl
          refine pure_ (i := 30) (N := some 113) (v := undef) (a' := ?_) #[true, true, true, true, true, true, true, true, true, true, true, true, true, true, true, true, true, true, true, true, true, true, true, true, true, true, true, true, true, true, true, false, false] rfl rfl (any_of HT_.out (by kernel_rfl)) (fun _ _ _ h => h) (Or.inr ⟨by rfl, rfl⟩) ?_ ?_
          rotate_left
          ·simp only [Act.put, List.setIfInBounds_toArray, List.set_cons_zero, List.set_cons_succ, i64_w, i32_w]
           rfl
          refine pure_ (i := 31) (N := some 114) (v := undef) (a' := ?_) #[true, true, true, true, true, true, true, true, true, true, true, true, true, true, true, true, true, true, true, true, true, true, true, true, true, true, true, true, true, true, true, true, false] rfl rfl (any_of HT_.out (by kernel_rfl)) (fun _ _ _ h => h) (Or.inr ⟨by rfl, rfl⟩) ?_ ?_
          rotate_left
          ·simp only [Act.put, List.setIfInBounds_toArray, List.set_cons_zero, List.set_cons_succ, i64_w, i32_w]
           rfl
          refine pureA 32 115 #[true, true, true, true, true, true, true, true, true, true, true, true, true, true, true, true, true, true, true, true, true, true, true, true, true, true, true, true, true, true, true, true, true] (any_of HT_.out (by kernel_rfl)) ?_
          refine done_ (done_of HT_.out (by kernel_rfl)) ?_
          try go_wp2
          go_meet
          case rel => exact ⟨_, (true), (by first | rfl | (simp; done) | (simp [*]; done)), H', ⟨by have := HK1.out; have := HJ16.out; first | omega | exact Nat.le_refl _⟩, ⟨by (with_reducible repeat (first | apply Kd.R_alloc | apply Kd.R_drewN | apply Kd.R_drew)); exact HO_4.out⟩, ⟨by (with_reducible repeat (first | apply Kd.R_alloc | apply Kd.R_drewN | apply Kd.R_drew)); exact HO_31.out⟩, ⟨qb BK1070⟩, ⟨qb BK1074⟩, ⟨qb BK1076⟩, ⟨(qs HB)⟩⟩
         case rest =>
          clear HC48
          try clear p2; try clear c5; try clear c50; try clear c50b0; try clear c50b1; try clear c51; try clear c52; try clear c52b0; try clear c52b1
          obtain ⟨kq, x115_47, rfl, HA, HJ47, HO_4, HO_31, BK1070, BK1074, BK1076, HB⟩ := hcut
          cases kq with
          | zero => exact absurd HA.out (by simp [laws_FnTrue.j2])
          | succ kj47 =>
           have H := HA.out
           clear HA
           simp only [laws_FnTrue.j2] at H
           by_cases c58 : x115_47 = true
           ·subst c58
            have H1 : (some false) = some true := by rw [if_pos rfl] at H; exact H
            clear H; have H := H1; clear H1
            exact absurd H (by simp)
           replace c58 := Bool.eq_false_iff.mpr c58
           subst c58
           have H1 : (if ((rd_T86 t1071 x33_1).f3) > 0 then (if (wrap64 ((wrap64 (x33_1 + 1)) - ((rd_T86 t1071 x33_1).f1.f2))) > t1062 then (some false) else (if ((rd_T86 t1071 x33_1).f1.f2) ≤ x1075007_1 then (some false) else (if ((rd_T86 t1071 x33_1).f3) = 0 then (if (!(((rd_T86 t1071 x33_1).f1.f0) == x1075005_1) || (!(((rd_T86 t1071 x33_1).f1.f1) == x1075006_1) || (!(((rd_T86 t1071 x33_1).f1.f2) == x1075007_1)))) = true then (some false) else (laws_FnTrue.l0 kj47 t1063 t1071 (t1071.length : Int) (wrap64 (x33_1 + 1)) t1060 t1061 t1062 ((rd_T86 t1071 x33_1).f0.f0) ((rd_T86 t1071 x33_1).f0.f1) ((rd_T86 t1071 x33_1).f0.f2) ((rd_T86 t1071 x33_1).f0.f3) ((rd_T86 t1071 x33_1).f0.f4) ((rd_T86 t1071 x33_1).f1.f0) ((rd_T86 t1071 x33_1).f1.f1) ((rd_T86 t1071 x33_1).f1.f2) ((rd_T86 t1071 x33_1).f2) ((rd_T86 t1071 x33_1).f3))) else (laws_FnTrue.l0 kj47 t1063 t1071 (t1071.length : Int) (wrap64 (x33_1 + 1)) t1060 t1061 t1062 ((rd_T86 t1071 x33_1).f0.f0) ((rd_T86 t1071 x33_1).f0.f1) ((rd_T86 t1071 x33_1).f0.f2) ((rd_T86 t1071 x33_1).f0.f3) ((rd_T86 t1071 x33_1).f0.f4) ((rd_T86 t1071 x33_1).f1.f0) ((rd_T86 t1071 x33_1).f1.f1) ((rd_T86 t1071 x33_1).f1.f2) ((rd_T86 t1071 x33_1).f2) ((rd_T86 t1071 x33_1).f3))))) else (if ((rd_T86 t1071 x33_1).f3) = 0 then (if (!(((rd_T86 t1071 x33_1).f1.f0) == x1075005_1) || (!(((rd_T86 t1071 x33_1).f1.f1) == x1075006_1) || (!(((rd_T86 t1071 x33_1).f1.f2) == x1075007_1)))) = true then (some false) else (laws_FnTrue.l0 kj47 t1063 t1071 (t1071.length : Int) (wrap64 (x33_1 + 1)) t1060 t1061 t1062 ((rd_T86 t1071 x33_1).f0.f0) ((rd_T86 t1071 x33_1).f0.f1) ((rd_T86 t1071 x33_1).f0.f2) ((rd_T86 t1071 x33_1).f0.f3) ((rd_T86 t1071 x33_1).f0.f4) ((rd_T86 t1071 x33_1).f1.f0) ((rd_T86 t1071 x33_1).f1.f1) ((rd_T86 t1071 x33_1).f1.f2) ((rd_T86 t1071 x33_1).f2) ((rd_T86 t1071 x33_1).f3))) else (laws_FnTrue.l0 kj47 t1063 t1071 (t1071.length : Int) (wrap64 (x33_1 + 1)) t1060 t1061 t1062 ((rd_T86 t1071 x33_1).f0.f0) ((rd_T86 t1071 x33_1).f0.f1) ((rd_T86 t1071 x33_1).f0.f2) ((rd_T86 t1071 x33_1).f0.f3) ((rd_T86 t1071 x33_1).f0.f4) ((rd_T86 t1071 x33_1).f1.f0) ((rd_T86 t1071 x33_1).f1.f1) ((rd_T86 t1071 x33_1).f1.f2) ((rd_T86 t1071 x33_1).f2) ((rd_T86 t1071 x33_1).f3)))) = some true := by rw [if_neg (show ¬ (false = true) by decide)] at H; exact H
           clear H; have H := H1; clear H1
           by_cases c59 : ((rd_T86 t1071 x33_1).f3) > 0
           ·rw [if_pos c59] at H
            have c59b0 : decide (0 < ((rd_T86 t1071 x33_1).f3)) = true := decide_eq_true c59
            clear c59
            by_cases c60 : (wrap64 ((wrap64 (x33_1 + 1)) - ((rd_T86 t1071 x33_1).f1.f2))) > t1062
            ·rw [if_pos c60] at H
             have c60b0 : decide (t1062 < (wrap64 ((wrap64 (x33_1 + 1)) - ((rd_T86 t1071 x33_1).f1.f2)))) = true := decide_eq_true c60
             clear c60
             exact absurd H (by simp)
            rw [if_neg c60] at H
            have c60b0 : decide (t1062 < (wrap64 ((wrap64 (x33_1 + 1)) - ((rd_T86 t1071 x33_1).f1.f2)))) = false := decide_eq_false c60
            clear c60
            by_cases c61 : ((rd_T86 t1071 x33_1).f1.f2) ≤ x1075007_1
            ·rw [if_pos c61] at H
             have c61b0 : decide (((rd_T86 t1071 x33_1).f1.f2) ≤ x1075007_1) = true := decide_eq_true c61
             clear c61
             exact absurd H (by simp)
            rw [if_neg c61] at H
            have c61b0 : decide (((rd_T86 t1071 x33_1).f1.f2) ≤ x1075007_1) = false := decide_eq_false c61
            clear c61
            by_cases c62 : ((rd_T86 t1071 x33_1).f3) = 0
            ·rw [if_pos c62] at H
             have c62b0 : (((rd_T86 t1071 x33_1).f3) == 0) = true := beq_iff_eq.mpr c62
             have c62b1 : (((rd_T86 t1071 x33_1).f3) != 0) = false := bne_eq_false_iff_eq.mpr c62
             clear c62
             by_cases c63 : (!(((rd_T86 t1071 x33_1).f1.f0) == x1075005_1) || (!(((rd_T86 t1071 x33_1).f1.f1) == x1075006_1) || (!(((rd_T86 t1071 x33_1).f1.f2) == x1075007_1)))) = true
             ·rw [if_pos c63] at H
              have c63b0 : (!(((rd_T86 t1071 x33_1).f1.f0) == x1075005_1) || (!(((rd_T86 t1071 x33_1).f1.f1) == x1075006_1) || (!(((rd_T86 t1071 x33_1).f1.f2) == x1075007_1)))) = true := c63
              clear c63
              exact absurd H (by simp)
             rw [if_neg c63] at H
             have c63b0 : (!(((rd_T86 t1071 x33_1).f1.f0) == x1075005_1) || (!(((rd_T86 t1071 x33_1).f1.f1) == x1075006_1) || (!(((rd_T86 t1071 x33_1).f1.f2) == x1075007_1)))) = false := by simpa using c63
             clear c63
             have H' := Aside0.mk H
             clear H
             have hnb64 := NB1076_1070.out
             have hnc64 := NB1070_1076.out
             have hnb65 := NB1076_1074.out
             have hnc65 := NB1074_1076.out
             have hcz66_0 := b0 BK1076
             have hcz66_1 := b1 BK1076
             have hcz66_2 := b2 BK1076
             have hcz66_3 := b3 BK1076
             have hcz66_4 := b4 BK1076
             have hcz66_5 := b5 BK1076
             have hcz66_6 := b6 BK1076
             have hcz66_7 := b7 BK1076
             have hcz66_8 := b8 BK1076
             have hcz66_9 := b9 BK1076
             have hfz66_0 := blk_frozen BK1076.out 0
             have hfz66_1 := blk_frozen BK1076.out 1
             have hfz66_2 := blk_frozen BK1076.out 2
             have hfz66_3 := blk_frozen BK1076.out 3
             have hfz66_4 := blk_frozen BK1076.out 4
             have hfz66_5 := blk_frozen BK1076.out 5
             have hfz66_6 := blk_frozen BK1076.out 6
             have hfz66_7 := blk_frozen BK1076.out 7
             have hfz66_8 := blk_frozen BK1076.out 8
             have hfz66_9 := blk_frozen BK1076.out 9
             have hnb67 := NB1070_1074.out
             have hnc67 := NB1074_1070.out
             have hcz68_0 := b0 BK1070
             have hcz68_1 := b1 BK1070
             have hcz68_2 := b2 BK1070
             have hfz68_0 := blk_frozen BK1070.out 0
             have hfz68_1 := blk_frozen BK1070.out 1
             have hfz68_2 := blk_frozen BK1070.out 2
             have hcz69_0 := b0 BK1074
             have hcz69_1 := b1 BK1074
             have hcz69_2 := b2 BK1074
             have hcz69_3 := b3 BK1074
             have hcz69_4 := b4 BK1074
             have hcz69_5 := b5 BK1074
             have hcz69_6 := b6 BK1074
             have hcz69_7 := b7 BK1074
             have hcz69_8 := b8 BK1074
             have hcz69_9 := b9 BK1074
             have hfz69_0 := blk_frozen BK1074.out 0
             have hfz69_1 := blk_frozen BK1074.out 1
             have hfz69_2 := blk_frozen BK1074.out 2
             have hfz69_3 := blk_frozen BK1074.out 3
             have hfz69_4 := blk_frozen BK1074.out 4
             have hfz69_5 := blk_frozen BK1074.out 5
             have hfz69_6 := blk_frozen BK1074.out 6
             have hfz69_7 := blk_frozen BK1074.out 7
             have hfz69_8 := blk_frozen BK1074.out 8
             have hfz69_9 := blk_frozen BK1074.out 9
             go_wp2
             go_roundg kj47
             case measure => have := HK1.out; have := HJ16.out; have := HJ47.out; omega
             case rel => exact ⟨(wrap64 (x33_1 + 1)), (((rd_T86 t1071 x33_1).f0.f0)), (((rd_T86 t1071 x33_1).f0.f1)), (((rd_T86 t1071 x33_1).f0.f2)), (((rd_T86 t1071 x33_1).f0.f3)), (((rd_T86 t1071 x33_1).f0.f4)), (((rd_T86 t1071 x33_1).f1.f0)), (((rd_T86 t1071 x33_1).f1.f1)), (((rd_T86 t1071 x33_1).f1.f2)), (((rd_T86 t1071 x33_1).f2)), (((rd_T86 t1071 x33_1).f3)), (by first | rfl | (simp; done) | (simp [*]; done)), H', ⟨by have := HK1.out; have := HJ16.out; have := HJ47.out; omega⟩, ⟨by (with_reducible repeat (first | apply Kd.R_alloc | apply Kd.R_drewN | apply Kd.R_drew)); exact Kd.R_mono (Kd.R_far (p := ⟨gb1074, 9, none⟩) (Kd.R_far (p := ⟨gb1074, 8, none⟩) (Kd.R_far (p := ⟨gb1074, 7, none⟩) (Kd.R_far (p := ⟨gb1074, 6, none⟩) (Kd.R_far (p := ⟨gb1074, 5, none⟩) (Kd.R_far (p := ⟨gb1074, 4, none⟩) (Kd.R_far (p := ⟨gb1074, 3, none⟩) (Kd.R_far (p := ⟨gb1074, 2, none⟩) (Kd.R_far (p := ⟨gb1074, 1, none⟩) (Kd.R_far (p := ⟨gb1074, 0, none⟩) (Kd.R_types HO_4.out BK1074.out (by decide)) (fun _ hk => hk.2) (.int .i64 ((rd_T86 t1071 x33_1).f0.f0))) (fun _ hk => hk.2) (.int .i64 ((rd_T86 t1071 x33_1).f0.f1))) (fun _ hk => hk.2) (.int .i64 ((rd_T86 t1071 x33_1).f0.f2))) (fun _ hk => hk.2) (.int .i64 ((rd_T86 t1071 x33_1).f0.f3))) (fun _ hk => hk.2) (.int .i64 ((rd_T86 t1071 x33_1).f0.f4))) (fun _ hk => hk.2) (.int .i64 ((rd_T86 t1071 x33_1).f1.f0))) (fun _ hk => hk.2) (.int .i64 ((rd_T86 t1071 x33_1).f1.f1))) (fun _ hk => hk.2) (.int .i64 ((rd_T86 t1071 x33_1).f1.f2))) (fun _ hk => hk.2) (.int .i64 ((rd_T86 t1071 x33_1).f2))) (fun _ hk => hk.2) (.int .i64 ((rd_T86 t1071 x33_1).f3))) (fun _ hk => trivial)⟩, ⟨by (with_reducible repeat (first | apply Kd.R_alloc | apply Kd.R_drewN | apply Kd.R_drew)); exact Kd.R_mono (Kd.R_far (p := ⟨gb1074, 9, none⟩) (Kd.R_far (p := ⟨gb1074, 8, none⟩) (Kd.R_far (p := ⟨gb1074, 7, none⟩) (Kd.R_far (p := ⟨gb1074, 6, none⟩) (Kd.R_far (p := ⟨gb1074, 5, none⟩) (Kd.R_far (p := ⟨gb1074, 4, none⟩) (Kd.R_far (p := ⟨gb1074, 3, none⟩) (Kd.R_far (p := ⟨gb1074, 2, none⟩) (Kd.R_far (p := ⟨gb1074, 1, none⟩) (Kd.R_far (p := ⟨gb1074, 0, none⟩) (Kd.R_mono HO_31.out (fun k_ hk => (⟨hk, hk.1⟩ : _ ∧ k_ ≠ gb1074))) (fun _ hk => hk.2) (.int .i64 ((rd_T86 t1071 x33_1).f0.f0))) (fun _ hk => hk.2) (.int .i64 ((rd_T86 t1071 x33_1).f0.f1))) (fun _ hk => hk.2) (.int .i64 ((rd_T86 t1071 x33_1).f0.f2))) (fun _ hk => hk.2) (.int .i64 ((rd_T86 t1071 x33_1).f0.f3))) (fun _ hk => hk.2) (.int .i64 ((rd_T86 t1071 x33_1).f0.f4))) (fun _ hk => hk.2) (.int .i64 ((rd_T86 t1071 x33_1).f1.f0))) (fun _ hk => hk.2) (.int .i64 ((rd_T86 t1071 x33_1).f1.f1))) (fun _ hk => hk.2) (.int .i64 ((rd_T86 t1071 x33_1).f1.f2))) (fun _ hk => hk.2) (.int .i64 ((rd_T86 t1071 x33_1).f2))) (fun _ hk => hk.2) (.int .i64 ((rd_T86 t1071 x33_1).f3))) (fun _ hk => hk.1.1)⟩, ⟨qB BK1070⟩, ⟨by (with_reducible repeat (first | refine blk_drewN ?_ _ | refine blk_drew ?_ | refine blk_alloc ?_ _)); refine blk_put (cs := #[.int .i64 ((rd_T86 t1071 x33_1).f0.f0), .int .i64 ((rd_T86 t1071 x33_1).f0.f1), .int .i64 ((rd_T86 t1071 x33_1).f0.f2), .int .i64 ((rd_T86 t1071 x33_1).f0.f3), .int .i64 ((rd_T86 t1071 x33_1).f0.f4), .int .i64 ((rd_T86 t1071 x33_1).f1.f0), .int .i64 ((rd_T86 t1071 x33_1).f1.f1), .int .i64 ((rd_T86 t1071 x33_1).f1.f2), .int .i64 ((rd_T86 t1071 x33_1).f2), .int .i64 x1075009_1]) ?_ 9 _ rfl; (with_reducible repeat (first | refine blk_drewN ?_ _ | refine blk_drew ?_ | refine blk_alloc ?_ _)); refine blk_put (cs := #[.int .i64 ((rd_T86 t1071 x33_1).f0.f0), .int .i64 ((rd_T86 t1071 x33_1).f0.f1), .int .i64 ((rd_T86 t1071 x33_1).f0.f2), .int .i64 ((rd_T86 t1071 x33_1).f0.f3), .int .i64 ((rd_T86 t1071 x33_1).f0.f4), .int .i64 ((rd_T86 t1071 x33_1).f1.f0), .int .i64 ((rd_T86 t1071 x33_1).f1.f1), .int .i64 ((rd_T86 t1071 x33_1).f1.f2), .int .i64 x1075008_1, .int .i64 x1075009_1]) ?_ 8 _ rfl; (with_reducible repeat (first | refine blk_drewN ?_ _ | refine blk_drew ?_ | refine blk_alloc ?_ _)); refine blk_put (cs := #[.int .i64 ((rd_T86 t1071 x33_1).f0.f0), .int .i64 ((rd_T86 t1071 x33_1).f0.f1), .int .i64 ((rd_T86 t1071 x33_1).f0.f2), .int .i64 ((rd_T86 t1071 x33_1).f0.f3), .int .i64 ((rd_T86 t1071 x33_1).f0.f4), .int .i64 ((rd_T86 t1071 x33_1).f1.f0), .int .i64 ((rd_T86 t1071 x33_1).f1.f1), .int .i64 x1075007_1, .int .i64 x1075008_1, .int .i64 x1075009_1]) ?_ 7 _ rfl; (with_reducible repeat (first | refine blk_drewN ?_ _ | refine blk_drew ?_ | refine blk_alloc ?_ _)); refine blk_put (cs := #[.int .i64 ((rd_T86 t1071 x33_1).f0.f0), .int .i64 ((rd_T86 t1071 x33_1).f0.f1), .int .i64 ((rd_T86 t1071 x33_1).f0.f2), .int .i64 ((rd_T86 t1071 x33_1).f0.f3), .int .i64 ((rd_T86 t1071 x33_1).f0.f4), .int .i64 ((rd_T86 t1071 x33_1).f1.f0), .int .i64 x1075006_1, .int .i64 x1075007_1, .int .i64 x1075008_1, .int .i64 x1075009_1]) ?_ 6 _ rfl; (with_reducible repeat (first | refine blk_drewN ?_ _ | refine blk_drew ?_ | refine blk_alloc ?_ _)); refine blk_put (cs := #[.int .i64 ((rd_T86 t1071 x33_1).f0.f0), .int .i64 ((rd_T86 t1071 x33_1).f0.f1), .int .i64 ((rd_T86 t1071 x33_1).f0.f2), .int .i64 ((rd_T86 t1071 x33_1).f0.f3), .int .i64 ((rd_T86 t1071 x33_1).f0.f4), .int .i64 x1075005_1, .int .i64 x1075006_1, .int .i64 x1075007_1, .int .i64 x1075008_1, .int .i64 x1075009_1]) ?_ 5 _ rfl; (with_reducible repeat (first | refine blk_drewN ?_ _ | refine blk_drew ?_ | refine blk_alloc ?_ _)); refine blk_put (cs := #[.int .i64 ((rd_T86 t1071 x33_1).f0.f0), .int .i64 ((rd_T86 t1071 x33_1).f0.f1), .int .i64 ((rd_T86 t1071 x33_1).f0.f2), .int .i64 ((rd_T86 t1071 x33_1).f0.f3), .int .i64 x1075004_1, .int .i64 x1075005_1, .int .i64 x1075006_1, .int .i64 x1075007_1, .int .i64 x1075008_1, .int .i64 x1075009_1]) ?_ 4 _ rfl; (with_reducible repeat (first | refine blk_drewN ?_ _ | refine blk_drew ?_ | refine blk_alloc ?_ _)); refine blk_put (cs := #[.int .i64 ((rd_T86 t1071 x33_1).f0.f0), .int .i64 ((rd_T86 t1071 x33_1).f0.f1), .int .i64 ((rd_T86 t1071 x33_1).f0.f2), .int .i64 x1075003_1, .int .i64 x1075004_1, .int .i64 x1075005_1, .int .i64 x1075006_1, .int .i64 x1075007_1, .int .i64 x1075008_1, .int .i64 x1075009_1]) ?_ 3 _ rfl; (with_reducible repeat (first | refine blk_drewN ?_ _ | refine blk_drew ?_ | refine blk_alloc ?_ _)); refine blk_put (cs := #[.int .i64 ((rd_T86 t1071 x33_1).f0.f0), .int .i64 ((rd_T86 t1071 x33_1).f0.f1), .int .i64 x1075002_1, .int .i64 x1075003_1, .int .i64 x1075004_1, .int .i64 x1075005_1, .int .i64 x1075006_1, .int .i64 x1075007_1, .int .i64 x1075008_1, .int .i64 x1075009_1]) ?_ 2 _ rfl; (with_reducible repeat (first | refine blk_drewN ?_ _ | refine blk_drew ?_ | refine blk_alloc ?_ _)); refine blk_put (cs := #[.int .i64 ((rd_T86 t1071 x33_1).f0.f0), .int .i64 x1075001_1, .int .i64 x1075002_1, .int .i64 x1075003_1, .int .i64 x1075004_1, .int .i64 x1075005_1, .int .i64 x1075006_1, .int .i64 x1075007_1, .int .i64 x1075008_1, .int .i64 x1075009_1]) ?_ 1 _ rfl; (with_reducible repeat (first | refine blk_drewN ?_ _ | refine blk_drew ?_ | refine blk_alloc ?_ _)); refine blk_put (cs := #[.int .i64 x1075000_1, .int .i64 x1075001_1, .int .i64 x1075002_1, .int .i64 x1075003_1, .int .i64 x1075004_1, .int .i64 x1075005_1, .int .i64 x1075006_1, .int .i64 x1075007_1, .int .i64 x1075008_1, .int .i64 x1075009_1]) ?_ 0 _ rfl; (with_reducible repeat (first | refine blk_drewN ?_ _ | refine blk_drew ?_ | refine blk_alloc ?_ _)); exact BK1074.out⟩, ⟨(qs HB)⟩⟩
            rw [if_neg c62] at H
            have c62b0 : (((rd_T86 t1071 x33_1).f3) == 0) = false := beq_eq_false_iff_ne.mpr c62
            have c62b1 : (((rd_T86 t1071 x33_1).f3) != 0) = true := bne_iff_ne.mpr c62
            have H' := Aside0.mk H
            clear H
            have hnb70 := NB1076_1070.out
            have hnc70 := NB1070_1076.out
            have hnb71 := NB1076_1074.out
            have hnc71 := NB1074_1076.out
            have hcz72_0 := b0 BK1076
            have hcz72_1 := b1 BK1076
            have hcz72_2 := b2 BK1076
            have hcz72_3 := b3 BK1076
            have hcz72_4 := b4 BK1076
            have hcz72_5 := b5 BK1076
            have hcz72_6 := b6 BK1076
            have hcz72_7 := b7 BK1076
            have hcz72_8 := b8 BK1076
            have hcz72_9 := b9 BK1076
            have hfz72_0 := blk_frozen BK1076.out 0
            have hfz72_1 := blk_frozen BK1076.out 1
            have hfz72_2 := blk_frozen BK1076.out 2
            have hfz72_3 := blk_frozen BK1076.out 3
            have hfz72_4 := blk_frozen BK1076.out 4
            have hfz72_5 := blk_frozen BK1076.out 5
            have hfz72_6 := blk_frozen BK1076.out 6
            have hfz72_7 := blk_frozen BK1076.out 7
            have hfz72_8 := blk_frozen BK1076.out 8
            have hfz72_9 := blk_frozen BK1076.out 9
            have hnb73 := NB1070_1074.out
            have hnc73 := NB1074_1070.out
            have hcz74_0 := b0 BK1070
            have hcz74_1 := b1 BK1070
            have hcz74_2 := b2 BK1070
            have hfz74_0 := blk_frozen BK1070.out 0
            have hfz74_1 := blk_frozen BK1070.out 1
            have hfz74_2 := blk_frozen BK1070.out 2
            have hcz75_0 := b0 BK1074
            have hcz75_1 := b1 BK1074
            have hcz75_2 := b2 BK1074
            have hcz75_3 := b3 BK1074
            have hcz75_4 := b4 BK1074
            have hcz75_5 := b5 BK1074
            have hcz75_6 := b6 BK1074
            have hcz75_7 := b7 BK1074
            have hcz75_8 := b8 BK1074
            have hcz75_9 := b9 BK1074
            have hfz75_0 := blk_frozen BK1074.out 0
            have hfz75_1 := blk_frozen BK1074.out 1
            have hfz75_2 := blk_frozen BK1074.out 2
            have hfz75_3 := blk_frozen BK1074.out 3
            have hfz75_4 := blk_frozen BK1074.out 4
            have hfz75_5 := blk_frozen BK1074.out 5
            have hfz75_6 := blk_frozen BK1074.out 6
            have hfz75_7 := blk_frozen BK1074.out 7
            have hfz75_8 := blk_frozen BK1074.out 8
            have hfz75_9 := blk_frozen BK1074.out 9
            go_wp2
            go_roundg kj47
            case measure => have := HK1.out; have := HJ16.out; have := HJ47.out; omega
            case rel => exact ⟨(wrap64 (x33_1 + 1)), (((rd_T86 t1071 x33_1).f0.f0)), (((rd_T86 t1071 x33_1).f0.f1)), (((rd_T86 t1071 x33_1).f0.f2)), (((rd_T86 t1071 x33_1).f0.f3)), (((rd_T86 t1071 x33_1).f0.f4)), (((rd_T86 t1071 x33_1).f1.f0)), (((rd_T86 t1071 x33_1).f1.f1)), (((rd_T86 t1071 x33_1).f1.f2)), (((rd_T86 t1071 x33_1).f2)), (((rd_T86 t1071 x33_1).f3)), (by first | rfl | (simp; done) | (simp [*]; done)), H', ⟨by have := HK1.out; have := HJ16.out; have := HJ47.out; omega⟩, ⟨by (with_reducible repeat (first | apply Kd.R_alloc | apply Kd.R_drewN | apply Kd.R_drew)); exact Kd.R_mono (Kd.R_far (p := ⟨gb1074, 9, none⟩) (Kd.R_far (p := ⟨gb1074, 8, none⟩) (Kd.R_far (p := ⟨gb1074, 7, none⟩) (Kd.R_far (p := ⟨gb1074, 6, none⟩) (Kd.R_far (p := ⟨gb1074, 5, none⟩) (Kd.R_far (p := ⟨gb1074, 4, none⟩) (Kd.R_far (p := ⟨gb1074, 3, none⟩) (Kd.R_far (p := ⟨gb1074, 2, none⟩) (Kd.R_far (p := ⟨gb1074, 1, none⟩) (Kd.R_far (p := ⟨gb1074, 0, none⟩) (Kd.R_types HO_4.out BK1074.out (by decide)) (fun _ hk => hk.2) (.int .i64 ((rd_T86 t1071 x33_1).f0.f0))) (fun _ hk => hk.2) (.int .i64 ((rd_T86 t1071 x33_1).f0.f1))) (fun _ hk => hk.2) (.int .i64 ((rd_T86 t1071 x33_1).f0.f2))) (fun _ hk => hk.2) (.int .i64 ((rd_T86 t1071 x33_1).f0.f3))) (fun _ hk => hk.2) (.int .i64 ((rd_T86 t1071 x33_1).f0.f4))) (fun _ hk => hk.2) (.int .i64 ((rd_T86 t1071 x33_1).f1.f0))) (fun _ hk => hk.2) (.int .i64 ((rd_T86 t1071 x33_1).f1.f1))) (fun _ hk => hk.2) (.int .i64 ((rd_T86 t1071 x33_1).f1.f2))) (fun _ hk => hk.2) (.int .i64 ((rd_T86 t1071 x33_1).f2))) (fun _ hk => hk.2) (.int .i64 ((rd_T86 t1071 x33_1).f3))) (fun _ hk => trivial)⟩, ⟨by (with_reducible repeat (first | apply Kd.R_alloc | apply Kd.R_drewN | apply Kd.R_drew)); exact Kd.R_mono (Kd.R_far (p := ⟨gb1074, 9, none⟩) (Kd.R_far (p := ⟨gb1074, 8, none⟩) (Kd.R_far (p := ⟨gb1074, 7, none⟩) (Kd.R_far (p := ⟨gb1074, 6, none⟩) (Kd.R_far (p := ⟨gb1074, 5, none⟩) (Kd.R_far (p := ⟨gb1074, 4, none⟩) (Kd.R_far (p := ⟨gb1074, 3, none⟩) (Kd.R_far (p := ⟨gb1074, 2, none⟩) (Kd.R_far (p := ⟨gb1074, 1, none⟩) (Kd.R_far (p := ⟨gb1074, 0, none⟩) (Kd.R_mono HO_31.out (fun k_ hk => (⟨hk, hk.1⟩ : _ ∧ k_ ≠ gb1074))) (fun _ hk => hk.2) (.int .i64 ((rd_T86 t1071 x33_1).f0.f0))) (fun _ hk => hk.2) (.int .i64 ((rd_T86 t1071 x33_1).f0.f1))) (fun _ hk => hk.2) (.int .i64 ((rd_T86 t1071 x33_1).f0.f2))) (fun _ hk => hk.2) (.int .i64 ((rd_T86 t1071 x33_1).f0.f3))) (fun _ hk => hk.2) (.int .i64 ((rd_T86 t1071 x33_1).f0.f4))) (fun _ hk => hk.2) (.int .i64 ((rd_T86 t1071 x33_1).f1.f0))) (fun _ hk => hk.2) (.int .i64 ((rd_T86 t1071 x33_1).f1.f1))) (fun _ hk => hk.2) (.int .i64 ((rd_T86 t1071 x33_1).f1.f2))) (fun _ hk => hk.2) (.int .i64 ((rd_T86 t1071 x33_1).f2))) (fun _ hk => hk.2) (.int .i64 ((rd_T86 t1071 x33_1).f3))) (fun _ hk => hk.1.1)⟩, ⟨qB BK1070⟩, ⟨by (with_reducible repeat (first | refine blk_drewN ?_ _ | refine blk_drew ?_ | refine blk_alloc ?_ _)); refine blk_put (cs := #[.int .i64 ((rd_T86 t1071 x33_1).f0.f0), .int .i64 ((rd_T86 t1071 x33_1).f0.f1), .int .i64 ((rd_T86 t1071 x33_1).f0.f2), .int .i64 ((rd_T86 t1071 x33_1).f0.f3), .int .i64 ((rd_T86 t1071 x33_1).f0.f4), .int .i64 ((rd_T86 t1071 x33_1).f1.f0), .int .i64 ((rd_T86 t1071 x33_1).f1.f1), .int .i64 ((rd_T86 t1071 x33_1).f1.f2), .int .i64 ((rd_T86 t1071 x33_1).f2), .int .i64 x1075009_1]) ?_ 9 _ rfl; (with_reducible repeat (first | refine blk_drewN ?_ _ | refine blk_drew ?_ | refine blk_alloc ?_ _)); refine blk_put (cs := #[.int .i64 ((rd_T86 t1071 x33_1).f0.f0), .int .i64 ((rd_T86 t1071 x33_1).f0.f1), .int .i64 ((rd_T86 t1071 x33_1).f0.f2), .int .i64 ((rd_T86 t1071 x33_1).f0.f3), .int .i64 ((rd_T86 t1071 x33_1).f0.f4), .int .i64 ((rd_T86 t1071 x33_1).f1.f0), .int .i64 ((rd_T86 t1071 x33_1).f1.f1), .int .i64 ((rd_T86 t1071 x33_1).f1.f2), .int .i64 x1075008_1, .int .i64 x1075009_1]) ?_ 8 _ rfl; (with_reducible repeat (first | refine blk_drewN ?_ _ | refine blk_drew ?_ | refine blk_alloc ?_ _)); refine blk_put (cs := #[.int .i64 ((rd_T86 t1071 x33_1).f0.f0), .int .i64 ((rd_T86 t1071 x33_1).f0.f1), .int .i64 ((rd_T86 t1071 x33_1).f0.f2), .int .i64 ((rd_T86 t1071 x33_1).f0.f3), .int .i64 ((rd_T86 t1071 x33_1).f0.f4), .int .i64 ((rd_T86 t1071 x33_1).f1.f0), .int .i64 ((rd_T86 t1071 x33_1).f1.f1), .int .i64 x1075007_1, .int .i64 x1075008_1, .int .i64 x1075009_1]) ?_ 7 _ rfl; (with_reducible repeat (first | refine blk_drewN ?_ _ | refine blk_drew ?_ | refine blk_alloc ?_ _)); refine blk_put (cs := #[.int .i64 ((rd_T86 t1071 x33_1).f0.f0), .int .i64 ((rd_T86 t1071 x33_1).f0.f1), .int .i64 ((rd_T86 t1071 x33_1).f0.f2), .int .i64 ((rd_T86 t1071 x33_1).f0.f3), .int .i64 ((rd_T86 t1071 x33_1).f0.f4), .int .i64 ((rd_T86 t1071 x33_1).f1.f0), .int .i64 x1075006_1, .int .i64 x1075007_1, .int .i64 x1075008_1, .int .i64 x1075009_1]) ?_ 6 _ rfl; (with_reducible repeat (first | refine blk_drewN ?_ _ | refine blk_drew ?_ | refine blk_alloc ?_ _)); refine blk_put (cs := #[.int .i64 ((rd_T86 t1071 x33_1).f0.f0), .int .i64 ((rd_T86 t1071 x33_1).f0.f1), .int .i64 ((rd_T86 t1071 x33_1).f0.f2), .int .i64 ((rd_T86 t1071 x33_1).f0.f3), .int .i64 ((rd_T86 t1071 x33_1).f0.f4), .int .i64 x1075005_1, .int .i64 x1075006_1, .int .i64 x1075007_1, .int .i64 x1075008_1, .int .i64 x1075009_1]) ?_ 5 _ rfl; (with_reducible repeat (first | refine blk_drewN ?_ _ | refine blk_drew ?_ | refine blk_alloc ?_ _)); refine blk_put (cs := #[.int .i64 ((rd_T86 t1071 x33_1).f0.f0), .int .i64 ((rd_T86 t1071 x33_1).f0.f1), .int .i64 ((rd_T86 t1071 x33_1).f0.f2), .int .i64 ((rd_T86 t1071 x33_1).f0.f3), .int .i64 x1075004_1, .int .i64 x1075005_1, .int .i64 x1075006_1, .int .i64 x1075007_1, .int .i64 x1075008_1, .int .i64 x1075009_1]) ?_ 4 _ rfl; (with_reducible repeat (first | refine blk_drewN ?_ _ | refine blk_drew ?_ | refine blk_alloc ?_ _)); refine blk_put (cs := #[.int .i64 ((rd_T86 t1071 x33_1).f0.f0), .int .i64 ((rd_T86 t1071 x33_1).f0.f1), .int .i64 ((rd_T86 t1071 x33_1).f0.f2), .int .i64 x1075003_1, .int .i64 x1075004_1, .int .i64 x1075005_1, .int .i64 x1075006_1, .int .i64 x1075007_1, .int .i64 x1075008_1, .int .i64 x1075009_1]) ?_ 3 _ rfl; (with_reducible repeat (first | refine blk_drewN ?_ _ | refine blk_drew ?_ | refine blk_alloc ?_ _)); refine blk_put (cs := #[.int .i64 ((rd_T86 t1071 x33_1).f0.f0), .int .i64 ((rd_T86 t1071 x33_1).f0.f1), .int .i64 x1075002_1, .int .i64 x1075003_1, .int .i64 x1075004_1, .int .i64 x1075005_1, .int .i64 x1075006_1, .int .i64 x1075007_1, .int .i64 x1075008_1, .int .i64 x1075009_1]) ?_ 2 _ rfl; (with_reducible repeat (first | refine blk_drewN ?_ _ | refine blk_drew ?_ | refine blk_alloc ?_ _)); refine blk_put (cs := #[.int .i64 ((rd_T86 t1071 x33_1).f0.f0), .int .i64 x1075001_1, .int .i64 x1075002_1, .int .i64 x1075003_1, .int .i64 x1075004_1, .int .i64 x1075005_1, .int .i64 x1075006_1, .int .i64 x1075007_1, .int .i64 x1075008_1, .int .i64 x1075009_1]) ?_ 1 _ rfl; (with_reducible repeat (first | refine blk_drewN ?_ _ | refine blk_drew ?_ | refine blk_alloc ?_ _)); refine blk_put (cs := #[.int .i64 x1075000_1, .int .i64 x1075001_1, .int .i64 x1075002_1, .int .i64 x1075003_1, .int .i64 x1075004_1, .int .i64 x1075005_1, .int .i64 x1075006_1, .int .i64 x1075007_1, .int .i64 x1075008_1, .int .i64 x1075009_1]) ?_ 0 _ rfl; (with_reducible repeat (first | refine blk_drewN ?_ _ | refine blk_drew ?_ | refine blk_alloc ?_ _)); exact BK1074.out⟩, ⟨(qs HB)⟩⟩
           rw [if_neg c59] at H
           have c59b0 : decide (0 < ((rd_T86 t1071 x33_1).f3)) = false := decide_eq_false c59
           clear c59
           by_cases c76 : ((rd_T86 t1071 x33_1).f3) = 0
           ·rw [if_pos c76] at H
            have c76b0 : (((rd_T86 t1071 x33_1).f3) == 0) = true := beq_iff_eq.mpr c76
            have c76b1 : (((rd_T86 t1071 x33_1).f3) != 0) = false := bne_eq_false_iff_eq.mpr c76
            clear c76
            by_cases c77 : (!(((rd_T86 t1071 x33_1).f1.f0) == x1075005_1) || (!(((rd_T86 t1071 x33_1).f1.f1) == x1075006_1) || (!(((rd_T86 t1071 x33_1).f1.f2) == x1075007_1)))) = true
            ·rw [if_pos c77] at H
             have c77b0 : (!(((rd_T86 t1071 x33_1).f1.f0) == x1075005_1) || (!(((rd_T86 t1071 x33_1).f1.f1) == x1075006_1) || (!(((rd_T86 t1071 x33_1).f1.f2) == x1075007_1)))) = true := c77
             clear c77
             exact absurd H (by simp)
            rw [if_neg c77] at H
            have c77b0 : (!(((rd_T86 t1071 x33_1).f1.f0) == x1075005_1) || (!(((rd_T86 t1071 x33_1).f1.f1) == x1075006_1) || (!(((rd_T86 t1071 x33_1).f1.f2) == x1075007_1)))) = false := by simpa using c77
            clear c77
            have H' := Aside0.mk H
            clear H
            have hnb78 := NB1076_1070.out
            have hnc78 := NB1070_1076.out
            have hnb79 := NB1076_1074.out
            have hnc79 := NB1074_1076.out
            have hcz80_0 := b0 BK1076
            have hcz80_1 := b1 BK1076
            have hcz80_2 := b2 BK1076
            have hcz80_3 := b3 BK1076
            have hcz80_4 := b4 BK1076
            have hcz80_5 := b5 BK1076
            have hcz80_6 := b6 BK1076
            have hcz80_7 := b7 BK1076
            have hcz80_8 := b8 BK1076
            have hcz80_9 := b9 BK1076
            have hfz80_0 := blk_frozen BK1076.out 0
            have hfz80_1 := blk_frozen BK1076.out 1
            have hfz80_2 := blk_frozen BK1076.out 2
            have hfz80_3 := blk_frozen BK1076.out 3
            have hfz80_4 := blk_frozen BK1076.out 4
            have hfz80_5 := blk_frozen BK1076.out 5
            have hfz80_6 := blk_frozen BK1076.out 6
            have hfz80_7 := blk_frozen BK1076.out 7
            have hfz80_8 := blk_frozen BK1076.out 8
            have hfz80_9 := blk_frozen BK1076.out 9
            have hnb81 := NB1074_1070.out
            have hnc81 := NB1070_1074.out
            have hcz82_0 := b0 BK1074
            have hcz82_1 := b1 BK1074
            have hcz82_2 := b2 BK1074
            have hcz82_3 := b3 BK1074
            have hcz82_4 := b4 BK1074
            have hcz82_5 := b5 BK1074
            have hcz82_6 := b6 BK1074
            have hcz82_7 := b7 BK1074
            have hcz82_8 := b8 BK1074
            have hcz82_9 := b9 BK1074
            have hfz82_0 := blk_frozen BK1074.out 0
            have hfz82_1 := blk_frozen BK1074.out 1
            have hfz82_2 := blk_frozen BK1074.out 2
            have hfz82_3 := blk_frozen BK1074.out 3
            have hfz82_4 := blk_frozen BK1074.out 4
            have hfz82_5 := blk_frozen BK1074.out 5
            have hfz82_6 := blk_frozen BK1074.out 6
            have hfz82_7 := blk_frozen BK1074.out 7
            have hfz82_8 := blk_frozen BK1074.out 8
            have hfz82_9 := blk_frozen BK1074.out 9
            go_wp2
            go_roundg kj47
            case measure => have := HK1.out; have := HJ16.out; have := HJ47.out; omega
            case rel => exact ⟨(wrap64 (x33_1 + 1)), (((rd_T86 t1071 x33_1).f0.f0)), (((rd_T86 t1071 x33_1).f0.f1)), (((rd_T86 t1071 x33_1).f0.f2)), (((rd_T86 t1071 x33_1).f0.f3)), (((rd_T86 t1071 x33_1).f0.f4)), (((rd_T86 t1071 x33_1).f1.f0)), (((rd_T86 t1071 x33_1).f1.f1)), (((rd_T86 t1071 x33_1).f1.f2)), (((rd_T86 t1071 x33_1).f2)), (((rd_T86 t1071 x33_1).f3)), (by first | rfl | (simp; done) | (simp [*]; done)), H', ⟨by have := HK1.out; have := HJ16.out; have := HJ47.out; omega⟩, ⟨by (with_reducible repeat (first | apply Kd.R_alloc | apply Kd.R_drewN | apply Kd.R_drew)); exact Kd.R_mono (Kd.R_far (p := ⟨gb1074, 9, none⟩) (Kd.R_far (p := ⟨gb1074, 8, none⟩) (Kd.R_far (p := ⟨gb1074, 7, none⟩) (Kd.R_far (p := ⟨gb1074, 6, none⟩) (Kd.R_far (p := ⟨gb1074, 5, none⟩) (Kd.R_far (p := ⟨gb1074, 4, none⟩) (Kd.R_far (p := ⟨gb1074, 3, none⟩) (Kd.R_far (p := ⟨gb1074, 2, none⟩) (Kd.R_far (p := ⟨gb1074, 1, none⟩) (Kd.R_far (p := ⟨gb1074, 0, none⟩) (Kd.R_types HO_4.out BK1074.out (by decide)) (fun _ hk => hk.2) (.int .i64 ((rd_T86 t1071 x33_1).f0.f0))) (fun _ hk => hk.2) (.int .i64 ((rd_T86 t1071 x33_1).f0.f1))) (fun _ hk => hk.2) (.int .i64 ((rd_T86 t1071 x33_1).f0.f2))) (fun _ hk => hk.2) (.int .i64 ((rd_T86 t1071 x33_1).f0.f3))) (fun _ hk => hk.2) (.int .i64 ((rd_T86 t1071 x33_1).f0.f4))) (fun _ hk => hk.2) (.int .i64 ((rd_T86 t1071 x33_1).f1.f0))) (fun _ hk => hk.2) (.int .i64 ((rd_T86 t1071 x33_1).f1.f1))) (fun _ hk => hk.2) (.int .i64 ((rd_T86 t1071 x33_1).f1.f2))) (fun _ hk => hk.2) (.int .i64 ((rd_T86 t1071 x33_1).f2))) (fun _ hk => hk.2) (.int .i64 ((rd_T86 t1071 x33_1).f3))) (fun _ hk => trivial)⟩, ⟨by (with_reducible repeat (first | apply Kd.R_alloc | apply Kd.R_drewN | apply Kd.R_drew)); exact Kd.R_mono (Kd.R_far (p := ⟨gb1074, 9, none⟩) (Kd.R_far (p := ⟨gb1074, 8, none⟩) (Kd.R_far (p := ⟨gb1074, 7, none⟩) (Kd.R_far (p := ⟨gb1074, 6, none⟩) (Kd.R_far (p := ⟨gb1074, 5, none⟩) (Kd.R_far (p := ⟨gb1074, 4, none⟩) (Kd.R_far (p := ⟨gb1074, 3, none⟩) (Kd.R_far (p := ⟨gb1074, 2, none⟩) (Kd.R_far (p := ⟨gb1074, 1, none⟩) (Kd.R_far (p := ⟨gb1074, 0, none⟩) (Kd.R_mono HO_31.out (fun k_ hk => (⟨hk, hk.1⟩ : _ ∧ k_ ≠ gb1074))) (fun _ hk => hk.2) (.int .i64 ((rd_T86 t1071 x33_1).f0.f0))) (fun _ hk => hk.2) (.int .i64 ((rd_T86 t1071 x33_1).f0.f1))) (fun _ hk => hk.2) (.int .i64 ((rd_T86 t1071 x33_1).f0.f2))) (fun _ hk => hk.2) (.int .i64 ((rd_T86 t1071 x33_1).f0.f3))) (fun _ hk => hk.2) (.int .i64 ((rd_T86 t1071 x33_1).f0.f4))) (fun _ hk => hk.2) (.int .i64 ((rd_T86 t1071 x33_1).f1.f0))) (fun _ hk => hk.2) (.int .i64 ((rd_T86 t1071 x33_1).f1.f1))) (fun _ hk => hk.2) (.int .i64 ((rd_T86 t1071 x33_1).f1.f2))) (fun _ hk => hk.2) (.int .i64 ((rd_T86 t1071 x33_1).f2))) (fun _ hk => hk.2) (.int .i64 ((rd_T86 t1071 x33_1).f3))) (fun _ hk => hk.1.1)⟩, ⟨qB BK1070⟩, ⟨by (with_reducible repeat (first | refine blk_drewN ?_ _ | refine blk_drew ?_ | refine blk_alloc ?_ _)); refine blk_put (cs := #[.int .i64 ((rd_T86 t1071 x33_1).f0.f0), .int .i64 ((rd_T86 t1071 x33_1).f0.f1), .int .i64 ((rd_T86 t1071 x33_1).f0.f2), .int .i64 ((rd_T86 t1071 x33_1).f0.f3), .int .i64 ((rd_T86 t1071 x33_1).f0.f4), .int .i64 ((rd_T86 t1071 x33_1).f1.f0), .int .i64 ((rd_T86 t1071 x33_1).f1.f1), .int .i64 ((rd_T86 t1071 x33_1).f1.f2), .int .i64 ((rd_T86 t1071 x33_1).f2), .int .i64 x1075009_1]) ?_ 9 _ rfl; (with_reducible repeat (first | refine blk_drewN ?_ _ | refine blk_drew ?_ | refine blk_alloc ?_ _)); refine blk_put (cs := #[.int .i64 ((rd_T86 t1071 x33_1).f0.f0), .int .i64 ((rd_T86 t1071 x33_1).f0.f1), .int .i64 ((rd_T86 t1071 x33_1).f0.f2), .int .i64 ((rd_T86 t1071 x33_1).f0.f3), .int .i64 ((rd_T86 t1071 x33_1).f0.f4), .int .i64 ((rd_T86 t1071 x33_1).f1.f0), .int .i64 ((rd_T86 t1071 x33_1).f1.f1), .int .i64 ((rd_T86 t1071 x33_1).f1.f2), .int .i64 x1075008_1, .int .i64 x1075009_1]) ?_ 8 _ rfl; (with_reducible repeat (first | refine blk_drewN ?_ _ | refine blk_drew ?_ | refine blk_alloc ?_ _)); refine blk_put (cs := #[.int .i64 ((rd_T86 t1071 x33_1).f0.f0), .int .i64 ((rd_T86 t1071 x33_1).f0.f1), .int .i64 ((rd_T86 t1071 x33_1).f0.f2), .int .i64 ((rd_T86 t1071 x33_1).f0.f3), .int .i64 ((rd_T86 t1071 x33_1).f0.f4), .int .i64 ((rd_T86 t1071 x33_1).f1.f0), .int .i64 ((rd_T86 t1071 x33_1).f1.f1), .int .i64 x1075007_1, .int .i64 x1075008_1, .int .i64 x1075009_1]) ?_ 7 _ rfl; (with_reducible repeat (first | refine blk_drewN ?_ _ | refine blk_drew ?_ | refine blk_alloc ?_ _)); refine blk_put (cs := #[.int .i64 ((rd_T86 t1071 x33_1).f0.f0), .int .i64 ((rd_T86 t1071 x33_1).f0.f1), .int .i64 ((rd_T86 t1071 x33_1).f0.f2), .int .i64 ((rd_T86 t1071 x33_1).f0.f3), .int .i64 ((rd_T86 t1071 x33_1).f0.f4), .int .i64 ((rd_T86 t1071 x33_1).f1.f0), .int .i64 x1075006_1, .int .i64 x1075007_1, .int .i64 x1075008_1, .int .i64 x1075009_1]) ?_ 6 _ rfl; (with_reducible repeat (first | refine blk_drewN ?_ _ | refine blk_drew ?_ | refine blk_alloc ?_ _)); refine blk_put (cs := #[.int .i64 ((rd_T86 t1071 x33_1).f0.f0), .int .i64 ((rd_T86 t1071 x33_1).f0.f1), .int .i64 ((rd_T86 t1071 x33_1).f0.f2), .int .i64 ((rd_T86 t1071 x33_1).f0.f3), .int .i64 ((rd_T86 t1071 x33_1).f0.f4), .int .i64 x1075005_1, .int .i64 x1075006_1, .int .i64 x1075007_1, .int .i64 x1075008_1, .int .i64 x1075009_1]) ?_ 5 _ rfl; (with_reducible repeat (first | refine blk_drewN ?_ _ | refine blk_drew ?_ | refine blk_alloc ?_ _)); refine blk_put (cs := #[.int .i64 ((rd_T86 t1071 x33_1).f0.f0), .int .i64 ((rd_T86 t1071 x33_1).f0.f1), .int .i64 ((rd_T86 t1071 x33_1).f0.f2), .int .i64 ((rd_T86 t1071 x33_1).f0.f3), .int .i64 x1075004_1, .int .i64 x1075005_1, .int .i64 x1075006_1, .int .i64 x1075007_1, .int .i64 x1075008_1, .int .i64 x1075009_1]) ?_ 4 _ rfl; (with_reducible repeat (first | refine blk_drewN ?_ _ | refine blk_drew ?_ | refine blk_alloc ?_ _)); refine blk_put (cs := #[.int .i64 ((rd_T86 t1071 x33_1).f0.f0), .int .i64 ((rd_T86 t1071 x33_1).f0.f1), .int .i64 ((rd_T86 t1071 x33_1).f0.f2), .int .i64 x1075003_1, .int .i64 x1075004_1, .int .i64 x1075005_1, .int .i64 x1075006_1, .int .i64 x1075007_1, .int .i64 x1075008_1, .int .i64 x1075009_1]) ?_ 3 _ rfl; (with_reducible repeat (first | refine blk_drewN ?_ _ | refine blk_drew ?_ | refine blk_alloc ?_ _)); refine blk_put (cs := #[.int .i64 ((rd_T86 t1071 x33_1).f0.f0), .int .i64 ((rd_T86 t1071 x33_1).f0.f1), .int .i64 x1075002_1, .int .i64 x1075003_1, .int .i64 x1075004_1, .int .i64 x1075005_1, .int .i64 x1075006_1, .int .i64 x1075007_1, .int .i64 x1075008_1, .int .i64 x1075009_1]) ?_ 2 _ rfl; (with_reducible repeat (first | refine blk_drewN ?_ _ | refine blk_drew ?_ | refine blk_alloc ?_ _)); refine blk_put (cs := #[.int .i64 ((rd_T86 t1071 x33_1).f0.f0), .int .i64 x1075001_1, .int .i64 x1075002_1, .int .i64 x1075003_1, .int .i64 x1075004_1, .int .i64 x1075005_1, .int .i64 x1075006_1, .int .i64 x1075007_1, .int .i64 x1075008_1, .int .i64 x1075009_1]) ?_ 1 _ rfl; (with_reducible repeat (first | refine blk_drewN ?_ _ | refine blk_drew ?_ | refine blk_alloc ?_ _)); refine blk_put (cs := #[.int .i64 x1075000_1, .int .i64 x1075001_1, .int .i64 x1075002_1, .int .i64 x1075003_1, .int .i64 x1075004_1, .int .i64 x1075005_1, .int .i64 x1075006_1, .int .i64 x1075007_1, .int .i64 x1075008_1, .int .i64 x1075009_1]) ?_ 0 _ rfl; (with_reducible repeat (first | refine blk_drewN ?_ _ | refine blk_drew ?_ | refine blk_alloc ?_ _)); exact BK1074.out⟩, ⟨(qs HB)⟩⟩
           rw [if_neg c76] at H
           have c76b0 : (((rd_T86 t1071 x33_1).f3) == 0) = false := beq_eq_false_iff_ne.mpr c76
           have c76b1 : (((rd_T86 t1071 x33_1).f3) != 0) = true := bne_iff_ne.mpr c76
           have H' := Aside0.mk H
           clear H
           have hnb83 := NB1076_1070.out
           have hnc83 := NB1070_1076.out
           have hnb84 := NB1076_1074.out
           have hnc84 := NB1074_1076.out
           have hcz85_0 := b0 BK1076
           have hcz85_1 := b1 BK1076
           have hcz85_2 := b2 BK1076
           have hcz85_3 := b3 BK1076
           have hcz85_4 := b4 BK1076
           have hcz85_5 := b5 BK1076
           have hcz85_6 := b6 BK1076
           have hcz85_7 := b7 BK1076
           have hcz85_8 := b8 BK1076
           have hcz85_9 := b9 BK1076
           have hfz85_0 := blk_frozen BK1076.out 0
           have hfz85_1 := blk_frozen BK1076.out 1
           have hfz85_2 := blk_frozen BK1076.out 2
           have hfz85_3 := blk_frozen BK1076.out 3
           have hfz85_4 := blk_frozen BK1076.out 4
           have hfz85_5 := blk_frozen BK1076.out 5
           have hfz85_6 := blk_frozen BK1076.out 6
           have hfz85_7 := blk_frozen BK1076.out 7
           have hfz85_8 := blk_frozen BK1076.out 8
           have hfz85_9 := blk_frozen BK1076.out 9
           have hnb86 := NB1074_1070.out
           have hnc86 := NB1070_1074.out
           have hcz87_0 := b0 BK1074
           have hcz87_1 := b1 BK1074
           have hcz87_2 := b2 BK1074
           have hcz87_3 := b3 BK1074
           have hcz87_4 := b4 BK1074
           have hcz87_5 := b5 BK1074
           have hcz87_6 := b6 BK1074
           have hcz87_7 := b7 BK1074
           have hcz87_8 := b8 BK1074
           have hcz87_9 := b9 BK1074
           have hfz87_0 := blk_frozen BK1074.out 0
           have hfz87_1 := blk_frozen BK1074.out 1
           have hfz87_2 := blk_frozen BK1074.out 2
           have hfz87_3 := blk_frozen BK1074.out 3
           have hfz87_4 := blk_frozen BK1074.out 4
           have hfz87_5 := blk_frozen BK1074.out 5
           have hfz87_6 := blk_frozen BK1074.out 6
           have hfz87_7 := blk_frozen BK1074.out 7
           have hfz87_8 := blk_frozen BK1074.out 8
           have hfz87_9 := blk_frozen BK1074.out 9
           go_wp2
           go_roundg kj47
           case measure => have := HK1.out; have := HJ16.out; have := HJ47.out; omega
           case rel => exact ⟨(wrap64 (x33_1 + 1)), (((rd_T86 t1071 x33_1).f0.f0)), (((rd_T86 t1071 x33_1).f0.f1)), (((rd_T86 t1071 x33_1).f0.f2)), (((rd_T86 t1071 x33_1).f0.f3)), (((rd_T86 t1071 x33_1).f0.f4)), (((rd_T86 t1071 x33_1).f1.f0)), (((rd_T86 t1071 x33_1).f1.f1)), (((rd_T86 t1071 x33_1).f1.f2)), (((rd_T86 t1071 x33_1).f2)), (((rd_T86 t1071 x33_1).f3)), (by first | rfl | (simp; done) | (simp [*]; done)), H', ⟨by have := HK1.out; have := HJ16.out; have := HJ47.out; omega⟩, ⟨by (with_reducible repeat (first | apply Kd.R_alloc | apply Kd.R_drewN | apply Kd.R_drew)); exact Kd.R_mono (Kd.R_far (p := ⟨gb1074, 9, none⟩) (Kd.R_far (p := ⟨gb1074, 8, none⟩) (Kd.R_far (p := ⟨gb1074, 7, none⟩) (Kd.R_far (p := ⟨gb1074, 6, none⟩) (Kd.R_far (p := ⟨gb1074, 5, none⟩) (Kd.R_far (p := ⟨gb1074, 4, none⟩) (Kd.R_far (p := ⟨gb1074, 3, none⟩) (Kd.R_far (p := ⟨gb1074, 2, none⟩) (Kd.R_far (p := ⟨gb1074, 1, none⟩) (Kd.R_far (p := ⟨gb1074, 0, none⟩) (Kd.R_types HO_4.out BK1074.out (by decide)) (fun _ hk => hk.2) (.int .i64 ((rd_T86 t1071 x33_1).f0.f0))) (fun _ hk => hk.2) (.int .i64 ((rd_T86 t1071 x33_1).f0.f1))) (fun _ hk => hk.2) (.int .i64 ((rd_T86 t1071 x33_1).f0.f2))) (fun _ hk => hk.2) (.int .i64 ((rd_T86 t1071 x33_1).f0.f3))) (fun _ hk => hk.2) (.int .i64 ((rd_T86 t1071 x33_1).f0.f4))) (fun _ hk => hk.2) (.int .i64 ((rd_T86 t1071 x33_1).f1.f0))) (fun _ hk => hk.2) (.int .i64 ((rd_T86 t1071 x33_1).f1.f1))) (fun _ hk => hk.2) (.int .i64 ((rd_T86 t1071 x33_1).f1.f2))) (fun _ hk => hk.2) (.int .i64 ((rd_T86 t1071 x33_1).f2))) (fun _ hk => hk.2) (.int .i64 ((rd_T86 t1071 x33_1).f3))) (fun _ hk => trivial)⟩, ⟨by (with_reducible repeat (first | apply Kd.R_alloc | apply Kd.R_drewN | apply Kd.R_drew)); exact Kd.R_mono (Kd.R_far (p := ⟨gb1074, 9, none⟩) (Kd.R_far (p := ⟨gb1074, 8, none⟩) (Kd.R_far (p := ⟨gb1074, 7, none⟩) (Kd.R_far (p := ⟨gb1074, 6, none⟩) (Kd.R_far (p := ⟨gb1074, 5, none⟩) (Kd.R_far (p := ⟨gb1074, 4, none⟩) (Kd.R_far (p := ⟨gb1074, 3, none⟩) (Kd.R_far (p := ⟨gb1074, 2, none⟩) (Kd.R_far (p := ⟨gb1074, 1, none⟩) (Kd.R_far (p := ⟨gb1074, 0, none⟩) (Kd.R_mono HO_31.out (fun k_ hk => (⟨hk, hk.1⟩ : _ ∧ k_ ≠ gb1074))) (fun _ hk => hk.2) (.int .i64 ((rd_T86 t1071 x33_1).f0.f0))) (fun _ hk => hk.2) (.int .i64 ((rd_T86 t1071 x33_1).f0.f1))) (fun _ hk => hk.2) (.int .i64 ((rd_T86 t1071 x33_1).f0.f2))) (fun _ hk => hk.2) (.int .i64 ((rd_T86 t1071 x33_1).f0.f3))) (fun _ hk => hk.2) (.int .i64 ((rd_T86 t1071 x33_1).f0.f4))) (fun _ hk => hk.2) (.int .i64 ((rd_T86 t1071 x33_1).f1.f0))) (fun _ hk => hk.2) (.int .i64 ((rd_T86 t1071 x33_1).f1.f1))) (fun _ hk => hk.2) (.int .i64 ((rd_T86 t1071 x33_1).f1.f2))) (fun _ hk => hk.2) (.int .i64 ((rd_T86 t1071 x33_1).f2))) (fun _ hk => hk.2) (.int .i64 ((rd_T86 t1071 x33_1).f3))) (fun _ hk => hk.1.1)⟩, ⟨qB BK1070⟩, ⟨by (with_reducible repeat (first | refine blk_drewN ?_ _ | refine blk_drew ?_ | refine blk_alloc ?_ _)); refine blk_put (cs := #[.int .i64 ((rd_T86 t1071 x33_1).f0.f0), .int .i64 ((rd_T86 t1071 x33_1).f0.f1), .int .i64 ((rd_T86 t1071 x33_1).f0.f2), .int .i64 ((rd_T86 t1071 x33_1).f0.f3), .int .i64 ((rd_T86 t1071 x33_1).f0.f4), .int .i64 ((rd_T86 t1071 x33_1).f1.f0), .int .i64 ((rd_T86 t1071 x33_1).f1.f1), .int .i64 ((rd_T86 t1071 x33_1).f1.f2), .int .i64 ((rd_T86 t1071 x33_1).f2), .int .i64 x1075009_1]) ?_ 9 _ rfl; (with_reducible repeat (first | refine blk_drewN ?_ _ | refine blk_drew ?_ | refine blk_alloc ?_ _)); refine blk_put (cs := #[.int .i64 ((rd_T86 t1071 x33_1).f0.f0), .int .i64 ((rd_T86 t1071 x33_1).f0.f1), .int .i64 ((rd_T86 t1071 x33_1).f0.f2), .int .i64 ((rd_T86 t1071 x33_1).f0.f3), .int .i64 ((rd_T86 t1071 x33_1).f0.f4), .int .i64 ((rd_T86 t1071 x33_1).f1.f0), .int .i64 ((rd_T86 t1071 x33_1).f1.f1), .int .i64 ((rd_T86 t1071 x33_1).f1.f2), .int .i64 x1075008_1, .int .i64 x1075009_1]) ?_ 8 _ rfl; (with_reducible repeat (first | refine blk_drewN ?_ _ | refine blk_drew ?_ | refine blk_alloc ?_ _)); refine blk_put (cs := #[.int .i64 ((rd_T86 t1071 x33_1).f0.f0), .int .i64 ((rd_T86 t1071 x33_1).f0.f1), .int .i64 ((rd_T86 t1071 x33_1).f0.f2), .int .i64 ((rd_T86 t1071 x33_1).f0.f3), .int .i64 ((rd_T86 t1071 x33_1).f0.f4), .int .i64 ((rd_T86 t1071 x33_1).f1.f0), .int .i64 ((rd_T86 t1071 x33_1).f1.f1), .int .i64 x1075007_1, .int .i64 x1075008_1, .int .i64 x1075009_1]) ?_ 7 _ rfl; (with_reducible repeat (first | refine blk_drewN ?_ _ | refine blk_drew ?_ | refine blk_alloc ?_ _)); refine blk_put (cs := #[.int .i64 ((rd_T86 t1071 x33_1).f0.f0), .int .i64 ((rd_T86 t1071 x33_1).f0.f1), .int .i64 ((rd_T86 t1071 x33_1).f0.f2), .int .i64 ((rd_T86 t1071 x33_1).f0.f3), .int .i64 ((rd_T86 t1071 x33_1).f0.f4), .int .i64 ((rd_T86 t1071 x33_1).f1.f0), .int .i64 x1075006_1, .int .i64 x1075007_1, .int .i64 x1075008_1, .int .i64 x1075009_1]) ?_ 6 _ rfl; (with_reducible repeat (first | refine blk_drewN ?_ _ | refine blk_drew ?_ | refine blk_alloc ?_ _)); refine blk_put (cs := #[.int .i64 ((rd_T86 t1071 x33_1).f0.f0), .int .i64 ((rd_T86 t1071 x33_1).f0.f1), .int .i64 ((rd_T86 t1071 x33_1).f0.f2), .int .i64 ((rd_T86 t1071 x33_1).f0.f3), .int .i64 ((rd_T86 t1071 x33_1).f0.f4), .int .i64 x1075005_1, .int .i64 x1075006_1, .int .i64 x1075007_1, .int .i64 x1075008_1, .int .i64 x1075009_1]) ?_ 5 _ rfl; (with_reducible repeat (first | refine blk_drewN ?_ _ | refine blk_drew ?_ | refine blk_alloc ?_ _)); refine blk_put (cs := #[.int .i64 ((rd_T86 t1071 x33_1).f0.f0), .int .i64 ((rd_T86 t1071 x33_1).f0.f1), .int .i64 ((rd_T86 t1071 x33_1).f0.f2), .int .i64 ((rd_T86 t1071 x33_1).f0.f3), .int .i64 x1075004_1, .int .i64 x1075005_1, .int .i64 x1075006_1, .int .i64 x1075007_1, .int .i64 x1075008_1, .int .i64 x1075009_1]) ?_ 4 _ rfl; (with_reducible repeat (first | refine blk_drewN ?_ _ | refine blk_drew ?_ | refine blk_alloc ?_ _)); refine blk_put (cs := #[.int .i64 ((rd_T86 t1071 x33_1).f0.f0), .int .i64 ((rd_T86 t1071 x33_1).f0.f1), .int .i64 ((rd_T86 t1071 x33_1).f0.f2), .int .i64 x1075003_1, .int .i64 x1075004_1, .int .i64 x1075005_1, .int .i64 x1075006_1, .int .i64 x1075007_1, .int .i64 x1075008_1, .int .i64 x1075009_1]) ?_ 3 _ rfl; (with_reducible repeat (first | refine blk_drewN ?_ _ | refine blk_drew ?_ | refine blk_alloc ?_ _)); refine blk_put (cs := #[.int .i64 ((rd_T86 t1071 x33_1).f0.f0), .int .i64 ((rd_T86 t1071 x33_1).f0.f1), .int .i64 x1075002_1, .int .i64 x1075003_1, .int .i64 x1075004_1, .int .i64 x1075005_1, .int .i64 x1075006_1, .int .i64 x1075007_1, .int .i64 x1075008_1, .int .i64 x1075009_1]) ?_ 2 _ rfl; (with_reducible repeat (first | refine blk_drewN ?_ _ | refine blk_drew ?_ | refine blk_alloc ?_ _)); refine blk_put (cs := #[.int .i64 ((rd_T86 t1071 x33_1).f0.f0), .int .i64 x1075001_1, .int .i64 x1075002_1, .int .i64 x1075003_1, .int .i64 x1075004_1, .int .i64 x1075005_1, .int .i64 x1075006_1, .int .i64 x1075007_1, .int .i64 x1075008_1, .int .i64 x1075009_1]) ?_ 1 _ rfl; (with_reducible repeat (first | refine blk_drewN ?_ _ | refine blk_drew ?_ | refine blk_alloc ?_ _)); refine blk_put (cs := #[.int .i64 x1075000_1, .int .i64 x1075001_1, .int .i64 x1075002_1, .int .i64 x1075003_1, .int .i64 x1075004_1, .int .i64 x1075005_1, .int .i64 x1075006_1, .int .i64 x1075007_1, .int .i64 x1075008_1, .int .i64 x1075009_1]) ?_ 0 _ rfl; (with_reducible repeat (first | refine blk_drewN ?_ _ | refine blk_drew ?_ | refine blk_alloc ?_ _)); exact BK1074.out⟩, ⟨(qs HB)⟩⟩
      rw [if_neg c16] at H
      exact absurd H (by simp)
     rw [if_neg c15] at H
     exact absurd H (by simp)
    rw [if_neg c14] at H
    have c14b0 : decide (x33_1 < (t1071.length : Int)) = false := decide_eq_false c14
    clear c14
    go_wp2
    go_ret
    exact ⟨by first | rfl | (simp [errW_none, errW_some] <;> rfl) | (simp [*, errW_none, errW_some] <;> rfl), (qs HB)⟩
 rw [if_neg c5] at H
 have c5b0 : ((t1071.length : Int) == t1069) = false := beq_eq_false_iff_ne.mpr c5
 have c5b1 : ((t1071.length : Int) != t1069) = true := bne_iff_ne.mpr c5
 exact absurd H (by simp)
end Go.Proofs.Ytndffnacbfdnoaa.PAll
